/- Laws: Checks, Looks, Texts. -/
import Derived.Test.YtmibnfjjlibpgaaDoorTA
set_option linter.unusedVariables false
set_option linter.unusedSimpArgs false
namespace Go.Proofs.YtmibnfjjlibpgaaDoor.Hc
open Go Go.H Go.Proofs
set_option maxRecDepth 100000
set_option maxHeartbeats 8000000

theorem Chk.same {d : DT} {n m : Int} (h : Chk d n) (k : Chk d m) : n = m := by
  rcases h with h | h | h <;> rcases k with k | k | k
  · rw [h.2.2, k.2.2]
  · omega
  · exact absurd h.1 k.1
  · omega
  · rw [h.2.2, k.2.2]
  · exact absurd h.1 k.1
  · exact absurd k.1 h.1
  · exact absurd k.1 h.1
  · rw [h.2, k.2]
theorem TxtR.same {d : DT} {n m : Int} {s t : ByteArray} (h : TxtR d n s) (k : TxtR d m t) : n = m ∧ s = t := by
  have e := h.1.same k.1
  subst e
  exact ⟨rfl, h.2.trans k.2.symm⟩

theorem dataChecks_spec {t : DT} {h : Heap} {cs : List Value} (ra : Rep h t cs) (hv : vol t ≤ 1048576) (gl : Glob h) :
    HCalls Tryd.prog 3 #[.agg cs.toArray] h fun e h' => e = .returned (.bool true) ∧ Ext h h' := by
  have hcl := ra.len
  have hd := deep_vol t
  refine c3 (by simp) ?_
  ((conv=>whnf);repeat((first|(with_reducible first|refine Z1 ?_|refine Z2 ?_|refine Z3 ?_|refine Z4 ?_|refine Z5 ?_|refine Z9 (by assumption) rfl ?_|refine ZA (by assumption) rfl ?_|refine ZB (by assumption) rfl ?_|refine Z6 ?_|refine Z7 ?_|refine Z8 ?_)|((with_reducible refine ZM ?_ ?_);(focus rfl)));(conv=>whnf)))
  refine new_var (e := 25) cs rfl ?_
  intro h1 b1 o1 x1 z1 hb1
  ((conv=>whnf);repeat((first|(with_reducible first|refine Z1 ?_|refine Z2 ?_|refine Z3 ?_|refine Z4 ?_|refine Z5 ?_|refine Z9 (by assumption) rfl ?_|refine ZA (by assumption) rfl ?_|refine ZB (by assumption) rfl ?_|refine Z6 ?_|refine Z7 ?_|refine Z8 ?_)|((with_reducible refine ZM ?_ ?_);(focus rfl)));(conv=>whnf)))
  refine HCall.mk ((live_spec h1 (gl.ext x1)).mono ?_)
  rintro e h2 ⟨rfl, x2⟩
  have o2 := o1.ext x2
  have x12 := x1.trans x2
  clear o1
  ((conv=>whnf);repeat((first|(with_reducible first|refine Z1 ?_|refine Z2 ?_|refine Z3 ?_|refine Z4 ?_|refine Z5 ?_|refine Z9 (by assumption) rfl ?_|refine ZA (by assumption) rfl ?_|refine ZB (by assumption) rfl ?_|refine Z6 ?_|refine Z7 ?_|refine Z8 ?_|refine ZB (by assumption) (by assumption) ?_)|((with_reducible refine ZM ?_ ?_);(focus rfl)));(conv=>whnf)))
  refine HAlt.mk ?_ ?_
  all_goals
    ((conv=>whnf);repeat((first|(with_reducible first|refine Z1 ?_|refine Z2 ?_|refine Z3 ?_|refine Z4 ?_|refine Z5 ?_|refine Z9 (by assumption) rfl ?_|refine ZA (by assumption) rfl ?_|refine ZB (by assumption) rfl ?_|refine Z6 ?_|refine Z7 ?_|refine Z8 ?_|refine ZB (by assumption) (by assumption) ?_)|((with_reducible refine ZM ?_ ?_);(focus rfl)));(conv=>whnf)))
    refine HCall.mk ((check17_spec t h2 cs (Rep.ext x12 _ _ ra) (by omega)).mono ?_)
    rintro e h3 ⟨n, rfl, hc, x3⟩
    have o3 := o2.ext x3
    clear o2
    ((conv=>whnf);repeat((first|(with_reducible first|refine Z1 ?_|refine Z2 ?_|refine Z3 ?_|refine Z4 ?_|refine Z5 ?_|refine Z9 (by assumption) rfl ?_|refine ZA (by assumption) rfl ?_|refine ZB (by assumption) rfl ?_|refine Z6 ?_|refine Z7 ?_|refine Z8 ?_|refine ZB (by assumption) (by assumption) ?_)|((with_reducible refine ZM ?_ ?_);(focus rfl)));(conv=>whnf)))
    refine HCall.mk ((rcheckD_spec t h3 cs (Rep.ext (x12.trans x3) _ _ ra) (by omega)).mono ?_)
    rintro e h4 ⟨m, rfl, hc2, x4⟩
    obtain rfl := hc.same hc2
    ((conv=>whnf);repeat((first|(with_reducible first|refine Z1 ?_|refine Z2 ?_|refine Z3 ?_|refine Z4 ?_|refine Z5 ?_|refine Z9 (by assumption) rfl ?_|refine ZA (by assumption) rfl ?_|refine ZB (by assumption) rfl ?_|refine Z6 ?_|refine Z7 ?_|refine Z8 ?_)|((with_reducible refine ZM ?_ ?_);(focus rfl)));(conv=>whnf)))
    refine ⟨?_, x12.trans (x3.trans x4)⟩
    show Ending.returned (.bool ((n : Int) == n)) = _
    rw [beq_self_eq_true]

theorem dataTexts_spec {t : DT} {h : Heap} {cs : List Value} (ra : Rep h t cs) (hv : vol t ≤ 1048576) (gl : Glob h) :
    HCalls Tryd.prog 5 #[.agg cs.toArray] h fun e h' => e = .returned (.bool true) ∧ Ext h h' := by
  have hcl := ra.len
  have hd := deep_vol t
  refine c5 (by simp) ?_
  ((conv=>whnf);repeat((first|(with_reducible first|refine Z1 ?_|refine Z2 ?_|refine Z3 ?_|refine Z4 ?_|refine Z5 ?_|refine Z9 (by assumption) rfl ?_|refine ZA (by assumption) rfl ?_|refine ZB (by assumption) rfl ?_|refine Z6 ?_|refine Z7 ?_|refine Z8 ?_)|((with_reducible refine ZM ?_ ?_);(focus rfl)));(conv=>whnf)))
  refine new_var (e := 25) cs rfl ?_
  intro h1 b1 o1 x1 z1 hb1
  ((conv=>whnf);repeat((first|(with_reducible first|refine Z1 ?_|refine Z2 ?_|refine Z3 ?_|refine Z4 ?_|refine Z5 ?_|refine Z9 (by assumption) rfl ?_|refine ZA (by assumption) rfl ?_|refine ZB (by assumption) rfl ?_|refine Z6 ?_|refine Z7 ?_|refine Z8 ?_|refine ZB (by assumption) (by assumption) ?_)|((with_reducible refine ZM ?_ ?_);(focus rfl)));(conv=>whnf)))
  refine HCall.mk ((text_spec t h1 cs (Rep.ext x1 _ _ ra) (by omega) (by omega) (gl.ext x1)).mono ?_)
  rintro e h2 ⟨n, s, rfl, t2, x2⟩
  have x12 := x1.trans x2
  have o2 := o1.ext x2
  clear o1
  ((conv=>whnf);repeat((first|(with_reducible first|refine Z1 ?_|refine Z2 ?_|refine Z3 ?_|refine Z4 ?_|refine Z5 ?_|refine Z9 (by assumption) rfl ?_|refine ZA (by assumption) rfl ?_|refine ZB (by assumption) rfl ?_|refine Z6 ?_|refine Z7 ?_|refine Z8 ?_|refine ZB (by assumption) (by assumption) ?_)|((with_reducible refine ZM ?_ ?_);(focus rfl)));(conv=>whnf)))
  refine HCall.mk ((rtextT_spec t h2 cs (Rep.ext x12 _ _ ra) (by omega) (by omega)).mono ?_)
  rintro e h3 ⟨m, s', rfl, t3, x3⟩
  have x13 := x12.trans x3
  obtain ⟨rfl, rfl⟩ := t2.same t3
  have qs : strEq s s = true := (strEq_iff _ _).2 rfl
  ((conv=>whnf);repeat((first|(with_reducible first|refine Z1 ?_|refine Z2 ?_|refine Z3 ?_|refine Z4 ?_|refine Z5 ?_|refine Z9 (by assumption) rfl ?_|refine ZA (by assumption) rfl ?_|refine ZB (by assumption) rfl ?_|refine Z6 ?_|refine Z7 ?_|refine Z8 ?_|refine ZB (by assumption) (by assumption) ?_)|((with_reducible refine ZM ?_ ?_);(focus rfl)));(conv=>whnf)))
  refine HCall.mk ((live_spec h3 (gl.ext x13)).mono ?_)
  rintro e h4 ⟨rfl, x4⟩
  ((conv=>whnf);repeat((first|(with_reducible first|refine Z1 ?_|refine Z2 ?_|refine Z3 ?_|refine Z4 ?_|refine Z5 ?_|refine Z9 (by assumption) rfl ?_|refine ZA (by assumption) rfl ?_|refine ZB (by assumption) rfl ?_|refine Z6 ?_|refine Z7 ?_|refine Z8 ?_)|((with_reducible refine ZM ?_ ?_);(focus rfl)));(conv=>whnf)))
  refine ⟨?_, x13.trans x4⟩
  show Ending.returned (.bool ((n : Int) == n)) = _
  rw [beq_self_eq_true]

theorem dataLooks_spec {t t' : DT} {h : Heap} {cs ds : List Value} (ra : Rep h t cs) (hv : vol t ≤ 1048576) (rb : Rep h t' ds) (hv' : vol t' ≤ 1048576) (key : ByteArray) (hk : key.size ≤ 1048576) (gl : Glob h) :
    HCalls Tryd.prog 4 #[.agg cs.toArray, .agg ds.toArray, .string key] h fun e h' => e = .returned (.bool true) ∧ Ext h h' := by
  have hcl := ra.len
  have hdl := rb.len
  refine c4 (by simp) ?_
  ((conv=>whnf);repeat((first|(with_reducible first|refine Z1 ?_|refine Z2 ?_|refine Z3 ?_|refine Z4 ?_|refine Z5 ?_|refine Z9 (by assumption) rfl ?_|refine ZA (by assumption) rfl ?_|refine ZB (by assumption) rfl ?_|refine Z6 ?_|refine Z7 ?_|refine Z8 ?_)|((with_reducible refine ZM ?_ ?_);(focus rfl)));(conv=>whnf)))
  refine new_var (e := 25) cs rfl ?_
  intro h1 b1 o1 x1 z1 hb1
  ((conv=>whnf);repeat((first|(with_reducible first|refine Z1 ?_|refine Z2 ?_|refine Z3 ?_|refine Z4 ?_|refine Z5 ?_|refine Z9 (by assumption) rfl ?_|refine ZA (by assumption) rfl ?_|refine ZB (by assumption) rfl ?_|refine Z6 ?_|refine Z7 ?_|refine Z8 ?_)|((with_reducible refine ZM ?_ ?_);(focus rfl)));(conv=>whnf)))
  refine new_var (e := 25) ds rfl ?_
  intro h2 b2 o2 x2 z2 hb2
  have x12 := x1.trans x2
  have p2 := o1.ext x2
  clear o1
  ((conv=>whnf);repeat((first|(with_reducible first|refine Z1 ?_|refine Z2 ?_|refine Z3 ?_|refine Z4 ?_|refine Z5 ?_|refine Z9 (by assumption) rfl ?_|refine ZA (by assumption) rfl ?_|refine ZB (by assumption) rfl ?_|refine Z6 ?_|refine Z7 ?_|refine Z8 ?_)|((with_reducible refine ZM ?_ ?_);(focus rfl)));(conv=>whnf)))
  refine blk_ldN p2 hcl ?_
  ((conv=>whnf);repeat((first|(with_reducible first|refine Z1 ?_|refine Z2 ?_|refine Z3 ?_|refine Z4 ?_|refine Z5 ?_|refine Z9 (by assumption) rfl ?_|refine ZA (by assumption) rfl ?_|refine ZB (by assumption) rfl ?_|refine Z6 ?_|refine Z7 ?_|refine Z8 ?_)|((with_reducible refine ZM ?_ ?_);(focus rfl)));(conv=>whnf)))
  refine HCall.mk ((get_spec t key h2 cs (Rep.ext x12 _ _ ra) (by omega)).mono ?_)
  rintro e h3 ⟨es, rfl, r3, x3⟩
  have hel := r3.len
  have p3 := p2.ext x3
  have q3 := o2.ext x3
  clear p2 o2
  ((conv=>whnf);repeat((first|(with_reducible first|refine Z1 ?_|refine Z2 ?_|refine Z3 ?_|refine Z4 ?_|refine Z5 ?_|refine Z9 (by assumption) rfl ?_|refine ZA (by assumption) rfl ?_|refine ZB (by assumption) rfl ?_|refine Z6 ?_|refine Z7 ?_|refine Z8 ?_)|((with_reducible refine ZM ?_ ?_);(focus rfl)));(conv=>whnf)))
  refine new_var (e := 25) zeroD rfl ?_
  intro h4 b4 o4 x4 z4 hb4
  ((conv=>whnf);repeat((first|(with_reducible first|refine Z1 ?_|refine Z2 ?_|refine Z3 ?_|refine Z4 ?_|refine Z5 ?_|refine Z9 (by assumption) rfl ?_|refine ZA (by assumption) rfl ?_|refine ZB (by assumption) rfl ?_|refine Z6 ?_|refine Z7 ?_|refine Z8 ?_)|((with_reducible refine ZM ?_ ?_);(focus rfl)));(conv=>whnf)))
  refine HMust.mk (by simpa using hel) ?_
  refine store_new o4 (by simpa using hel) (by simpa using r3.one) ?_
  intro h5 f5 z5 o5
  have x35 : Ext h3 h5 := x4.offNew f5 (by omega)
  have p5 := p3.ext x35
  have q5 := q3.ext x35
  clear p3 q3 o4
  have x05 := x12.trans (x3.trans x35)
  ((conv=>whnf);repeat((first|(with_reducible first|refine Z1 ?_|refine Z2 ?_|refine Z3 ?_|refine Z4 ?_|refine Z5 ?_|refine Z9 (by assumption) rfl ?_|refine ZA (by assumption) rfl ?_|refine ZB (by assumption) rfl ?_|refine Z6 ?_|refine Z7 ?_|refine Z8 ?_)|((with_reducible refine ZM ?_ ?_);(focus rfl)));(conv=>whnf)))
  refine blk_ldN p5 hcl ?_
  ((conv=>whnf);repeat((first|(with_reducible first|refine Z1 ?_|refine Z2 ?_|refine Z3 ?_|refine Z4 ?_|refine Z5 ?_|refine Z9 (by assumption) rfl ?_|refine ZA (by assumption) rfl ?_|refine ZB (by assumption) rfl ?_|refine Z6 ?_|refine Z7 ?_|refine Z8 ?_)|((with_reducible refine ZM ?_ ?_);(focus rfl)));(conv=>whnf)))
  refine HCall.mk ((rget_spec t key h5 cs (Rep.ext x05 _ _ ra) (by omega)).mono ?_)
  rintro e h6 ⟨fs, rfl, r6, x6⟩
  have hfl := r6.len
  have p6 := p5.ext x6
  have q6 := q5.ext x6
  have o6 := o5.ext x6
  clear p5 q5 o5
  ((conv=>whnf);repeat((first|(with_reducible first|refine Z1 ?_|refine Z2 ?_|refine Z3 ?_|refine Z4 ?_|refine Z5 ?_|refine Z9 (by assumption) rfl ?_|refine ZA (by assumption) rfl ?_|refine ZB (by assumption) rfl ?_|refine Z6 ?_|refine Z7 ?_|refine Z8 ?_)|((with_reducible refine ZM ?_ ?_);(focus rfl)));(conv=>whnf)))
  refine new_var (e := 25) zeroD rfl ?_
  intro h7 b7 o7 x7 z7 hb7
  ((conv=>whnf);repeat((first|(with_reducible first|refine Z1 ?_|refine Z2 ?_|refine Z3 ?_|refine Z4 ?_|refine Z5 ?_|refine Z9 (by assumption) rfl ?_|refine ZA (by assumption) rfl ?_|refine ZB (by assumption) rfl ?_|refine Z6 ?_|refine Z7 ?_|refine Z8 ?_)|((with_reducible refine ZM ?_ ?_);(focus rfl)));(conv=>whnf)))
  refine HMust.mk (by simpa using hfl) ?_
  refine store_new o7 (by simpa using hfl) (by simpa using r6.one) ?_
  intro h8 f8 z8 o8
  have x68 : Ext h6 h8 := x7.offNew f8 (by omega)
  have p8 := p6.ext x68
  have q8 := q6.ext x68
  have o68 := o6.ext x68
  clear p6 q6 o6 o7
  have x08 := x05.trans (x6.trans x68)
  ((conv=>whnf);repeat((first|(with_reducible first|refine Z1 ?_|refine Z2 ?_|refine Z3 ?_|refine Z4 ?_|refine Z5 ?_|refine Z9 (by assumption) rfl ?_|refine ZA (by assumption) rfl ?_|refine ZB (by assumption) rfl ?_|refine Z6 ?_|refine Z7 ?_|refine Z8 ?_)|((with_reducible refine ZM ?_ ?_);(focus rfl)));(conv=>whnf)))
  refine HCall.mk ((live_spec h8 (gl.ext x08)).mono ?_)
  rintro e h9 ⟨rfl, x9⟩
  have p9 := p8.ext x9
  have q9 := q8.ext x9
  have o9 := o68.ext x9
  have u9 := o8.ext x9
  clear p8 q8 o68 o8
  have x09 := x08.trans x9
  have r39 := Rep.ext (x35.trans (x6.trans (x68.trans x9))) _ _ r3
  have r69 := Rep.ext (x68.trans x9) _ _ r6
  have el5 : es.toArray.toList.length = 5 := by simpa using hel
  have fl5 : fs.toArray.toList.length = 5 := by simpa using hfl
  ((conv=>whnf);repeat((first|(with_reducible first|refine Z1 ?_|refine Z2 ?_|refine Z3 ?_|refine Z4 ?_|refine Z5 ?_|refine Z9 (by assumption) rfl ?_|refine ZA (by assumption) rfl ?_|refine ZB (by assumption) rfl ?_|refine Z6 ?_|refine Z7 ?_|refine Z8 ?_|refine ZB (by assumption) (by assumption) ?_)|((with_reducible refine ZM ?_ ?_);(focus rfl)));(conv=>whnf)))
  repeat' (((conv=>whnf);repeat((first|(with_reducible first|refine Z1 ?_|refine Z2 ?_|refine Z3 ?_|refine Z4 ?_|refine Z5 ?_|refine Z9 (by assumption) rfl ?_|refine ZA (by assumption) rfl ?_|refine ZB (by assumption) rfl ?_|refine Z6 ?_|refine Z7 ?_|refine Z8 ?_|refine ZB (by assumption) (by assumption) ?_)|((with_reducible refine ZM ?_ ?_);(focus rfl)));(conv=>whnf))); refine HAlt.mk ?_ ?_)
  all_goals
    ((conv=>whnf);repeat((first|(with_reducible first|refine Z1 ?_|refine Z2 ?_|refine Z3 ?_|refine Z4 ?_|refine Z5 ?_|refine Z9 (by assumption) rfl ?_|refine ZA (by assumption) rfl ?_|refine ZB (by assumption) rfl ?_|refine Z6 ?_|refine Z7 ?_|refine Z8 ?_|refine ZB (by assumption) (by assumption) ?_)|((with_reducible refine ZM ?_ ?_);(focus rfl)));(conv=>whnf)))
    refine HCall.mk ((same15_spec t t' h9 cs ds (Rep.ext x09 _ _ ra) (Rep.ext x09 _ _ rb)).mono ?_)
    rintro e h10 ⟨r, rfl, hr, x10⟩
    have p10 := p9.ext x10
    have q10 := q9.ext x10
    have o10 := o9.ext x10
    have u10 := u9.ext x10
    clear p9 q9 o9 u9
    have x010 := x09.trans x10
    ((conv=>whnf);repeat((first|(with_reducible first|refine Z1 ?_|refine Z2 ?_|refine Z3 ?_|refine Z4 ?_|refine Z5 ?_|refine Z9 (by assumption) rfl ?_|refine ZA (by assumption) rfl ?_|refine ZB (by assumption) rfl ?_|refine Z6 ?_|refine Z7 ?_|refine Z8 ?_|refine ZB (by assumption) (by assumption) ?_)|((with_reducible refine ZM ?_ ?_);(focus rfl)));(conv=>whnf)))
    refine HCall.mk ((rsame_spec t t' h10 cs ds (Rep.ext x010 _ _ ra) (Rep.ext x010 _ _ rb)).mono ?_)
    rintro e h11 ⟨r', rfl, hr', x11⟩
    obtain rfl : r = r' := by rw [Bool.eq_iff_iff, hr, hr']
    have p11 := p10.ext x11
    have q11 := q10.ext x11
    have o11 := o10.ext x11
    have u11 := u10.ext x11
    clear p10 q10 o10 u10
    have x011 := x010.trans x11
    have qr : (bif false then !(r == r) else (r == r)) = true := by simp
    ((conv=>whnf);repeat((first|(with_reducible first|refine Z1 ?_|refine Z2 ?_|refine Z3 ?_|refine Z4 ?_|refine Z5 ?_|refine Z9 (by assumption) rfl ?_|refine ZA (by assumption) rfl ?_|refine ZB (by assumption) rfl ?_|refine Z6 ?_|refine Z7 ?_|refine Z8 ?_|refine ZB (by assumption) (by assumption) ?_)|((with_reducible refine ZM ?_ ?_);(focus rfl)));(conv=>whnf)))
    refine HAlt.mk ?_ ?_
    all_goals
      ((conv=>whnf);repeat((first|(with_reducible first|refine Z1 ?_|refine Z2 ?_|refine Z3 ?_|refine Z4 ?_|refine Z5 ?_|refine Z9 (by assumption) rfl ?_|refine ZA (by assumption) rfl ?_|refine ZB (by assumption) rfl ?_|refine Z6 ?_|refine Z7 ?_|refine Z8 ?_|refine ZB (by assumption) (by assumption) ?_)|((with_reducible refine ZM ?_ ?_);(focus rfl)));(conv=>whnf)))
      refine HCall.mk ((size_spec t h11 cs (Rep.ext x011 _ _ ra) (by omega)).mono ?_)
      rintro e h12 ⟨rfl, x12'⟩
      have p12 := p11.ext x12'
      have o12 := o11.ext x12'
      have u12 := u11.ext x12'
      clear p11 q11 o11 u11
      have x012 := x011.trans x12'
      ((conv=>whnf);repeat((first|(with_reducible first|refine Z1 ?_|refine Z2 ?_|refine Z3 ?_|refine Z4 ?_|refine Z5 ?_|refine Z9 (by assumption) rfl ?_|refine ZA (by assumption) rfl ?_|refine ZB (by assumption) rfl ?_|refine Z6 ?_|refine Z7 ?_|refine Z8 ?_|refine ZB (by assumption) (by assumption) ?_)|((with_reducible refine ZM ?_ ?_);(focus rfl)));(conv=>whnf)))
      refine HCall.mk ((rsize_spec t h12 cs (Rep.ext x012 _ _ ra) (by omega)).mono ?_)
      rintro e h13 ⟨rfl, x13⟩
      have o13 := o12.ext x13
      have u13 := u12.ext x13
      clear p12 o12 u12
      have x013 := x012.trans x13
      have qz : (((sz t : Nat) : Int) == ((sz t : Nat) : Int)) = true := by simp
      ((conv=>whnf);repeat((first|(with_reducible first|refine Z1 ?_|refine Z2 ?_|refine Z3 ?_|refine Z4 ?_|refine Z5 ?_|refine Z9 (by assumption) rfl ?_|refine ZA (by assumption) rfl ?_|refine ZB (by assumption) rfl ?_|refine Z6 ?_|refine Z7 ?_|refine Z8 ?_|refine ZB (by assumption) (by assumption) ?_)|((with_reducible refine ZM ?_ ?_);(focus rfl)));(conv=>whnf)))
      refine HCall.mk ((rsame_spec _ _ h13 es.toArray.toList fs.toArray.toList (by simpa using Rep.ext (x10.trans (x11.trans (x12'.trans x13))) _ _ r39) (by simpa using Rep.ext (x10.trans (x11.trans (x12'.trans x13))) _ _ r69)).mono ?_)
      rintro e h14 ⟨r2, rfl, hr2, x14⟩
      obtain rfl : r2 = true := hr2.2 rfl
      ((conv=>whnf);repeat((first|(with_reducible first|refine Z1 ?_|refine Z2 ?_|refine Z3 ?_|refine Z4 ?_|refine Z5 ?_|refine Z9 (by assumption) rfl ?_|refine ZA (by assumption) rfl ?_|refine ZB (by assumption) rfl ?_|refine Z6 ?_|refine Z7 ?_|refine Z8 ?_)|((with_reducible refine ZM ?_ ?_);(focus rfl)));(conv=>whnf)))
      refine ⟨?_, x013.trans x14⟩
      show Ending.returned (.bool ((getX t key).2 == (getX t key).2)) = _
      rw [beq_self_eq_true]

end Go.Proofs.YtmibnfjjlibpgaaDoor.Hc
