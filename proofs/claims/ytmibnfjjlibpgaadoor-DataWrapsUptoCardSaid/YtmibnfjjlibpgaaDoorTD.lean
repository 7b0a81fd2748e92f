/- The laws Within, Wraps. -/
import Derived.Test.YtmibnfjjlibpgaaDoorTB
set_option linter.unusedVariables false
set_option linter.unusedSimpArgs false
namespace Go.Proofs.YtmibnfjjlibpgaaDoor.Hc
open Go Go.H Go.Proofs
set_option maxRecDepth 100000
set_option maxHeartbeats 8000000

theorem getX_at (k n : Int) (s : ByteArray) (ks : List ByteArray) (l : List DT) (hn : ks.Nodup) (i : Nat) (hi : i < ks.length) (hl : i < l.length) : getX (.mk k n s ks l) ks[i] = (l[i], true) := by
  have : getP ks l ks[i] = l[i]? := getP_at ks l ks[i] i hi rfl (by
    intro x hx
    obtain ⟨j, hj, rfl⟩ := List.getElem_of_mem hx
    rw [List.length_take] at hj
    rw [List.getElem_take]
    exact List.pairwise_iff_getElem.1 hn j i (by omega) hi (by omega))
  unfold getX
  show (match getP ks l ks[i] with | some x => (x, true) | none => (zeroDT, false)) = _
  rw [this, List.getElem?_eq_getElem hl]
theorem Chk.zero {d : DT} {n : Int} (h : Chk d n) (hm : may d) (hd : deep d ≤ 20) : n = 0 := by
  rcases h with h | h | h
  · exact h.2.2
  · omega
  · exact absurd hm h.1

theorem dataWithin_spec {t : DT} {h : Heap} {cs : List Value} (ra : Rep h t cs) (hv : vol t ≤ 1048576) (gl : Glob h) :
    HCalls Tryd.prog 8 #[.agg cs.toArray] h fun e h' => e = .returned (.bool true) ∧ Ext h h' := by
  have hcl := ra.len
  have hd := deep_vol t
  have ra0 := ra
  refine c8 (by simp) ?_
  ((conv=>whnf);repeat((first|(with_reducible first|refine Z1 ?_|refine Z2 ?_|refine Z3 ?_|refine Z4 ?_|refine Z5 ?_|refine Z9 (by assumption) rfl ?_|refine ZA (by assumption) rfl ?_|refine ZB (by assumption) rfl ?_|refine Z6 ?_|refine Z7 ?_|refine Z8 ?_)|((with_reducible refine ZM ?_ ?_);(focus rfl)));(conv=>whnf)))
  refine new_var (e := 25) cs rfl ?_
  intro h1 b1 o1 x1 z1 hb1
  ((conv=>whnf);repeat((first|(with_reducible first|refine Z1 ?_|refine Z2 ?_|refine Z3 ?_|refine Z4 ?_|refine Z5 ?_|refine Z9 (by assumption) rfl ?_|refine ZA (by assumption) rfl ?_|refine ZB (by assumption) rfl ?_|refine Z6 ?_|refine Z7 ?_|refine Z8 ?_)|((with_reducible refine ZM ?_ ?_);(focus rfl)));(conv=>whnf)))
  refine HCall.mk ((live_spec h1 (gl.ext x1)).mono ?_)
  rintro e h2 ⟨rfl, x2⟩
  have o2 := o1.ext x2
  have x12 := x1.trans x2
  clear o1
  ((conv=>whnf);repeat((first|(with_reducible first|refine Z1 ?_|refine Z2 ?_|refine Z3 ?_|refine Z4 ?_|refine Z5 ?_|refine Z9 (by assumption) rfl ?_|refine ZA (by assumption) rfl ?_|refine ZB (by assumption) rfl ?_|refine Z6 ?_|refine Z7 ?_|refine Z8 ?_|refine ZB (by assumption) (by assumption) ?_)|((with_reducible refine ZM ?_ ?_);(focus rfl)));(conv=>whnf)))
  refine HCall.mk ((check17_spec t h2 cs (Rep.ext x12 _ _ ra) (by omega)).mono ?_)
  rintro e h3 ⟨n, rfl, hc, x3⟩
  have o3 := o2.ext x3
  have x13 := x12.trans x3
  clear o2
  by_cases hn : n = 0
  rotate_left
  · have q : ((n : Int) != 0) = true := bne_iff_ne.2 hn
    ((conv=>whnf);repeat((first|(with_reducible first|refine Z1 ?_|refine Z2 ?_|refine Z3 ?_|refine Z4 ?_|refine Z5 ?_|refine Z9 (by assumption) rfl ?_|refine ZA (by assumption) rfl ?_|refine ZB (by assumption) rfl ?_|refine Z6 ?_|refine Z7 ?_|refine Z8 ?_)|((with_reducible refine ZM ?_ ?_);(focus rfl)));(conv=>whnf)))
    exact ⟨rfl, x13⟩
  have q : ((n : Int) != 0) = false := by rw [hn]; rfl
  have hm : may t ∧ deep t ≤ 20 := by rcases hc with h | h | h <;> first | exact ⟨h.1, h.2.1⟩ | (have := h.2.2; omega) | (have := h.2; omega)
  have hsv := sz_vol t
  obtain ⟨k1, n1, s1, ks1, l1⟩ := t
  have ra' := ra
  simp only [Rep] at ra
  obtain ⟨a1, a2, a3, a4, a5, a6, ka, kc, la, lc, xs, rfl, a7, a8, a9⟩ := ra
  have hmm := hm.1
  simp only [may] at hmm
  have hdd := hm.2
  simp only [deep] at hdd
  simp only [sz] at hsv
  have hsz2 : 1 + szs l1 ≤ 1048576 := by omega
  ((conv=>whnf);repeat((first|(with_reducible first|refine Z1 ?_|refine Z2 ?_|refine Z3 ?_|refine Z4 ?_|refine Z5 ?_|refine Z9 (by assumption) rfl ?_|refine ZA (by assumption) rfl ?_|refine ZB (by assumption) rfl ?_|refine Z6 ?_|refine Z7 ?_|refine Z8 ?_)|((with_reducible refine ZM ?_ ?_);(focus rfl)));(conv=>whnf)))
  refine loop_rule [4, 17] (fun vs h' => ∃ (i : Nat), vs = [.int .i64 ((1 + szs (l1.take i) : Nat) : Int), .int .i64 i] ∧ i ≤ l1.length ∧ Ext h3 h')
    (fun vs _ => match vs with | [_, .int _ i] => l1.length - i.toNat | _ => 0) rfl ?_ ?_
  · exact ⟨0, rfl, by omega, Ext.refl _⟩
  intro u h4 v4 v17
  rintro ⟨i, e, hi, x4⟩
  cases e
  have x04 := x13.trans x4
  have o4 := o3.ext x4
  clear o3
  ((conv=>whnf);repeat((first|(with_reducible first|refine Z1 ?_|refine Z2 ?_|refine Z3 ?_|refine Z4 ?_|refine Z5 ?_|refine Z9 (by assumption) rfl ?_|refine ZA (by assumption) rfl ?_|refine ZB (by assumption) rfl ?_|refine Z6 ?_|refine Z7 ?_|refine Z8 ?_)|((with_reducible refine ZM ?_ ?_);(focus rfl)));(conv=>whnf)))
  refine HIf.mk (fun hlt => ?_) (fun hlt => ?_)
  · have hi1 : i < l1.length := by have := of_decide_eq_true hlt; omega
    have hmu : l1.length - ((i : Int) + 1).toNat < l1.length - ((i : Int)).toNat := by omega
    have hdi := deeps_le l1 l1[i] (List.getElem_mem hi1)
    have hvi := vols_mem l1 l1[i] (List.getElem_mem hi1)
    simp only [vol] at hv
    have hmi : may l1[i] := (mays_iff l1).1 hmm.2 _ (List.getElem_mem hi1)
    have hst : szs (l1.take (i + 1)) = szs (l1.take i) + sz l1[i] := by rw [take_succ' hi1, szs_append]; simp [szs]
    have hsle : szs (l1.take (i + 1)) ≤ szs l1 := by
      have := szs_append (l1.take (i + 1)) (l1.drop (i + 1))
      rw [List.take_append_drop] at this; omega
    ((conv=>whnf);repeat((first|(with_reducible first|refine Z1 ?_|refine Z2 ?_|refine Z3 ?_|refine Z4 ?_|refine Z5 ?_|refine Z9 (by assumption) rfl ?_|refine ZA (by assumption) rfl ?_|refine ZB (by assumption) rfl ?_|refine Z6 ?_|refine Z7 ?_|refine Z8 ?_)|((with_reducible refine ZM ?_ ?_);(focus rfl)));(conv=>whnf)))
    refine HIdx.mk i rfl hi1 ?_
    refine sl_some a8 hi1 fun p ep => ?_
    ((conv=>whnf);repeat((first|(with_reducible first|refine Z1 ?_|refine Z2 ?_|refine Z3 ?_|refine Z4 ?_|refine Z5 ?_|refine Z9 (by assumption) rfl ?_|refine ZA (by assumption) rfl ?_|refine ZB (by assumption) rfl ?_|refine Z6 ?_|refine Z7 ?_|refine Z8 ?_)|((with_reducible refine ZM ?_ ?_);(focus rfl)));(conv=>whnf)))
    refine a8.loadRep0 a9 x04 ep hi1 fun as' ra1 => ?_
    ((conv=>whnf);repeat((first|(with_reducible first|refine Z1 ?_|refine Z2 ?_|refine Z3 ?_|refine Z4 ?_|refine Z5 ?_|refine Z9 (by assumption) rfl ?_|refine ZA (by assumption) rfl ?_|refine ZB (by assumption) rfl ?_|refine Z6 ?_|refine Z7 ?_|refine Z8 ?_)|((with_reducible refine ZM ?_ ?_);(focus rfl)));(conv=>whnf)))
    refine new_var (e := 25) zeroD rfl ?_
    intro h5 b5 o5 x5 z5 hb5
    ((conv=>whnf);repeat((first|(with_reducible first|refine Z1 ?_|refine Z2 ?_|refine Z3 ?_|refine Z4 ?_|refine Z5 ?_|refine Z9 (by assumption) rfl ?_|refine ZA (by assumption) rfl ?_|refine ZB (by assumption) rfl ?_|refine Z6 ?_|refine Z7 ?_|refine Z8 ?_)|((with_reducible refine ZM ?_ ?_);(focus rfl)));(conv=>whnf)))
    have hal := ra1.len
    refine HMust.mk (by simpa using hal) ?_
    refine store_new o5 (by simp [hal]) (by simpa using ra1.one) ?_
    intro h6 f6 z6 o6
    have x46 : Ext h4 h6 := x5.offNew f6 (by omega)
    have o46 := o4.ext x46
    have x06 := x04.trans x46
    clear o4 o5
    have hal' : as'.toArray.toList.length = 5 := by simpa using hal
    ((conv=>whnf);repeat((first|(with_reducible first|refine Z1 ?_|refine Z2 ?_|refine Z3 ?_|refine Z4 ?_|refine Z5 ?_|refine Z9 (by assumption) rfl ?_|refine ZA (by assumption) rfl ?_|refine ZB (by assumption) rfl ?_|refine Z6 ?_|refine Z7 ?_|refine Z8 ?_)|((with_reducible refine ZM ?_ ?_);(focus rfl)));(conv=>whnf)))
    refine blk_ldN o6 hal' ?_
    ((conv=>whnf);repeat((first|(with_reducible first|refine Z1 ?_|refine Z2 ?_|refine Z3 ?_|refine Z4 ?_|refine Z5 ?_|refine Z9 (by assumption) rfl ?_|refine ZA (by assumption) rfl ?_|refine ZB (by assumption) rfl ?_|refine Z6 ?_|refine Z7 ?_|refine Z8 ?_)|((with_reducible refine ZM ?_ ?_);(focus rfl)));(conv=>whnf)))
    refine HCall.mk ((check17_spec l1[i] h6 as'.toArray.toList (by simpa using Rep.ext x06 _ _ ra1) (by omega)).mono ?_)
    rintro e h7 ⟨ni, rfl, hci, x7⟩
    obtain rfl := hci.zero hmi (by omega)
    have o47 := o46.ext x7
    have o67 := o6.ext x7
    have x07 := x06.trans x7
    clear o46 o6
    ((conv=>whnf);repeat((first|(with_reducible first|refine Z1 ?_|refine Z2 ?_|refine Z3 ?_|refine Z4 ?_|refine Z5 ?_|refine Z9 (by assumption) rfl ?_|refine ZA (by assumption) rfl ?_|refine ZB (by assumption) rfl ?_|refine Z6 ?_|refine Z7 ?_|refine Z8 ?_)|((with_reducible refine ZM ?_ ?_);(focus rfl)));(conv=>whnf)))
    refine blk_ldN o67 hal' ?_
    ((conv=>whnf);repeat((first|(with_reducible first|refine Z1 ?_|refine Z2 ?_|refine Z3 ?_|refine Z4 ?_|refine Z5 ?_|refine Z9 (by assumption) rfl ?_|refine ZA (by assumption) rfl ?_|refine ZB (by assumption) rfl ?_|refine Z6 ?_|refine Z7 ?_|refine Z8 ?_)|((with_reducible refine ZM ?_ ?_);(focus rfl)));(conv=>whnf)))
    refine HCall.mk ((size_spec l1[i] h7 as'.toArray.toList (by simpa using Rep.ext x07 _ _ ra1) (by omega)).mono ?_)
    rintro e h8 ⟨rfl, x8⟩
    have o48 := o47.ext x8
    have o68 := o67.ext x8
    have x08 := x07.trans x8
    clear o47 o67
    have e1 : ((1 + szs (l1.take (i + 1)) : Nat) : Int) = ((1 + szs (l1.take i) : Nat) : Int) + (sz l1[i] : Nat) := by omega
    have x48 := x4.trans (x46.trans (x7.trans x8))
    by_cases hk : k1 = 6
    · subst hk
      have hg : GoodKeys ks1 l1.length := by
        have := hmm.1
        unfold Own1 at this
        rcases this with h | h | h | h | h | h
        · omega
        · omega
        · omega
        · omega
        · omega
        · exact h.2.2.2
      have hki : i < ks1.length := by have := hg.2.2; omega
      have qg : (!(l1[i], true).snd) = false := rfl
      have hgx := getX_at 6 n1 s1 ks1 l1 hg.2.1 i hki hi1
      ((conv=>whnf);repeat((first|(with_reducible first|refine Z1 ?_|refine Z2 ?_|refine Z3 ?_|refine Z4 ?_|refine Z5 ?_|refine Z9 (by assumption) rfl ?_|refine ZA (by assumption) rfl ?_|refine ZB (by assumption) rfl ?_|refine Z6 ?_|refine Z7 ?_|refine Z8 ?_)|((with_reducible refine ZM ?_ ?_);(focus rfl)));(conv=>whnf)))
      refine HIdx.mk i rfl hki ?_
      refine sl_some a7 hki fun p2 ep2 => ?_
      ((conv=>whnf);repeat((first|(with_reducible first|refine Z1 ?_|refine Z2 ?_|refine Z3 ?_|refine Z4 ?_|refine Z5 ?_|refine Z9 (by assumption) rfl ?_|refine ZA (by assumption) rfl ?_|refine ZB (by assumption) rfl ?_|refine Z6 ?_|refine Z7 ?_|refine Z8 ?_)|((with_reducible refine ZM ?_ ?_);(focus rfl)));(conv=>whnf)))
      refine (a7.ext x08).load ep2 (by simpa using hki) ?_
      rw [List.getElem_map]
      ((conv=>whnf);repeat((first|(with_reducible first|refine Z1 ?_|refine Z2 ?_|refine Z3 ?_|refine Z4 ?_|refine Z5 ?_|refine Z9 (by assumption) rfl ?_|refine ZA (by assumption) rfl ?_|refine ZB (by assumption) rfl ?_|refine Z6 ?_|refine Z7 ?_|refine Z8 ?_)|((with_reducible refine ZM ?_ ?_);(focus rfl)));(conv=>whnf)))
      refine HAlt.mk ?_ ?_
      · ((conv=>whnf);repeat((first|(with_reducible first|refine Z1 ?_|refine Z2 ?_|refine Z3 ?_|refine Z4 ?_|refine Z5 ?_|refine Z9 (by assumption) rfl ?_|refine ZA (by assumption) rfl ?_|refine ZB (by assumption) rfl ?_|refine Z6 ?_|refine Z7 ?_|refine Z8 ?_)|((with_reducible refine ZM ?_ ?_);(focus rfl)));(conv=>whnf)))
        refine HCall.mk ((get_spec (.mk 6 n1 s1 ks1 l1) ks1[i] h8 _ (Rep.ext x08 _ _ ra') (by simp only [vol]; omega)).mono ?_)
        rintro e h9 ⟨es, rfl, r9, x9⟩
        rw [hgx] at r9 ⊢
        have hel := r9.len
        have o49 := o48.ext x9
        have o69 := o68.ext x9
        clear o48 o68
        have hel' : es.toArray.toList.length = 5 := by simpa using hel
        ((conv=>whnf);repeat((first|(with_reducible first|refine Z1 ?_|refine Z2 ?_|refine Z3 ?_|refine Z4 ?_|refine Z5 ?_|refine Z9 (by assumption) rfl ?_|refine ZA (by assumption) rfl ?_|refine ZB (by assumption) rfl ?_|refine Z6 ?_|refine Z7 ?_|refine Z8 ?_)|((with_reducible refine ZM ?_ ?_);(focus rfl)));(conv=>whnf)))
        refine new_var (e := 25) zeroD rfl ?_
        intro h10 b10 o10 x10 z10 hb10
        ((conv=>whnf);repeat((first|(with_reducible first|refine Z1 ?_|refine Z2 ?_|refine Z3 ?_|refine Z4 ?_|refine Z5 ?_|refine Z9 (by assumption) rfl ?_|refine ZA (by assumption) rfl ?_|refine ZB (by assumption) rfl ?_|refine Z6 ?_|refine Z7 ?_|refine Z8 ?_)|((with_reducible refine ZM ?_ ?_);(focus rfl)));(conv=>whnf)))
        refine HMust.mk (by simpa using hel) ?_
        refine store_new o10 hel' (by simpa using r9.one) ?_
        intro h11 f11 z11 o11
        have x911 : Ext h9 h11 := x10.offNew f11 (by omega)
        have o611 := o69.ext x911
        clear o69 o10
        ((conv=>whnf);repeat((first|(with_reducible first|refine Z1 ?_|refine Z2 ?_|refine Z3 ?_|refine Z4 ?_|refine Z5 ?_|refine Z9 (by assumption) rfl ?_|refine ZA (by assumption) rfl ?_|refine ZB (by assumption) rfl ?_|refine Z6 ?_|refine Z7 ?_|refine Z8 ?_)|((with_reducible refine ZM ?_ ?_);(focus rfl)));(conv=>whnf)))
        refine blk_ldN o611 hal' ?_
        ((conv=>whnf);repeat((first|(with_reducible first|refine Z1 ?_|refine Z2 ?_|refine Z3 ?_|refine Z4 ?_|refine Z5 ?_|refine Z9 (by assumption) rfl ?_|refine ZA (by assumption) rfl ?_|refine ZB (by assumption) rfl ?_|refine Z6 ?_|refine Z7 ?_|refine Z8 ?_)|((with_reducible refine ZM ?_ ?_);(focus rfl)));(conv=>whnf)))
        refine blk_ldN o11 hel' ?_
        ((conv=>whnf);repeat((first|(with_reducible first|refine Z1 ?_|refine Z2 ?_|refine Z3 ?_|refine Z4 ?_|refine Z5 ?_|refine Z9 (by assumption) rfl ?_|refine ZA (by assumption) rfl ?_|refine ZB (by assumption) rfl ?_|refine Z6 ?_|refine Z7 ?_|refine Z8 ?_)|((with_reducible refine ZM ?_ ?_);(focus rfl)));(conv=>whnf)))
        refine HCall.mk ((rsame_spec l1[i] l1[i] h11 as'.toArray.toList es.toArray.toList (by simpa using Rep.ext (x08.trans (x9.trans x911)) _ _ ra1) (by simpa using Rep.ext x911 _ _ r9)).mono ?_)
        rintro e h12 ⟨r, rfl, hr, x12'⟩
        obtain rfl : r = true := hr.2 rfl
        ((conv=>whnf);repeat((first|(with_reducible first|refine Z1 ?_|refine Z2 ?_|refine Z3 ?_|refine Z4 ?_|refine Z5 ?_|refine Z9 (by assumption) rfl ?_|refine ZA (by assumption) rfl ?_|refine ZB (by assumption) rfl ?_|refine Z6 ?_|refine Z7 ?_|refine Z8 ?_)|((with_reducible refine ZM ?_ ?_);(focus rfl)));(conv=>whnf)))
        refine ⟨⟨i + 1, ?_, by omega, x48.trans (x9.trans (x911.trans x12'))⟩, hmu⟩
        rw [e1]; rfl
      · ((conv=>whnf);repeat((first|(with_reducible first|refine Z1 ?_|refine Z2 ?_|refine Z3 ?_|refine Z4 ?_|refine Z5 ?_|refine Z9 (by assumption) rfl ?_|refine ZA (by assumption) rfl ?_|refine ZB (by assumption) rfl ?_|refine Z6 ?_|refine Z7 ?_|refine Z8 ?_)|((with_reducible refine ZM ?_ ?_);(focus rfl)));(conv=>whnf)))
        refine new_var (e := 25) zeroD rfl ?_
        intro h9 b9 o9 x9 z9 hb9
        have o49 := o48.ext x9
        have o69 := o68.ext x9
        clear o48 o68
        ((conv=>whnf);repeat((first|(with_reducible first|refine Z1 ?_|refine Z2 ?_|refine Z3 ?_|refine Z4 ?_|refine Z5 ?_|refine Z9 (by assumption) rfl ?_|refine ZA (by assumption) rfl ?_|refine ZB (by assumption) rfl ?_|refine Z6 ?_|refine Z7 ?_|refine Z8 ?_)|((with_reducible refine ZM ?_ ?_);(focus rfl)));(conv=>whnf)))
        refine HCall.mk ((getN_spec (.mk 6 n1 s1 ks1 l1) ks1[i] h9 _ (Rep.ext (x08.trans x9) _ _ ra') (by simp only [vol]; omega)).mono ?_)
        rintro e h10 ⟨es, rfl, r10, x10⟩
        rw [hgx] at r10 ⊢
        have hel := r10.get.len
        have o610 := o69.ext x10
        have o910 := o9.ext x10
        have o9lt := o9.lt
        clear o69 o9
        have hel' : es.toArray.toList.length = 5 := by simpa using hel
        ((conv=>whnf);repeat((first|(with_reducible first|refine Z1 ?_|refine Z2 ?_|refine Z3 ?_|refine Z4 ?_|refine Z5 ?_|refine Z9 (by assumption) rfl ?_|refine ZA (by assumption) rfl ?_|refine ZB (by assumption) rfl ?_|refine Z6 ?_|refine Z7 ?_|refine Z8 ?_)|((with_reducible refine ZM ?_ ?_);(focus rfl)));(conv=>whnf)))
        refine HMust.mk (by simpa using hel) ?_
        refine store_new o910 hel' (by simpa using r10.get.one) ?_
        intro h11 f11 z11 o11
        have o611 := o610.offk f11 (by have := o610.lt; have := x9.1; have := x46.1; have := x7.1; have := x8.1; have := o49.lt; omega)
        have x811 : Ext h8 h11 := (x9.trans x10).offNew f11 (by omega)
        have r11 : Rep h11 l1[i] as' := Rep.ext (x08.trans x811) _ _ ra1
        clear o610
        ((conv=>whnf);repeat((first|(with_reducible first|refine Z1 ?_|refine Z2 ?_|refine Z3 ?_|refine Z4 ?_|refine Z5 ?_|refine Z9 (by assumption) rfl ?_|refine ZA (by assumption) rfl ?_|refine ZB (by assumption) rfl ?_|refine Z6 ?_|refine Z7 ?_|refine Z8 ?_)|((with_reducible refine ZM ?_ ?_);(focus rfl)));(conv=>whnf)))
        refine blk_ldN o611 hal' ?_
        ((conv=>whnf);repeat((first|(with_reducible first|refine Z1 ?_|refine Z2 ?_|refine Z3 ?_|refine Z4 ?_|refine Z5 ?_|refine Z9 (by assumption) rfl ?_|refine ZA (by assumption) rfl ?_|refine ZB (by assumption) rfl ?_|refine Z6 ?_|refine Z7 ?_|refine Z8 ?_)|((with_reducible refine ZM ?_ ?_);(focus rfl)));(conv=>whnf)))
        refine blk_ldN o11 hel' ?_
        ((conv=>whnf);repeat((first|(with_reducible first|refine Z1 ?_|refine Z2 ?_|refine Z3 ?_|refine Z4 ?_|refine Z5 ?_|refine Z9 (by assumption) rfl ?_|refine ZA (by assumption) rfl ?_|refine ZB (by assumption) rfl ?_|refine Z6 ?_|refine Z7 ?_|refine Z8 ?_)|((with_reducible refine ZM ?_ ?_);(focus rfl)));(conv=>whnf)))
        refine HCall.mk ((rsame_spec l1[i] l1[i] h11 as'.toArray.toList es.toArray.toList (by simpa using r11) (by simpa using (r10.offk f11 o9lt).get)).mono ?_)
        rintro e h12 ⟨r, rfl, hr, x12'⟩
        obtain rfl : r = true := hr.2 rfl
        ((conv=>whnf);repeat((first|(with_reducible first|refine Z1 ?_|refine Z2 ?_|refine Z3 ?_|refine Z4 ?_|refine Z5 ?_|refine Z9 (by assumption) rfl ?_|refine ZA (by assumption) rfl ?_|refine ZB (by assumption) rfl ?_|refine Z6 ?_|refine Z7 ?_|refine Z8 ?_)|((with_reducible refine ZM ?_ ?_);(focus rfl)));(conv=>whnf)))
        refine ⟨⟨i + 1, ?_, by omega, x48.trans (x811.trans x12')⟩, hmu⟩
        rw [e1]; rfl
    · have q6 : ((k1 : Int) == 6) = false := beq_eq_false_iff_ne.2 hk
      ((conv=>whnf);repeat((first|(with_reducible first|refine Z1 ?_|refine Z2 ?_|refine Z3 ?_|refine Z4 ?_|refine Z5 ?_|refine Z9 (by assumption) rfl ?_|refine ZA (by assumption) rfl ?_|refine ZB (by assumption) rfl ?_|refine Z6 ?_|refine Z7 ?_|refine Z8 ?_)|((with_reducible refine ZM ?_ ?_);(focus rfl)));(conv=>whnf)))
      refine ⟨⟨i + 1, ?_, by omega, x48⟩, hmu⟩
      rw [e1]; rfl
  · have hge := of_decide_eq_false hlt
    have hik : l1.take i = l1 := List.take_of_length_le (by omega)
    rw [hik]
    ((conv=>whnf);repeat((first|(with_reducible first|refine Z1 ?_|refine Z2 ?_|refine Z3 ?_|refine Z4 ?_|refine Z5 ?_|refine Z9 (by assumption) rfl ?_|refine ZA (by assumption) rfl ?_|refine ZB (by assumption) rfl ?_|refine Z6 ?_|refine Z7 ?_|refine Z8 ?_)|((with_reducible refine ZM ?_ ?_);(focus rfl)));(conv=>whnf)))
    refine HCall.mk ((size_spec (.mk k1 n1 s1 ks1 l1) h4 _ (Rep.ext x04 _ _ ra') (by omega)).mono ?_)
    rintro e h5 ⟨rfl, x5⟩
    ((conv=>whnf);repeat((first|(with_reducible first|refine Z1 ?_|refine Z2 ?_|refine Z3 ?_|refine Z4 ?_|refine Z5 ?_|refine Z9 (by assumption) rfl ?_|refine ZA (by assumption) rfl ?_|refine ZB (by assumption) rfl ?_|refine Z6 ?_|refine Z7 ?_|refine Z8 ?_)|((with_reducible refine ZM ?_ ?_);(focus rfl)));(conv=>whnf)))
    refine ⟨?_, x04.trans x5⟩
    show Ending.returned (.bool (((sz (.mk k1 n1 s1 ks1 l1) : Nat) : Int) == ((1 + szs l1 : Nat) : Int))) = _
    simp only [sz, beq_self_eq_true]

end Go.Proofs.YtmibnfjjlibpgaaDoor.Hc
