/- The law Goes. -/
import Derived.Test.YtlbmhpjefpdekaaXC
set_option linter.unusedVariables false
set_option linter.unusedSimpArgs false
namespace Go.Proofs.Ytlbmhpjefpdekaa.Hc
open Go Go.H Go.Proofs
set_option maxRecDepth 100000
set_option maxHeartbeats 16000000

theorem Two.new {h0 h1 h2 h3 : Heap} {b rf rw b' fb wb : Nat} {d : DK} (hd : DR h2 b rf rw d) (hr : RR h3 b' fb wb d) (x : Ext h2 h3) (hs : h0.size ≤ h1.size) (g1 : h1.size ≤ b) (g2 : h1.size ≤ rf) (g3 : h1.size ≤ rw) (k1 : h2.size ≤ b') (k2 : h2.size ≤ fb) (k3 : h2.size ≤ wb) : Two h3 h0.size b rf rw b' fb wb d := by
  have hl := hd.lt
  refine ⟨hd.ext x, hr, ?_, ?_⟩
  · intro u hu
    simp only [List.mem_cons, List.not_mem_nil, or_false] at hu ⊢
    omega
  · intro u hu
    simp only [List.mem_cons, List.not_mem_nil, or_false] at hu
    omega
theorem Two.extO {h0 h1 h2 : Heap} {b rf rw b' fb wb : Nat} {d : DK} (t : Two h1 h0.size b rf rw b' fb wb d) (x : Ext h0 h1) (o : OffS (six b rf rw b' fb wb) h1 h2) : Ext h0 h2 := o.ext x t.lo
theorem ops_at {h h' : Heap} {l : List OpP} {xs : List Value} (e : Els (OpRep h.size) h l xs) (x : Ext h h') : Els (OpRep h.size) h' l xs := e.map (fun o cs r => r.agree x.2)
/-- Both disks are put on. -/
theorem zop : ([.int .i64 0, .int .i64 0, .int .i64 0, .slice none 0 0] : List Value).length = 4 := rfl

theorem diskGoes_spec (n : Int) (wn : (Lit.int .i64 n).wf = true) {h : Heap} {a : Option Addr} {c : Nat} {l : List OpP} {xs : List Value} (s : Sl h 4 a l.length c xs) (es : Els (OpRep h.size) h l xs) (hl : l.length ≤ 1048576) :
    HCalls Try.prog 3 #[.int .i64 n, .slice a l.length c] h fun e h' => e = .returned (.bool true) ∧ Ext h h' := by
  refine c3 (by simp) ?_
  ((conv=>whnf);repeat((first|(with_reducible first|refine Z1 ?_|refine Z2 ?_|refine Z3 ?_|refine Z4 ?_|refine Z5 ?_|refine Z9 (by assumption) rfl ?_|refine ZA (by assumption) rfl ?_|refine ZB (by assumption) rfl ?_|refine Z6 ?_|refine Z7 ?_|refine Z8 ?_)|((with_reducible refine ZM ?_ ?_);(focus rfl)));(conv=>whnf)))
  refine HCall.mk ((live_spec h).mono ?_)
  rintro e h1 ⟨rfl, x1⟩
  have hs1 := x1.1
  ((conv=>whnf);repeat((first|(with_reducible first|refine Z1 ?_|refine Z2 ?_|refine Z3 ?_|refine Z4 ?_|refine Z5 ?_|refine Z9 (by assumption) rfl ?_|refine ZA (by assumption) rfl ?_|refine ZB (by assumption) rfl ?_|refine Z6 ?_|refine Z7 ?_|refine Z8 ?_)|((with_reducible refine ZM ?_ ?_);(focus rfl)));(conv=>whnf)))
  refine HCall.mk ((new_disk n h1).mono ?_)
  rintro e h2 ⟨x2, ⟨n1, n2, b, rf, rw, rfl, d2, g1, g2, g3⟩ | ⟨hno, rfl⟩⟩
  rotate_left
  · ((conv=>whnf);repeat((first|(with_reducible first|refine Z1 ?_|refine Z2 ?_|refine Z3 ?_|refine Z4 ?_|refine Z5 ?_|refine Z9 (by assumption) rfl ?_|refine ZA (by assumption) rfl ?_|refine ZB (by assumption) rfl ?_|refine Z6 ?_|refine Z7 ?_|refine Z8 ?_)|((with_reducible refine ZM ?_ ?_);(focus rfl)));(conv=>whnf)))
    refine HCall.mk ((rnew_spec n h2).mono ?_)
    rintro e h3 ⟨x3, ⟨k1, k2, _⟩ | ⟨_, rfl⟩⟩
    · exact absurd ⟨k1, k2⟩ hno
    ((conv=>whnf);repeat((first|(with_reducible first|refine Z1 ?_|refine Z2 ?_|refine Z3 ?_|refine Z4 ?_|refine Z5 ?_|refine Z9 (by assumption) rfl ?_|refine ZA (by assumption) rfl ?_|refine ZB (by assumption) rfl ?_|refine Z6 ?_|refine Z7 ?_|refine Z8 ?_)|((with_reducible refine ZM ?_ ?_);(focus rfl)));(conv=>whnf)))
    exact ⟨rfl, x1.trans (x2.trans x3)⟩
  ((conv=>whnf);repeat((first|(with_reducible first|refine Z1 ?_|refine Z2 ?_|refine Z3 ?_|refine Z4 ?_|refine Z5 ?_|refine Z9 (by assumption) rfl ?_|refine ZA (by assumption) rfl ?_|refine ZB (by assumption) rfl ?_|refine Z6 ?_|refine Z7 ?_|refine Z8 ?_)|((with_reducible refine ZM ?_ ?_);(focus rfl)));(conv=>whnf)))
  refine HCall.mk ((rnew_spec n h2).mono ?_)
  rintro e h3 ⟨x3, ⟨_, _, b', fb, wb, rfl, r3, k1, k2, k3⟩ | ⟨hno, _⟩⟩
  rotate_left
  · exact absurd ⟨n1, n2⟩ hno
  have x03 := x1.trans (x2.trans x3)
  have qb : (bif false then !(some (⟨b, 0, none⟩ : Addr)).isNone else (some (⟨b, 0, none⟩ : Addr)).isNone) = false := rfl
  have qb' : (bif false then !(some (⟨b', 0, none⟩ : Addr)).isNone else (some (⟨b', 0, none⟩ : Addr)).isNone) = false := rfl
  by_cases h200 : l.length ≤ 200
  rotate_left
  · have q : decide ((l.length : Int) > 200) = true := decide_eq_true (by omega)
    have qq : (bif false then !((bif false then !(some (⟨b, 0, none⟩ : Addr)).isNone else (some (⟨b, 0, none⟩ : Addr)).isNone) == (bif false then !(some (⟨b', 0, none⟩ : Addr)).isNone else (some (⟨b', 0, none⟩ : Addr)).isNone)) else ((bif false then !(some (⟨b, 0, none⟩ : Addr)).isNone else (some (⟨b, 0, none⟩ : Addr)).isNone) == (bif false then !(some (⟨b', 0, none⟩ : Addr)).isNone else (some (⟨b', 0, none⟩ : Addr)).isNone))) = true := rfl
    ((conv=>whnf);repeat((first|(with_reducible first|refine Z1 ?_|refine Z2 ?_|refine Z3 ?_|refine Z4 ?_|refine Z5 ?_|refine Z9 (by assumption) rfl ?_|refine ZA (by assumption) rfl ?_|refine ZB (by assumption) rfl ?_|refine Z6 ?_|refine Z7 ?_|refine Z8 ?_)|((with_reducible refine ZM ?_ ?_);(focus rfl)));(conv=>whnf)))
    exact ⟨rfl, x03⟩
  have q : decide ((l.length : Int) > 200) = false := decide_eq_false (by omega)
  by_cases h100 : n ≤ 100
  rotate_left
  · have q2 : decide (n > 100) = true := decide_eq_true (by omega)
    have qq : (bif false then !((bif false then !(some (⟨b, 0, none⟩ : Addr)).isNone else (some (⟨b, 0, none⟩ : Addr)).isNone) == (bif false then !(some (⟨b', 0, none⟩ : Addr)).isNone else (some (⟨b', 0, none⟩ : Addr)).isNone)) else ((bif false then !(some (⟨b, 0, none⟩ : Addr)).isNone else (some (⟨b, 0, none⟩ : Addr)).isNone) == (bif false then !(some (⟨b', 0, none⟩ : Addr)).isNone else (some (⟨b', 0, none⟩ : Addr)).isNone))) = true := rfl
    ((conv=>whnf);repeat((first|(with_reducible first|refine Z1 ?_|refine Z2 ?_|refine Z3 ?_|refine Z4 ?_|refine Z5 ?_|refine Z9 (by assumption) rfl ?_|refine ZA (by assumption) rfl ?_|refine ZB (by assumption) rfl ?_|refine Z6 ?_|refine Z7 ?_|refine Z8 ?_)|((with_reducible refine ZM ?_ ?_);(focus rfl)));(conv=>whnf)))
    exact ⟨rfl, x03⟩
  have q2 : decide (n > 100) = false := decide_eq_false (by omega)
  have t3 : Two h3 h.size b rf rw b' fb wb (DK.new n.toNat) := Two.new d2 r3 x3 hs1 g1 g2 g3 k1 k2 k3
  ((conv=>whnf);repeat((first|(with_reducible first|refine Z1 ?_|refine Z2 ?_|refine Z3 ?_|refine Z4 ?_|refine Z5 ?_|refine Z9 (by assumption) rfl ?_|refine ZA (by assumption) rfl ?_|refine ZB (by assumption) rfl ?_|refine Z6 ?_|refine Z7 ?_|refine Z8 ?_)|((with_reducible refine ZM ?_ ?_);(focus rfl)));(conv=>whnf)))
  refine loop_rule [54] (fun vs h' => ∃ (i : Nat) (dd : DK), vs = [.int .i64 i] ∧ i ≤ l.length ∧ Two h' h.size b rf rw b' fb wb dd ∧ dd.acts ≤ i ∧ Ext h h')
    (fun vs _ => match vs with | [.int _ i] => l.length - i.toNat | _ => 0) rfl ?_ ?_
  · exact ⟨0, _, rfl, by omega, t3, Nat.le_refl _, x03⟩
  intro u h4 v54
  rintro ⟨i, dd, e, hi, t4, hac, x4⟩
  cases e
  ((conv=>whnf);repeat((first|(with_reducible first|refine Z1 ?_|refine Z2 ?_|refine Z3 ?_|refine Z4 ?_|refine Z5 ?_|refine Z9 (by assumption) rfl ?_|refine ZA (by assumption) rfl ?_|refine ZB (by assumption) rfl ?_|refine Z6 ?_|refine Z7 ?_|refine Z8 ?_)|((with_reducible refine ZM ?_ ?_);(focus rfl)));(conv=>whnf)))
  refine HIf.mk (fun hlt => ?_) (fun hlt => ?_)
  · have hi1 : i < l.length := by have := of_decide_eq_true hlt; omega
    have hmu : l.length - ((i : Int) + 1).toNat < l.length - ((i : Int)).toNat := by omega
    ((conv=>whnf);repeat((first|(with_reducible first|refine Z1 ?_|refine Z2 ?_|refine Z3 ?_|refine Z4 ?_|refine Z5 ?_|refine Z9 (by assumption) rfl ?_|refine ZA (by assumption) rfl ?_|refine ZB (by assumption) rfl ?_|refine Z6 ?_|refine Z7 ?_|refine Z8 ?_)|((with_reducible refine ZM ?_ ?_);(focus rfl)));(conv=>whnf)))
    refine HIdx.mk i rfl hi1 ?_
    refine sl_some s hi1 fun p ep => ?_
    ((conv=>whnf);repeat((first|(with_reducible first|refine Z1 ?_|refine Z2 ?_|refine Z3 ?_|refine Z4 ?_|refine Z5 ?_|refine Z9 (by assumption) rfl ?_|refine ZA (by assumption) rfl ?_|refine ZB (by assumption) rfl ?_|refine Z6 ?_|refine Z7 ?_|refine Z8 ?_)|((with_reducible refine ZM ?_ ?_);(focus rfl)));(conv=>whnf)))
    refine (s.ext x4).loadEl (fun o cs r => r.len) (ops_at es x4) ep hi1 fun cs ro => ?_
    ((conv=>whnf);repeat((first|(with_reducible first|refine Z1 ?_|refine Z2 ?_|refine Z3 ?_|refine Z4 ?_|refine Z5 ?_|refine Z9 (by assumption) rfl ?_|refine ZA (by assumption) rfl ?_|refine ZB (by assumption) rfl ?_|refine Z6 ?_|refine Z7 ?_|refine Z8 ?_)|((with_reducible refine ZM ?_ ?_);(focus rfl)));(conv=>whnf)))
    refine new_var (e := 33) [.int .i64 0, .int .i64 0, .int .i64 0, .slice none 0 0] rfl ?_
    intro h5 b5 o5 x5 z5 hb5
    ((conv=>whnf);repeat((first|(with_reducible first|refine Z1 ?_|refine Z2 ?_|refine Z3 ?_|refine Z4 ?_|refine Z5 ?_|refine Z9 (by assumption) rfl ?_|refine ZA (by assumption) rfl ?_|refine ZB (by assumption) rfl ?_|refine Z6 ?_|refine Z7 ?_|refine Z8 ?_)|((with_reducible refine ZM ?_ ?_);(focus rfl)));(conv=>whnf)))
    have hcl := ro.len
    refine HMust.mk (by simpa using hcl) ?_
    refine store_blk o5 (by simp [hcl]) (by simpa using ro.one) ?_
    intro h6 f6 z6 o6
    have o6' : BlkW h6 b5 33 cs := by
      have e : ([Value.int .i64 0, .int .i64 0, .int .i64 0, .slice none 0 0] : List Value).drop (0 + cs.toArray.toList.length) = [] := by simp [hcl]
      rw [e] at o6
      simpa using o6
    have x46 : Ext h4 h6 := x5.offNew f6 (by omega)
    have t6 := t4.ext x46
    have ro6 : OpRep h.size h6 l[i] cs := ro.agree (fun k hk => x46.2 k (by have := x4.1; omega))
    clear o5 o6
    ((conv=>whnf);repeat((first|(with_reducible first|refine Z1 ?_|refine Z2 ?_|refine Z3 ?_|refine Z4 ?_|refine Z5 ?_|refine Z9 (by assumption) rfl ?_|refine ZA (by assumption) rfl ?_|refine ZB (by assumption) rfl ?_|refine Z6 ?_|refine Z7 ?_|refine Z8 ?_)|((with_reducible refine ZM ?_ ?_);(focus rfl)));(conv=>whnf)))
    refine blk_ldN o6' hcl ?_
    ((conv=>whnf);repeat((first|(with_reducible first|refine Z1 ?_|refine Z2 ?_|refine Z3 ?_|refine Z4 ?_|refine Z5 ?_|refine Z9 (by assumption) rfl ?_|refine ZA (by assumption) rfl ?_|refine ZB (by assumption) rfl ?_|refine Z6 ?_|refine Z7 ?_|refine Z8 ?_)|((with_reducible refine ZM ?_ ?_);(focus rfl)));(conv=>whnf)))
    refine HCall.mk ((do_spec t6 (by omega) ro6).mono ?_)
    rintro e h7 ⟨rfl, t7, f7⟩
    ((conv=>whnf);repeat((first|(with_reducible first|refine Z1 ?_|refine Z2 ?_|refine Z3 ?_|refine Z4 ?_|refine Z5 ?_|refine Z9 (by assumption) rfl ?_|refine ZA (by assumption) rfl ?_|refine ZB (by assumption) rfl ?_|refine Z6 ?_|refine Z7 ?_|refine Z8 ?_)|((with_reducible refine ZM ?_ ?_);(focus rfl)));(conv=>whnf)))
    exact ⟨⟨i + 1, step dd l[i], rfl, by omega, t7, by have := step_acts dd l[i]; omega, t6.extO (x4.trans x46) f7⟩, hmu⟩
  · have hge := of_decide_eq_false hlt
    obtain rfl : i = l.length := by omega
    have sD := sepD t4.sep
    have sR := sepR t4.sep
    ((conv=>whnf);repeat((first|(with_reducible first|refine Z1 ?_|refine Z2 ?_|refine Z3 ?_|refine Z4 ?_|refine Z5 ?_|refine Z9 (by assumption) rfl ?_|refine ZA (by assumption) rfl ?_|refine ZB (by assumption) rfl ?_|refine Z6 ?_|refine Z7 ?_|refine Z8 ?_)|((with_reducible refine ZM ?_ ?_);(focus rfl)));(conv=>whnf)))
    refine HCall.mk ((on_spec t4.d1).mono ?_)
    rintro e h5 ⟨rfl, d5, f5⟩
    ((conv=>whnf);repeat((first|(with_reducible first|refine Z1 ?_|refine Z2 ?_|refine Z3 ?_|refine Z4 ?_|refine Z5 ?_|refine Z9 (by assumption) rfl ?_|refine ZA (by assumption) rfl ?_|refine ZB (by assumption) rfl ?_|refine Z6 ?_|refine Z7 ?_|refine Z8 ?_)|((with_reducible refine ZM ?_ ?_);(focus rfl)));(conv=>whnf)))
    refine HCall.mk ((ron_spec (t4.r1.offS f5 sD.1 sD.2.1 sD.2.2)).mono ?_)
    rintro e h6 ⟨rfl, r6, f6⟩
    have t6 : Two h6 h.size b rf rw b' fb wb dd.on := ⟨d5.offS f6 sR.1 sR.2.1 sR.2.2, r6, t4.sep, t4.lo⟩
    have hao : dd.on.acts ≤ 200 := by
      have : dd.on.acts = dd.acts := by unfold DK.on; split <;> rfl
      omega
    have x6 : Ext h h6 := t4.extO x4 ((wideD f5).trans (wideR f6))
    ((conv=>whnf);repeat((first|(with_reducible first|refine Z1 ?_|refine Z2 ?_|refine Z3 ?_|refine Z4 ?_|refine Z5 ?_|refine Z9 (by assumption) rfl ?_|refine ZA (by assumption) rfl ?_|refine ZB (by assumption) rfl ?_|refine Z6 ?_|refine Z7 ?_|refine Z8 ?_)|((with_reducible refine ZM ?_ ?_);(focus rfl)));(conv=>whnf)))
    refine HCall.mk ((rsectors_spec t6.r1).mono ?_)
    rintro e h6 ⟨rfl, rfl⟩
    have hmm := t6.d1.ok.m2
    ((conv=>whnf);repeat((first|(with_reducible first|refine Z1 ?_|refine Z2 ?_|refine Z3 ?_|refine Z4 ?_|refine Z5 ?_|refine Z9 (by assumption) rfl ?_|refine ZA (by assumption) rfl ?_|refine ZB (by assumption) rfl ?_|refine Z6 ?_|refine Z7 ?_|refine Z8 ?_)|((with_reducible refine ZM ?_ ?_);(focus rfl)));(conv=>whnf)))
    refine loop_rule [70] (fun vs h' => ∃ (i : Nat), vs = [.int .i64 i] ∧ i ≤ dd.on.many ∧ Two h' h.size b rf rw b' fb wb dd.on ∧ Ext h h')
      (fun vs _ => match vs with | [.int _ i] => dd.on.many - i.toNat | _ => 0) rfl ?_ ?_
    · exact ⟨0, rfl, by omega, t6, x6⟩
    intro u h7 v70
    rintro ⟨i, e, hi, t7, x7⟩
    cases e
    ((conv=>whnf);repeat((first|(with_reducible first|refine Z1 ?_|refine Z2 ?_|refine Z3 ?_|refine Z4 ?_|refine Z5 ?_|refine Z9 (by assumption) rfl ?_|refine ZA (by assumption) rfl ?_|refine ZB (by assumption) rfl ?_|refine Z6 ?_|refine Z7 ?_|refine Z8 ?_)|((with_reducible refine ZM ?_ ?_);(focus rfl)));(conv=>whnf)))
    refine HIf.mk (fun hlt2 => ?_) (fun hlt2 => ?_)
    · have hi1 : i < dd.on.many := by have := of_decide_eq_true hlt2; omega
      have hmu : dd.on.many - ((i : Int) + 1).toNat < dd.on.many - ((i : Int)).toNat := by omega
      have ro : OpRep h.size h7 ⟨3, i, 0, []⟩ [.int .i64 3, .int .i64 i, .int .i64 0, .slice none 0 0] := ⟨show (-9223372036854775808 : Int) ≤ 0 ∧ (0 : Int) ≤ 9223372036854775807 by decide, by simp, none, 0, rfl, fun _ _ => Sl.nil _ _⟩
      ((conv=>whnf);repeat((first|(with_reducible first|refine Z1 ?_|refine Z2 ?_|refine Z3 ?_|refine Z4 ?_|refine Z5 ?_|refine Z9 (by assumption) rfl ?_|refine ZA (by assumption) rfl ?_|refine ZB (by assumption) rfl ?_|refine Z6 ?_|refine Z7 ?_|refine Z8 ?_)|((with_reducible refine ZM ?_ ?_);(focus rfl)));(conv=>whnf)))
      refine HCall.mk ((do_spec t7 (by omega) ro).mono ?_)
      rintro e h8 ⟨rfl, t8, f8⟩
      have es3 : step dd.on ⟨3, i, 0, []⟩ = dd.on := by unfold step; rw [if_neg (show ¬ ((3 : Int) = 0 ∨ (3 : Int) = 1) by decide), if_neg (show ¬ (3 : Int) = 2 by decide), if_pos rfl]
      rw [es3] at t8
      ((conv=>whnf);repeat((first|(with_reducible first|refine Z1 ?_|refine Z2 ?_|refine Z3 ?_|refine Z4 ?_|refine Z5 ?_|refine Z9 (by assumption) rfl ?_|refine ZA (by assumption) rfl ?_|refine ZB (by assumption) rfl ?_|refine Z6 ?_|refine Z7 ?_|refine Z8 ?_)|((with_reducible refine ZM ?_ ?_);(focus rfl)));(conv=>whnf)))
      exact ⟨⟨i + 1, rfl, by omega, t8, t7.extO x7 f8⟩, hmu⟩
    · ((conv=>whnf);repeat((first|(with_reducible first|refine Z1 ?_|refine Z2 ?_|refine Z3 ?_|refine Z4 ?_|refine Z5 ?_|refine Z9 (by assumption) rfl ?_|refine ZA (by assumption) rfl ?_|refine ZB (by assumption) rfl ?_|refine Z6 ?_|refine Z7 ?_|refine Z8 ?_)|((with_reducible refine ZM ?_ ?_);(focus rfl)));(conv=>whnf)))
      exact ⟨rfl, x7⟩

end Go.Proofs.Ytlbmhpjefpdekaa.Hc
