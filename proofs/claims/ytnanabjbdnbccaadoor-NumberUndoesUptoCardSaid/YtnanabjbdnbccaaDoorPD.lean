/- What is done is undone. -/
import Derived.Test.YtnanabjbdnbccaaDoorPC
set_option linter.unusedVariables false
set_option linter.unusedSimpArgs false
namespace Go.Proofs.YtnanabjbdnbccaaDoor.Hc
open Go Go.H Go.Proofs
set_option maxRecDepth 100000
set_option maxHeartbeats 4000000

theorem sf_abs {n : Int} : sfI n = true ↔ n.natAbs ≤ 9007199254740991 := by rw [sf_iff]; omega
theorem undo_add {a b s : Int} (ha : sfI a = true) (hb : sfI b = true) (h : nAdd a b = some s) : nSub s b = some a := by
  obtain ⟨_, _, hs, e⟩ := nAdd_some h
  have : s - b = a := by omega
  unfold nSub
  rw [this, if_pos ⟨hs, hb, ha⟩]
theorem undo_mul {a b p : Int} (ha : sfI a = true) (hb : sfI b = true) (h0 : b ≠ 0) (h : nMul a b = some p) : nDiv p b = some a := by
  obtain ⟨_, _, hs, e⟩ := nMul_some h
  have h1 : p.tmod b = 0 := by rw [e]; exact Int.mul_tmod_left _ _
  have h2 : p.tdiv b = a := by rw [e]; exact Int.mul_tdiv_cancel _ h0
  unfold nDiv
  rw [h2, if_pos ⟨hs, hb, h0, h1⟩]
theorem undo_mod {a b : Int} (ha : sfI a = true) (hb : sfI b = true) (h0 : b ≠ 0) : nMod a b = some (a.tmod b) ∧ nSub a (a.tmod b) = some (b * a.tdiv b) ∧ nDiv (b * a.tdiv b) b = some (a.tdiv b) ∧ nMul (a.tdiv b) b = some (b * a.tdiv b) := by
  have hd : a - a.tmod b = b * a.tdiv b := by have := Int.mul_tdiv_add_tmod a b; omega
  have sk : sfI (a.tdiv b) = true := by
    rw [sf_abs] at *
    rw [Int.natAbs_tdiv]
    exact Nat.le_trans (Nat.div_le_self _ _) ha
  have sd : sfI (b * a.tdiv b) = true := by
    rw [sf_abs] at *
    rw [Int.natAbs_mul, Int.natAbs_tdiv]
    exact Nat.le_trans (Nat.mul_div_le _ _) ha
  have sm : sfI (a.tmod b) = true := by
    rw [sf_abs] at *
    rw [Int.natAbs_tmod]
    exact Nat.le_trans (Nat.mod_le _ _) ha
  refine ⟨?_, ?_, ?_, ?_⟩
  · unfold nMod; rw [if_pos ⟨ha, hb, h0⟩]
  · unfold nSub; rw [hd, if_pos ⟨ha, sm, sd⟩]
  · unfold nDiv
    rw [Int.mul_tdiv_cancel_left _ h0, if_pos ⟨sd, hb, h0, Int.mul_tmod_right _ _⟩]
  · unfold nMul; rw [Int.mul_comm, if_pos ⟨sk, hb, sd⟩]
theorem mod_sign {a b : Int} (h : a.tmod b ≠ 0) : decide (a.tmod b < 0) = decide (a < 0) := by
  rw [decide_eq_decide]
  rcases Int.lt_or_le a 0 with k | k
  · have h1 : 0 ≤ (-a).tmod b := Int.tmod_nonneg _ (by omega)
    rw [Int.neg_tmod] at h1
    omega
  · have := Int.tmod_nonneg b k
    omega

theorem numberUndoes_spec (a : Int) (wa : (Lit.int .i64 a).wf = true) (b : Int) (wb : (Lit.int .i64 b).wf = true) {h : Heap} (g : Glob h) :
    HCalls Tryd.prog 7 #[.int .i64 a, .int .i64 b] h fun e h' => e = .returned (.bool true) ∧ Ext h h' := by
  refine c7 (by simp) ?_
  ((conv=>whnf);repeat((first|(with_reducible first|refine Z1 ?_|refine Z2 ?_|refine Z3 ?_|refine Z4 ?_|refine Z5 ?_|refine Z9 (by assumption) rfl ?_|refine ZA (by assumption) rfl ?_|refine ZB (by assumption) rfl ?_|refine Z6 ?_|refine Z7 ?_|refine Z8 ?_)|((with_reducible refine ZM ?_ ?_);(focus rfl)));(conv=>whnf)))
  refine HCall.mk ((live_spec h g).mono ?_)
  rintro e h1 ⟨rfl, x1⟩
  ((conv=>whnf);repeat((first|(with_reducible first|refine Z1 ?_|refine Z2 ?_|refine Z3 ?_|refine Z4 ?_|refine Z5 ?_|refine Z9 (by assumption) rfl ?_|refine ZA (by assumption) rfl ?_|refine ZB (by assumption) rfl ?_|refine Z6 ?_|refine Z7 ?_|refine Z8 ?_)|((with_reducible refine ZM ?_ ?_);(focus rfl)));(conv=>whnf)))
  refine HCall.mk ((checkI_spec a _).mono ?_)
  rintro e h1 ⟨rfl, rfl⟩
  cases ha : sfI a
  · rw [show nCheck a = 100 by unfold nCheck; rw [ha]; rfl]
    ((conv=>whnf);repeat((first|(with_reducible first|refine Z1 ?_|refine Z2 ?_|refine Z3 ?_|refine Z4 ?_|refine Z5 ?_|refine Z9 (by assumption) rfl ?_|refine ZA (by assumption) rfl ?_|refine ZB (by assumption) rfl ?_|refine Z6 ?_|refine Z7 ?_|refine Z8 ?_)|((with_reducible refine ZM ?_ ?_);(focus rfl)));(conv=>whnf)))
    exact ⟨rfl, x1⟩
  rw [show nCheck a = 0 by unfold nCheck; rw [ha]; rfl]
  ((conv=>whnf);repeat((first|(with_reducible first|refine Z1 ?_|refine Z2 ?_|refine Z3 ?_|refine Z4 ?_|refine Z5 ?_|refine Z9 (by assumption) rfl ?_|refine ZA (by assumption) rfl ?_|refine ZB (by assumption) rfl ?_|refine Z6 ?_|refine Z7 ?_|refine Z8 ?_)|((with_reducible refine ZM ?_ ?_);(focus rfl)));(conv=>whnf)))
  refine HCall.mk ((checkI_spec b _).mono ?_)
  rintro e h1 ⟨rfl, rfl⟩
  cases hb : sfI b
  · rw [show nCheck b = 100 by unfold nCheck; rw [hb]; rfl]
    ((conv=>whnf);repeat((first|(with_reducible first|refine Z1 ?_|refine Z2 ?_|refine Z3 ?_|refine Z4 ?_|refine Z5 ?_|refine Z9 (by assumption) rfl ?_|refine ZA (by assumption) rfl ?_|refine ZB (by assumption) rfl ?_|refine Z6 ?_|refine Z7 ?_|refine Z8 ?_)|((with_reducible refine ZM ?_ ?_);(focus rfl)));(conv=>whnf)))
    exact ⟨rfl, x1⟩
  rw [show nCheck b = 0 by unfold nCheck; rw [hb]; rfl]
  have qa : (a == a) = true := beq_self_eq_true _
  have qa2 : (a != a) = false := by rw [bne, qa]; rfl
  ((conv=>whnf);repeat((first|(with_reducible first|refine Z2 ?_|refine Z3 ?_|refine Z4 ?_|refine Z5 ?_|refine Z9 (by assumption) rfl ?_|refine ZA (by assumption) rfl ?_|refine ZB (by assumption) rfl ?_|refine Z6 ?_|refine Z7 ?_|refine Z8 ?_)|((with_reducible refine ZM ?_ ?_);(focus rfl)));(conv=>whnf)))
  refine cut_rule [] (fun vs h' => vs = [] ∧ h' = h1) rfl ?_ ?_
  · ((conv=>whnf);repeat((first|(with_reducible first|refine Z1 ?_|refine Z2 ?_|refine Z3 ?_|refine Z4 ?_|refine Z5 ?_|refine Z9 (by assumption) rfl ?_|refine ZA (by assumption) rfl ?_|refine ZB (by assumption) rfl ?_|refine Z6 ?_|refine Z7 ?_|refine Z8 ?_)|((with_reducible refine ZM ?_ ?_);(focus rfl)));(conv=>whnf)))
    refine HCall.mk ((add_spec a b _).mono ?_)
    rintro e h1 ⟨rfl, rfl⟩
    rcases hs : nAdd a b with _ | s
    · ((conv=>whnf);repeat((first|(with_reducible first|refine Z1 ?_|refine Z2 ?_|refine Z3 ?_|refine Z4 ?_|refine Z5 ?_|refine Z9 (by assumption) rfl ?_|refine ZA (by assumption) rfl ?_|refine ZB (by assumption) rfl ?_|refine Z6 ?_|refine Z7 ?_|refine Z8 ?_)|((with_reducible refine ZM ?_ ?_);(focus rfl)));(conv=>whnf)))
      exact ⟨rfl, rfl⟩
    · ((conv=>whnf);repeat((first|(with_reducible first|refine Z1 ?_|refine Z2 ?_|refine Z3 ?_|refine Z4 ?_|refine Z5 ?_|refine Z9 (by assumption) rfl ?_|refine ZA (by assumption) rfl ?_|refine ZB (by assumption) rfl ?_|refine Z6 ?_|refine Z7 ?_|refine Z8 ?_)|((with_reducible refine ZM ?_ ?_);(focus rfl)));(conv=>whnf)))
      refine HCall.mk ((sub_spec s b _).mono ?_)
      rintro e h1 ⟨rfl, rfl⟩
      rw [undo_add ha hb hs]
      ((conv=>whnf);repeat((first|(with_reducible first|refine Z1 ?_|refine Z2 ?_|refine Z3 ?_|refine Z4 ?_|refine Z5 ?_|refine Z9 (by assumption) rfl ?_|refine ZA (by assumption) rfl ?_|refine ZB (by assumption) rfl ?_|refine Z6 ?_|refine Z7 ?_|refine Z8 ?_)|((with_reducible refine ZM ?_ ?_);(focus rfl)));(conv=>whnf)))
      exact ⟨rfl, rfl⟩
  rintro u h1 ⟨_, rfl⟩
  ((conv=>whnf);repeat((first|(with_reducible first|refine Z2 ?_|refine Z3 ?_|refine Z4 ?_|refine Z5 ?_|refine Z9 (by assumption) rfl ?_|refine ZA (by assumption) rfl ?_|refine ZB (by assumption) rfl ?_|refine Z6 ?_|refine Z7 ?_|refine Z8 ?_)|((with_reducible refine ZM ?_ ?_);(focus rfl)));(conv=>whnf)))
  refine cut_rule [] (fun vs h' => vs = [] ∧ h' = h1) rfl ?_ ?_
  · ((conv=>whnf);repeat((first|(with_reducible first|refine Z1 ?_|refine Z2 ?_|refine Z3 ?_|refine Z4 ?_|refine Z5 ?_|refine Z9 (by assumption) rfl ?_|refine ZA (by assumption) rfl ?_|refine ZB (by assumption) rfl ?_|refine Z6 ?_|refine Z7 ?_|refine Z8 ?_)|((with_reducible refine ZM ?_ ?_);(focus rfl)));(conv=>whnf)))
    refine HCall.mk ((mul_spec a b _).mono ?_)
    rintro e h1 ⟨rfl, rfl⟩
    rcases hs : nMul a b with _ | s
    · ((conv=>whnf);repeat((first|(with_reducible first|refine Z1 ?_|refine Z2 ?_|refine Z3 ?_|refine Z4 ?_|refine Z5 ?_|refine Z9 (by assumption) rfl ?_|refine ZA (by assumption) rfl ?_|refine ZB (by assumption) rfl ?_|refine Z6 ?_|refine Z7 ?_|refine Z8 ?_)|((with_reducible refine ZM ?_ ?_);(focus rfl)));(conv=>whnf)))
      exact ⟨rfl, rfl⟩
    · by_cases h0 : b = 0
      · have q0 : (b == 0) = true := by rw [h0]; rfl
        have q1 : (b != 0) = false := by rw [bne, q0]; rfl
        ((conv=>whnf);repeat((first|(with_reducible first|refine Z1 ?_|refine Z2 ?_|refine Z3 ?_|refine Z4 ?_|refine Z5 ?_|refine Z9 (by assumption) rfl ?_|refine ZA (by assumption) rfl ?_|refine ZB (by assumption) rfl ?_|refine Z6 ?_|refine Z7 ?_|refine Z8 ?_)|((with_reducible refine ZM ?_ ?_);(focus rfl)));(conv=>whnf)))
        exact ⟨rfl, rfl⟩
      · have q0 : (b == 0) = false := by rw [beq_eq_false_iff_ne]; exact h0
        have q1 : (b != 0) = true := by rw [bne, q0]; rfl
        ((conv=>whnf);repeat((first|(with_reducible first|refine Z1 ?_|refine Z2 ?_|refine Z3 ?_|refine Z4 ?_|refine Z5 ?_|refine Z9 (by assumption) rfl ?_|refine ZA (by assumption) rfl ?_|refine ZB (by assumption) rfl ?_|refine Z6 ?_|refine Z7 ?_|refine Z8 ?_)|((with_reducible refine ZM ?_ ?_);(focus rfl)));(conv=>whnf)))
        refine HCall.mk ((div_spec s b _).mono ?_)
        rintro e h1 ⟨rfl, rfl⟩
        rw [undo_mul ha hb h0 hs]
        ((conv=>whnf);repeat((first|(with_reducible first|refine Z1 ?_|refine Z2 ?_|refine Z3 ?_|refine Z4 ?_|refine Z5 ?_|refine Z9 (by assumption) rfl ?_|refine ZA (by assumption) rfl ?_|refine ZB (by assumption) rfl ?_|refine Z6 ?_|refine Z7 ?_|refine Z8 ?_)|((with_reducible refine ZM ?_ ?_);(focus rfl)));(conv=>whnf)))
        exact ⟨rfl, rfl⟩
  rintro u h1 ⟨_, rfl⟩
  ((conv=>whnf);repeat((first|(with_reducible first|refine Z1 ?_|refine Z2 ?_|refine Z3 ?_|refine Z4 ?_|refine Z5 ?_|refine Z9 (by assumption) rfl ?_|refine ZA (by assumption) rfl ?_|refine ZB (by assumption) rfl ?_|refine Z6 ?_|refine Z7 ?_|refine Z8 ?_)|((with_reducible refine ZM ?_ ?_);(focus rfl)));(conv=>whnf)))
  refine HCall.mk ((mod_spec a b _).mono ?_)
  rintro e h1 ⟨rfl, rfl⟩
  by_cases h0 : b = 0
  · have q0 : (b == 0) = true := by rw [h0]; rfl
    rw [show nMod a b = none by unfold nMod; rw [if_neg (fun k => k.2.2 h0)]]
    ((conv=>whnf);repeat((first|(with_reducible first|refine Z1 ?_|refine Z2 ?_|refine Z3 ?_|refine Z4 ?_|refine Z5 ?_|refine Z9 (by assumption) rfl ?_|refine ZA (by assumption) rfl ?_|refine ZB (by assumption) rfl ?_|refine Z6 ?_|refine Z7 ?_|refine Z8 ?_)|((with_reducible refine ZM ?_ ?_);(focus rfl)));(conv=>whnf)))
    exact ⟨rfl, x1⟩
  have q0 : (b == 0) = false := by rw [beq_eq_false_iff_ne]; exact h0
  obtain ⟨e1, e2, e3, e4⟩ := undo_mod ha hb h0
  have hsg := mod_sign (a := a) (b := b)
  rw [e1]
  generalize a.tmod b = m at *
  generalize b * a.tdiv b = d at *
  generalize a.tdiv b = k at *
  ((conv=>whnf);repeat((first|(with_reducible first|refine Z1 ?_|refine Z2 ?_|refine Z3 ?_|refine Z4 ?_|refine Z5 ?_|refine Z9 (by assumption) rfl ?_|refine ZA (by assumption) rfl ?_|refine ZB (by assumption) rfl ?_|refine Z6 ?_|refine Z7 ?_|refine Z8 ?_)|((with_reducible refine ZM ?_ ?_);(focus rfl)));(conv=>whnf)))
  refine HCall.mk ((sub_spec a m _).mono ?_)
  rintro e h1 ⟨rfl, rfl⟩
  rw [e2]
  ((conv=>whnf);repeat((first|(with_reducible first|refine Z1 ?_|refine Z2 ?_|refine Z3 ?_|refine Z4 ?_|refine Z5 ?_|refine Z9 (by assumption) rfl ?_|refine ZA (by assumption) rfl ?_|refine ZB (by assumption) rfl ?_|refine Z6 ?_|refine Z7 ?_|refine Z8 ?_)|((with_reducible refine ZM ?_ ?_);(focus rfl)));(conv=>whnf)))
  refine HCall.mk ((div_spec d b _).mono ?_)
  rintro e h1 ⟨rfl, rfl⟩
  rw [e3]
  ((conv=>whnf);repeat((first|(with_reducible first|refine Z1 ?_|refine Z2 ?_|refine Z3 ?_|refine Z4 ?_|refine Z5 ?_|refine Z9 (by assumption) rfl ?_|refine ZA (by assumption) rfl ?_|refine ZB (by assumption) rfl ?_|refine Z6 ?_|refine Z7 ?_|refine Z8 ?_)|((with_reducible refine ZM ?_ ?_);(focus rfl)));(conv=>whnf)))
  refine HCall.mk ((mul_spec k b _).mono ?_)
  rintro e h1 ⟨rfl, rfl⟩
  rw [e4]
  have qd : (d == d) = true := beq_self_eq_true _
  by_cases hm : m = 0
  · have qm : (m == 0) = true := by rw [hm]; rfl
    ((conv=>whnf);repeat((first|(with_reducible first|refine Z1 ?_|refine Z2 ?_|refine Z3 ?_|refine Z4 ?_|refine Z5 ?_|refine Z9 (by assumption) rfl ?_|refine ZA (by assumption) rfl ?_|refine ZB (by assumption) rfl ?_|refine Z6 ?_|refine Z7 ?_|refine Z8 ?_)|((with_reducible refine ZM ?_ ?_);(focus rfl)));(conv=>whnf)))
    exact ⟨rfl, x1⟩
  · have qm : (m == 0) = false := by rw [beq_eq_false_iff_ne]; exact hm
    have hq := hsg hm
    ((conv=>whnf);repeat((first|(with_reducible first|refine Z1 ?_|refine Z2 ?_|refine Z3 ?_|refine Z4 ?_|refine Z5 ?_|refine Z9 (by assumption) rfl ?_|refine ZA (by assumption) rfl ?_|refine ZB (by assumption) rfl ?_|refine Z6 ?_|refine Z7 ?_|refine Z8 ?_)|((with_reducible refine ZM ?_ ?_);(focus rfl)));(conv=>whnf)))
    exact ⟨by show Ending.returned (.bool (decide (m < 0) == decide (a < 0))) = _; rw [hq, beq_self_eq_true], x1⟩

end Go.Proofs.YtnanabjbdnbccaaDoor.Hc
