/- The reference's Read, its pieces. -/
import Derived.Test.YtnanabjbdnbccaaDoorPE
set_option linter.unusedVariables false
set_option linter.unusedSimpArgs false
namespace Go.Proofs.YtnanabjbdnbccaaDoor.Hc
open Go Go.H Go.Proofs
set_option maxRecDepth 100000
set_option maxHeartbeats 4000000

theorem rcheckU_spec (l : List UInt8) (hl : l.length ≤ 2097152) (h : Heap) : HCalls Tryd.prog 34 #[.string ⟨l.toArray⟩] h fun e h' => e = .returned (.bool (decide (l.length % 2 = 0))) ∧ h' = h := by
  have hs : (⟨l.toArray⟩ : ByteArray).size = l.length := rfl
  have e2 : ((l.length : Nat) : Int).tmod 2 = ((l.length % 2 : Nat) : Int) := (Int.ofNat_tmod l.length 2).symm
  refine c34 (by simp) ?_
  ((conv=>whnf);repeat((first|(with_reducible first|refine Z1 ?_|refine Z2 ?_|refine Z3 ?_|refine Z4 ?_|refine Z5 ?_|refine Z9 (by assumption) rfl ?_|refine ZA (by assumption) rfl ?_|refine ZB (by assumption) rfl ?_|refine Z6 ?_|refine Z7 ?_|refine Z8 ?_)|((with_reducible refine ZM ?_ ?_);(focus rfl)));(conv=>whnf)))
  refine ⟨?_, rfl⟩
  show Ending.returned (.bool (((l.length : Nat) : Int).tmod 2 == 0)) = _
  rw [e2]
  by_cases h : l.length % 2 = 0
  · rw [h]; rfl
  · rw [decide_eq_false h]
    congr 2
    rw [beq_eq_false_iff_ne]; omega
theorem rblank_spec (n : Nat) (h : Heap) : HCalls Tryd.prog 36 #[.int .i64 n] h fun e h' => e = .returned (.bool (blankN n)) ∧ h' = h := by
  refine c36 (by simp) ?_
  have fin : ∀ b : Bool, (b = true ↔ (n = 32 ∨ n = 160 ∨ n = 8232 ∨ n = 8233 ∨ n = 65279 ∨ (9 ≤ n ∧ n ≤ 13))) → b = blankN n := by
    intro b hb; rw [Bool.eq_iff_iff, hb, blankN_iff]
  ((conv=>whnf);repeat'(first|((with_reducible refine ZM ?_ ?_);(focus rfl);(conv=>whnf))|((with_reducible first|refine Z1 ?_|refine Z2 ?_|refine Z3 ?_|refine Z4 ?_|refine Z9 (by assumption) rfl ?_|refine Z5 ?_);(conv=>whnf))|((with_reducible refine HIf.mk (fun q=> ?_) (fun q=> ?_))<;>(conv=>whnf))))
  all_goals
    refine ⟨?_, rfl⟩
    refine congrArg (fun b => Ending.returned (.bool b)) (fin _ ?_)
    simp only [decide_eq_true_eq, decide_eq_false_iff_not, beq_iff_eq, beq_eq_false_iff_ne, Bool.false_eq_true, ne_eq, true_iff, false_iff] at *
    omega
/-- A unit's value as a digit. -/
def rval (n : Nat) : Nat := if 48 ≤ n ∧ n ≤ 57 then n - 48 else if 97 ≤ n ∧ n ≤ 102 then n - 97 + 10 else if 65 ≤ n ∧ n ≤ 70 then n - 65 + 10 else 99
theorem rval_spec (n : Nat) (hn : n < 65536) (h : Heap) : HCalls Tryd.prog 37 #[.int .i64 n] h fun e h' => e = .returned (.int .i64 (rval n : Nat)) ∧ h' = h := by
  refine c37 (by simp) ?_
  have fin : ∀ z : Int, z = (rval n : Nat) → Ending.returned (.int .i64 z) = .returned (.int .i64 (rval n : Nat)) := fun z hz => by rw [hz]
  unfold rval at fin ⊢
  ((conv=>whnf);repeat'(first|((with_reducible refine ZM ?_ ?_);(focus rfl);(conv=>whnf))|((with_reducible first|refine Z1 ?_|refine Z2 ?_|refine Z3 ?_|refine Z4 ?_|refine Z9 (by assumption) rfl ?_|refine Z5 ?_);(conv=>whnf))|((with_reducible refine HIf.mk (fun q=> ?_) (fun q=> ?_))<;>(conv=>whnf))))
  all_goals
    refine ⟨fin _ ?_, rfl⟩
    simp only [decide_eq_true_eq, decide_eq_false_iff_not, beq_iff_eq, beq_eq_false_iff_ne, Bool.false_eq_true, ne_eq, true_iff, false_iff] at *
    split
    · omega
    · split
      · omega
      · split <;> omega

theorem rlist_spec (l : List UInt8) (hl : l.length ≤ 2097152) (h : Heap) : HCalls Tryd.prog 35 #[.string ⟨l.toArray⟩] h fun e h' =>
    ∃ a c, e = .returned (.slice a (ulist l).length c) ∧ Sl h' 1 a (ulist l).length c ((ulist l).map natV) ∧ Ext h h' := by
  have hs : (⟨l.toArray⟩ : ByteArray).size = l.length := rfl
  have hll := ulist_len l
  refine c35 (by simp) ?_
  ((conv=>whnf);repeat((first|(with_reducible first|refine Z1 ?_|refine Z2 ?_|refine Z3 ?_|refine Z4 ?_|refine Z5 ?_|refine Z9 (by assumption) rfl ?_|refine ZA (by assumption) rfl ?_|refine ZB (by assumption) rfl ?_|refine Z6 ?_|refine Z7 ?_|refine Z8 ?_)|((with_reducible refine ZM ?_ ?_);(focus rfl)));(conv=>whnf)))
  refine loop_rule [3, 4] (fun vs h' => ∃ (i : Nat) (a : Option Addr) (c : Nat), vs = [.slice a i c, .int .i64 (2 * i : Nat)] ∧ i ≤ (ulist l).length ∧ Own h' h.size 3 1 a i c (((ulist l).take i).map natV) ∧ Ext h h')
    (fun vs _ => match vs with | [_, .int _ i] => l.length - i.toNat | _ => 0) rfl ?_ ?_
  · exact ⟨0, none, 0, rfl, by omega, Own.nil _ _ _ _, Ext.refl _⟩
  intro u h2 v3 v4
  rintro ⟨i, a, c, e, hi, w2, x2⟩
  cases e
  ((conv=>whnf);repeat((first|(with_reducible first|refine Z1 ?_|refine Z2 ?_|refine Z3 ?_|refine Z4 ?_|refine Z5 ?_|refine Z9 (by assumption) rfl ?_|refine ZA (by assumption) rfl ?_|refine ZB (by assumption) rfl ?_|refine Z6 ?_|refine Z7 ?_|refine Z8 ?_)|((with_reducible refine ZM ?_ ?_);(focus rfl)));(conv=>whnf)))
  refine HIf.mk (fun hlt => ?_) (fun hlt => ?_)
  · have hi1 : i < (ulist l).length := by have := of_decide_eq_true hlt; omega
    have h1 : 2 * i + 1 < l.length := by omega
    have h0 : 2 * i < l.length := by omega
    have eg := ulist_get l i hi1 h1
    have y0 := idx_txt l h0
    have y1 := idx_txt l h1
    have b0 := (l[2 * i]).toNat_lt
    have b1 := (l[2 * i + 1]).toNat_lt
    ((conv=>whnf);repeat((first|(with_reducible first|refine Z1 ?_|refine Z2 ?_|refine Z3 ?_|refine Z4 ?_|refine Z5 ?_|refine Z9 (by assumption) rfl ?_|refine ZA (by assumption) rfl ?_|refine ZB (by assumption) rfl ?_|refine Z6 ?_|refine Z7 ?_|refine Z8 ?_)|((with_reducible refine ZM ?_ ?_);(focus rfl)));(conv=>whnf)))
    refine HIdx.mk (2 * i) rfl h0 ?_
    rw [y0]
    ((conv=>whnf);repeat((first|(with_reducible first|refine Z1 ?_|refine Z2 ?_|refine Z3 ?_|refine Z4 ?_|refine Z5 ?_|refine Z9 (by assumption) rfl ?_|refine ZA (by assumption) rfl ?_|refine ZB (by assumption) rfl ?_|refine Z6 ?_|refine Z7 ?_|refine Z8 ?_)|((with_reducible refine ZM ?_ ?_);(focus rfl)));(conv=>whnf)))
    refine HIdx.mk (2 * i + 1) (by omega) h1 ?_
    rw [y1]
    ((conv=>whnf);repeat((first|(with_reducible first|refine Z1 ?_|refine Z2 ?_|refine Z3 ?_|refine Z4 ?_|refine Z5 ?_|refine Z9 (by assumption) rfl ?_|refine ZA (by assumption) rfl ?_|refine ZB (by assumption) rfl ?_|refine Z6 ?_|refine Z7 ?_|refine Z8 ?_)|((with_reducible refine ZM ?_ ?_);(focus rfl)));(conv=>whnf)))
    refine new_own (e := 3) 1 1 [natV (ulist l)[i]] (by rw [eg]; unfold natV; rw [show ((l[2 * i].toNat * 256 + l[2 * i + 1].toNat : Nat) : Int) = (l[2 * i].toNat : Int) * 256 + (l[2 * i + 1].toNat : Int) by omega]) rfl ?_
    intro h3 b3 w3 x3 z3 hb3
    ((conv=>whnf);repeat((first|(with_reducible first|refine Z1 ?_|refine Z2 ?_|refine Z3 ?_|refine Z4 ?_|refine Z5 ?_|refine Z9 (by assumption) rfl ?_|refine ZA (by assumption) rfl ?_|refine ZB (by assumption) rfl ?_|refine Z6 ?_|refine Z7 ?_|refine Z8 ?_)|((with_reducible refine ZM ?_ ?_);(focus rfl)));(conv=>whnf)))
    refine w3.sl.cells ?_
    refine Own.grow (w2.ext x3) (by have := x2.1; have := x3.1; omega) rfl rfl (by intro v hv; simp only [List.mem_singleton] at hv; subst hv; rfl) (by omega) ?_
    intro h4 a4 c4 w4 g4
    have htk : (ulist l).take (i + 1) = (ulist l).take i ++ [(ulist l)[i]] := by rw [List.take_add_one, List.getElem?_eq_getElem hi1]; rfl
    have ew : ((ulist l).take i).map natV ++ [natV (ulist l)[i]] = ((ulist l).take (i + 1)).map natV := by rw [htk, List.map_append]; rfl
    rw [ew] at w4
    ((conv=>whnf);repeat((first|(with_reducible first|refine Z1 ?_|refine Z2 ?_|refine Z3 ?_|refine Z4 ?_|refine Z5 ?_|refine Z9 (by assumption) rfl ?_|refine ZA (by assumption) rfl ?_|refine ZB (by assumption) rfl ?_|refine Z6 ?_|refine Z7 ?_|refine Z8 ?_)|((with_reducible refine ZM ?_ ?_);(focus rfl)));(conv=>whnf)))
    refine ⟨⟨i + 1, a4, c4, ?_, by omega, w4, (x2.trans x3).keep (g4.kept (by have := x2.1; have := x3.1; omega) fun p ep => (w2.lt p ep).1)⟩, ?_⟩
    · rfl
    · show l.length - (((2 * i : Nat) : Int) + 2).toNat < l.length - ((2 * i : Nat) : Int).toNat
      omega
  have hge := of_decide_eq_false hlt
  obtain rfl : i = (ulist l).length := by omega
  rw [List.take_length] at w2
  ((conv=>whnf);repeat((first|(with_reducible first|refine Z1 ?_|refine Z2 ?_|refine Z3 ?_|refine Z4 ?_|refine Z5 ?_|refine Z9 (by assumption) rfl ?_|refine ZA (by assumption) rfl ?_|refine ZB (by assumption) rfl ?_|refine Z6 ?_|refine Z7 ?_|refine Z8 ?_)|((with_reducible refine ZM ?_ ?_);(focus rfl)));(conv=>whnf)))
  exact ⟨a, c, rfl, w2.sl, x2⟩

end Go.Proofs.YtnanabjbdnbccaaDoor.Hc
