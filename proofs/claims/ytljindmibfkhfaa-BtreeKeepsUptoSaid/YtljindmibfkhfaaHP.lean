/- The order of texts. -/
import Derived.Test.YtljindmibfkhfaaHK
set_option linter.unusedVariables false
set_option linter.unusedSimpArgs false
namespace Go.H

theorem blk_ld0 {h : Heap} {b e : Nat} {cs : List Value} {v : Value} {K : Value → Prop} (x : BlkW h b e cs) (hv : cs[0]? = some v) (k : K v) : HLoad h ⟨b, 0, none⟩ K :=
  ⟨v, by rw [x.blk.cell]; exact hv, k⟩
/-! ### The rules of the run step, under short names -/
theorem Z1 {x y : APost → AF → Heap → Prop} {K : APost} {a : AF} {h : Heap} (k : x (thenA (y K) K) a h) : HSeq x y K a h := ⟨k⟩
theorem Z2 {c K : Prop} (k : K) (h : c := by decide) : HMust c K := ⟨h, k⟩
theorem Z3 {b : Bool} {T F : Prop} (k : T) (h : b = true := by first | rfl | assumption | decide) : HIf b T F := HIf.yes h k
theorem Z4 {b : Bool} {T F : Prop} (k : F) (h : b = false := by first | rfl | assumption | decide) : HIf b T F := HIf.no h k
theorem Z5 {n : Int} {K : Int → Prop} (k : K n) (h : -9223372036854775808 ≤ n ∧ n ≤ 9223372036854775807 := by omega) : HInt .i64 n K := ⟨n, wrap_i64 h, k⟩
theorem Z6 {n : Int} {K : Int → Prop} (k : K n) (h : 0 ≤ n ∧ n ≤ 18446744073709551615 := by omega) : HInt .u64 n K := ⟨n, wrap_u64 h, k⟩
theorem Z7 {n : Int} {K : Int → Prop} (k : K n) (h : 0 ≤ n ∧ n ≤ 255 := by omega) : HInt .u8 n K := ⟨n, wrap_u8 h, k⟩
theorem Z8 {n : Int} {K : Int → Prop} (k : K n) (h : 0 ≤ n ∧ n ≤ 4294967295 := by omega) : HInt .u32 n K := ⟨n, wrap_u32 h, k⟩
theorem Z9 {h : Heap} {b e o : Nat} {cs : List Value} {v : Value} {K : Value → Prop} (x : BlkW h b e cs) (hv : cs[o]? = some v) (k : K v) : HLoad h ((⟨b, 0, none⟩ : Addr).add o) K := blk_ld x hv k
theorem ZA {h : Heap} {b e : Nat} {cs : List Value} {v : Value} {K : Value → Prop} (x : BlkW h b e cs) (hv : cs[0]? = some v) (k : K v) : HLoad h ⟨b, 0, none⟩ K := blk_ld0 x hv k
theorem ZB {h : Heap} {b e n : Nat} {cs : List Value} {K : Value → Prop} (x : BlkW h b e cs) (hn : cs.length = n) (k : K (.agg cs.toArray)) : HLoadN h ⟨b, 0, none⟩ n K := blk_ldN x hn k
theorem ZM {c K : Prop} (h : c) (k : K) : HMust c K := ⟨h, k⟩
theorem bl_irrefl : ∀ x : List UInt8, Op.bytesLess x x = false
  | [] => rfl
  | a :: x => by simp [Op.bytesLess, bl_irrefl x]
theorem bl_trans : ∀ x y z : List UInt8, Op.bytesLess x y = true → Op.bytesLess y z = true → Op.bytesLess x z = true
  | x, y, [], h, k => by cases y <;> simp [Op.bytesLess] at k
  | [], y, c :: z, h, k => by simp [Op.bytesLess]
  | a :: x, [], c :: z, h, k => by simp [Op.bytesLess] at h
  | a :: x, b :: y, c :: z, h, k => by
    simp only [Op.bytesLess, Bool.or_eq_true, Bool.and_eq_true, decide_eq_true_eq, beq_iff_eq] at h k ⊢
    rcases h with h | ⟨rfl, h⟩
    · rcases k with k | ⟨rfl, k⟩
      · exact .inl (UInt8.lt_trans h k)
      · exact .inl h
    · rcases k with k | ⟨rfl, k⟩
      · exact .inl k
      · exact .inr ⟨rfl, bl_trans x y z h k⟩
theorem bl_tri : ∀ x y : List UInt8, Op.bytesLess x y = true ∨ x = y ∨ Op.bytesLess y x = true
  | [], [] => .inr (.inl rfl)
  | [], b :: y => .inl (by simp [Op.bytesLess])
  | a :: x, [] => .inr (.inr (by simp [Op.bytesLess]))
  | a :: x, b :: y => by
    simp only [Op.bytesLess, Bool.or_eq_true, Bool.and_eq_true, decide_eq_true_eq, beq_iff_eq, List.cons.injEq]
    by_cases h : a < b
    · exact .inl (.inl h)
    · by_cases k : b < a
      · exact .inr (.inr (.inl k))
      · have e : a = b := by
          apply UInt8.toNat_inj.1
          rw [UInt8.lt_iff_toNat_lt] at h k
          omega
        subst e
        rcases bl_tri x y with t | t | t
        · exact .inl (.inr ⟨rfl, t⟩)
        · exact .inr (.inl ⟨rfl, t⟩)
        · exact .inr (.inr (.inr ⟨rfl, t⟩))
theorem bl_asymm {x y : List UInt8} (h : Op.bytesLess x y = true) : Op.bytesLess y x = false := by
  cases hb : Op.bytesLess y x
  · rfl
  · have := bl_trans x y x h hb; rw [bl_irrefl] at this; cases this
theorem strLt_irrefl (a : ByteArray) : strLt a a = false := bl_irrefl _
theorem strLt_trans {a b c : ByteArray} (h : strLt a b = true) (k : strLt b c = true) : strLt a c = true := bl_trans _ _ _ h k
theorem strLt_asymm {a b : ByteArray} (h : strLt a b = true) : strLt b a = false := bl_asymm h
theorem strLt_tri (a b : ByteArray) : strLt a b = true ∨ a = b ∨ strLt b a = true := by
  rcases bl_tri a.toList b.toList with h | h | h
  · exact .inl h
  · refine .inr (.inl ((strEq_iff a b).1 ?_)); unfold strEq; rw [h]; simp
  · exact .inr (.inr h)
theorem strLt_ne {a b : ByteArray} (h : strLt a b = true) : a ≠ b := by rintro rfl; rw [strLt_irrefl] at h; cases h
/-- Not above. -/
theorem strLe_not (a b : ByteArray) : (strLt a b || strEq a b) = !strLt b a := by
  rcases strLt_tri a b with h | rfl | h
  · rw [h, strLt_asymm h]; rfl
  · rw [strLt_irrefl, (strEq_iff a a).2 rfl]; rfl
  · rw [strLt_asymm h, h, (strEq_no a b).2 (strLt_ne h).symm]; rfl
/-- No text is below: a ≤ b. -/
def strLe (a b : ByteArray) : Bool := !strLt b a
theorem strLe_refl (a : ByteArray) : strLe a a = true := by unfold strLe; rw [strLt_irrefl]; rfl
theorem strLe_trans {a b c : ByteArray} (h : strLe a b = true) (k : strLe b c = true) : strLe a c = true := by
  unfold strLe at *
  rw [Bool.not_eq_true'] at *
  cases hb : strLt c a
  · rfl
  · rcases strLt_tri b c with t | rfl | t
    · have := strLt_trans t hb; rw [this] at h; cases h
    · rw [hb] at h; cases h
    · rw [t] at k; cases k
theorem strLe_of_lt {a b : ByteArray} (h : strLt a b = true) : strLe a b = true := by unfold strLe; rw [strLt_asymm h]; rfl

end Go.H
