/- The order of texts. -/
import Derived.Test.YtadkdfecmpjmdaaGreatDoorHK
set_option linter.unusedVariables false
set_option linter.unusedSimpArgs false
namespace Go.H

theorem blk_ld0 {h : Heap} {b e : Nat} {cs : List Value} {v : Value} {K : Value → Prop} (x : BlkW h b e cs) (hv : cs[0]? = some v) (k : K v) : HLoad h ⟨b, 0, none⟩ K :=
  ⟨v, by rw [x.blk.cell]; exact hv, k⟩
/-! ### The rules of the run step, under short names -/
theorem Z1 {x y : APost → AF → Heap → Prop} {K : APost} {a : AF} {h : Heap} (k : x (thenA (y K) K) a h) : HSeq x y K a h := ⟨k⟩
theorem Z2 {c K : Prop} (k : K) (h : c := by decide) : HMust c K := ⟨h, k⟩
theorem Z3 {b : Bool} {T F : Prop} (k : T) (h : b = true := by first | rfl | assumption | decide) : HIf b T F := HIf.yes h k
theorem Z4 {b : Bool} {T F : Prop} (k : F) (h : b = false := by first | rfl | assumption | decide) : HIf b T F := HIf.no h k
theorem Z5 {n : Int} {K : Int → Prop} (k : K n) (h : -9223372036854775808 ≤ n ∧ n ≤ 9223372036854775807 := by omega) : HInt .i64 n K := ⟨n, wrap_i64 h, k⟩
theorem Z6 {n : Int} {K : Int → Prop} (k : K n) (h : 0 ≤ n ∧ n ≤ 18446744073709551615 := by omega) : HInt .u64 n K := ⟨n, wrap_u64 h, k⟩
theorem Z7 {n : Int} {K : Int → Prop} (k : K n) (h : 0 ≤ n ∧ n ≤ 255 := by omega) : HInt .u8 n K := ⟨n, wrap_u8 h, k⟩
theorem Z8 {n : Int} {K : Int → Prop} (k : K n) (h : 0 ≤ n ∧ n ≤ 4294967295 := by omega) : HInt .u32 n K := ⟨n, wrap_u32 h, k⟩
theorem Z9 {h : Heap} {b e o : Nat} {cs : List Value} {v : Value} {K : Value → Prop} (x : BlkW h b e cs) (hv : cs[o]? = some v) (k : K v) : HLoad h ((⟨b, 0, none⟩ : Addr).add o) K := blk_ld x hv k
theorem ZA {h : Heap} {b e : Nat} {cs : List Value} {v : Value} {K : Value → Prop} (x : BlkW h b e cs) (hv : cs[0]? = some v) (k : K v) : HLoad h ⟨b, 0, none⟩ K := blk_ld0 x hv k
theorem ZB {h : Heap} {b e n : Nat} {cs : List Value} {K : Value → Prop} (x : BlkW h b e cs) (hn : cs.length = n) (k : K (.agg cs.toArray)) : HLoadN h ⟨b, 0, none⟩ n K := blk_ldN x hn k
theorem ZM {c K : Prop} (h : c) (k : K) : HMust c K := ⟨h, k⟩
end Go.H
