/- == of two structs of two texts: a raw operation. -/
import Derived.Test.YtadkdfecmpjmdaaGreatDoorHV
import Derived.Test.YtadkdfecmpjmdaaGreatDoorHS
import Derived.Laws.StructEq
set_option linter.unusedVariables false
set_option linter.unusedSimpArgs false
namespace Go.H
variable {P : Program} {ev : Operand → Value} {h : Heap} {K : Next → Heap → Prop} {E : Halt → Heap → Prop}
theorem hw_part {q : Bool} {t : TypeId} {cs : Array Value} {off : Nat} {v : Value} {Q : Value → Heap → Prop} (hg : isAggT P t = some false) (hv : cs[off]? = some v) : hw P q (part t cs off) h Q E = Q v h := by
  unfold part
  rw [hw_bind', hw_isAgg hg]
  simp only [Bool.false_eq_true, if_false]
  rw [hv]; rfl
theorem hw_equal_str {q : Bool} {d : Nat} {t : TypeId} {a b : ByteArray} {Q : Bool → Heap → Prop} (hu : P.underlying t = some .string) : hw P q (Op.equalIn (d + 1) t (.string a) (.string b)) h Q E = Q (strEq a b) h := by
  rw [Op.equalIn, hw_bind', hw_underlying hu]
  show Q (a == b) h = Q (strEq a b) h
  rw [beq_toListBytes]; rfl
end Go.H
