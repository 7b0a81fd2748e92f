/- What the rows' list gives: the tables; a world for the witness. -/
import Derived.Test.YtmibnfjjlibpgaaDoorTA
import Derived.Test.YtmibnfjjlibpgaaDoorRows
import Derived.WalkKit
import Derived.ProofKit
import Derived.OpenShut
import Derived.Deep.DeepHandedRow
import Derived.Lib.LaidTab
import Derived.Lib.ItoaNum
set_option linter.unusedVariables false
namespace Go.Proofs.YtmibnfjjlibpgaaDoor.Hc
open Go Go.H Go.Proofs Go.ChangeShapes Go.WideShapes Go.ChangeAt Go.RowKit

def db64 : List Int := [0, 1, 56, 2, 57, 49, 28, 3, 61, 58, 42, 50, 38, 29, 17, 4, 62, 47, 59, 36, 45, 43, 51, 22, 53, 39, 33, 30, 24, 18, 12, 5, 63, 55, 48, 27, 60, 41, 37, 16, 46, 35, 44, 21, 52, 32, 23, 11, 54, 26, 40, 15, 34, 20, 31, 10, 25, 14, 19, 9, 13, 8, 7, 6]
theorem pow_tab : Rows.laid_internal_strconv_uint64pow10 (H := Unit) = Lib.tabData .u64 Lib.pow10Tab := by kernel_rfl
theorem db_tab : Rows.laid_math_bits_deBruijn64tab (H := Unit) = Lib.tabData .u8 db64 := by kernel_rfl
def dbName : String := Rows.dataTextsRow.named.getD 2 ""
/-- The values of a list of literals. -/
def litV : DataW Unit → Value | .lit (.int k z) => .int k z | .lit (.string s) => .string ⟨s.toArray⟩ | _ => .int .u8 0
def aggV : DataW Unit → Array Value | .agg l => (l.map litV).toArray | .iface _ (.ptr (.agg l)) => (l.map litV).toArray | _ => #[]
/-- A world for the witness: the listed variables hold what the program's text lays. -/
noncomputable def laidWorld (os : Os) : World :=
  let w := World.settled Tryd.prog os
  let put (g : Nat) (c : Array Value) (h : Array Obj) : Array Obj := h.modify g fun | .cells _ t frozen => .cells c t frozen | o => o
  { w with heap := put 0 (aggV Rows.laid_internal_strconv_uint64pow10) (put 1 (aggV Rows.laid_math_bits_deBruijn32tab) (put 2 (aggV Rows.laid_math_bits_deBruijn64tab) w.heap)) }

theorem gP : Tryd.prog.globalNamed powName = some 0 := by kernel_rfl
theorem gD : Tryd.prog.globalNamed dbName = some 2 := by kernel_rfl
theorem tP : (Tryd.prog.globals[0]?).map (·.type) = some 84 := by kernel_rfl
theorem tD : (Tryd.prog.globals[2]?).map (·.type) = some 92 := by kernel_rfl

theorem glob_of {W : World} (h : laidMet Tryd.prog Rows.dataTextsRow.laid W) : Glob W.heap := by
  obtain ⟨ps, ⟨g0, t0, cs0, f0, p0, q0, _, _, _, _, ⟨g1, t1, cs1, f1, p1, q1, e1, y1, v1, r1, h2, _⟩, _⟩, _⟩ := h
  obtain ⟨g2, t2, cs2, f2, p2, q2, e2, y2, v2, r2, h3, _⟩ := h2
  obtain rfl := Option.some.inj (gP.symm.trans e2)
  obtain rfl := Option.some.inj (gD.symm.trans e1)
  obtain rfl := Option.some.inj (tP.symm.trans y2)
  obtain rfl := Option.some.inj (tD.symm.trans y1)
  refine ⟨?_, ?_⟩
  · intro w hw
    rw [pow_tab] at r2
    have := Lib.cells_of_tab Tryd.underlying84 Tryd.underlying71 (by kernel_rfl) (by kernel_rfl) r2
    unfold Lib.TabIs
    have hv : w.var? Tryd.prog powName = W.var? Tryd.prog powName := by unfold World.var?; rw [hw]
    rw [hv]
    refine (show W.var? Tryd.prog powName = some cs2 from v2).trans ?_
    rw [← this]
  · rw [db_tab] at r1
    have hc := Lib.cells_of_tab Tryd.underlying92 Tryd.underlying5 (by kernel_rfl) (by kernel_rfl) r1
    have hv : W.var? Tryd.prog dbName = some cs1 := v1
    unfold World.var? at hv
    rw [gD] at hv
    simp only [Option.bind_some] at hv
    unfold Tz hcell
    split at hv
    · next c t f e =>
      cases hv
      simp only [e]
      rw [← Array.getElem?_toList, hc]
      rfl
    · cases hv

end Go.Proofs.YtmibnfjjlibpgaaDoor.Hc
