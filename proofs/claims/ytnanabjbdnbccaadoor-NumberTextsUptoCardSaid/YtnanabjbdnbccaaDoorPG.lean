/- What the rows' list gives: the table and the two errors; a world for the witness. -/
import Derived.Test.YtnanabjbdnbccaaDoorP7
import Derived.Test.YtnanabjbdnbccaaDoorRows
import Derived.WalkKit
import Derived.ProofKit
import Derived.OpenShut
import Derived.Deep.DeepHandedRow
import Derived.Lib.LaidTab
import Derived.Lib.ItoaNum
set_option linter.unusedVariables false
namespace Go.Proofs.YtnanabjbdnbccaaDoor.Hc
open Go Go.H Go.Proofs Go.ChangeShapes Go.WideShapes Go.ChangeAt Go.RowKit

theorem pow_tab : Rows.laid_internal_strconv_uint64pow10 (H := Unit) = Lib.tabData .u64 Lib.pow10Tab := by kernel_rfl
/-- The values of a list of literals. -/
def litV : DataW Unit → Value | .lit (.int k z) => .int k z | .lit (.string s) => .string ⟨s.toArray⟩ | _ => .int .u8 0
def aggV : DataW Unit → Array Value | .agg l => (l.map litV).toArray | .iface _ (.ptr (.agg l)) => (l.map litV).toArray | _ => #[]
/-- A world for the witness: the listed variables hold what the program's text lays. -/
noncomputable def laidWorld (os : Os) : World :=
  let w := World.holding Tryd.prog os ⟨#[.cells (aggV Rows.laid_strconv_ErrSyntax) 89, .cells (aggV Rows.laid_strconv_ErrRange) 89], #[], []⟩
  let n := (World.settled Tryd.prog os).heap.size
  let put (g : Nat) (c : Array Value) (h : Array Obj) : Array Obj := h.modify g fun | .cells _ t frozen => .cells c t frozen | o => o
  { w with heap := put 0 #[.iface 87 (.pointer (some ⟨n, 0, none⟩))] (put 1 #[.iface 87 (.pointer (some ⟨n + 1, 0, none⟩))] (put 2 (aggV Rows.laid_internal_strconv_uint64pow10) (put 3 (aggV Rows.laid_math_bits_deBruijn32tab) (put 4 (aggV Rows.laid_math_bits_deBruijn64tab) w.heap)))) }

theorem gS : Tryd.prog.globalNamed "strconv.ErrSyntax" = some 0 := by kernel_rfl
theorem gR : Tryd.prog.globalNamed "strconv.ErrRange" = some 1 := by kernel_rfl
theorem gP : Tryd.prog.globalNamed powName = some 2 := by kernel_rfl
theorem tS : (Tryd.prog.globals[0]?).map (·.type) = some 43 := by kernel_rfl
theorem tR : (Tryd.prog.globals[1]?).map (·.type) = some 43 := by kernel_rfl
theorem tP : (Tryd.prog.globals[2]?).map (·.type) = some 82 := by kernel_rfl
theorem trod_iface {w : World} {fuel : Nat} {cs : List Value} {u : String} {d : DataW Unit} {p : List MemPlace}
    (h : DataW.trod (fun _ => ()) Tryd.prog w 0 (fun _ => true) false fuel 43 cs = some (.iface u d, p)) : ∃ x y, cs = [.iface x y] := by
  cases fuel with
  | zero => cases h
  | succ fuel =>
    unfold DataW.trod at h
    rw [Tryd.underlying43] at h
    split at h <;> first
      | exact ⟨_, _, rfl⟩
      | (simp_all; done)
      | skip

theorem cell_of_var {w : World} {name : String} {g : Nat} {x : TypeId} {y : Value} {cs : Array Value} (hg : Tryd.prog.globalNamed name = some g) (hv : w.var? Tryd.prog name = some cs) (hc : cs.toList = [.iface x y]) :
    ∃ v, hcell w.heap ⟨g, 0, none⟩ = some v ∧ IfV v := by
  refine ⟨.iface x y, ?_, .inr ⟨_, _, rfl⟩⟩
  unfold World.var? at hv
  rw [hg] at hv
  simp only [Option.bind_some] at hv
  unfold hcell
  split at hv
  · next c t f e =>
    cases hv
    simp only [e]
    rw [← Array.getElem?_toList, hc]
    rfl
  · cases hv

theorem glob_of {W : World} (h : laidMet Tryd.prog Rows.numberTextsRow.laid W) : Glob W.heap := by
  obtain ⟨ps, ⟨g0, t0, cs0, f0, p0, q0, _, _, _, _, ⟨g1, t1, cs1, f1, p1, q1, _, _, _, _, h2, _⟩, _⟩, _⟩ := h
  obtain ⟨g2, t2, cs2, f2, p2, q2, e2, y2, v2, r2, h3, _⟩ := h2
  obtain ⟨g3, t3, cs3, f3, p3, q3, e3, y3, v3, r3, h4, _⟩ := h3
  obtain ⟨g4, t4, cs4, f4, p4, q4, e4, y4, v4, r4, _, _⟩ := h4
  obtain rfl := Option.some.inj (gP.symm.trans e2)
  obtain rfl := Option.some.inj (gR.symm.trans e3)
  obtain rfl := Option.some.inj (gS.symm.trans e4)
  obtain rfl := Option.some.inj (tR.symm.trans y3)
  obtain rfl := Option.some.inj (tS.symm.trans y4)
  obtain ⟨x3, z3, c3⟩ := trod_iface r3
  obtain ⟨x4, z4, c4⟩ := trod_iface r4
  obtain rfl := Option.some.inj (tP.symm.trans y2)
  refine ⟨?_, cell_of_var gS v4 c4, cell_of_var gR v3 c3⟩
  intro w hw
  rw [pow_tab] at r2
  have := Lib.cells_of_tab Tryd.underlying82 Tryd.underlying55 (by kernel_rfl) (by kernel_rfl) r2
  unfold Lib.TabIs
  have hv : w.var? Tryd.prog powName = W.var? Tryd.prog powName := by unfold World.var?; rw [hw]
  rw [hv]
  refine (show W.var? Tryd.prog powName = some cs2 from v2).trans ?_
  rw [← this]

end Go.Proofs.YtnanabjbdnbccaaDoor.Hc
