/- Nodes that came in. -/
import Derived.Test.YthagjflkdoafmaaRS
import Derived.Test.YthagjflkdoafmaaN1
set_option linter.unusedVariables false
set_option linter.unusedSimpArgs false
namespace Go.Proofs.Ythagjflkdoafmaa.Hc
open Go Go.H Go.Proofs Go.ChangeShapes Go.WideShapes Go.RowKit
set_option maxRecDepth 100000
section
variable {H : Type} {enc : TypeId × Value → H} {W : World} {base : Nat} {spare : Nat → Bool} {held : Bool}
theorem open_node (fuel : Nat) {cs : List Value} {x : DataW H × List MemPlace} (h : DataW.trod enc Try.prog W base spare held fuel 25 cs = some x) (hbk : Rows.uptoBulk x.1 ≤ 1048576) : ∃ t : ND, NRep W.heap t cs := by
  obtain ⟨xs, n, rfl, rfl, hl, hx, hf⟩ := DataW.trod_struct Try.underlying25 h
  have hc : Try.prog.cellsOf 25 = 3 := by kernel_rfl
  have c1 : Try.prog.cellsOf 22 = 1 := by kernel_rfl
  have c2 : Try.prog.cellsOf 23 = 1 := by kernel_rfl
  have c3 : Try.prog.cellsOf 9 = 1 := by kernel_rfl
  have c4 : Try.prog.cellsOf 3 = 1 := by kernel_rfl
  rw [hc] at hl
  have f0 := hf 0 _ rfl
  have f1 := hf 1 _ rfl
  have f2 := hf 2 _ rfl
  match cs, hl with
  | [v0, v1, v2], _ =>
  match xs, hx with
  | [x0, x1, x2], _ =>
  simp only [c1, c2, List.drop_zero, List.drop_succ_cons, List.take_succ_cons, List.take_zero, List.getElem?_cons_zero, List.getElem?_cons_succ] at f0 f1 f2
  obtain ⟨ka, ks, kc, e0, s0, l0, m0⟩ := RU.open_strs Try.underlying22 Try.underlying9 c3 f0
  obtain ⟨va, vs, vc, e1, s1, l1, m1⟩ := RU.open_strs Try.underlying22 Try.underlying9 c3 f1
  obtain ⟨ia, is, ic, e2, s2, l2, m2⟩ := RU.open_i64s Try.underlying23 Try.underlying3 c4 f2
  cases e0; cases e1; cases e2
  simp only [Rows.uptoBulk, List.map_cons, List.map_nil, Rows.uptoBulkAll] at hbk
  exact ⟨⟨ks, vs, is⟩, by show ks.length ≤ _; omega, by show vs.length ≤ _; omega, by show is.length ≤ _; omega, fun x hx => by have := m0 x hx; omega, fun x hx => by have := m1 x hx; omega, fun x hx => m2 x hx, ka, kc, va, vc, ia, ic, rfl, s0, s1, s2⟩
end
end Go.Proofs.Ythagjflkdoafmaa.Hc
