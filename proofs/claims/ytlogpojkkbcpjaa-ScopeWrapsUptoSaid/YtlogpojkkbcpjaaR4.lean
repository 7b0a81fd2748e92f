/- PROVED: the law ScopeWraps, in the second form: for arguments of bulk at most 1048576, it answers true, and every argument reads afterwards as it read before. Conditions: those of the given statement, no others. -/
import Derived.Test.YtlogpojkkbcpjaaRows
import Derived.Test.YtlogpojkkbcpjaaPa
import Derived.Test.YtlogpojkkbcpjaaPc
import Derived.JoinedCond
namespace Go.Proofs.Ytlogpojkkbcpjaa.scopeWrapsUpto
open Go.ChangeShapes Go.WideShapes Go.ChangeAt Go.RowKit
open Go.ChangeMaps (open_string shut_string)
set_option linter.unusedVariables false
theorem own : ownKnob Try.prog.godebug = none := by kernel_rfl
theorem laidOut : laidOutB Try.prog = true := by kernel_rfl
set_option maxRecDepth 100000 in
theorem lifted (os : Os) (started : os.Started) (H : Type) (enc : TypeId × Value → H) (F : Stop.Interp) :
    ReturnsInHanded {} Try.checked os 3 .any ((Rows.OpenSpec.upto Rows.scopeWrapsSpec).pre6 enc Try.prog Try.f3 Rows.scopeWrapsUptoRow.domain false) (((Rows.OpenSpec.upto Rows.scopeWrapsSpec).at F).post enc Try.prog Try.f3 false true false false) := by
  refine Hc.handed_shaped (C := Try.checked) (s := Rows.OpenSpec.upto Rows.scopeWrapsSpec) (k := Rows.uptoSmall) rfl own started (by kernel_rfl) Try.func3
    (OpenSpec.witness (enc := enc) (C := Try.checked) (s := Rows.OpenSpec.upto Rows.scopeWrapsSpec) (k := Rows.uptoSmall) rfl false ⟨#[], #[.string ByteArray.empty], []⟩ 8 (by kernel_rfl) (by kernel_rfl) (by kernel_rfl)
      (x := ([.lit (.string [])], [], [])) (by kernel_rfl) rfl (by kernel_rfl)) ?_
  intro W base args ds gs before hsh hval0 hW hcnd hk0 _
  have hk := of_decide_eq_true hk0
  have hval : ∀ (j : Nat) t v, Try.f3.params[j]? = some t → args[j]? = some v → Value.okWide Try.prog W .any base t v := hval0
  suffices goal : Calls Try.prog 3 args W fun e W' => ∃ v, e = .returned v ∧ Rows.scopeWrapsSpec.post enc Try.prog Try.f3 false true false false W args v W' from goal
  have hW' := hW
  obtain ⟨p, q, hA0, hV, rfl, hfz, hnd⟩ := hW
  have hA : DataW.TrodAll enc Try.prog W 0 (fun _ => true) true Try.f3.params.toList args.toList ds p := hA0
  rw [Try.params3] at hA hval
  obtain ⟨v0, vs0, d0, ds0, p0, q0, hargs, rfl, rfl, h0, r0⟩ := trodAll_cons hA
  obtain ⟨rfl, rfl, rfl⟩ := trodAll_nil r0
  obtain rfl : args = #[v0] := by cases args; simp_all
  obtain ⟨rfl, rfl⟩ := trodVars_none hV
  simp only [List.append_nil, Rows.uptoBulkAll] at hk
  obtain ⟨a0, rfl, rfl, rfl, y0⟩ := open_string Try.underlying9 (hval 0 9 v0 rfl rfl) h0
  have w0 : a0.size ≤ 1048576 := by have := RU.string_len (H := H) a0; omega
  clear hA0 hval0 hk0 hk
  refine (Go.H.row_of (Hc.scopeWraps_spec a0 w0 (Hc.glob_of_shape hsh))).mono fun e W' ⟨he, bel⟩ => ?_
  subst he
  exact ⟨_, rfl, _, _, _, [], _, [], hW', trodAll_mk1 (shut_bool Try.underlying4 _), (trodAll_cons_mk (shut_string Try.underlying9 y0) trodAll_mk0), rfl, bel.frame _, fun h => by cases h⟩
theorem over : Rows.scopeWrapsUptoRow.holds Try.pinned (Rows.OpenSpec.upto Rows.scopeWrapsSpec) :=
  OpenClaim.holds_of_cond 3 Try.f3 rfl rfl rfl rfl rfl rfl rfl ⟨rfl, rfl, rfl, rfl, rfl⟩ rfl rfl rfl rfl rfl (by kernel_rfl) Try.func3 (by kernel_rfl)
    (of_decide_eq_true (by kernel_rfl)) (by unfold Func.isWrapper; first | (rw [if_pos (by decide +kernel)]; kernel_rfl) | (rw [if_neg (by decide +kernel)]; exact ⟨rfl, rfl⟩))
    (fun os started H enc _ F => lifted os started H enc F)
theorem proved : Rows.ScopeWrapsUptoSaid := over
end Go.Proofs.Ytlogpojkkbcpjaa.scopeWrapsUpto
namespace Go.Proofs.Ytlogpojkkbcpjaa
/-- The row, under a short name, for the claim. -/
theorem scopeWrapsUpto_holds : Rows.ScopeWrapsUptoSaid := scopeWrapsUpto.proved
end Go.Proofs.Ytlogpojkkbcpjaa
