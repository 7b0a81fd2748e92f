/- PROVED: the law ScopeChecks, in the second form: for arguments of bulk at most 1048576, it answers true, and every argument reads afterwards as it read before. Conditions: those of the given statement, no others. -/
import Derived.Test.YtlogpojkkbcpjaaGreatRows
import Derived.Test.YtlogpojkkbcpjaaGreatPa
import Derived.Test.YtlogpojkkbcpjaaGreatPc
import Derived.JoinedCond
namespace Go.Proofs.YtlogpojkkbcpjaaGreat.scopeChecksUpto
open Go.ChangeShapes Go.WideShapes Go.ChangeAt Go.RowKit
open Go.ChangeMaps (open_string shut_string)
set_option linter.unusedVariables false
theorem own : ownKnob Tryz.prog.godebug = none := by kernel_rfl
theorem laidOut : laidOutB Tryz.prog = true := by kernel_rfl
set_option maxRecDepth 100000 in
theorem lifted (os : Os) (started : os.Started) (H : Type) (enc : TypeId × Value → H) (F : Stop.Interp) :
    ReturnsInHanded {} Tryz.checked os 3 .any ((Rows.OpenSpec.upto Rows.scopeChecksSpec).pre6 enc Tryz.prog Tryz.f3 Rows.scopeChecksUptoRow.domain false) (((Rows.OpenSpec.upto Rows.scopeChecksSpec).at F).post enc Tryz.prog Tryz.f3 false true false false) := by
  refine Hc.handed_shaped (C := Tryz.checked) (s := Rows.OpenSpec.upto Rows.scopeChecksSpec) (k := Rows.uptoSmall) rfl own started (by kernel_rfl) Tryz.func3
    (OpenSpec.witness (enc := enc) (C := Tryz.checked) (s := Rows.OpenSpec.upto Rows.scopeChecksSpec) (k := Rows.uptoSmall) rfl false ⟨#[], #[.agg #[.int .i64 0, .string ByteArray.empty, .int .i64 0, .string ByteArray.empty, .slice none 0 0, .slice none 0 0]], []⟩ 8 (by kernel_rfl) (by kernel_rfl) (by kernel_rfl)
      (x := ([.agg [.lit (.int .i64 0), .lit (.string []), .lit (.int .i64 0), .lit (.string []), .nil, .nil]], [], [])) (by kernel_rfl) rfl (by kernel_rfl)) ?_
  intro W base args ds gs before hsh hval0 hW hcnd hk0 _
  have hk := of_decide_eq_true hk0
  have hval : ∀ (j : Nat) t v, Tryz.f3.params[j]? = some t → args[j]? = some v → Value.okWide Tryz.prog W .any base t v := hval0
  suffices goal : Calls Tryz.prog 3 args W fun e W' => ∃ v, e = .returned v ∧ Rows.scopeChecksSpec.post enc Tryz.prog Tryz.f3 false true false false W args v W' from goal
  have hW' := hW
  obtain ⟨p, q, hA0, hV, rfl, hfz, hnd⟩ := hW
  have hA : DataW.TrodAll enc Tryz.prog W 0 (fun _ => true) true Tryz.f3.params.toList args.toList ds p := hA0
  rw [Tryz.params3] at hA hval
  obtain ⟨v0, vs0, d0, ds0, p0, q0, hargs, rfl, rfl, h0, r0⟩ := trodAll_cons hA
  obtain ⟨rfl, rfl, rfl⟩ := trodAll_nil r0
  obtain rfl : args = #[v0] := by cases args; simp_all
  obtain ⟨rfl, rfl⟩ := trodVars_none hV
  simp only [List.append_nil, Rows.uptoBulkAll] at hk
  obtain ⟨c0, rfl, _⟩ := okWide_struct Tryz.underlying25 (hval 0 25 v0 rfl rfl)
  have k0 := h0
  have lt0 : ∀ x ∈ p0, x.block < W.heap.size := by obtain ⟨m, hm⟩ := k0; exact DataW.trod_lt m _ _ _ hm
  have b0 : Rows.uptoBulk d0 ≤ 1048576 := by omega
  obtain ⟨t0, x0, y0⟩ : ∃ t : Hc.NT, Hc.TRep W.heap t c0.toList ∧ Hc.cnt t ≤ 1048576 := by obtain ⟨m, hm⟩ := k0; obtain ⟨t, r, hv⟩ := Hc.open_tree m _ _ hm b0; exact ⟨t, r, Nat.le_trans hv b0⟩
  clear hA0 hval0 hk0 hk
  refine (Go.H.row_of (Hc.scopeChecks_spec x0 y0 (Hc.glob_of_shape hsh))).mono fun e W' ⟨he, bel⟩ => ?_
  subst he
  exact ⟨_, rfl, _, _, _, [], _, [], hW', trodAll_mk1 (shut_bool Tryz.underlying4 _), (trodAll_cons_mk (Below.trod laidOut (by kernel_rfl) (of_decide_eq_true (by kernel_rfl)) k0 bel lt0) trodAll_mk0), rfl, bel.frame _, fun h => by cases h⟩
theorem over : Rows.scopeChecksUptoRow.holds Tryz.pinned (Rows.OpenSpec.upto Rows.scopeChecksSpec) :=
  OpenClaim.holds_of_cond 3 Tryz.f3 rfl rfl rfl rfl rfl rfl rfl ⟨rfl, rfl, rfl, rfl, rfl⟩ rfl rfl rfl rfl rfl (by kernel_rfl) Tryz.func3 (by kernel_rfl)
    (of_decide_eq_true (by kernel_rfl)) (by unfold Func.isWrapper; first | (rw [if_pos (by decide +kernel)]; kernel_rfl) | (rw [if_neg (by decide +kernel)]; exact ⟨rfl, rfl⟩))
    (fun os started H enc _ F => lifted os started H enc F)
theorem proved : Rows.ScopeChecksUptoSaid := over
end Go.Proofs.YtlogpojkkbcpjaaGreat.scopeChecksUpto
namespace Go.Proofs.YtlogpojkkbcpjaaGreat
/-- The row, under a short name, for the claim. -/
theorem scopeChecksUpto_holds : Rows.ScopeChecksUptoSaid := scopeChecksUpto.proved
end Go.Proofs.YtlogpojkkbcpjaaGreat
