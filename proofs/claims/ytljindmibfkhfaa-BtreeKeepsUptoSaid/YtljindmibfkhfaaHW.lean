/- == of two structs of two texts: a raw operation. -/
import Derived.Test.YtljindmibfkhfaaHV
import Derived.Test.YtljindmibfkhfaaHS
import Derived.Laws.StructEq
set_option linter.unusedVariables false
set_option linter.unusedSimpArgs false
namespace Go.H
variable {P : Program} {ev : Operand → Value} {h : Heap} {K : Next → Heap → Prop} {E : Halt → Heap → Prop}
theorem hw_part {q : Bool} {t : TypeId} {cs : Array Value} {off : Nat} {v : Value} {Q : Value → Heap → Prop} (hg : isAggT P t = some false) (hv : cs[off]? = some v) : hw P q (part t cs off) h Q E = Q v h := by
  unfold part
  rw [hw_bind', hw_isAgg hg]
  simp only [Bool.false_eq_true, if_false]
  rw [hv]; rfl
theorem hw_equal_str {q : Bool} {d : Nat} {t : TypeId} {a b : ByteArray} {Q : Bool → Heap → Prop} (hu : P.underlying t = some .string) : hw P q (Op.equalIn (d + 1) t (.string a) (.string b)) h Q E = Q (strEq a b) h := by
  rw [Op.equalIn, hw_bind', hw_underlying hu]
  show Q (a == b) h = Q (strEq a b) h
  rw [beq_toListBytes]; rfl
theorem hw_equal_two {q : Bool} {d : Nat} {t : TypeId} {f1 f2 : Field} {a b a' b' : ByteArray} {Q : Bool → Heap → Prop} (hu : P.underlying t = some (.struct #[f1, f2])) (hs : P.stoodInHeld t = false)
    (n1 : f1.name ≠ "_") (n2 : f2.name ≠ "_") (u1 : P.underlying f1.type = some .string) (u2 : P.underlying f2.type = some .string) (g1 : isAggT P f1.type = some false) (g2 : isAggT P f2.type = some false) (o1 : f1.offset = 0) (o2 : f2.offset = 1)
    (k : Q (strEq a a' && strEq b b') h) : hw P q (Op.equalIn (d + 2) t (.agg #[.string a, .string b]) (.agg #[.string a', .string b'])) h Q E := by
  rw [Op.equalIn, hw_bind', hw_underlying hu]
  dsimp only
  rw [hw_bind', hw_program', hs]
  simp only [Bool.false_eq_true, if_false]
  rw [← Array.forIn_toList]
  simp only [List.forIn_cons, List.forIn_nil, n1, n2, ne_eq, not_false_eq_true, if_true, o1, o2]
  simp only [hw_bind']
  rw [hw_part g1 (v := .string a) rfl, hw_part g1 (v := .string a') rfl, hw_equal_str u1]
  cases h1 : strEq a a'
  · rw [h1, Bool.false_and] at k
    simp only [Bool.not_false, if_true]
    exact k
  · simp only [Bool.not_true, Bool.false_eq_true, if_false]
    rw [hw_pure]
    dsimp only
    simp only [hw_bind']
    rw [hw_part g2 (v := .string b) rfl, hw_part g2 (v := .string b') rfl, hw_equal_str u2]
    rw [h1, Bool.true_and] at k
    cases h2 : strEq b b'
    · rw [h2] at k
      simp only [Bool.not_false, if_true]
      exact k
    · rw [h2] at k
      simp only [Bool.not_true, Bool.false_eq_true, if_false]
      exact k
theorem raw_neqP {o : Oper} {t u : TypeId} {x y : Operand} {f1 f2 : Field} {a b a' b' : ByteArray} (ho : o.op = .binOp .neq t x y u) (hx : ev x = .agg #[.string a, .string b]) (hy : ev y = .agg #[.string a', .string b']) (hu : P.underlying t = some (.struct #[f1, f2])) (hs : P.stoodInHeld t = false)
    (n1 : f1.name ≠ "_") (n2 : f2.name ≠ "_") (u1 : P.underlying f1.type = some .string) (u2 : P.underlying f2.type = some .string) (g1 : isAggT P f1.type = some false) (g2 : isAggT P f2.type = some false) (o1 : f1.offset = 0) (o2 : f2.offset = 1) (hg : P.eqGuardType P.depth t = false)
    (k : K (.value (.bool (!(strEq a a' && strEq b b')))) h) : HRaw P o ev h (noDefer K) E := by
  refine ⟨?_⟩
  unfold execOp
  rw [ho]
  show hw P false ((eqGuard .neq t x y (ev x) (ev y) >>= fun _ => Go.binOp .neq t (ev x) (ev y)) >>= fun v => pure (Next.value v)) h _ E
  rw [hx, hy, hw_bind', hw_bind']
  unfold eqGuard
  simp only [Bool.not_true, Bool.false_eq_true, if_false]
  rw [hw_bind', hw_program', hw_bind', hw_program', hg]
  simp only [Bool.not_false, if_true]
  rw [hw_pure]
  show hw P false (Op.equal t (.agg #[.string a, .string b]) (.agg #[.string a', .string b']) >>= fun r => pure (Value.bool (!r))) h _ E
  rw [hw_bind']
  unfold Op.equal Op.maxDepth
  exact hw_equal_two hu hs n1 n2 u1 u2 g1 g2 o1 o2 k
/-- A loop that ends after so many rounds. -/
def Rounds (P : Program) (b : ACode) (K : APost) : Nat → AF → Heap → Prop
  | 0, _, _ => False
  | n + 1, a, h => aexec P b (thenA (Rounds P b K n) K) a h
open Classical in
noncomputable def roundsM (P : Program) (b : ACode) (K : APost) (a : AF) (h : Heap) : Nat := if hx : ∃ n, Rounds P b K n a h then (least_of (fun n => Rounds P b K n a h) hx.choose hx.choose_spec).choose else 0
theorem roundsM_at {b : ACode} {K : APost} {a : AF} {h : Heap} {n : Nat} (j : Rounds P b K n a h) : Rounds P b K (roundsM P b K a h) a h ∧ roundsM P b K a h ≤ n := by
  have hx : ∃ n, Rounds P b K n a h := ⟨n, j⟩
  have e : roundsM P b K a h = (least_of (fun n => Rounds P b K n a h) hx.choose hx.choose_spec).choose := by unfold roundsM; rw [dif_pos hx]
  have s := (least_of (fun n => Rounds P b K n a h) hx.choose hx.choose_spec).choose_spec
  rw [e]
  exact ⟨s.1, s.2 _ j⟩
theorem loop_times {b : ACode} {K : APost} {a : AF} {h : Heap} (n : Nat) (k : Rounds P b K n a h) : HLoop (aexec P b) K a h := by
  refine ⟨fun a h => ∃ n, Rounds P b K n a h, roundsM P b K, ⟨n, k⟩, ?_⟩
  rintro a' h' ⟨m, j⟩
  obtain ⟨j1, _⟩ := roundsM_at j
  cases hm : roundsM P b K a' h' with
  | zero => rw [hm] at j1; exact j1.elim
  | succ m' =>
    rw [hm] at j1
    refine aexec_mono b ?_ a' h' j1
    intro e a2 h2 k2
    cases e with
    | normal => exact ⟨⟨m', k2⟩, by have := (roundsM_at k2).2; omega⟩
    | _ => exact k2
end Go.H
