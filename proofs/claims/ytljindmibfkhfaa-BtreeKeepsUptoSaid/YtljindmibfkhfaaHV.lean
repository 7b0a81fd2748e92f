/- cap of a slice; slices.overlaps of two blocks: raw operations. -/
import Derived.Test.YtljindmibfkhfaaHQ
import Derived.Test.YtljindmibfkhfaaHK
set_option linter.unusedVariables false
set_option linter.unusedSimpArgs false
namespace Go.H
variable {P : Program} {ev : Operand → Value} {h : Heap} {K : Next → Heap → Prop} {E : Halt → Heap → Prop}
theorem raw_cap {o : Oper} {x : Operand} {ts : Array TypeId} {t e : TypeId} {a : Option Addr} {n c : Nat} (ho : o.op = .call ⟨.builtin .cap, #[x], ts⟩) (hx : ev x = .slice a n c) (ht : ts[0]? = some t) (hd : P.underlying t = some (.slice e))
    (k : K (.value (.int .i64 (c : Nat))) h) : HRaw P o ev h (noDefer K) E := by
  refine ⟨?_⟩
  unfold execOp
  rw [ho]
  show hw P false (Builtin.cap_ ts o.type (#[x].map ev) >>= fun v => pure (Next.value v)) h _ E
  rw [hw_bind']
  have e0 : (#[x].map ev)[0]? = some (.slice a n c) := by simp [hx]
  unfold Builtin.cap_
  rw [ht, e0]
  dsimp only
  rw [hw_bind', hw_underlying hd]
  dsimp only
  rw [hw_pure, hw_pure]
  exact k
theorem raw_externW {o : Oper} {f : FuncId} {args : Array Operand} {ts : Array TypeId} {fn : Func} {g : Array Value → Sem Value} (ho : o.op = .call ⟨.value (.func f), args, ts⟩) (hev : ev (.func f) = .func (.func f) #[] #[]) (hf : P.funcs[f]? = some fn)
    (hn : (fn.name == "runtime.NumGoroutine") = false) (hb : fn.body.isNone = true) (hx : (Extern.findNext fn).isNone = true) (hg : Extern.find fn = some g) (k : hw P false (g (args.toList.map ev).toArray) h (fun v h' => noDefer K (.value v) h') E) : HRaw P o ev h (noDefer K) E := by
  refine ⟨?_⟩
  unfold execOp
  rw [ho]
  show hw P false (do let d ← Deferred.ofValue (ev (.func f)) (args.map ev); invoke d.target d.args) h _ E
  rw [hev]
  show hw P false (callFunc f ((#[] ++ args.map ev) ++ #[])) h _ E
  have ea : (#[] ++ args.map ev) ++ #[] = (args.toList.map ev).toArray := by apply Array.ext'; simp
  rw [ea]
  unfold callFunc
  rw [hw_bind', hw_program', hf]
  dsimp only
  rw [hn, hb]
  simp only [Bool.false_eq_true, if_false, if_true]
  have e2 : ∀ {α : Type} (m : Mark) (k : Unit → Sem α) (Q : α → Heap → Prop), hw P false (mark m >>= k) h Q E = hw P false (k ()) h Q E := fun m k Q => rfl
  rw [e2]
  cases he : Extern.findNext fn with
  | some e => rw [he] at hx; cases hx
  | none =>
    dsimp only
    rw [hg]
    dsimp only
    rw [hw_bind']
    exact k
theorem hw_frozen {a : Addr} {Q : Bool → Heap → Prop} : hw P false (frozen a) h Q E = Q (hfrozen h a) h := rfl
theorem hw_shape' {r : Nat} {Q : Option (TypeId × Nat) → Heap → Prop} : hw P false (shape r) h Q E = Q (hshape h r) h := rfl
/-- Two slices in two blocks do not overlap; the first one's block is plain memory. -/
theorem hw_overlaps {tS tR e tA tB : TypeId} {size kA kB la ca lb cb : Nat} {a b : Addr} {Q : Value → Heap → Prop} (ht : P.underlying tS = some (.slice e)) (hz : sizeOfT P e = some size) (hne : a.block ≠ b.block)
    (hsa : hshape h a.block = some (tA, kA)) (hsb : hshape h b.block = some (tB, kB)) (hkB : kB ≠ 0) (hfa : hfrozen h a = false) (hfe : hfrozen h ⟨a.block, kA, none⟩ = false) (k : Q (.bool false) h) :
    hw P false (Extern.SlicesOverlaps.overlaps #[tS, tS] #[tR] #[.slice (some a) la ca, .slice (some b) lb cb]) h Q E := by
  have hnb : (a.block != b.block) = true := by simpa using hne
  have hnb' : (a.block == b.block) = false := by simpa using hne
  obtain ⟨kB, rfl⟩ : ∃ x, kB = x + 1 := ⟨kB - 1, by omega⟩
  unfold Extern.SlicesOverlaps.overlaps
  show hw P false (underlying tS >>= _) h Q E
  rw [hw_bind', hw_underlying ht]
  show hw P false (sizeOf e >>= _) h Q E
  rw [hw_bind', hw_size hz]
  dsimp only
  by_cases h0 : la = 0 ∨ lb = 0 ∨ size = 0
  · rw [if_pos h0]; exact k
  · rw [if_neg h0]
    simp only [hw_bind', hw_frozen, hfa, hnb, hnb', noView, viewAt, mayBeOne, stringish, hw_shape', hsa, hsb, hfe, hw_pure, Bool.true_and, Bool.and_false, Bool.false_and, Bool.false_eq_true, if_false, if_true, Option.isSome_some, Option.isSome_none, Bool.or_false, Bool.false_or, ite_true, ite_false]
    cases hb : hfrozen h b
    · simp only [Bool.false_eq_true, if_false, hw_bind', hw_shape', hw_frozen, hsb, Bool.and_false, hw_pure]
      exact k
    · simp only [if_true, hw_bind', hw_shape', hsb, Bool.and_false, hw_pure, Bool.false_eq_true, if_false]
      exact k
/-- The same, where the second one's block is plain memory. -/
theorem hw_overlaps2 {tS tR e tA tB : TypeId} {size kA kB la ca lb cb : Nat} {a b : Addr} {Q : Value → Heap → Prop} (ht : P.underlying tS = some (.slice e)) (hz : sizeOfT P e = some size) (hne : a.block ≠ b.block)
    (hsa : hshape h a.block = some (tA, kA)) (hsb : hshape h b.block = some (tB, kB)) (hkA : kA ≠ 0) (hkB : kB ≠ 0) (hfb : hfrozen h b = false) (hfe : hfrozen h ⟨b.block, kB, none⟩ = false) (k : Q (.bool false) h) :
    hw P false (Extern.SlicesOverlaps.overlaps #[tS, tS] #[tR] #[.slice (some a) la ca, .slice (some b) lb cb]) h Q E := by
  have hnb : (a.block != b.block) = true := by simpa using hne
  have hnb' : (a.block == b.block) = false := by simpa using hne
  obtain ⟨kB, rfl⟩ : ∃ x, kB = x + 1 := ⟨kB - 1, by omega⟩
  obtain ⟨kA, rfl⟩ : ∃ x, kA = x + 1 := ⟨kA - 1, by omega⟩
  unfold Extern.SlicesOverlaps.overlaps
  show hw P false (underlying tS >>= _) h Q E
  rw [hw_bind', hw_underlying ht]
  show hw P false (sizeOf e >>= _) h Q E
  rw [hw_bind', hw_size hz]
  dsimp only
  by_cases h0 : la = 0 ∨ lb = 0 ∨ size = 0
  · rw [if_pos h0]; exact k
  · rw [if_neg h0]
    cases ha : hfrozen h a
    · simp only [hw_bind', hw_frozen, ha, hfb, hnb, hnb', noView, viewAt, mayBeOne, stringish, hw_shape', hsa, hsb, hfe, hw_pure, Bool.true_and, Bool.and_false, Bool.false_and, Bool.false_eq_true, if_false, if_true, Option.isSome_some, Option.isSome_none, Bool.or_false, Bool.false_or, ite_true, ite_false]
      try exact k
    · simp only [hw_bind', hw_frozen, ha, hfb, hnb, hnb', noView, viewAt, mayBeOne, stringish, hw_shape', hsa, hsb, hfe, hw_pure, Bool.true_and, Bool.and_false, Bool.false_and, Bool.false_eq_true, if_false, if_true, Option.isSome_some, Option.isSome_none, Bool.or_false, Bool.false_or, ite_true, ite_false]
      try exact k
/-- clear of a slice without elements. -/
theorem raw_clearSl {o : Oper} {x : Operand} {ts : Array TypeId} {t : TypeId} {d : TypeDesc} {a : Option Addr} {c : Nat} (ho : o.op = .call ⟨.builtin .clear, #[x], ts⟩) (hx : ev x = .slice a 0 c) (ht : ts[0]? = some t) (hd : P.underlying t = some d)
    (k : K (.value (.tuple #[])) h) : HRaw P o ev h (noDefer K) E := by
  refine ⟨?_⟩
  unfold execOp
  rw [ho]
  show hw P false (Builtin.clear_ ts o.type (#[x].map ev) >>= fun v => pure (Next.value v)) h _ E
  rw [hw_bind']
  have e0 : (#[x].map ev)[0]? = some (.slice a 0 c) := by simp [hx]
  unfold Builtin.clear_
  rw [ht, e0]
  dsimp only
  rw [hw_bind', hw_underlying hd]
  cases a <;> exact k
end Go.H
