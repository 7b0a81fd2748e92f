/- What is left to the semantics itself: a pointer seen as an unsafe one and back, a call of a function that the model knows by name. -/
import Derived.Test.YtadkdfecmpjmdaaGreatDoorHM
import Derived.Test.YtadkdfecmpjmdaaGreatDoorHP
set_option linter.unusedVariables false
set_option linter.unusedSimpArgs false
namespace Go.H
variable {P : Program} {ev : Operand → Value} {h : Heap} {K : Next → Heap → Prop} {E : Halt → Heap → Prop}

theorem raw_toUnsafe {o : Oper} {src dst t e : TypeId} {x : Operand} {a : Addr} {n cells : Nat} (ho : o.op = .convert src dst x) (hx : ev x = .pointer (some a)) (hs : P.underlying src = some (.pointer t)) (hd : P.underlying dst = some .unsafePointer)
    (hn : sizeOfT P t = some n) (h0 : n ≠ 0) (hsh : hshape h a.block = some (e, cells)) (hoff : a.off < cells) (k : K (.value (.pointer (some a))) h) : HRaw P o ev h (noDefer K) E := by
  refine ⟨?_⟩
  unfold execOp
  rw [ho]
  dsimp only
  rw [hw_bind', hx]
  unfold convert
  rw [hw_bind', hw_underlying hs, hw_bind', hw_underlying hd]
  dsimp only
  unfold Conv.unsafePointer
  rw [hw_bind', hw_underlying hs, hw_bind', hw_underlying hd]
  dsimp only
  unfold Conv.seenAt viewAt cellsIn
  simp only [hw_bind']
  show hw P false (shape a.block) h _ E
  have e1 : ∀ (Q : Option (TypeId × Nat) → Heap → Prop), hw P false (shape a.block) h Q E = Q (hshape h a.block) h := fun Q => rfl
  rw [e1, hsh, if_pos (show (some (e, cells)).isSome = true from rfl), hw_pure]
  dsimp only
  rw [hw_pure]
  show hw P false (shape a.block) h _ E
  rw [e1, hsh]
  show hw P false (sizeOf t) h _ E
  rw [hw_size hn]
  have : ¬ (a.off ≥ cells) := by omega
  simp only [h0, this, decide_false, Bool.false_and, Bool.or_false, decide_eq_true_eq, if_false]
  exact k
theorem raw_fromUnsafe {o : Oper} {src dst u e : TypeId} {x : Operand} {a : Addr} {n cells : Nat} (ho : o.op = .convert src dst x) (hx : ev x = .pointer (some a)) (hs : P.underlying src = some .unsafePointer) (hd : P.underlying dst = some (.pointer u))
    (hn : sizeOfT P u = some n) (h0 : n ≠ 0) (hsh : hshape h a.block = some (e, cells)) (hl : liesAt P P.depth e (cells / P.cellsOf e) a.off u 1 = true) (k : K (.value (.pointer (some a))) h) : HRaw P o ev h (noDefer K) E := by
  refine ⟨?_⟩
  unfold execOp
  rw [ho]
  dsimp only
  rw [hw_bind', hx]
  unfold convert
  rw [hw_bind', hw_underlying hs, hw_bind', hw_underlying hd]
  dsimp only
  unfold Conv.unsafePointer
  rw [hw_bind', hw_underlying hs, hw_bind', hw_underlying hd]
  dsimp only
  unfold Conv.seenAt viewAt variablesAt
  simp only [hw_bind']
  show hw P false (shape a.block) h _ E
  have e1 : ∀ (Q : Option (TypeId × Nat) → Heap → Prop), hw P false (shape a.block) h Q E = Q (hshape h a.block) h := fun Q => rfl
  rw [e1, hsh, if_pos (show (some (e, cells)).isSome = true from rfl), hw_pure]
  dsimp only
  rw [hw_pure]
  show hw P false (sizeOf u) h _ E
  rw [hw_size hn, hw_program']
  show hw P false (shape a.block) h _ E
  rw [e1, hsh]
  dsimp only
  rw [hw_pure, hl]
  simp only [Bool.or_true, if_true]
  exact k
theorem raw_extern {o : Oper} {f : FuncId} {args : Array Operand} {ts : Array TypeId} {fn : Func} {g : Array Value → Sem Value} {v : Value} (ho : o.op = .call ⟨.value (.func f), args, ts⟩) (hev : ev (.func f) = .func (.func f) #[] #[]) (hf : P.funcs[f]? = some fn)
    (hn : (fn.name == "runtime.NumGoroutine") = false) (hb : fn.body.isNone = true) (hx : (Extern.findNext fn).isNone = true) (hg : Extern.find fn = some g) (hv : g (args.toList.map ev).toArray = pure v) (k : K (.value v) h) : HRaw P o ev h (noDefer K) E := by
  refine ⟨?_⟩
  unfold execOp
  rw [ho]
  show hw P false (do let d ← Deferred.ofValue (ev (.func f)) (args.map ev); invoke d.target d.args) h _ E
  rw [hev]
  show hw P false (callFunc f ((#[] ++ args.map ev) ++ #[])) h _ E
  have ea : (#[] ++ args.map ev) ++ #[] = (args.toList.map ev).toArray := by apply Array.ext'; simp
  rw [ea]
  unfold callFunc
  rw [hw_bind', hw_program', hf]
  dsimp only
  rw [hn, hb]
  simp only [Bool.false_eq_true, if_false, if_true]
  have e2 : ∀ {α : Type} (m : Mark) (k : Unit → Sem α) (Q : α → Heap → Prop), hw P false (mark m >>= k) h Q E = hw P false (k ()) h Q E := fun m k Q => rfl
  rw [e2]
  cases he : Extern.findNext fn with
  | some e => rw [he] at hx; cases hx
  | none =>
    dsimp only
    rw [hg]
    dsimp only
    rw [hw_bind', hv, hw_pure, hw_pure]
    exact k
end Go.H
