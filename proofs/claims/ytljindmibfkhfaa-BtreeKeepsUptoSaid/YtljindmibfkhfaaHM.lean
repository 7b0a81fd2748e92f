/- Functions that defer closures, and closures that recover. -/
import Derived.Test.YtljindmibfkhfaaHL
import Derived.Recover
set_option linter.unusedVariables false
set_option linter.unusedSimpArgs false
namespace Go.H

/-- What a deferred call comes to; u: how the function around it ends. -/
def HCallsD (P : Program) (f : FuncId) (args : Array Value) (u : FrameMode) (h : Heap) (R : Ending → FrameMode → Heap → Prop) : Prop :=
  ∀ w : World, w.heap = h → CallsD P f args u w fun e u' w' => Side w w' ∧ R e u' w'.heap
inductive HDeferred (P : Program) (f : FuncId) (args : Array Value) (u : FrameMode) (h : Heap) (R : Ending → FrameMode → Heap → Prop) : Prop
  | mk (k : HCallsD P f args u h R)
def notRun : FrameMode → Bool
  | .run => false
  | _ => true
/-- A body's end: its deferred calls, then its results. -/
def HLv (P : Program) (as : List ARes) (R : Ending → Heap → Prop) (fr : Nat → Value) : List Deferred → FrameMode → Heap → Prop
  | [], .returning, h => ares fr h as fun vs => R (.returned (oneOrMore vs)) h
  | [], .panicking ch, h => R (.panicked ch) h
  | [], .run, _ => False
  | d :: ds, u, h => match d.target with
    | .fn (.func f) cap => HMust (goesIn P f = true ∧ notRun u = true) (HDeferred P f (d.args ++ cap) u h fun e u' h' => match e with
      | .returned _ => HLv P as R fr ds (settle u') h'
      | .panicked ch => HLv P as R fr ds (raised u' ch) h'
      | .outgrown => False)
    | _ => False
def abodyD (P : Program) (as : List ARes) (R : Ending → Heap → Prop) (e : Exit) (a : AF) (h : Heap) : Prop :=
  match e with
  | .normal => HLv P as R a.fr a.df .returning h
  | .ret => HLv P as R a.fr a.df .returning h
  | .panic ch => HLv P as R a.fr a.df (.panicking ch) h
  | _ => False

section
variable {P : Program} {n : Nat}

theorem leaves_of {fn : Func} {as : List ARes} {R : Ending → Heap → Prop} {b : Act} {w0 : World} (hr : compRes P n fn.results.toList = some as) : ∀ (ds : List Deferred) (u : FrameMode) (w : World), Side w0 w →
    HLv P as R (toAF b).fr ds u w.heap → Leaves P fn b.tmps (fun e w' => Side w0 w' ∧ R e w'.heap) ds u w
  | [], .returning, w, s, hh => by
    obtain ⟨v, h1, h2⟩ := results_run (K := fun v => R (.returned v) w.heap) hr hh
    exact ⟨v, h1, s, h2⟩
  | [], .panicking ch, w, s, hh => ⟨s, hh⟩
  | [], .run, w, s, hh => hh.elim
  | d :: ds, u, w, s, hh => by
    obtain ⟨target, args⟩ := d
    simp only [HLv] at hh
    split at hh
    · rename_i f cap
      obtain ⟨⟨hg, hu⟩, ⟨k⟩⟩ := hh
      refine leaves_cons (f := f) (args := args ++ cap) (by intro e; rw [e] at hu; cases hu) ?_ ?_
      · have h1 : hw P true (callFunc f (args ++ cap)) w.heap (fun a _ => a = Next.enter f (args ++ cap)) (fun _ _ => False) := goes_callFunc hg rfl
        have h2 := hw_sound _ _ _ _ h1 w rfl
        show (callFunc f (args ++ cap)).run P w = _
        generalize (callFunc f (args ++ cap)).run P w = r at h2
        cases r with
        | ok v w' => obtain ⟨_, e1, e2⟩ := h2; rw [e1 rfl, e2]
        | halt hl w' => exact h2.2.2.elim
      · refine (k w rfl).mono ?_
        rintro e u' w' ⟨s', hk⟩
        cases e with
        | returned v => exact leaves_of hr ds _ w' (s.trans s') hk
        | panicked ch => exact leaves_of hr ds _ w' (s.trans s') hk
        | outgrown => exact hk.elim
    · exact hh.elim

theorem hcalls_of_d {f : FuncId} {fn : Func} {c : Code} {ac : ACode} {as : List ARes} {args : Array Value} {h : Heap} {R : Ending → Heap → Prop}
    (hf : P.funcs[f]? = some fn) (hb : fn.body = some c) (hn : fn.ntmps = n) (hc : compCode P n c = ac) (hr : compRes P n fn.results.toList = some as) (ha : args.size ≤ n)
    (hh : aexec P ac (abodyD P as R) ⟨initFr args.toList, []⟩ h) : HCalls P f args h R := by
  intro w hw
  subst hw hc
  refine calls_of_wp_defers hf hb ?_
  let b : Act := { tmps := args ++ Array.replicate (fn.ntmps - args.size) undef, defers := [] }
  have hsz : b.tmps.size = n := by simp [b, hn]; omega
  have htb : toAF b = ⟨initFr args.toList, []⟩ := by
    unfold toAF
    congr 1
    funext t
    rw [Array.getD_eq_getD_getElem?, ← Array.getElem?_toList]
    simp only [b, Array.toList_append, Array.toList_replicate]
    exact initFr_eq _ _ _
  rw [← htb] at hh
  refine wp_mono ((aexec_sound c _ b w.heap hsz hh).wp w rfl) ?_
  rintro e b' w' ⟨s, hb', hk⟩
  cases e with
  | normal => exact leaves_of hr _ _ _ s hk
  | ret => exact leaves_of hr _ _ _ s hk
  | panic ch => exact leaves_of hr _ _ _ s hk
  | exit id => exact hk.elim
  | goto l => exact hk.elim
  | outgrown => exact hk.elim

/-- What a recover yields, and how the function around ends then. -/
def recov (u : FrameMode) : Value × FrameMode :=
  match u with
  | .panicking ({ v, recovered := false, goexit := false } :: older) => (v, .panicking ({ v, recovered := true } :: older))
  | u => (.nilIface, u)
def isRecover (o : Oper) : Option Nat :=
  match o with
  | { dst := some d, op := .call { callee := .builtin .recover, args, argTypes := _ }, guard := none, .. } => if args.size = 0 then some d else none
  | _ => none

theorem hcallsD_recover {f : FuncId} {fn : Func} {id d : Nat} {o : Oper} {rest : Code} {ac : ACode} {as : List ARes} {args : Array Value} {h : Heap} {R : Ending → FrameMode → Heap → Prop} {u : FrameMode}
    (hf : P.funcs[f]? = some fn) (hb : fn.body = some (.seq (.region id #[o] false) rest)) (ho : isRecover o = some d) (hn : fn.ntmps = n) (hd : d < n) (hc : compCode P n rest = ac) (hr : compRes P n fn.results.toList = some as) (ha : args.size ≤ n)
    (hh : aexec P ac (abody as fun e h' => R e (recov u).2 h') ⟨upd (initFr args.toList) d (recov u).1, []⟩ h) : HCallsD P f args u h R := by
  intro w hw
  subst hw hc
  refine callsD_of_wpS hf hb fun c₀ cs hu => ?_
  let b : Act := { tmps := args ++ Array.replicate (fn.ntmps - args.size) undef, defers := [] }
  have hsz : b.tmps.size = n := by simp [b, hn]; omega
  have htb : toAF b = ⟨initFr args.toList, []⟩ := by
    unfold toAF
    congr 1
    funext t
    rw [Array.getD_eq_getD_getElem?, ← Array.getElem?_toList]
    simp only [b, Array.toList_append, Array.toList_replicate]
    exact initFr_eq _ _ _
  obtain ⟨dst, op, type, pos, after, guard⟩ := o
  have hop : dst = some d ∧ guard = none ∧ ∀ ev, (execOp ev ⟨dst, op, type, pos, after, guard⟩).run P w = .ok .recover w := by
    unfold isRecover at ho
    split at ho
    · rename_i e
      split at ho <;> cases ho
      simp only [Oper.mk.injEq] at e
      obtain ⟨rfl, rfl, _, _, _, rfl⟩ := e
      exact ⟨rfl, rfl, fun ev => rfl⟩
    · cases ho
  obtain ⟨rfl, rfl, hex⟩ := hop
  have hb' : (b.put (some d) (recov u).1).tmps.size = n := by rw [put_size, hsz]
  have htb' : toAF (b.put (some d) (recov u).1) = ⟨upd (initFr args.toList) d (recov u).1, []⟩ := by
    rw [toAF_put (by rw [hsz]; simpa [dstOk] using hd), htb]; rfl
  refine wpS_seq (wpS_region ?_)
  show wpOpsS P _ _ [0] b (c₀ :: cs) w
  have hnext : (Exit.thenS (rest.wpS P (bodyPostS P fn c₀ cs fun e u' w' => Side w w' ∧ R e u' w'.heap)) (bodyPostS P fn c₀ cs fun e u' w' => Side w w' ∧ R e u' w'.heap)) .normal (b.put (some d) (recov u).1) ({ c₀ with mode := (recov u).2 } :: cs) w := by
    show rest.wpS P _ _ _ _
    rw [← htb'] at hh
    refine wpS_of_wp (wp_mono ((aexec_sound rest _ _ w.heap hb' hh).wp w rfl) ?_)
    rintro e b'' w' ⟨s, hb'', hk⟩
    have res : ∀ K : Value → Prop, (match (toAF b'').df with | [] => ares (toAF b'').fr w'.heap as fun vs => K (oneOrMore vs) | _ => False) →
        b''.defers = [] ∧ ∃ v, (results fn b''.tmps).run P w' = .ok v w' ∧ K v := by
      intro K hk
      split at hk
      · rename_i hd; exact ⟨hd, results_run hr hk⟩
      · exact hk.elim
    cases e with
    | normal =>
      obtain ⟨hd, v, h1, h2⟩ := res (fun v => R (.returned v) (recov u).2 w'.heap) hk
      exact ⟨hd, _, rfl, v, h1, s, h2⟩
    | ret =>
      obtain ⟨hd, v, h1, h2⟩ := res (fun v => R (.returned v) (recov u).2 w'.heap) hk
      exact ⟨hd, _, rfl, v, h1, s, h2⟩
    | panic ch =>
      simp only [abody] at hk
      split at hk
      · rename_i hd; exact ⟨hd, _, rfl, s, hk⟩
      · exact hk.elim
    | exit id => exact hk.elim
    | goto l => exact hk.elim
    | outgrown => exact hk.elim
  simp only [wpOpsS]
  rw [show (#[(⟨some d, op, type, pos, after, none⟩ : Oper)] : Array Oper)[0]? = some ⟨some d, op, type, pos, after, none⟩ from rfl]
  simp only [Region.wanted, if_true]
  rw [hex]
  simp only
  obtain ⟨mode0, hm⟩ : ∃ m, c₀.mode = m := ⟨_, rfl⟩
  subst hu
  revert hnext
  generalize hrc : recov c₀.mode = rc
  unfold recov at hrc
  split at hrc
  · rename_i v older e
    subst hrc
    have e0 : recoverD (c₀ :: cs) = some (v, { c₀ with mode := .panicking ({ v, recovered := true } :: older) } :: cs) := by
      unfold recoverD; dsimp only; rw [e]
    rw [e0]
    intro hnext
    exact hnext
  · rename_i hno
    subst hrc
    have e0 : recoverD (c₀ :: cs) = none := by
      unfold recoverD
      dsimp only
      split
      · rename_i v' older e'
        exact (hno _ _ e').elim
      · rfl
    rw [e0]
    intro hnext
    exact hnext

end
end Go.H
