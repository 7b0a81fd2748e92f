/- Functions that range over a function; calls of yield. -/
import Derived.Test.YtadkdfecmpjmdaaGreatDoorHM
set_option linter.unusedVariables false
set_option linter.unusedSimpArgs false
namespace Go.H

inductive HMark (h : Heap) (D : Nat) (K : Heap → Prop) : Prop
  | mk (e : h[D]? = some (.deferred (some []))) (k : K (h.setIfInBounds D (.deferred none)))
def HLm (as : List ARes) (R : Ending → Heap → Prop) (fr : Nat → Value) : List Deferred → FrameMode → Heap → Prop
  | [], .returning, h => ares fr h as fun vs => R (.returned (oneOrMore vs)) h
  | [], .panicking ch, h => R (.panicked ch) h
  | [], .run, _ => False
  | d :: ds, u, h => match d.target with
    | .collected D => HMark h D (HLm as R fr ds u)
    | _ => False
def abodyM (as : List ARes) (R : Ending → Heap → Prop) (e : Exit) (a : AF) (h : Heap) : Prop :=
  match e with
  | .normal => HLm as R a.fr a.df .returning h
  | .ret => HLm as R a.fr a.df .returning h
  | .panic ch => HLm as R a.fr a.df (.panicking ch) h
  | _ => False

section
variable {P : Program} {n : Nat}
theorem hlm_run {as : List ARes} {R : Ending → Heap → Prop} {fr : Nat → Value} : ∀ (ds : List Deferred) (h : Heap), HLm as R fr ds .run h → False
  | [], h, x => x
  | d :: ds, h, x => by
    simp only [HLm] at x
    split at x
    · obtain ⟨_, k⟩ := x; exact hlm_run ds _ k
    · exact x
theorem leavesM_of {fn : Func} {as : List ARes} {R : Ending → Heap → Prop} {b : Act} {w0 : World} (hr : compRes P n fn.results.toList = some as) : ∀ (ds : List Deferred) (u : FrameMode) (w : World), Side w0 w →
    HLm as R (toAF b).fr ds u w.heap → LeavesInM Fence.wide 0 P fn b.tmps (fun e w' => Side w0 w' ∧ R e w'.heap) ds u w
  | [], .returning, w, s, hh => by
    obtain ⟨v, h1, h2⟩ := results_run (K := fun v => R (.returned v) w.heap) hr hh
    exact ⟨v, h1, s, h2⟩
  | [], .panicking ch, w, s, hh => ⟨s, hh⟩
  | [], .run, w, s, hh => hh.elim
  | d :: ds, u, w, s, hh => by
    have hu : u ≠ .run := by rintro rfl; exact hlm_run _ _ hh
    simp only [HLm] at hh
    split at hh
    · rename_i D ht
      obtain ⟨e, k⟩ := hh
      exact ⟨hu, .inl ⟨D, _, ht, run_takeDeferred e, leavesM_of hr ds u _ ⟨s.os, s.tape, s.output⟩ k⟩⟩
    · exact hh.elim

theorem hcalls_of_m {f : FuncId} {fn : Func} {c : Code} {ac : ACode} {as : List ARes} {args : Array Value} {h : Heap} {R : Ending → Heap → Prop}
    (hf : P.funcs[f]? = some fn) (hb : fn.body = some c) (hn : fn.ntmps = n) (hc : compCode P n c = ac) (hr : compRes P n fn.results.toList = some as) (ha : args.size ≤ n)
    (hh : aexec P ac (abodyM as R) ⟨initFr args.toList, []⟩ h) : HCalls P f args h R := by
  intro w hw
  subst hw hc
  refine (callsIn_wide (n := 0)).1 (callsIn_of_wp_marks hf hb trivial ?_)
  let b : Act := { tmps := args ++ Array.replicate (fn.ntmps - args.size) undef, defers := [] }
  have hsz : b.tmps.size = n := by simp [b, hn]; omega
  have htb : toAF b = ⟨initFr args.toList, []⟩ := by
    unfold toAF
    congr 1
    funext t
    rw [Array.getD_eq_getD_getElem?, ← Array.getElem?_toList]
    simp only [b, Array.toList_append, Array.toList_replicate]
    exact initFr_eq _ _ _
  rw [← htb] at hh
  refine wpIn_mono (aexec_sound c _ b w.heap hsz hh none w (fun e => by cases e) rfl) ?_
  rintro e b' w' ⟨s, hb', hk⟩
  cases e with
  | normal => exact leavesM_of hr _ _ _ s hk
  | ret => exact leavesM_of hr _ _ _ s hk
  | panic ch => exact leavesM_of hr _ _ _ s hk
  | exit id => exact hk.elim
  | goto l => exact hk.elim
  | outgrown => exact hk.elim

theorem yield_call {l : Nat} {args : Array Value} {h : Heap} {R : Ending → Heap → Prop} {dst : Option Nat} {fr : Nat → Value} {df : List Deferred} {next : AF → Heap → Prop} {K : APost}
    (y : HYield P l args h R) (k : ∀ e h', R e h' → match e with
      | .returned v => next ⟨updO fr dst v, df⟩ h'
      | .panicked ch => K (.panic ch) ⟨fr, df⟩ h'
      | .outgrown => False) : HYieldN l args h (anext P dst ⟨fr, df⟩ next K) := by
  obtain ⟨r, h1, h2, h3⟩ := y
  refine ⟨r, h1, h2, ⟨h3.mono fun e h' he => ?_⟩⟩
  have := k e h' he
  cases e with
  | returned v => simp only [force_eq]; exact this
  | panicked ch => exact this
  | outgrown => exact this
end
end Go.H
