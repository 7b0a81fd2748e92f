/- Trees of orders: what holds of every order. -/
import Derived.Test.YtadkdfecmpjmdaaGreatDoorHX
set_option linter.unusedVariables false
namespace Go.H
open Go Go.H
inductive OT
  | run (l : List Nat)
  | seq (l : List Nat) (y : OT)
  | alt (x y : OT)
def OT.code (w : List Nat) (L : Nat → AOper) : OT → ACode
  | .run l => .any w (l.map L)
  | .seq l y => .seq (.any w (l.map L)) (y.code w L)
  | .alt x y => .alt (x.code w L) (y.code w L)
def goOT (need : Nat → List Nat) : List Nat → List Nat → Option (List Nat)
  | [], d => some d
  | j :: r, d => match (need j).all (fun i => d.contains i) && !d.contains j with
    | true => goOT need r (j :: d)
    | false => none
def OT.ok (need : Nat → List Nat) (n : Nat) : OT → List Nat → Bool
  | .run l, d => match goOT need l d with
    | some d' => (List.range n).all fun i => d'.contains i
    | none => false
  | .seq l y, d => match goOT need l d with
    | some d' => y.ok need n d'
    | none => false
  | .alt x y, d => x.ok need n d && y.ok need n d
def StepOT (P : Program) (need : Nat → List Nat) (L : Nat → AOper) (I : List Nat → (Nat → Value) → Heap → Prop) : Prop :=
  ∀ (d : List Nat) (j : Nat), (∀ i ∈ need j, d.contains i = true) → d.contains j = false → ∀ (fr : Nat → Value) (df : List Deferred) (h : Heap) (next : AF → Heap → Prop) (K : APost), I d fr h →
    (∀ fr' h', I (j :: d) fr' h' → next ⟨fr', df⟩ h') → aopN P (L j) next K ⟨fr, df⟩ h
theorem go_rule {P : Program} {need : Nat → List Nat} {L : Nat → AOper} {I : List Nat → (Nat → Value) → Heap → Prop} (s : StepOT P need L I) {K : APost} {df : List Deferred} : ∀ (l d d' : List Nat), goOT need l d = some d' → ∀ fr h, I d fr h →
    (∀ fr' h', I d' fr' h' → K .normal ⟨fr', df⟩ h') → aops P K (l.map L) ⟨fr, df⟩ h
  | [], d, d', e, fr, h, i, k => by cases e; exact k fr h i
  | j :: r, d, d', e, fr, h, i, k => by
    unfold goOT at e
    cases hc : (need j).all (fun i => d.contains i) && !d.contains j with
    | false => rw [hc] at e; cases e
    | true =>
      rw [hc] at e
      rw [Bool.and_eq_true, List.all_eq_true] at hc
      rw [List.map_cons, aops_cons]
      exact s d j hc.1 (by simpa using hc.2) fr df h _ K i fun fr' h' i' => go_rule s r (j :: d) d' e fr' h' i' k
theorem tree_rule {P : Program} (need : Nat → List Nat) (n : Nat) {L : Nat → AOper} (I : List Nat → (Nat → Value) → Heap → Prop) (s : StepOT P need L I) {w : List Nat} : ∀ (T : OT) (d : List Nat), T.ok need n d = true → ∀ {K : APost} {df : List Deferred} {fr : Nat → Value} {h : Heap}, I d fr h →
    (∀ d' fr' h', (∀ i, i < n → d'.contains i = true) → I d' fr' h' → K .normal ⟨fr', df⟩ h') → aexec P (T.code w L) K ⟨fr, df⟩ h
  | .run l, d, e, K, df, fr, h, i, k => by
    unfold OT.ok at e
    cases hg : goOT need l d with
    | none => rw [hg] at e; cases e
    | some d' =>
      rw [hg] at e
      exact go_rule s (K := havoc w K) l d d' hg fr h i fun fr' h' i' => k d' fr' h' (fun j hj => List.all_eq_true.1 e j (List.mem_range.2 hj)) i'
  | .seq l y, d, e, K, df, fr, h, i, k => by
    unfold OT.ok at e
    cases hg : goOT need l d with
    | none => rw [hg] at e; cases e
    | some d' =>
      rw [hg] at e
      exact go_rule s (K := havoc w (thenA (aexec P (y.code w L) K) K)) l d d' hg fr h i fun fr' h' i' => tree_rule need n I s y d' e i' k
  | .alt x y, d, e, K, df, fr, h, i, k => by
    unfold OT.ok at e
    rw [Bool.and_eq_true] at e
    exact HAlt.mk (tree_rule need n I s x d e.1 i k) (tree_rule need n I s y d e.2 i k)
end Go.H
