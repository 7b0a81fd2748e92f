/- A loop whose invariant tells of a thing that memory holds: the thing falls in a measure. -/
import Derived.Test.YtadkdfecmpjmdaaGreatDoorHR
set_option linter.unusedVariables false
set_option linter.unusedSimpArgs false
namespace Go.H
theorem allSlots_all {α : Type} : ∀ (ss : List Nat) (u : Nat → Value) (F : α → (Nat → Value) → List Value → Prop), (∀ x, allSlots ss u (F x)) → allSlots ss u fun u' vs => ∀ x, F x u' vs
  | [], u, F, h => h
  | s :: ss, u, F, h => fun v => allSlots_all ss _ (fun x u' vs => F x u' (v :: vs)) fun x => h x v
theorem allSlots_mono : ∀ (ss : List Nat) (u : Nat → Value) (F G : (Nat → Value) → List Value → Prop), (∀ u' vs, F u' vs → G u' vs) → allSlots ss u F → allSlots ss u G
  | [], u, F, G, h, k => h _ _ k
  | s :: ss, u, F, G, h, k => fun v => allSlots_mono ss _ _ _ (fun u' vs => h u' (v :: vs)) (k v)
theorem least_of (p : Nat → Prop) : ∀ n, p n → ∃ m, p m ∧ ∀ k, p k → m ≤ k := by
  intro n
  induction n using Nat.strongRecOn with
  | ind n ih =>
  intro hp
  by_cases h : ∃ k, k < n ∧ p k
  · obtain ⟨k, hk, pk⟩ := h; exact ih k hk pk
  · refine ⟨n, hp, fun k pk => ?_⟩
    rcases Nat.lt_or_ge k n with hl | hl
    · exact absurd ⟨k, hl, pk⟩ h
    · exact hl
open Classical in
noncomputable def leastM {α : Type} (J : α → List Value → Heap → Prop) (m : α → Nat) (vs : List Value) (h : Heap) : Nat :=
  if hx : ∃ n, ∃ x, J x vs h ∧ m x = n then (least_of (fun n => ∃ x, J x vs h ∧ m x = n) hx.choose hx.choose_spec).choose else 0
theorem leastM_at {α : Type} {J : α → List Value → Heap → Prop} {m : α → Nat} {vs : List Value} {h : Heap} {x : α} (j : J x vs h) : (∃ y, J y vs h ∧ m y = leastM J m vs h) ∧ leastM J m vs h ≤ m x := by
  have hx : ∃ n, ∃ x, J x vs h ∧ m x = n := ⟨_, x, j, rfl⟩
  have e : leastM J m vs h = (least_of (fun n => ∃ x, J x vs h ∧ m x = n) hx.choose hx.choose_spec).choose := by unfold leastM; rw [dif_pos hx]
  have s := (least_of (fun n => ∃ x, J x vs h ∧ m x = n) hx.choose hx.choose_spec).choose_spec
  rw [e]
  exact ⟨s.1, s.2 _ ⟨x, j, rfl⟩⟩
theorem loop_ghost {α : Type} {P : Program} {b : ACode} {K : APost} {a : AF} {h : Heap} (live : List Nat) (J : α → List Value → Heap → Prop) (m : α → Nat) (hl : local' b = true)
    (start : ∃ x, J x (live.map a.fr) h)
    (round : ∀ (x : α) (u : Nat → Value) (h' : Heap), allSlots live u fun u' vs => J x vs h' →
      aexec P b (thenA (fun a'' h'' => ∃ y, J y (live.map a''.fr) h'' ∧ m y < m x) K) (mixA (writes b) u' a) h') : HLoop (aexec P b) K a h := by
  refine loop_rule live (fun vs h => ∃ x, J x vs h) (leastM J m) hl start ?_
  intro u h'
  refine allSlots_mono live u _ _ ?_ (allSlots_all live u _ fun x => round x u h')
  rintro u' vs hall ⟨x0, j0⟩
  obtain ⟨⟨x, jx, ex⟩, _⟩ := leastM_at (m := m) j0
  refine aexec_mono b ?_ _ h' (hall x jx)
  intro e a'' h'' k
  cases e with
  | normal =>
    obtain ⟨y, jy, hy⟩ := k
    exact ⟨⟨y, jy⟩, by have := (leastM_at (m := m) jy).2; omega⟩
  | _ => exact k
end Go.H
