/- Lists of things, in slices: as they are, and owned. -/
import Derived.Test.YtadkdfecmpjmdaaGreatDoorHK
set_option linter.unusedVariables false
set_option linter.unusedSimpArgs false
namespace Go.H

section els
variable {α : Type}
def Els (R : Heap → α → List Value → Prop) (h : Heap) : List α → List Value → Prop
  | [], xs => xs = []
  | d :: r, xs => ∃ a b, xs = a ++ b ∧ R h d a ∧ Els R h r b
theorem Els.map {R Q : Heap → α → List Value → Prop} {h h' : Heap} (f : ∀ d cs, R h d cs → Q h' d cs) : ∀ {l : List α} {xs : List Value}, Els R h l xs → Els Q h' l xs
  | [], xs, r => r
  | d :: l, xs, r => by obtain ⟨a, b, rfl, r1, r2⟩ := r; exact ⟨a, b, rfl, f _ _ r1, Els.map f r2⟩
theorem Els.get {R : Heap → α → List Value → Prop} {h : Heap} {n : Nat} (hn : ∀ d cs, R h d cs → cs.length = n) : ∀ {l : List α} {xs : List Value} (_ : Els R h l xs) (i : Nat) (hi : i < l.length), ∃ cs, R h l[i] cs ∧ ∀ j, j < n → xs[i * n + j]? = cs[j]?
  | [], _, _, i, hi => by simp at hi
  | d :: l, xs, r, i, hi => by
    obtain ⟨a, b, rfl, r1, r2⟩ := r
    cases i with
    | zero =>
      refine ⟨a, r1, fun j hj => ?_⟩
      rw [Nat.zero_mul, Nat.zero_add, List.getElem?_append_left (by rw [hn _ _ r1]; exact hj)]
    | succ i =>
      obtain ⟨cs, k1, k2⟩ := Els.get hn r2 i (by simpa using hi)
      refine ⟨cs, k1, fun j hj => ?_⟩
      rw [← k2 j hj, List.getElem?_append_right (by rw [hn _ _ r1, Nat.add_mul]; omega), hn _ _ r1]
      congr 1; rw [Nat.add_mul]; omega
theorem Sl.loadEl {R : Heap → α → List Value → Prop} {h : Heap} {n : Nat} (hn : ∀ d cs, R h d cs → cs.length = n) {a : Option Addr} {c : Nat} {xs : List Value} {l : List α} {p : Addr} {i : Nat} {K : Value → Prop}
    (x : Sl h n a l.length c xs) (r : Els R h l xs) (ep : a = some p) (hi : i < l.length) (k : ∀ cs, R h l[i] cs → K (.agg cs.toArray)) : HLoadN h (p.add (i * n)) n K := by
  obtain ⟨cs, r1, r2⟩ := r.get hn i hi
  refine ⟨cs, hn _ _ r1, fun j hj => ?_, k cs r1⟩
  rw [← r2 j hj, add_add, x.2.2.2 p ep (i * n + j) ?_]
  calc i * n + j < i * n + n := by omega
    _ = (i + 1) * n := by rw [Nat.add_mul]; omega
    _ ≤ l.length * n := Nat.mul_le_mul_right _ hi

theorem Own.lt {h : Heap} {B e size n c : Nat} {a : Option Addr} {xs : List Value} (x : Own h B e size a n c xs) : ∀ p, a = some p → B ≤ p.block ∧ p.block < h.size := by
  intro p ep
  obtain ⟨b, s, rfl, h2, _, h4⟩ := x.2.2.2 p ep
  exact ⟨h2, h4.lt⟩
end els

end Go.H
