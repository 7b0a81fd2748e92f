/- Slices of texts and of integers that came in. -/
import Derived.Test.YthagjflkdoafmaaRU
import Derived.Test.YthagjflkdoafmaaHK
import Derived.ChangeArms
set_option linter.unusedVariables false
set_option linter.unusedSimpArgs false
namespace Go.Proofs.Ythagjflkdoafmaa.RU
open Go Go.H Go.Proofs Go.ChangeShapes Go.WideShapes Go.RowKit
set_option maxRecDepth 100000

theorem list_ex {α β : Type} : ∀ (l : List α) (R : Nat → α → β → Prop) (_ : ∀ i (hi : i < l.length), ∃ b, R i l[i] b), ∃ bs : List β, bs.length = l.length ∧ ∀ i (hi : i < l.length) (hb : i < bs.length), R i l[i] bs[i]
  | [], R, h => ⟨[], rfl, fun i hi => by simp at hi⟩
  | a :: l, R, h => by
    obtain ⟨b, hb⟩ := h 0 (by simp)
    obtain ⟨bs, h1, h2⟩ := list_ex l (fun i => R (i + 1)) fun i hi => h (i + 1) (by simpa using hi)
    refine ⟨b :: bs, by simp [h1], fun i hi hj => ?_⟩
    cases i with
    | zero => exact hb
    | succ i => exact h2 i (by simpa using hi) (by simpa using hj)
theorem bulk_mem {H : Type} : ∀ (l : List (DataW H)) (d : DataW H), d ∈ l → Rows.uptoBulk d + l.length ≤ Rows.uptoBulkAll l + 1
  | [], d, h => by cases h
  | e :: r, d, h => by
    simp only [Rows.uptoBulkAll, List.length_cons]
    have h1 := one_le e
    rcases List.mem_cons.1 h with rfl | h
    · have := length_le r; omega
    · have := bulk_mem r d h; omega
section
variable {H : Type} {enc : TypeId × Value → H} {P : Program} {W : World} {base : Nat} {spare : Nat → Bool} {held : Bool}

/-- Some texts that came in: how many, and each one's length, are at most their bulk. -/
theorem open_strs {t e : TypeId} (hu : P.underlying t = some (.slice e)) (he : P.underlying e = some .string) (hc : P.cellsOf e = 1) {fuel : Nat} {cs : List Value} {x : DataW H × List MemPlace} (h : DataW.trod enc P W base spare held fuel t cs = some x) :
    ∃ (a : Option Addr) (ks : List ByteArray) (c : Nat), cs = [.slice a ks.length c] ∧ Sl W.heap 1 a ks.length c (ks.map .string) ∧ ks.length ≤ Rows.uptoBulk x.1 ∧ (∀ k ∈ ks, k.size ≤ Rows.uptoBulk x.1) := by
  rcases DataW.trod_slice hu h with ⟨rfl, rfl⟩ | ⟨a, len, cap, elems, rest, n, _, rfl, rfl, hb, hl, hm, hlen, hel, _, _⟩
  · exact ⟨none, [], 0, rfl, Sl.nil _ _, by simp, by simp⟩
  rw [hc] at hel
  have each : ∀ i (hi : i < elems.length), ∃ s : ByteArray, W.cell? (a.add i) = some (.string s) ∧ elems[i].1 = .lit (.string s.data.toList) ∧ s.size ≤ maxLen := by
    intro i hi
    have h1 := hel i (by omega)
    rw [List.getElem?_eq_getElem hi, Option.bind_eq_some_iff] at h1
    obtain ⟨cs, h2, h3⟩ := h1
    obtain ⟨s, rfl, h4, h5⟩ := DataW.trod_string he h3
    have := cell_of_cells?_one h2
    rw [Nat.mul_one] at this
    exact ⟨s, this, by rw [h4], h5⟩
  obtain ⟨ks, k1, k2⟩ := list_ex elems (fun i y s => W.cell? (a.add i) = some (.string s) ∧ y.1 = .lit (.string s.data.toList) ∧ s.size ≤ maxLen) each
  refine ⟨some a, ks, cap, by rw [k1, hlen], ⟨by simp, by omega, fun e => (by cases e), ?_⟩, ?_, ?_⟩
  · intro p ep i hi
    cases ep
    rw [Nat.mul_one] at hi
    have := (k2 i (by omega) hi).1
    rw [cell_eq] at this
    rw [this, List.getElem?_map, List.getElem?_eq_getElem hi]; rfl
  · have := length_le (elems.map (·.1))
    rw [List.length_map] at this
    simp only [Rows.uptoBulk]; omega
  · intro k hk
    obtain ⟨i, hi, rfl⟩ := List.getElem_of_mem hk
    have hi2 : i < elems.length := by omega
    have h1 := (k2 i hi2 hi).2.1
    have h2 := bulk_mem (elems.map (·.1)) elems[i].1 (List.mem_map.2 ⟨_, List.getElem_mem hi2, rfl⟩)
    have h3 := string_len (H := H) ks[i]
    rw [h1] at h2
    rw [List.length_map] at h2
    simp only [Rows.uptoBulk] at h2 h3 ⊢
    omega
/-- Some integers that came in. -/
theorem open_i64s {t e : TypeId} (hu : P.underlying t = some (.slice e)) (he : P.underlying e = some (.int .i64)) (hc : P.cellsOf e = 1) {fuel : Nat} {cs : List Value} {x : DataW H × List MemPlace} (h : DataW.trod enc P W base spare held fuel t cs = some x) :
    ∃ (a : Option Addr) (ks : List Int) (c : Nat), cs = [.slice a ks.length c] ∧ Sl W.heap 1 a ks.length c (ks.map (.int .i64)) ∧ ks.length ≤ Rows.uptoBulk x.1 ∧ (∀ k ∈ ks, -9223372036854775808 ≤ k ∧ k ≤ 9223372036854775807) := by
  rcases DataW.trod_slice hu h with ⟨rfl, rfl⟩ | ⟨a, len, cap, elems, rest, n, _, rfl, rfl, hb, hl, hm, hlen, hel, _, _⟩
  · exact ⟨none, [], 0, rfl, Sl.nil _ _, by simp, by simp⟩
  rw [hc] at hel
  have each : ∀ i (hi : i < elems.length), ∃ s : Int, W.cell? (a.add i) = some (.int .i64 s) ∧ (-9223372036854775808 ≤ s ∧ s ≤ 9223372036854775807) := by
    intro i hi
    have h1 := hel i (by omega)
    rw [List.getElem?_eq_getElem hi, Option.bind_eq_some_iff] at h1
    obtain ⟨cs, h2, h3⟩ := h1
    obtain ⟨s, rfl, h4, h5⟩ := DataW.trod_int he h3
    have := cell_of_cells?_one h2
    rw [Nat.mul_one] at this
    exact ⟨s, this, by simpa [Lit.wf, IntKind.min, IntKind.max, IntKind.signed, IntKind.bits] using h5⟩
  obtain ⟨ks, k1, k2⟩ := list_ex elems (fun i y s => W.cell? (a.add i) = some (.int .i64 s) ∧ (-9223372036854775808 ≤ s ∧ s ≤ 9223372036854775807)) each
  refine ⟨some a, ks, cap, by rw [k1, hlen], ⟨by simp, by omega, fun e => (by cases e), ?_⟩, ?_, ?_⟩
  · intro p ep i hi
    cases ep
    rw [Nat.mul_one] at hi
    have := (k2 i (by omega) hi).1
    rw [cell_eq] at this
    rw [this, List.getElem?_map, List.getElem?_eq_getElem hi]; rfl
  · have := length_le (elems.map (·.1))
    rw [List.length_map] at this
    simp only [Rows.uptoBulk]; omega
  · intro k hk
    obtain ⟨i, hi, rfl⟩ := List.getElem_of_mem hk
    exact (k2 i (by omega) hi).2
end
end Go.Proofs.Ythagjflkdoafmaa.RU
