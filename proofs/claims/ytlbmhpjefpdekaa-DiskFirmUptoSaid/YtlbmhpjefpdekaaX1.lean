/- Maps from sectors to bytes: what the heap holds, and what the library does with them (by the shelf's contracts). -/
import Derived.Test.YtlbmhpjefpdekaaX0
import Derived.Test.YtlbmhpjefpdekaaHQ
import Derived.Test.YtlbmhpjefpdekaaHK
import Derived.Test.YtlbmhpjefpdekaaC0
import Derived.Shelf.SlIterI.Nil
import Derived.Shelf.SortM.Plain
import Derived.Shelf.SortM.SortNone
import Derived.Shelf.SlMaps.Copy
import Derived.Shelf.SlMaps.Clone
set_option linter.unusedVariables false
set_option linter.unusedSimpArgs false
namespace Go.Proofs.Ytlbmhpjefpdekaa.Hc
open Go Go.H Go.Proofs
set_option maxRecDepth 100000
set_option maxHeartbeats 4000000

/-- Entries that hold a function from sectors to bytes. -/
structure MS (es : List MapEntry) (clock : Nat) (g : Nat → Option ByteArray) : Prop where
  st1 : ∀ x ∈ es, x.born < clock
  st2 : (es.map (·.born)).Nodup
  st3 : (es.map (·.key)).Nodup
  en : ∀ x ∈ es, ∃ (i : Nat) (s : ByteArray), x.key = .int .i64 i ∧ x.val = .string s ∧ g i = some s
  al : ∀ i s, g i = some s → ∃ x ∈ es, x.key = .int .i64 (i : Nat)
  bd : ∀ i s, g i = some s → i < 2048 ∧ s.size = 4096
def MR (h : Heap) (r : Nat) (g : Nat → Option ByteArray) : Prop := ∃ es clock, h[r]? = some (.map es clock) ∧ MS es.toList clock g
theorem MR.of {h h' : Heap} {r : Nat} {g : Nat → Option ByteArray} (x : MR h r g) (e : h'[r]? = h[r]?) : MR h' r g := by unfold MR; rw [e]; exact x
theorem MR.lt {h : Heap} {r : Nat} {g : Nat → Option ByteArray} (x : MR h r g) : r < h.size := by
  obtain ⟨es, clock, e, _⟩ := x
  rcases Nat.lt_or_ge r h.size with hl | hl
  · exact hl
  · rw [Array.getElem?_eq_none hl] at e; cases e
theorem MR.ext {h h' : Heap} {r : Nat} {g : Nat → Option ByteArray} (x : MR h r g) (k : Ext h h') : MR h' r g := x.of (k.2 _ x.lt)
theorem MR.offk {h h' : Heap} {r k : Nat} {g : Nat → Option ByteArray} (x : MR h r g) (o : Off k h h') (hk : r ≠ k) : MR h' r g := x.of (o.2 _ x.lt hk)
theorem MS.isKey {es : List MapEntry} {clock : Nat} {g : Nat → Option ByteArray} (m : MS es clock g) : ∀ x ∈ es, MapKept.IsKey (.int .i64) x.key := by
  intro x hx
  obtain ⟨i, s, e, _⟩ := m.en x hx
  rw [e]; exact rfl
theorem key_inj {i j : Nat} (h : Value.int .i64 (i : Nat) = Value.int .i64 (j : Nat)) : i = j := by
  injection h with _ h; omega
theorem MR.find {h : Heap} {r : Nat} {g : Nat → Option ByteArray} (x : MR h r g) (i : Nat) : ∃ es clock f, h[r]? = some (.map es clock) ∧ MS es.toList clock g ∧ Instr.findNow (.int .i64) (.int .i64 (i : Nat)) es.toList 0 = some f ∧
    ((f = none ∧ g i = none) ∨ ∃ j s e0, f = some (j, .string s) ∧ g i = some s ∧ es[j]? = some e0 ∧ e0.key = .int .i64 (i : Nat)) := by
  obtain ⟨es, clock, e, m⟩ := x
  rcases MapKept.findNow_spec (d := .int .i64) (k := .int .i64 (i : Nat)) rfl es.toList 0 m.isKey with ⟨h1, h2⟩ | ⟨j, e0, h1, h2, h3⟩
  · refine ⟨es, clock, none, e, m, h1, .inl ⟨rfl, ?_⟩⟩
    cases hg : g i with
    | none => rfl
    | some s =>
      obtain ⟨y, hy, ky⟩ := m.al i s hg
      exact absurd ky (h2 y hy)
  · rw [Nat.zero_add] at h1
    obtain ⟨i', s, k1, k2, k3⟩ := m.en e0 (List.mem_of_getElem? h2)
    rw [h3] at k1
    obtain rfl := key_inj k1
    exact ⟨es, clock, some (j, e0.val), e, m, h1, .inr ⟨j, s, e0, by rw [k2], k3, by rw [← Array.getElem?_toList]; exact h2, h3⟩⟩
theorem MR.look {h : Heap} {r i : Nat} {g : Nat → Option ByteArray} {K : Array MapEntry → Nat → Option (Nat × Value) → Prop} (x : MR h r g) (k : ∀ es clock f, ((f = none ∧ g i = none) ∨ ∃ j s, f = some (j, .string s) ∧ g i = some s) → K es clock f) :
    HMapF h r (.int .i64) (.int .i64 (i : Nat)) K := by
  obtain ⟨es, clock, f, e, m, hf, hc⟩ := x.find i
  refine HMapF.mk es clock f e hf (k es clock f ?_)
  rcases hc with hc | ⟨j, s, e0, h1, h2, _⟩
  · exact .inl hc
  · exact .inr ⟨j, s, h1, h2⟩
/-- The function, changed at one place. -/
def setG (g : Nat → Option ByteArray) (i : Nat) (s : ByteArray) : Nat → Option ByteArray := fun j => if j = i then some s else g j
theorem MS.push {es : Array MapEntry} {clock i : Nat} {g : Nat → Option ByteArray} {s : ByteArray} (m : MS es.toList clock g) (hn : g i = none) (hi : i < 2048) (hs : s.size = 4096) :
    MS (es.push { key := .int .i64 (i : Nat), val := .string s, born := clock }).toList (clock + 1) (setG g i s) := by
  have hno : ∀ x ∈ es.toList, x.key ≠ .int .i64 (i : Nat) := by
    intro x hx e
    obtain ⟨j, t, k1, _, k3⟩ := m.en x hx
    rw [e] at k1
    obtain rfl := key_inj k1
    rw [hn] at k3; cases k3
  constructor
  · intro x hx
    rw [Array.toList_push] at hx
    rcases List.mem_append.1 hx with hx | hx
    · have := m.st1 x hx; omega
    · simp only [List.mem_singleton] at hx; subst hx; exact Nat.lt_succ_self _
  · rw [Array.toList_push, List.map_append, List.nodup_append]
    refine ⟨m.st2, by simp, ?_⟩
    intro a ha b hb
    simp only [List.map_cons, List.map_nil, List.mem_singleton] at hb
    subst hb
    obtain ⟨x, hx, rfl⟩ := List.mem_map.1 ha
    have := m.st1 x hx
    omega
  · rw [Array.toList_push, List.map_append, List.nodup_append]
    refine ⟨m.st3, by simp, ?_⟩
    intro a ha b hb
    simp only [List.map_cons, List.map_nil, List.mem_singleton] at hb
    subst hb
    obtain ⟨x, hx, rfl⟩ := List.mem_map.1 ha
    exact hno x hx
  · intro x hx
    rw [Array.toList_push] at hx
    rcases List.mem_append.1 hx with hx | hx
    · obtain ⟨j, t, k1, k2, k3⟩ := m.en x hx
      refine ⟨j, t, k1, k2, ?_⟩
      have : j ≠ i := by rintro rfl; rw [hn] at k3; cases k3
      unfold setG; rw [if_neg this]; exact k3
    · simp only [List.mem_singleton] at hx; subst hx; exact ⟨i, s, rfl, rfl, by unfold setG; rw [if_pos rfl]⟩
  · intro j t hj
    rw [Array.toList_push]
    unfold setG at hj
    split at hj
    · rename_i e; subst e; exact ⟨_, List.mem_append_right _ (List.mem_singleton.2 rfl), rfl⟩
    · obtain ⟨x, hx, kx⟩ := m.al j t hj
      exact ⟨x, List.mem_append_left _ hx, kx⟩
  · intro j t hj
    unfold setG at hj
    split at hj
    · rename_i e; subst e; cases hj; exact ⟨hi, hs⟩
    · exact m.bd j t hj
theorem MS.modify {es : Array MapEntry} {clock i j : Nat} {g : Nat → Option ByteArray} {s : ByteArray} {e0 : MapEntry} (m : MS es.toList clock g) (h0 : es[j]? = some e0) (hk : e0.key = .int .i64 (i : Nat)) (hi : i < 2048) (hs : s.size = 4096) :
    MS (es.modify j fun e => { e with key := .int .i64 (i : Nat), val := .string s }).toList clock (setG g i s) := by
  have hborn : (es.modify j fun e => { e with key := .int .i64 (i : Nat), val := .string s }).toList.map (·.born) = es.toList.map (·.born) := by
    apply List.ext_getElem?
    intro n
    rw [List.getElem?_map, List.getElem?_map, Array.getElem?_toList, Array.getElem?_modify, Array.getElem?_toList]
    by_cases hn : j = n
    · subst hn; rw [if_pos rfl, h0]; rfl
    · rw [if_neg hn]
  have hkey : (es.modify j fun e => { e with key := .int .i64 (i : Nat), val := .string s }).toList.map (·.key) = es.toList.map (·.key) := by
    apply List.ext_getElem?
    intro n
    rw [List.getElem?_map, List.getElem?_map, Array.getElem?_toList, Array.getElem?_modify, Array.getElem?_toList]
    by_cases hn : j = n
    · subst hn; rw [if_pos rfl, h0]; simp [hk]
    · rw [if_neg hn]
  have hmem : ∀ x ∈ (es.modify j fun e => { e with key := .int .i64 (i : Nat), val := .string s }).toList, (x.key = .int .i64 (i : Nat) ∧ x.val = .string s ∧ x.born = e0.born) ∨ (x ∈ es.toList ∧ x.key ≠ .int .i64 (i : Nat)) := by
    intro x hx
    obtain ⟨n, hn⟩ := List.getElem?_of_mem hx
    rw [Array.getElem?_toList, Array.getElem?_modify] at hn
    by_cases hjn : j = n
    · subst hjn; rw [if_pos rfl, h0] at hn; simp at hn; subst hn; exact .inl ⟨rfl, rfl, rfl⟩
    · rw [if_neg hjn] at hn
      have hx' : es.toList[n]? = some x := by rw [Array.getElem?_toList]; exact hn
      refine .inr ⟨List.mem_of_getElem? hx', fun e => hjn ?_⟩
      have hj' : es.toList[j]? = some e0 := by rw [Array.getElem?_toList]; exact h0
      obtain ⟨hj1, hj2⟩ := List.getElem?_eq_some_iff.1 hj'
      obtain ⟨hn1, hn2⟩ := List.getElem?_eq_some_iff.1 hx'
      have hp := List.pairwise_iff_getElem.1 m.st3
      rcases Nat.lt_trichotomy j n with hlt | heq | hlt
      · exact absurd (by rw [List.getElem_map, List.getElem_map, hj2, hn2, e, hk]) (hp j n (by simpa using hj1) (by simpa using hn1) hlt)
      · exact heq
      · exact absurd (by rw [List.getElem_map, List.getElem_map, hj2, hn2, e, hk]) (hp n j (by simpa using hn1) (by simpa using hj1) hlt)
  constructor
  · intro x hx
    rcases hmem x hx with ⟨_, _, hb⟩ | ⟨h1, _⟩
    · rw [hb]; exact m.st1 e0 (List.mem_of_getElem? (by rw [Array.getElem?_toList]; exact h0))
    · exact m.st1 x h1
  · rw [hborn]; exact m.st2
  · rw [hkey]; exact m.st3
  · intro x hx
    rcases hmem x hx with ⟨h1, h2, _⟩ | ⟨h1, h2⟩
    · exact ⟨i, s, h1, h2, by unfold setG; rw [if_pos rfl]⟩
    · obtain ⟨n, t, k1, k2, k3⟩ := m.en x h1
      refine ⟨n, t, k1, k2, ?_⟩
      have : n ≠ i := by rintro rfl; exact h2 k1
      unfold setG; rw [if_neg this]; exact k3
  · intro n t hn
    have hk2 : (Value.int .i64 (n : Nat)) ∈ es.toList.map (·.key) := by
      unfold setG at hn
      split at hn
      · rename_i e; subst e
        rw [← hk]; exact List.mem_map_of_mem (List.mem_of_getElem? (by rw [Array.getElem?_toList]; exact h0))
      · obtain ⟨x, hx, kx⟩ := m.al n t hn
        rw [← kx]; exact List.mem_map_of_mem hx
    rw [← hkey] at hk2
    obtain ⟨x, hx, kx⟩ := List.mem_map.1 hk2
    exact ⟨x, hx, kx⟩
  · intro n t hn
    unfold setG at hn
    split at hn
    · rename_i e; subst e; cases hn; exact ⟨hi, hs⟩
    · exact m.bd n t hn
theorem MS.empty (clock : Nat) : MS [] clock (fun _ => none) := ⟨by simp, by simp, by simp, by simp, by simp, by simp⟩
theorem put_off (h : Heap) (r : Nat) (o : Obj) : Off r h (h.setIfInBounds r o) ∧ (h.setIfInBounds r o).size = h.size :=
  ⟨⟨by simp, fun b hb hne => by rw [Array.getElem?_setIfInBounds_ne (Ne.symm hne)]⟩, by simp⟩
theorem MR.put {h : Heap} {r : Nat} {g : Nat → Option ByteArray} {es : Array MapEntry} {clock : Nat} (hr : r < h.size) (m : MS es.toList clock g) : MR (h.setIfInBounds r (.map es clock)) r g :=
  ⟨es, clock, by rw [Array.getElem?_setIfInBounds_self_of_lt hr], m⟩

/-! ### How many -/
theorem len_filter (p : Nat → Bool) : ∀ (l : List Nat), l.length = (l.filter p).length + (l.filter (fun x => !p x)).length
  | [] => rfl
  | a :: l => by
    have := len_filter p l
    cases hp : p a
    · simp [List.filter_cons, hp]; omega
    · simp [List.filter_cons, hp]; omega
theorem nodup_le : ∀ (n : Nat) (l : List Nat), l.Nodup → (∀ x ∈ l, x < n) → l.length ≤ n
  | 0, l, _, h => by
    cases l with
    | nil => simp
    | cons a l => have := h a (by simp); omega
  | n + 1, l, hd, h => by
    have h1 := nodup_le n (l.filter (fun x => x != n)) (hd.filter _) (by
      intro x hx
      obtain ⟨hx1, hx2⟩ := List.mem_filter.1 hx
      have := h x hx1
      simp at hx2; omega)
    have h2 : (l.filter (fun x => !(x != n))).length ≤ 1 := by
      have hd2 := hd.filter (fun x => !(x != n))
      have hall : ∀ x ∈ l.filter (fun x => !(x != n)), x = n := by
        intro x hx
        have := (List.mem_filter.1 hx).2
        simpa using this
      match hl : l.filter (fun x => !(x != n)), hd2, hall with
      | [], _, _ => simp
      | [_], _, _ => simp
      | a :: b :: _, hd2, hall =>
        have ha := hall a (by simp)
        have hb := hall b (by simp)
        simp [ha, hb] at hd2
    have h3 := len_filter (fun x => x != n) l
    omega
def natOf : Value → Nat
  | .int _ n => n.toNat
  | _ => 0
theorem MS.size_le {es : List MapEntry} {clock : Nat} {g : Nat → Option ByteArray} (m : MS es clock g) : es.length ≤ 2048 := by
  have h1 := nodup_le 2048 ((es.map (·.key)).map natOf) (by
      rw [List.nodup_iff_pairwise_ne, List.pairwise_map]
      refine (List.nodup_iff_pairwise_ne.1 m.st3).imp_of_mem ?_
      intro a b ha hb hne e
      obtain ⟨x, hx, rfl⟩ := List.mem_map.1 ha
      obtain ⟨y, hy, rfl⟩ := List.mem_map.1 hb
      obtain ⟨i, s, k1, _⟩ := m.en x hx
      obtain ⟨j, t, k2, _⟩ := m.en y hy
      rw [k1, k2] at hne e
      simp only [natOf, Int.toNat_natCast] at e
      exact hne (by rw [e])) (by
      intro n hn
      obtain ⟨v, hv, rfl⟩ := List.mem_map.1 hn
      obtain ⟨x, hx, rfl⟩ := List.mem_map.1 hv
      obtain ⟨i, s, k1, _, k3⟩ := m.en x hx
      rw [k1]
      simp only [natOf, Int.toNat_natCast]
      exact (m.bd i s k3).1)
  simpa using h1

end Go.Proofs.Ytlbmhpjefpdekaa.Hc
