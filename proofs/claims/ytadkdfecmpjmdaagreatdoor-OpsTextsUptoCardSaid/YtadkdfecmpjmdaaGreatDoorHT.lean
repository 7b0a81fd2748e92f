/- Maps in memory, as lists of pairs. -/
import Derived.Test.YtadkdfecmpjmdaaGreatDoorHS
import Derived.MapKept
set_option linter.unusedVariables false
set_option linter.unusedSimpArgs false
namespace Go.H
structure KeyOk {κ : Type} (d : TypeDesc) (ke : κ → Value) : Prop where
  isKey : ∀ k, MapKept.IsKey d (ke k)
  inj : ∀ a b, ke a = ke b → a = b
  same : ∀ k, Instr.sameBits 10000 (ke k) (ke k) = true
theorem bytes_beq (k : ByteArray) : (k == k) = true := by
  cases k with
  | mk d => show (BEq.beq d d) = true; exact BEq.rfl
theorem keyOk_string : KeyOk .string Value.string := ⟨fun _ => trivial, fun a b h => by injection h, fun k => by simp only [Instr.sameBits]; exact bytes_beq k⟩
section
variable {κ ν : Type} [DecidableEq κ]
def getA (k : κ) : List (κ × ν) → Option ν
  | [] => none
  | p :: r => if p.1 = k then some p.2 else getA k r
def putA (k : κ) (v : ν) : List (κ × ν) → List (κ × ν)
  | [] => [(k, v)]
  | p :: r => if p.1 = k then (k, v) :: r else p :: putA k v r
theorem getA_put (k k' : κ) (v : ν) : ∀ l : List (κ × ν), getA k' (putA k v l) = if k = k' then some v else getA k' l
  | [] => by simp only [putA, getA]
  | p :: r => by
    simp only [putA]
    split
    · rename_i h
      simp only [getA, h]
      split <;> simp_all
    · rename_i h
      simp only [getA, getA_put k k' v r]
      split
      · rename_i h2; rw [if_neg (by rintro rfl; exact h h2)]
      · rfl
theorem getA_none {k : κ} : ∀ {l : List (κ × ν)}, getA k l = none ↔ k ∉ l.map (·.1)
  | [] => by simp [getA]
  | p :: r => by
    simp only [getA, List.map_cons, List.mem_cons, not_or]
    split
    · rename_i h; simp [h]
    · rename_i h
      rw [getA_none]
      exact ⟨fun x => ⟨fun e => h e.symm, x⟩, fun x => x.2⟩
theorem putA_keys (k : κ) (v : ν) : ∀ l : List (κ × ν), (putA k v l).map (·.1) = if k ∈ l.map (·.1) then l.map (·.1) else l.map (·.1) ++ [k]
  | [] => by simp [putA]
  | p :: r => by
    simp only [putA, List.map_cons, List.mem_cons]
    split
    · rename_i h; simp [h]
    · rename_i h
      have h' : ¬ k = p.1 := fun e => h e.symm
      simp only [List.map_cons, putA_keys k v r, h', false_or]
      split <;> simp
theorem putA_nodup {k : κ} {v : ν} {l : List (κ × ν)} (h : (l.map (·.1)).Nodup) : ((putA k v l).map (·.1)).Nodup := by
  rw [putA_keys]
  split
  · exact h
  · rename_i hn
    rw [List.nodup_append]
    exact ⟨h, by simp, fun a ha b hb => by simp only [List.mem_singleton] at hb; subst hb; rintro rfl; exact hn ha⟩
structure MapOf (ke : κ → Value) (ve : ν → Value) (es : List MapEntry) (clock : Nat) (l : List (κ × ν)) : Prop where
  rows : es.map (fun x => (x.key, x.val)) = l.map fun p => (ke p.1, ve p.2)
  nodup : (l.map (·.1)).Nodup
  born : ∀ x ∈ es, x.born < clock
  births : (es.map (·.born)).Nodup
def MapR (h : Heap) (r : Nat) (ke : κ → Value) (ve : ν → Value) (l : List (κ × ν)) : Prop := ∃ es clock, h[r]? = some (.map es clock) ∧ MapOf ke ve es.toList clock l
variable {d : TypeDesc} {ke : κ → Value} {ve : ν → Value}
omit [DecidableEq κ] in
theorem MapR.of {h h' : Heap} {r : Nat} {l : List (κ × ν)} (x : MapR h r ke ve l) (e : h'[r]? = h[r]?) : MapR h' r ke ve l := by unfold MapR; rw [e]; exact x
omit [DecidableEq κ] in
theorem MapR.lt {h : Heap} {r : Nat} {l : List (κ × ν)} (x : MapR h r ke ve l) : r < h.size := by
  obtain ⟨es, clock, e, _⟩ := x
  rcases Nat.lt_or_ge r h.size with hl | hl
  · exact hl
  · rw [Array.getElem?_eq_none hl] at e; cases e
omit [DecidableEq κ] in
theorem MapR.ext {h h' : Heap} {r : Nat} {l : List (κ × ν)} (x : MapR h r ke ve l) (k : Ext h h') : MapR h' r ke ve l := x.of (k.2 _ x.lt)
omit [DecidableEq κ] in
theorem MapR.offk {h h' : Heap} {r k : Nat} {l : List (κ × ν)} (x : MapR h r ke ve l) (o : Off k h h') (hk : r ≠ k) : MapR h' r ke ve l := x.of (o.2 _ x.lt hk)
omit [DecidableEq κ] in
theorem MapR.new (h : Heap) (ke : κ → Value) (ve : ν → Value) : MapR (h.push (.map #[] 0)) h.size ke ve [] := ⟨#[], 0, by simp, rfl, by simp, by simp, by simp⟩
omit [DecidableEq κ] in
theorem MapOf.at {es : List MapEntry} {clock : Nat} {l : List (κ × ν)} (m : MapOf ke ve es clock l) {j : Nat} {e : MapEntry} (h : es[j]? = some e) : ∃ p, l[j]? = some p ∧ e.key = ke p.1 ∧ e.val = ve p.2 := by
  have h1 : (es.map fun x => (x.key, x.val))[j]? = some (e.key, e.val) := by rw [List.getElem?_map, h]; rfl
  rw [m.rows, List.getElem?_map] at h1
  cases hl : l[j]? with
  | none => rw [hl] at h1; cases h1
  | some p =>
    rw [hl] at h1
    simp only [Option.map_some, Option.some.injEq, Prod.mk.injEq] at h1
    exact ⟨p, rfl, h1.1.symm, h1.2.symm⟩
theorem getA_at : ∀ {l : List (κ × ν)} {j : Nat} {p : κ × ν}, (l.map (·.1)).Nodup → l[j]? = some p → getA p.1 l = some p.2
  | [], j, p, _, h => by simp at h
  | q :: r, 0, p, _, h => by
    simp only [List.getElem?_cons_zero, Option.some.injEq] at h
    subst h
    simp [getA]
  | q :: r, j + 1, p, hn, h => by
    simp only [List.getElem?_cons_succ] at h
    simp only [List.map_cons, List.nodup_cons] at hn
    simp only [getA]
    rw [if_neg ?_, getA_at hn.2 h]
    intro e
    apply hn.1
    rw [e]
    exact List.mem_map_of_mem (List.mem_of_getElem? h)
theorem MapOf.find (ok : KeyOk d ke) {es : List MapEntry} {clock : Nat} {l : List (κ × ν)} (m : MapOf ke ve es clock l) (k : κ) :
    (Instr.findNow d (ke k) es 0 = some none ∧ getA k l = none) ∨ ∃ j e v, Instr.findNow d (ke k) es 0 = some (some (j, ve v)) ∧ es[j]? = some e ∧ e.key = ke k ∧ getA k l = some v ∧ l[j]? = some (k, v) := by
  have hks : ∀ x ∈ es, MapKept.IsKey d x.key := by
    intro x hx
    obtain ⟨j, hj⟩ := List.getElem?_of_mem hx
    obtain ⟨p, _, h2, _⟩ := m.at hj
    rw [h2]; exact ok.isKey _
  rcases MapKept.findNow_spec (ok.isKey k) es 0 hks with ⟨h1, h2⟩ | ⟨j, e, h1, h2, h3⟩
  · refine .inl ⟨h1, getA_none.2 ?_⟩
    intro hm
    obtain ⟨p, hp, rfl⟩ := List.mem_map.1 hm
    have : (ke p.1, ve p.2) ∈ es.map fun x => (x.key, x.val) := by rw [m.rows]; exact List.mem_map_of_mem (f := fun p : κ × ν => (ke p.1, ve p.2)) hp
    obtain ⟨x, hx, hxe⟩ := List.mem_map.1 this
    exact h2 x hx (Prod.mk.inj hxe).1
  · rw [Nat.zero_add] at h1
    obtain ⟨p, hp, k1, k2⟩ := m.at h2
    have hk : p.1 = k := ok.inj _ _ (by rw [← k1, h3])
    subst hk
    exact .inr ⟨j, e, p.2, by rw [h1, k2], h2, h3, getA_at m.nodup hp, hp⟩
theorem MapR.look (ok : KeyOk d ke) {h : Heap} {r : Nat} {l : List (κ × ν)} (x : MapR h r ke ve l) (k : κ) {K : Array MapEntry → Nat → Option (Nat × Value) → Prop}
    (k0 : getA k l = none → ∀ es clock, K es clock none) (k1 : ∀ v, getA k l = some v → ∀ es clock j, K es clock (some (j, ve v))) : HMapF h r d (ke k) K := by
  obtain ⟨es, clock, e, m⟩ := x
  rcases m.find ok k with ⟨h1, h2⟩ | ⟨j, e0, v, h1, h2, h3, h4, h5⟩
  · exact HMapF.mk es clock none e h1 (k0 h2 _ _)
  · exact HMapF.mk es clock _ e h1 (k1 v h4 _ _ _)
theorem putA_new {k : κ} {v : ν} : ∀ {l : List (κ × ν)}, getA k l = none → putA k v l = l ++ [(k, v)]
  | [], h => rfl
  | p :: r, h => by
    simp only [getA] at h
    split at h
    · cases h
    · rename_i hn; simp only [putA]; rw [if_neg hn, putA_new h]; rfl
theorem putA_set {k : κ} {v w : ν} : ∀ {l : List (κ × ν)} {j : Nat}, (l.map (·.1)).Nodup → l[j]? = some (k, w) → putA k v l = l.set j (k, v)
  | [], j, _, h => by simp at h
  | p :: r, 0, hn, h => by
    simp only [List.getElem?_cons_zero, Option.some.injEq] at h
    subst h
    simp [putA]
  | p :: r, j + 1, hn, h => by
    simp only [List.getElem?_cons_succ] at h
    simp only [List.map_cons, List.nodup_cons] at hn
    simp only [putA, List.set_cons_succ]
    rw [if_neg ?_, putA_set hn.2 h]
    intro e
    apply hn.1
    rw [e]
    exact List.mem_map_of_mem (f := (·.1)) (List.mem_of_getElem? h)
theorem MapR.set (ok : KeyOk d ke) {h : Heap} {r : Nat} {l : List (κ × ν)} (x : MapR h r ke ve l) (k : κ) (v : ν) {Q : Heap → Prop}
    (kk : ∀ h', Off r h h' → h'.size = h.size → MapR h' r ke ve (putA k v l) → Q h') : HMapF h r d (ke k) fun es clock f => match f with
      | some (i, _) => HMust (Instr.sameBits 10000 (((es[i]?).map (·.key)).getD (ke k)) (ke k) = true) (Q (h.setIfInBounds r (.map (es.modify i fun e => { e with key := ke k, val := ve v }) clock)))
      | none => Q (h.setIfInBounds r (.map (es.push { key := ke k, val := ve v, born := clock }) (clock + 1))) := by
  have hr := x.lt
  obtain ⟨es, clock, e, m⟩ := x
  have off : ∀ o, Off r h (h.setIfInBounds r o) := fun o => ⟨by simp, fun b hb hne => by rw [Array.getElem?_setIfInBounds_ne (Ne.symm hne)]⟩
  rcases m.find ok k with ⟨h1, h2⟩ | ⟨j, e0, w, h1, h2, h3, h4, h5⟩
  · refine HMapF.mk es clock none e h1 (kk _ (off _) (by simp) ⟨_, _, Array.getElem?_setIfInBounds_self_of_lt hr, ?_⟩)
    refine ⟨?_, putA_nodup m.nodup, ?_, ?_⟩
    · rw [Array.toList_push, List.map_append, m.rows, putA_new h2, List.map_append]; rfl
    · intro y hy
      rw [Array.toList_push] at hy
      rcases List.mem_append.1 hy with hy | hy
      · have := m.born y hy; omega
      · simp only [List.mem_singleton] at hy; subst hy; exact Nat.lt_succ_self _
    · rw [Array.toList_push, List.map_append, List.nodup_append]
      refine ⟨m.births, by simp, ?_⟩
      intro a ha b hb
      simp only [List.map_cons, List.map_nil, List.mem_singleton] at hb
      subst hb
      obtain ⟨y, hy, rfl⟩ := List.mem_map.1 ha
      have := m.born y hy; omega
  · have h2' : es[j]? = some e0 := by rw [← Array.getElem?_toList]; exact h2
    refine HMapF.mk es clock _ e h1 (HMust.mk (by rw [h2', Option.map_some, Option.getD_some, h3]; exact ok.same k) (kk _ (off _) (by simp) ⟨_, _, Array.getElem?_setIfInBounds_self_of_lt hr, ?_⟩))
    have hb : (es.modify j fun e => { e with key := ke k, val := ve v }).toList.map (·.born) = es.toList.map (·.born) := by
      apply List.ext_getElem?
      intro n
      rw [List.getElem?_map, List.getElem?_map, Array.getElem?_toList, Array.getElem?_modify, Array.getElem?_toList]
      by_cases hn : j = n
      · subst hn; rw [if_pos rfl, h2']; rfl
      · rw [if_neg hn]
    refine ⟨?_, putA_nodup m.nodup, ?_, by rw [hb]; exact m.births⟩
    · rw [putA_set m.nodup h5, List.map_set, ← m.rows]
      apply List.ext_getElem?
      intro n
      rw [List.getElem?_map, Array.getElem?_toList, Array.getElem?_modify, List.getElem?_set]
      by_cases hn : j = n
      · subst hn
        have hj : j < es.size := by
          rcases Nat.lt_or_ge j es.size with hl | hl
          · exact hl
          · rw [Array.getElem?_eq_none hl] at h2'; cases h2'
        rw [if_pos rfl, h2', if_pos rfl, if_pos (by simpa using hj)]; rfl
      · rw [if_neg hn, if_neg hn, List.getElem?_map, Array.getElem?_toList]
    · intro y hy
      obtain ⟨n, hn⟩ := List.getElem?_of_mem hy
      have hy2 : y.born ∈ (es.modify j fun e => { e with key := ke k, val := ve v }).toList.map (·.born) := List.mem_map_of_mem hy
      rw [hb] at hy2
      obtain ⟨z, hz, hzb⟩ := List.mem_map.1 hy2
      have := m.born z hz
      omega
end
end Go.H
