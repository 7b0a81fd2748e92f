/- delete of a map's key: a raw operation; a map without a key. -/
import Derived.Test.YtadkdfecmpjmdaaGreatDoorHW
import Derived.Test.YtadkdfecmpjmdaaGreatDoorHT
set_option linter.unusedVariables false
set_option linter.unusedSimpArgs false
namespace Go.H
variable {P : Program} {ev : Operand → Value} {h : Heap} {K : Next → Heap → Prop} {E : Halt → Heap → Prop}
theorem raw_delete {o : Oper} {x y : Operand} {t u kt vt : TypeId} {d : TypeDesc} {r : Nat} {k : Value} (ho : o.op = .call ⟨.builtin .delete, #[x, y], #[t, u]⟩) (hx : ev x = .map (some r)) (hy : ev y = k) (ht : P.underlying t = some (.map kt vt)) (hk : P.underlying kt = some d) (hd : d = .string ∨ ∃ k, d = .int k)
    (hf : HMapF h r d k fun es clock f => K (.value (.tuple #[])) (h.setIfInBounds r (.map (match f with | some (i, _) => es.eraseIdxIfInBounds i | none => es) clock))) : HRaw P o ev h (noDefer K) E := by
  refine ⟨?_⟩
  unfold execOp
  rw [ho]
  show hw P false (Builtin.delete_ #[t, u] o.type (#[x, y].map ev) >>= fun v => pure (Next.value v)) h _ E
  rw [hw_bind']
  have e0 : (#[x, y].map ev)[0]? = some (.map (some r)) := by simp [hx]
  have e1 : (#[x, y].map ev)[1]? = some k := by simp [hy]
  unfold Builtin.delete_
  rw [e0, e1]
  dsimp only
  obtain ⟨es, clock, f, he, hn, kk⟩ := hf
  have t0 : (#[t, u] : Array TypeId)[0]? = some t := rfl
  rw [t0]
  dsimp only
  rw [hw_bind', hw_underlying ht]
  dsimp only
  refine hw_getMap he ?_
  (try dsimp only)
  rw [hw_bind']
  refine hw_checkKey hk hd ?_
  rw [hw_bind']
  refine hw_findKey hk hn ?_
  have set : ∀ o, K (.value (.tuple #[])) (h.setIfInBounds r o) → hw P false (setObj r o >>= fun _ => pure (Value.tuple #[])) h (fun a h' => hw P false (pure (Next.value a)) h' (noDefer K) E) E := by
    intro o ho
    show hw P false (.setObj r o (.pure (Value.tuple #[]))) h _ E
    simp only [hw, he]
    exact ho
  cases f with
  | none => exact set _ kk
  | some p =>
    obtain ⟨i, v⟩ := p
    exact set _ kk
theorem map_erase {α β : Type} (f : α → β) : ∀ (l : List α) (j : Nat), (l.eraseIdx j).map f = (l.map f).eraseIdx j
  | [], j => by simp
  | a :: r, 0 => rfl
  | a :: r, j + 1 => by simp only [List.eraseIdx_cons_succ, List.map_cons, map_erase f r j]
section
variable {κ ν : Type} [DecidableEq κ]
theorem getA_erase {k : κ} {v : ν} (k' : κ) : ∀ {l : List (κ × ν)} {j : Nat}, (l.map (·.1)).Nodup → l[j]? = some (k, v) → getA k' (l.eraseIdx j) = if k = k' then none else getA k' l
  | [], j, _, h => by simp at h
  | q :: r, 0, hn, h => by
    simp only [List.getElem?_cons_zero, Option.some.injEq] at h
    subst h
    simp only [List.map_cons, List.nodup_cons] at hn
    simp only [List.eraseIdx_cons_zero, getA]
    by_cases e : k = k'
    · rw [if_pos e]
      subst e
      exact getA_none.2 hn.1
    · rw [if_neg e, if_neg e]
  | q :: r, j + 1, hn, h => by
    simp only [List.getElem?_cons_succ] at h
    simp only [List.map_cons, List.nodup_cons] at hn
    simp only [List.eraseIdx_cons_succ, getA]
    rw [getA_erase k' hn.2 h]
    by_cases e : q.1 = k'
    · rw [if_pos e, if_pos e, if_neg]
      rintro rfl
      exact hn.1 (e ▸ List.mem_map_of_mem (f := (·.1)) (List.mem_of_getElem? h))
    · rw [if_neg e, if_neg e]
theorem MapR.del {d : TypeDesc} {ke : κ → Value} {ve : ν → Value} (ok : KeyOk d ke) {h : Heap} {r : Nat} {l : List (κ × ν)} (x : MapR h r ke ve l) (k : κ) {Q : Heap → Prop}
    (kk : ∀ h' l', Off r h h' → h'.size = h.size → MapR h' r ke ve l' → (∀ k', getA k' l' = if k = k' then none else getA k' l) → Q h') :
    HMapF h r d (ke k) fun es clock f => Q (h.setIfInBounds r (.map (match f with | some (i, _) => es.eraseIdxIfInBounds i | none => es) clock)) := by
  have hlt := x.lt
  obtain ⟨es, clock, e, m⟩ := x
  have off : ∀ o, Off r h (h.setIfInBounds r o) := fun o => ⟨by simp, fun b hb hne => by rw [Array.getElem?_setIfInBounds, if_neg (Ne.symm hne)]⟩
  have at' : ∀ o, (h.setIfInBounds r o)[r]? = some o := fun o => by rw [Array.getElem?_setIfInBounds, if_pos rfl, if_pos hlt]
  rcases m.find ok k with ⟨h1, h2⟩ | ⟨j, en, v, h1, h2, h3, h4, h5⟩
  · refine .mk es clock none e h1 (kk _ l (off _) (by simp) ⟨es, clock, at' _, m⟩ fun k' => ?_)
    by_cases e' : k = k'
    · rw [if_pos e', ← e']; exact h2
    · rw [if_neg e']
  · refine .mk es clock (some (j, ve v)) e h1 (kk _ (l.eraseIdx j) (off _) (by simp) ⟨_, clock, at' _, ?_⟩ fun k' => getA_erase k' m.nodup h5)
    have el : (es.eraseIdxIfInBounds j).toList = es.toList.eraseIdx j := by simp
    rw [el]
    exact ⟨by rw [map_erase, m.rows, map_erase], by rw [map_erase]; exact m.nodup.sublist (List.eraseIdx_sublist _ _), fun y hy => m.born y (List.mem_of_mem_eraseIdx hy), by rw [map_erase]; exact m.births.sublist (List.eraseIdx_sublist _ _)⟩
end
theorem raw_clearN {o : Oper} {x : Operand} {ts : Array TypeId} {t e : TypeId} {z : Value} {a : Addr} {n c : Nat} (ho : o.op = .call ⟨.builtin .clear, #[x], ts⟩) (hx : ev x = .slice (some a) (n + 1) c) (ht : ts[0]? = some t) (hd : P.underlying t = some (.slice e)) (hz : zeroOf P e = some z)
    (k : HStore h a (Builtin.zeroCells z.cells (n + 1)).toList fun h' => K (.value (.tuple #[])) h') : HRaw P o ev h (noDefer K) E := by
  refine ⟨?_⟩
  unfold execOp
  rw [ho]
  show hw P false (Builtin.clear_ ts o.type (#[x].map ev) >>= fun v => pure (Next.value v)) h _ E
  rw [hw_bind']
  have e0 : (#[x].map ev)[0]? = some (.slice (some a) (n + 1) c) := by simp [hx]
  unfold Builtin.clear_
  rw [ht, e0]
  dsimp only
  rw [hw_bind', hw_underlying hd]
  show hw P false (zeroValue e >>= fun v => storeCells a (Builtin.zeroCells v.cells (n + 1)).toList >>= fun _ => pure (Value.tuple #[])) h _ E
  rw [hw_bind', hw_zero hz, hw_bind']
  obtain ⟨one, there, kk⟩ := k
  exact hw_storeCells' one there kk
end Go.H
