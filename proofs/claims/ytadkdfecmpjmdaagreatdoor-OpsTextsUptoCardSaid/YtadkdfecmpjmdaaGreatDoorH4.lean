/- The resolved operations do no more than the given ones. -/
import Derived.Test.YtadkdfecmpjmdaaGreatDoorH3
set_option linter.unusedVariables false
set_option linter.unusedSimpArgs false
namespace Go.H
section
variable {P : Program} {q : Bool} {h : Heap} {E : Halt → Heap → Prop}

theorem hw_program' {Q : Program → Heap → Prop} : hw P q program h Q E = Q P h := rfl
theorem hw_underlying {t : TypeId} {d : TypeDesc} {Q : TypeDesc → Heap → Prop} (e : P.underlying t = some d) : hw P q (underlying t) h Q E = Q d h := by
  unfold underlying; rw [hw_bind', hw_program', e]; rfl
theorem hw_typeInfo {t : TypeId} {i : TypeInfo} {Q : TypeInfo → Heap → Prop} (e : P.info? t = some i) : hw P q (typeInfo t) h Q E = Q i h := by
  unfold typeInfo; rw [hw_bind', hw_program', e]; rfl
theorem hw_zero {t : TypeId} {v : Value} {Q : Value → Heap → Prop} (e : zeroOf P t = some v) : hw P q (zeroValue t) h Q E = Q v h := by
  unfold zeroOf at e
  obtain ⟨i, hi, hz⟩ := Option.bind_eq_some_iff.1 e
  unfold zeroValue; rw [hw_bind', hw_typeInfo hi, hz]; rfl
theorem hw_size {t : TypeId} {n : Nat} {Q : Nat → Heap → Prop} (e : sizeOfT P t = some n) : hw P q (sizeOf t) h Q E = Q n h := by
  unfold sizeOfT at e
  obtain ⟨i, hi, hz⟩ := Option.map_eq_some_iff.1 e
  unfold sizeOf; rw [hw_bind', hw_typeInfo hi, ← hz]; rfl
theorem hw_isAgg {t : TypeId} {b : Bool} {Q : Bool → Heap → Prop} (e : isAggT P t = some b) : hw P q (isAgg t) h Q E = Q b h := by
  unfold isAggT at e
  unfold isAgg
  cases hu : P.underlying t with
  | none => rw [hu] at e; cases e
  | some d => rw [hu] at e; rw [hw_bind', hw_underlying hu]; cases d <;> simp at e <;> subst e <;> rfl
theorem hw_load {a : Addr} {v : Value} {Q : Value → Heap → Prop} (e : hcell h a = some v) : hw P q (load a) h Q E = Q v h := by
  unfold load; simp only [hw, e]
theorem hw_loadCellsFrom {a : Addr} {Q : Array Value → Heap → Prop} : ∀ (n i : Nat) (acc : Array Value) (vs : List Value), vs.length = n →
    (∀ j, j < n → hcell h (a.add (i + j)) = vs[j]?) → Q (acc ++ vs.toArray) h → hw P q (loadCellsFrom a i n acc) h Q E
  | 0, i, acc, vs, hl, _, hq => by
    have : vs = [] := List.length_eq_zero_iff.1 hl
    subst this
    simp at hq
    exact hq
  | n + 1, i, acc, vs, hl, hc, hq => by
    cases vs with
    | nil => cases hl
    | cons v vs =>
      simp only [loadCellsFrom]
      rw [hw_bind', hw_load (v := v) (by simpa using hc 0 (by omega))]
      refine hw_loadCellsFrom n (i + 1) (acc.push v) vs (by simpa using hl) (fun j hj => ?_) ?_
      · have := hc (j + 1) (by omega)
        rw [show i + 1 + j = i + (j + 1) by omega]; simpa using this
      · simpa using hq
theorem hw_loadCells {a : Addr} {n : Nat} {Q : Array Value → Heap → Prop} {vs : List Value} (hl : vs.length = n)
    (hc : ∀ j, j < n → hcell h (a.add j) = vs[j]?) (hq : Q vs.toArray h) : hw P q (loadCells a n) h Q E :=
  hw_loadCellsFrom n 0 #[] vs hl (fun j hj => by rw [Nat.zero_add]; exact hc j hj) (by simpa using hq)

theorem hcell_set_isSome {q p : Addr} {v : Value} (hs : (hcell h q).isSome = true) : (hcell (hsetCell h p v) q).isSome = true := by
  unfold hcell hsetCell at *
  rw [Array.getElem?_modify]
  by_cases e : p.block = q.block
  · rw [if_pos e]
    cases ho : h[q.block]? with
    | none => rw [ho] at hs; cases hs
    | some o =>
      rw [ho] at hs
      cases o <;> simp at hs ⊢
      rename_i c elem fz
      obtain ⟨h1, h2⟩ : q.spot.isSome = false ∧ q.off < c.size := by
        cases hq : q.spot.isSome <;> simp_all
      simp [h1]
      cases p.spot.isSome <;> simp [h2]
  · rw [if_neg e]; exact hs
theorem hfrozen_set {q p : Addr} {v : Value} : hfrozen (hsetCell h p v) q = hfrozen h q := by
  unfold hfrozen hsetCell
  rw [Array.getElem?_modify]
  by_cases e : p.block = q.block
  · rw [if_pos e]
    cases ho : h[q.block]? with
    | none => rfl
    | some o => cases o <;> rfl
  · rw [if_neg e]

theorem hw_storeCells {a : Addr} {Q : Unit → Heap → Prop} : ∀ (vs : List Value) (i : Nat) (h : Heap), (∀ v ∈ vs, isOne v = true) →
    (∀ j, j < vs.length → (hcell h (a.add (i + j))).isSome = true ∧ hfrozen h (a.add (i + j)) = false) → Q () (hstores h a vs i) → hw P false (storeCells a vs i) h Q E
  | [], _, _, _, _, hq => hq
  | v :: vs, i, h, h1, h2, hq => by
    simp only [storeCells]
    rw [hw_bind']
    have h0 := h2 0 (by simp)
    refine ⟨h1 v (by simp), h0.1, h0.2, ?_⟩
    refine hw_storeCells vs (i + 1) _ (fun u hu => h1 u (by simp [hu])) (fun j hj => ?_) hq
    have h3 := h2 (j + 1) (by simp; omega)
    rw [show i + (j + 1) = i + 1 + j by omega] at h3
    exact ⟨hcell_set_isSome h3.1, by rw [hfrozen_set]; exact h3.2⟩
theorem hw_storeCells' {a : Addr} {Q : Unit → Heap → Prop} {vs : List Value} {h : Heap} (h1 : ∀ v ∈ vs, isOne v = true)
    (h2 : ∀ j, j < vs.length → (hcell h (a.add j)).isSome = true ∧ hfrozen h (a.add j) = false) (hq : Q () (hstores h a vs 0)) : hw P false (storeCells a vs) h Q E :=
  hw_storeCells vs 0 h h1 (fun j hj => by rw [Nat.zero_add]; exact h2 j hj) hq

theorem hw_newRow {e : TypeId} {cs : Array Value} {Q : Addr → Heap → Prop} : hw P false (newRow e cs) h Q E = Q ⟨h.size, 0, none⟩ (h.push (.cells cs e)) := rfl
theorem hw_asIntOf {k : IntKind} {n : Int} {Q : IntKind × Int → Heap → Prop} : hw P q (asIntOf (.int k n)) h Q E = Q (k, n) h := rfl

theorem v_of {s : Sem Value} {K : Next → Heap → Prop} (hh : hw P q s h (fun v h' => K (.value v) h') E) : hw P q (do pure (Next.value (← s))) h K E := by
  show hw P q (s >>= fun v => pure (Next.value v)) h K E
  rw [hw_bind']; exact hh
theorem u_of {s : Sem Unit} {K : Next → Heap → Prop} (hh : hw P q s h (fun _ h' => K .skip h') E) : hw P q (do s; pure Next.skip) h K E := by
  show hw P q (s >>= fun _ => pure Next.skip) h K E
  rw [hw_bind']; exact hh

theorem cells_of_isOne {v : Value} (hv : isOne v = true) : v.cells = #[v] := by cases v <;> first | rfl | cases hv

variable {ev : Operand → Value} {K : Next → Heap → Prop} {dst : Option Tmp} {type : TypeId} {pos : String} {after : Array Edge} {guard : Option (Nat × Bool)}

theorem s_raw {o : Oper} (hq : q = true → quietK (.raw o) = true) (hh : aop P (.raw o) ev h K E) : hw P q (execOp ev o) h K E := by
  cases q with
  | true => cases hq rfl
  | false => obtain ⟨k⟩ := hh; exact hw_mono _ _ _ _ _ _ (fun n h' x => by cases n <;> first | exact x | exact x.elim) (fun _ _ x => x) k

theorem s_alloc {c : AOp} {e : TypeId} (hx : compOp P ⟨dst, .alloc e, type, pos, after, guard⟩ = c) (hq : q = true → quietK c = true) (hh : aop P c ev h K E) :
    hw P q (execOp ev ⟨dst, .alloc e, type, pos, after, guard⟩) h K E := by
  unfold compOp at hx
  dsimp only at hx
  split at hx <;> subst hx
  · rename_i z hz
    cases q with
    | true => cases hq rfl
    | false =>
      obtain ⟨k⟩ := hh
      refine v_of ?_
      unfold Instr.alloc
      rw [hw_bind', hw_zero hz]
      show hw P false (newVar e z >>= fun r => pure (Value.pointer (some r))) h _ E
      rw [hw_bind']
      simpa [newVar, hw_newRow, hw_pure] using k
  · exact s_raw hq hh

theorem s_box {e : TypeId} {x : Operand} (hq : q = true → quietK (.box e x) = true) (hh : aop P (.box e x) ev h K E) : hw P q (execOp ev ⟨dst, .box e x, type, pos, after, guard⟩) h K E := by
  cases q with
  | true => cases hq rfl
  | false =>
    obtain ⟨k⟩ := hh
    refine v_of ?_
    exact k

theorem s_load {c : AOp} {t : TypeId} {x : Operand} (hx : compOp P ⟨dst, .load t x, type, pos, after, guard⟩ = c) (hq : q = true → quietK c = true) (hh : aop P c ev h K E) :
    hw P q (execOp ev ⟨dst, .load t x, type, pos, after, guard⟩) h K E := by
  unfold compOp at hx
  dsimp only at hx
  split at hx <;> subst hx
  · rename_i n ha hs
    simp only [aop] at hh
    split at hh
    · rename_i a hx
      obtain ⟨vs, l, e, k⟩ := hh
      refine v_of ?_
      simp only [hx, Instr.loadAt, Instr.sureAddr]
      show hw P q (loadVar t a) h _ E
      unfold loadVar
      rw [hw_bind', hw_isAgg ha]
      simp only [if_true]
      rw [hw_bind', hw_size hs, hw_bind']
      exact hw_loadCells l e k
    · exact hh.elim
  · rename_i ha
    simp only [aop] at hh
    split at hh
    · rename_i a hx
      obtain ⟨v, e, k⟩ := hh
      refine v_of ?_
      simp only [hx, Instr.loadAt, Instr.sureAddr]
      show hw P q (loadVar t a) h _ E
      unfold loadVar
      rw [hw_bind', hw_isAgg ha]
      simp only [Bool.false_eq_true, if_false]
      rw [hw_load e]
      exact k
    · exact hh.elim
  · exact s_raw hq hh

theorem s_store {c : AOp} {t : TypeId} {x y : Operand} (hx : compOp P ⟨dst, .store t x y, type, pos, after, guard⟩ = c) (hq : q = true → quietK c = true) (hh : aop P c ev h K E) :
    hw P q (execOp ev ⟨dst, .store t x y, type, pos, after, guard⟩) h K E := by
  unfold compOp at hx
  dsimp only at hx
  cases q with
  | true => split at hx <;> subst hx <;> cases hq rfl
  | false =>
  split at hx <;> subst hx
  · rename_i n ha hs
    simp only [aop] at hh
    split at hh
    · rename_i p cs hx hy
      obtain ⟨hn, one, there, k⟩ := hh
      refine u_of ?_
      simp only [hx, hy, Instr.storeAt, Instr.sureAddr]
      show hw P false (storeVar t p (.agg cs)) h _ E
      unfold storeVar
      rw [hw_bind', hw_size hs]
      simp only [Value.cells, hn, ne_eq, not_true, if_false]
      exact hw_storeCells' one there k
    · exact hh.elim
  · rename_i ha hs
    simp only [aop] at hh
    split at hh
    · rename_i p hx
      obtain ⟨one, there, k⟩ := hh
      have hv := cells_of_isOne (one (ev y) (by simp))
      refine u_of ?_
      simp only [hx, Instr.storeAt, Instr.sureAddr]
      show hw P false (storeVar t p (ev y)) h _ E
      unfold storeVar
      rw [hw_bind', hw_size hs]
      simp only [hv]
      exact hw_storeCells' (vs := [ev y]) one there k
    · exact hh.elim
  · exact s_raw hq hh

end
end Go.H
