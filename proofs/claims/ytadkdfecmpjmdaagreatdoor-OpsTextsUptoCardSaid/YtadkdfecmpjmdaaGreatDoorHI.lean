/- Operations that make new rows and write no old one. -/
import Derived.Test.YtadkdfecmpjmdaaGreatDoorHB
set_option linter.unusedVariables false
set_option linter.unusedSimpArgs false
namespace Go.H

def NoStore {α : Type} : Sem α → Prop
  | .pure _ => True
  | .load _ _ k => ∀ v, NoStore (k v)
  | .store .. => False
  | .new _ k => ∀ n, NoStore (k n)
  | .shape _ k => ∀ s, NoStore (k s)
  | .freeze .. => False
  | .frozen _ k => ∀ b, NoStore (k b)
  | .getObj _ k => ∀ o, NoStore (k o)
  | .setObj .. => False
  | .choose _ k => ∀ n, NoStore (k n)
  | .sys _ _ => True
  | .program k => ∀ p, NoStore (k p)
  | .mark _ k => NoStore k
  | .halt _ => True

def Grown' (h h' : Heap) : Prop := h.size ≤ h'.size ∧ ∀ b, b < h.size → h'[b]? = h[b]?
theorem Grown'.refl (h : Heap) : Grown' h h := ⟨Nat.le_refl _, fun _ _ => rfl⟩
theorem Grown'.trans {a b c : Heap} (h : Grown' a b) (k : Grown' b c) : Grown' a c := ⟨Nat.le_trans h.1 k.1, fun i hi => (k.2 i (Nat.lt_of_lt_of_le hi h.1)).trans (h.2 i hi)⟩
theorem Grown'.push (h : Heap) (o : Obj) : Grown' h (h.push o) := ⟨by simp, fun b hb => by rw [Array.getElem?_push, if_neg (by omega)]⟩

theorem noStore_grown {P : Program} {q : Bool} {α : Type} (s : Sem α) : ∀ (h : Heap) (Q : α → Heap → Prop) (E : Halt → Heap → Prop), NoStore s → hw P q s h Q E →
    hw P q s h (fun a h' => Q a h' ∧ Grown' h h') E := by
  have up : ∀ (s : Sem α), (∀ (h : Heap) (Q : α → Heap → Prop) (E : Halt → Heap → Prop), NoStore s → hw P q s h Q E → hw P q s h (fun a h' => Q a h' ∧ Grown' h h') E) →
      ∀ (h0 h : Heap) (Q : α → Heap → Prop) (E : Halt → Heap → Prop), Grown' h0 h → NoStore s → hw P q s h Q E → hw P q s h (fun a h' => Q a h' ∧ Grown' h0 h') E := by
    intro s ih h0 h Q E g n k
    exact hw_mono _ _ _ _ _ _ (fun a h' ⟨x, y⟩ => ⟨x, g.trans y⟩) (fun _ _ x => x) (ih h Q E n k)
  induction s with
  | pure a => intro h Q E _ hh; exact ⟨hh, Grown'.refl h⟩
  | load c a k ih =>
    intro h Q E n hh
    simp only [hw] at hh ⊢
    split at hh
    · exact ih _ h Q E (n _) hh
    · exact hh.elim
  | store c a v k ih => intro h Q E n; exact n.elim
  | new o k ih =>
    intro h Q E n hh
    cases q with
    | true => exact hh.elim
    | false => exact up _ (ih _) h _ Q E (Grown'.push h o) (n _) hh
  | shape r k ih => intro h Q E n hh; exact ih _ h Q E (n _) hh
  | freeze a n k ih => intro h Q E n; exact n.elim
  | frozen a k ih => intro h Q E n hh; exact ih _ h Q E (n _) hh
  | getObj r k ih =>
    intro h Q E n hh
    simp only [hw] at hh ⊢
    split at hh
    · exact hh.elim
    · exact ih _ h Q E (n _) hh
    · exact hh.elim
  | setObj r o k ih => intro h Q E n; exact n.elim
  | choose u k ih =>
    intro h Q E n hh
    cases q with
    | true => exact hh.elim
    | false =>
      by_cases hf : u.forced = true
      · simp only [hw, if_pos hf] at hh ⊢; exact ih _ h Q E (n _) hh
      · simp only [hw, if_neg hf] at hh ⊢; exact fun t => ih _ h Q E (n _) (hh t)
  | sys c k ih => intro h Q E n hh; exact hh.elim
  | program k ih => intro h Q E n hh; exact ih _ h Q E (n _) hh
  | mark m k ih => intro h Q E n hh; exact ih h Q E n hh
  | halt hl => intro h Q E n hh; exact hh

theorem ns_bind {α β : Type} (s : Sem α) : ∀ {f : α → Sem β}, NoStore s → (∀ a, NoStore (f a)) → NoStore (s >>= f) := by
  induction s with
  | pure a => intro f _ h; exact h a
  | load c a k ih => intro f n h; exact fun v => ih v (n v) h
  | store c a v k ih => intro f n h; exact n.elim
  | new o k ih => intro f n h; exact fun v => ih v (n v) h
  | shape r k ih => intro f n h; exact fun v => ih v (n v) h
  | freeze a n k ih => intro f n h; exact n.elim
  | frozen a k ih => intro f n h; exact fun v => ih v (n v) h
  | getObj r k ih => intro f n h; exact fun v => ih v (n v) h
  | setObj r o k ih => intro f n h; exact n.elim
  | choose u k ih => intro f n h; exact fun v => ih v (n v) h
  | sys c k ih => intro f n h; trivial
  | program k ih => intro f n h; exact fun v => ih v (n v) h
  | mark m k ih => intro f n h; exact ih n h
  | halt hl => intro f n h; trivial
theorem ns_ite {α : Type} {c : Prop} [Decidable c] {a b : Sem α} (h : NoStore a) (k : NoStore b) : NoStore (if c then a else b) := by split <;> assumption

theorem ns_typeInfo (t : TypeId) : NoStore (typeInfo t) := by unfold typeInfo program; (repeat (first | exact trivial | assumption | (refine ns_bind _ ?_ (fun _ => ?_)) | (intro _) | split))
theorem ns_underlying (t : TypeId) : NoStore (underlying t) := by unfold underlying program; (repeat (first | exact trivial | assumption | (refine ns_bind _ ?_ (fun _ => ?_)) | (intro _) | split))
theorem ns_zeroValue (t : TypeId) : NoStore (zeroValue t) := by unfold zeroValue; have := ns_typeInfo t; (repeat (first | exact trivial | assumption | (refine ns_bind _ ?_ (fun _ => ?_)) | (intro _) | split))
theorem ns_sizeOf (t : TypeId) : NoStore (sizeOf t) := by unfold sizeOf; have := ns_typeInfo t; (repeat (first | exact trivial | assumption | (refine ns_bind _ ?_ (fun _ => ?_)) | (intro _) | split))
theorem ns_newRow (t : TypeId) (c : Array Value) : NoStore (newRow t c) := by unfold newRow newObj; (repeat (first | exact trivial | assumption | (refine ns_bind _ ?_ (fun _ => ?_)) | (intro _) | split))
theorem ns_box (t : TypeId) (v : Value) : NoStore (Instr.box t v) := by
  unfold Instr.box newVar
  have := ns_newRow t v.cells
  (repeat (first | exact trivial | assumption | (refine ns_bind _ ?_ (fun _ => ?_)) | (intro _) | split))
theorem ns_alloc (t : TypeId) (b : Bool) : NoStore (Instr.alloc t b undef) := by
  unfold Instr.alloc newVar
  refine ns_bind _ (ns_zeroValue t) fun z => ?_
  split
  · rename_i e; cases e
  · exact ns_bind _ (ns_newRow _ _) fun _ => trivial
theorem ns_buildSlice (t : TypeId) (n : Nat) (ps : Array (Nat × Value)) : NoStore (Instr.buildSlice t n ps) := by
  unfold Instr.buildSlice
  refine ns_bind _ (ns_underlying t) fun d => ?_
  split
  · rename_i e
    refine ns_bind _ (ns_sizeOf e) fun s => ?_
    have h1 := ns_zeroValue e
    have h2 := fun c => ns_newRow e c
    (repeat (first | exact trivial | assumption | exact h2 _ | (refine ns_bind _ ?_ (fun _ => ?_)) | (intro _) | split | dsimp only))
  · trivial
theorem ns_load (a : Addr) : NoStore (load a) := by unfold load; (repeat (first | exact trivial | assumption | (refine ns_bind _ ?_ (fun _ => ?_)) | (intro _) | split))
theorem ns_loadCellsFrom (a : Addr) : ∀ (n i : Nat) (acc : Array Value), NoStore (loadCellsFrom a i n acc)
  | 0, i, acc => trivial
  | n + 1, i, acc => by
    unfold loadCellsFrom
    exact ns_bind _ (ns_load _) fun v => ns_loadCellsFrom a n _ _
theorem ns_firstCells (s n : Nat) (x : Value) : NoStore (Builtin.firstCells s n x) := by
  unfold Builtin.firstCells loadCells
  have h1 := ns_loadCellsFrom
  split <;> first | trivial | exact h1 _ _ _ _
theorem ns_holds (a : Addr) (n : Nat) : NoStore (Builtin.holdsCells a n) := by unfold Builtin.holdsCells shape; (repeat (first | exact trivial | assumption | (refine ns_bind _ ?_ (fun _ => ?_)) | (intro _) | split))
theorem ns_share (s l n : Nat) (x : Value) : NoStore (Builtin.mayShare s l n none x) := by
  unfold Builtin.mayShare
  have h1 := fun a => ns_holds a (n * s)
  (repeat (first | exact trivial | assumption | exact h1 _ | (refine ns_bind _ ?_ (fun _ => ?_)) | (intro _) | split | dsimp only))
theorem ns_asInt (x : Value) : NoStore (asInt x) := by unfold asInt asIntOf; (repeat (first | exact trivial | assumption | (refine ns_bind _ ?_ (fun _ => ?_)) | (intro _) | split | dsimp only))
theorem ns_lenOf (x : Value) : NoStore (Builtin.lenOf x) := by unfold Builtin.lenOf; (repeat (first | exact trivial | assumption | (refine ns_bind _ ?_ (fun _ => ?_)) | (intro _) | split | dsimp only))
theorem ns_panic {α : Type} (m : String) : NoStore (runtimePanic (α := α) (.error m)) := by unfold runtimePanic program goPanic; (repeat (first | exact trivial | assumption | (refine ns_bind _ ?_ (fun _ => ?_)) | (intro _) | split | dsimp only))
theorem ns_room (n : Nat) : NoStore (askRoom n) := by unfold askRoom mark; (repeat (first | exact trivial | assumption | (refine ns_bind _ ?_ (fun _ => ?_)) | (intro _) | split | dsimp only))
theorem ns_choose (u : Question) : NoStore (choose u) := by unfold choose; (repeat (first | exact trivial | assumption | (refine ns_bind _ ?_ (fun _ => ?_)) | (intro _) | split | dsimp only))
theorem ns_append (ts : Array TypeId) (t : TypeId) (l c : Nat) (x : Value) (r : List Value) : NoStore (Builtin.append_ ts t (.slice none l c :: x :: r).toArray) := by
  unfold Builtin.append_
  have e2 : (Value.slice none l c :: x :: r).toArray[0]? = some (.slice none l c) := by simp
  have e3 : (Value.slice none l c :: x :: r).toArray[1]? = some x := by simp
  rw [e2, e3]
  cases ts[0]? with
  | none => trivial
  | some t0 =>
  dsimp only
  have a1 := ns_typeInfo; have a2 := ns_underlying; have a3 := ns_zeroValue; have a4 := ns_sizeOf; have a5 := ns_newRow
  have a6 := ns_firstCells; have a7 := ns_share; have a8 := ns_asInt; have a9 := ns_lenOf; have b1 := @ns_panic; have b2 := ns_room; have b3 := ns_choose
  refine ns_bind _ (a2 _) fun d => ?_
  cases d <;> first | trivial | skip
  dsimp only
  repeat (first | exact trivial | (with_reducible exact a1 _) | (with_reducible exact a2 _) | (with_reducible exact a3 _) | (with_reducible exact a4 _) | (with_reducible exact a5 _ _) | (with_reducible exact a6 _ _ _) | (with_reducible exact a7 _ _ _ _) | (with_reducible exact a8 _) | (with_reducible exact a9 _) | (with_reducible exact b1 _) | (with_reducible exact b2 _) | (with_reducible exact b3 _) | (with_reducible refine ns_ite ?_ ?_) | (with_reducible refine ns_bind _ ?_ (fun _ => ?_)) | (intro _) | split | dsimp only)

def growO (o : Oper) : Bool := match o.op with
  | .alloc _ => true
  | .box _ _ => true
  | .buildSlice .. => true
  | .call ⟨.builtin .append, args, _⟩ => match args.toList with
    | .const (.slice none _ _) :: _ :: _ => true
    | _ => false
  | _ => false
theorem growO_run {o : Oper} {ev : Operand → Value} (hev : ∀ v, ev (.const v) = v) (hg : growO o = true) : ∃ s : Sem Value, execOp ev o = (do pure (Next.value (← s))) ∧ NoStore s := by
  obtain ⟨dst, op, type, pos, after, guard⟩ := o
  unfold growO at hg
  dsimp only at hg
  split at hg
  · exact ⟨_, rfl, ns_alloc _ _⟩
  · exact ⟨_, rfl, ns_box _ _⟩
  · exact ⟨_, rfl, ns_buildSlice _ _ _⟩
  · rename_i args _
    split at hg
    · rename_i l c x r he
      refine ⟨Builtin.append_ _ _ (args.map ev), rfl, ?_⟩
      have e : args.map ev = (Value.slice none l c :: ev x :: r.map ev).toArray := by
        apply Array.toList_inj.1
        rw [Array.toList_map, he]
        simp [hev]
      rw [e]
      exact ns_append _ _ _ _ _ _
    · cases hg
  · cases hg

end Go.H
