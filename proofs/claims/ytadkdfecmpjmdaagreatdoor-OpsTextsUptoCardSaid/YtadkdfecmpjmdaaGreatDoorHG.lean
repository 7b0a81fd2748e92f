/- What memory holds: blocks, slices, what a call owns; the rules for reading, making, writing, appending. -/
import Derived.Test.YtadkdfecmpjmdaaGreatDoorHF
import Derived.IntWalk
set_option linter.unusedVariables false
set_option linter.unusedSimpArgs false
namespace Go.H

/-! ### Heaps that differ little -/

def Ext (h h' : Heap) : Prop := h.size ≤ h'.size ∧ ∀ b, b < h.size → h'[b]? = h[b]?
def Kept (B : Nat) (h h' : Heap) : Prop := h.size ≤ h'.size ∧ ∀ b, b < B → h'[b]? = h[b]?
def Off (k : Nat) (h h' : Heap) : Prop := h.size ≤ h'.size ∧ ∀ b, b < h.size → b ≠ k → h'[b]? = h[b]?

theorem Ext.refl (h : Heap) : Ext h h := ⟨Nat.le_refl _, fun _ _ => rfl⟩
theorem Ext.trans {a b c : Heap} (h : Ext a b) (k : Ext b c) : Ext a c := ⟨Nat.le_trans h.1 k.1, fun i hi => (k.2 i (Nat.lt_of_lt_of_le hi h.1)).trans (h.2 i hi)⟩
theorem Ext.push (h : Heap) (o : Obj) : Ext h (h.push o) := ⟨by simp, fun b hb => by rw [Array.getElem?_push, if_neg (by omega)]⟩
theorem Kept.refl (B : Nat) (h : Heap) : Kept B h h := ⟨Nat.le_refl _, fun _ _ => rfl⟩
theorem Kept.trans {B : Nat} {a b c : Heap} (h : Kept B a b) (k : Kept B b c) : Kept B a c := ⟨Nat.le_trans h.1 k.1, fun i hi => (k.2 i hi).trans (h.2 i hi)⟩
theorem Ext.kept {h h' : Heap} {B : Nat} (x : Ext h h') (hb : B ≤ h.size) : Kept B h h' := ⟨x.1, fun i hi => x.2 i (Nat.lt_of_lt_of_le hi hb)⟩
theorem Ext.keep {h a b : Heap} (x : Ext h a) (k : Kept h.size a b) : Ext h b := Kept.trans x k
theorem Off.kept {k B : Nat} {h h' : Heap} (x : Off k h h') (hk : B ≤ k) (hb : B ≤ h.size) : Kept B h h' := ⟨x.1, fun i hi => x.2 i (Nat.lt_of_lt_of_le hi hb) (by omega)⟩
theorem Ext.off {k : Nat} {h h' : Heap} (x : Ext h h') : Off k h h' := ⟨x.1, fun i hi _ => x.2 i hi⟩
theorem Off.trans {k : Nat} {a b c : Heap} (h : Off k a b) (x : Off k b c) : Off k a c := ⟨Nat.le_trans h.1 x.1, fun i hi hk => (x.2 i (Nat.lt_of_lt_of_le hi h.1) hk).trans (h.2 i hi hk)⟩

theorem hcell_of {h h' : Heap} {a : Addr} (e : h'[a.block]? = h[a.block]?) : hcell h' a = hcell h a := by unfold hcell; rw [e]
theorem lt_of_hcell {h : Heap} {a : Addr} {v : Value} (e : hcell h a = some v) : a.block < h.size := by
  rcases Nat.lt_or_ge a.block h.size with hl | hl
  · exact hl
  · unfold hcell at e; rw [Array.getElem?_eq_none hl] at e; cases e
theorem Ext.cell {h h' : Heap} (x : Ext h h') {a : Addr} {v : Value} (e : hcell h a = some v) : hcell h' a = some v := by
  rw [hcell_of (x.2 _ (lt_of_hcell e))]; exact e
theorem add_block (a : Addr) (i : Nat) : (a.add i).block = a.block := by unfold Addr.add; split <;> rfl
theorem add_mk (b o i : Nat) : (⟨b, o, none⟩ : Addr).add i = ⟨b, o + i, none⟩ := by
  unfold Addr.add; split
  · rename_i e; subst e; rfl
  · rfl

def Blk (h : Heap) (b : Nat) (cs : List Value) : Prop := ∃ e fz, h[b]? = some (.cells cs.toArray e fz)
def BlkW (h : Heap) (b e : Nat) (cs : List Value) : Prop := ∃ fz : Nat × Nat, h[b]? = some (.cells cs.toArray e fz) ∧ ∀ i, i < cs.length → ¬ (fz.1 ≤ i ∧ i < fz.2)
theorem BlkW.blk {h : Heap} {b e : Nat} {cs : List Value} (x : BlkW h b e cs) : Blk h b cs := ⟨e, x.choose, x.choose_spec.1⟩
theorem Blk.cell {h : Heap} {b : Nat} {cs : List Value} (x : Blk h b cs) (o : Nat) : hcell h ⟨b, o, none⟩ = cs[o]? := by
  obtain ⟨e, fz, x⟩ := x
  unfold hcell; simp only [x]; simp
theorem BlkW.of {h h' : Heap} {b e' : Nat} {cs : List Value} (x : BlkW h b e' cs) (e : h'[b]? = h[b]?) : BlkW h' b e' cs := by unfold BlkW; rw [e]; exact x
theorem Blk.lt {h : Heap} {b : Nat} {cs : List Value} (x : Blk h b cs) : b < h.size := by
  obtain ⟨e, fz, x⟩ := x
  rcases Nat.lt_or_ge b h.size with hl | hl
  · exact hl
  · rw [Array.getElem?_eq_none hl] at x; cases x
theorem BlkW.lt {h : Heap} {b e : Nat} {cs : List Value} (x : BlkW h b e cs) : b < h.size := x.blk.lt
theorem BlkW.frozen {h : Heap} {b e : Nat} {cs : List Value} (x : BlkW h b e cs) {o : Nat} (ho : o < cs.length) : hfrozen h ⟨b, o, none⟩ = false := by
  obtain ⟨fz, x, y⟩ := x
  have := y o ho
  unfold hfrozen; simp only [x]
  simpa using this
theorem BlkW.push (h : Heap) (cs : List Value) (e : Nat) : BlkW (h.push (.cells cs.toArray e)) h.size e cs := ⟨(0, 0), by simp, fun i _ => by simp⟩
theorem BlkW.ext {h h' : Heap} {b e : Nat} {cs : List Value} (x : BlkW h b e cs) (k : Ext h h') : BlkW h' b e cs := x.of (k.2 _ x.lt)
theorem BlkW.offk {h h' : Heap} {b e k : Nat} {cs : List Value} (x : BlkW h b e cs) (o : Off k h h') (hb : b ≠ k) : BlkW h' b e cs := x.of (o.2 _ x.lt hb)
/-! ### Stores -/

theorem hset_size (h : Heap) (a : Addr) (v : Value) : (hsetCell h a v).size = h.size := by unfold hsetCell; simp
theorem hset_off (h : Heap) (a : Addr) (v : Value) : Off a.block h (hsetCell h a v) := by
  refine ⟨by rw [hset_size]; exact Nat.le_refl _, fun b hb hne => ?_⟩
  unfold hsetCell
  rw [Array.getElem?_modify, if_neg (Ne.symm hne)]
theorem hset_row {h : Heap} {b e o : Nat} {cs : List Value} {fz : Nat × Nat} {v : Value} (x : h[b]? = some (.cells cs.toArray e fz)) : (hsetCell h ⟨b, o, none⟩ v)[b]? = some (.cells (cs.set o v).toArray e fz) := by
  unfold hsetCell
  rw [Array.getElem?_modify, if_pos rfl, x]
  simp
theorem hstores_off : ∀ (vs : List Value) (h : Heap) (a : Addr) (i : Nat), Off a.block h (hstores h a vs i)
  | [], h, a, i => ⟨Nat.le_refl _, fun _ _ _ => rfl⟩
  | v :: vs, h, a, i => by
    have h1 := hset_off h (a.add i) v
    rw [add_block] at h1
    exact h1.trans (hstores_off vs _ a (i + 1))
theorem hstores_row : ∀ (vs : List Value) (h : Heap) (b o i e : Nat) (cs : List Value) (fz : Nat × Nat), h[b]? = some (.cells cs.toArray e fz) → o + i + vs.length ≤ cs.length →
    (hstores h ⟨b, o, none⟩ vs i)[b]? = some (.cells (cs.take (o + i) ++ (vs ++ cs.drop (o + i + vs.length))).toArray e fz)
  | [], h, b, o, i, e, cs, fz, x, hl => by simp [hstores, x]
  | v :: vs, h, b, o, i, e, cs, fz, x, hl => by
    simp only [List.length_cons] at hl
    simp only [hstores]
    rw [add_mk, hstores_row vs _ b o (i + 1) e _ fz (hset_row x) (by rw [List.length_set]; omega)]
    have e1 : (cs.set (o + i) v).take (o + (i + 1)) = cs.take (o + i) ++ [v] := by
      rw [← Nat.add_assoc, List.take_add_one, List.take_set_of_le (Nat.le_refl _), List.getElem?_set_self (by omega)]; rfl
    have e2 : (cs.set (o + i) v).drop (o + (i + 1) + vs.length) = cs.drop (o + i + (vs.length + 1)) := by
      rw [List.drop_set_of_lt (by omega)]; congr 1; omega
    rw [e1, e2]; simp
theorem store_blk {h : Heap} {b o e : Nat} {cs vs : List Value} {K : Heap → Prop} (x : BlkW h b e cs) (hl : o + vs.length ≤ cs.length) (one : ∀ v ∈ vs, isOne v = true)
    (k : ∀ h', Off b h h' → h'.size = h.size → BlkW h' b e (cs.take o ++ (vs ++ cs.drop (o + vs.length))) → K h') : HStore h ⟨b, o, none⟩ vs K := by
  refine ⟨one, fun i hi => ?_, k _ (hstores_off _ _ _ _) ?_ ?_⟩
  · rw [add_mk]
    exact ⟨by rw [x.blk.cell]; rw [List.getElem?_eq_getElem (by omega)]; rfl, x.frozen (by omega)⟩
  · have : ∀ (vs : List Value) (h : Heap) (a : Addr) (i : Nat), (hstores h a vs i).size = h.size := by
      intro vs
      induction vs with
      | nil => intro h a i; rfl
      | cons v vs ih => intro h a i; simp only [hstores]; rw [ih, hset_size]
    exact this _ _ _ _
  · obtain ⟨fz, x1, x2⟩ := x
    refine ⟨fz, hstores_row vs h b o 0 e cs fz x1 (by omega), fun i hi => x2 i ?_⟩
    simp only [List.length_append, List.length_take, List.length_drop] at hi
    omega
theorem store1_blk {h : Heap} {b o e : Nat} {cs : List Value} {v : Value} {K : Heap → Prop} (x : BlkW h b e cs) (hl : o < cs.length) (one : isOne v = true)
    (k : ∀ h', Off b h h' → h'.size = h.size → BlkW h' b e (cs.set o v) → K h') : HStore h ⟨b, o, none⟩ [v] K := by
  refine store_blk x (by simp; omega) (by simpa using one) fun h' h1 h2 h3 => k h' h1 h2 ?_
  have : cs.take o ++ ([v] ++ cs.drop (o + [v].length)) = cs.set o v := by
    rw [List.set_eq_take_append_cons_drop, if_pos hl]; rfl
  rw [this] at h3; exact h3

/-! ### Slices -/

def Sl (h : Heap) (size : Nat) (a : Option Addr) (n c : Nat) (xs : List Value) : Prop :=
  xs.length = n * size ∧ n ≤ c ∧ (a = none → c = 0) ∧ ∀ p, a = some p → ∀ i, i < n * size → hcell h (p.add i) = xs[i]?
theorem Sl.ext {h h' : Heap} {size n c : Nat} {a : Option Addr} {xs : List Value} (x : Sl h size a n c xs) (k : Ext h h') : Sl h' size a n c xs :=
  ⟨x.1, x.2.1, x.2.2.1, fun p e i hi => by
    have h1 := x.2.2.2 p e i hi
    have hl : i < xs.length := by rw [x.1]; exact hi
    rw [List.getElem?_eq_getElem hl] at h1 ⊢
    exact k.cell h1⟩
theorem Sl.nil (h : Heap) (size : Nat) : Sl h size none 0 0 [] := ⟨by simp, Nat.le_refl _, fun _ => rfl, fun p e => by cases e⟩

def Own (h : Heap) (B e size : Nat) (a : Option Addr) (n c : Nat) (xs : List Value) : Prop :=
  xs.length = n * size ∧ n ≤ c ∧ (a = none → c = 0) ∧ ∀ p, a = some p → ∃ b spare, p = ⟨b, 0, none⟩ ∧ B ≤ b ∧ spare.length = (c - n) * size ∧ BlkW h b e (xs ++ spare)
theorem Own.sl {h : Heap} {B e size n c : Nat} {a : Option Addr} {xs : List Value} (x : Own h B e size a n c xs) : Sl h size a n c xs :=
  ⟨x.1, x.2.1, x.2.2.1, fun p ep i hi => by
    obtain ⟨b, spare, rfl, _, _, y⟩ := x.2.2.2 p ep
    rw [add_mk, Nat.zero_add, y.blk.cell, List.getElem?_append_left (by rw [x.1]; exact hi)]⟩
theorem Own.nil (h : Heap) (B e size : Nat) : Own h B e size none 0 0 [] := ⟨by simp, Nat.le_refl _, fun _ => rfl, fun p ep => by cases ep⟩
theorem Own.ext {h h' : Heap} {B e size n c : Nat} {a : Option Addr} {xs : List Value} (x : Own h B e size a n c xs) (k : Ext h h') : Own h' B e size a n c xs :=
  ⟨x.1, x.2.1, x.2.2.1, fun p ep => let ⟨b, s, h1, h2, h3, h4⟩ := x.2.2.2 p ep; ⟨b, s, h1, h2, h3, h4.ext k⟩⟩
theorem Own.off {h h' : Heap} {B e size n c k : Nat} {a : Option Addr} {xs : List Value} (x : Own h B e size a n c xs) (o : Off k h h') (hk : ∀ p, a = some p → p.block ≠ k) : Own h' B e size a n c xs :=
  ⟨x.1, x.2.1, x.2.2.1, fun p ep => let ⟨b, s, h1, h2, h3, h4⟩ := x.2.2.2 p ep; ⟨b, s, h1, h2, h3, h4.offk o (by have := hk p ep; rw [h1] at this; exact this)⟩⟩
theorem Own.lower {h : Heap} {B B' e size n c : Nat} {a : Option Addr} {xs : List Value} (x : Own h B e size a n c xs) (hb : B' ≤ B) : Own h B' e size a n c xs :=
  ⟨x.1, x.2.1, x.2.2.1, fun p ep => let ⟨b, s, h1, h2, h3, h4⟩ := x.2.2.2 p ep; ⟨b, s, h1, by omega, h3, h4⟩⟩

theorem zeroCells_len (zs : List Value) (m : Nat) : (Builtin.zeroCells zs.toArray m).toList.length = m * zs.length := by unfold Builtin.zeroCells; simp

theorem Own.append {h : Heap} {B e size bytes : Nat} {zs : List Value} {a : Option Addr} {n c m : Nat} {xs more : List Value} {K : Value → Heap → Prop} (x : Own h B e size a n c xs)
    (hB : B ≤ h.size) (hz : zs.length = size) (hm : more.length = m * size) (one : ∀ v ∈ more, isOne v = true) (room : (n + m) * bytes ≤ 140737488355328)
    (k : ∀ h' a' c', Own h' B e size a' (n + m) c' (xs ++ more) → Kept B h h' → (∀ b, b < h.size → (∀ p, a = some p → p.block ≠ b) → h'[b]? = h[b]?) →
      (∀ p', a' = some p' → (∃ p, a = some p ∧ p'.block = p.block) ∨ h.size ≤ p'.block) → K (.slice a' (n + m) c') h') :
    HAppend h e size bytes zs a n c more m K := by
  obtain ⟨h1, h2, h3, h4⟩ := x
  by_cases f : n + m ≤ c
  · cases a with
    | none =>
      have hc := h3 rfl
      obtain rfl : m = 0 := by omega
      obtain rfl : more = [] := List.length_eq_zero_iff.1 (by simpa using hm)
      refine .fitsNone f rfl (k h none c ⟨by simpa using h1, f, h3, fun p ep => by cases ep⟩ (Kept.refl _ _) (fun _ _ _ => rfl) (fun p ep => by cases ep))
    | some p =>
      obtain ⟨b, spare, rfl, hb, hs, y⟩ := h4 p rfl
      have hlen : n * size + more.length ≤ (xs ++ spare).length := by
        rw [List.length_append, h1, hs, hm, ← Nat.add_mul, ← Nat.add_mul]
        exact Nat.mul_le_mul_right _ (by omega)
      have hoff := hstores_off more h ⟨b, n * size, none⟩ 0
      refine .fits f _ rfl one ?_ ?_
      · intro i hi
        rw [add_mk, Nat.zero_add, add_mk]
        exact ⟨by rw [y.blk.cell, List.getElem?_eq_getElem (by omega)]; rfl, y.frozen (by omega)⟩
      · rw [add_mk, Nat.zero_add]
        obtain ⟨fz, y1, y2⟩ := y
        have y3 := hstores_row more h b (n * size) 0 e _ fz y1 (by omega)
        refine k _ (some ⟨b, 0, none⟩) c ⟨by rw [List.length_append, h1, hm, Nat.add_mul], f, fun e => (by cases e), ?_⟩ (hoff.kept hb hB) ?_ ?_
        · intro p' ep'
          cases ep'
          refine ⟨b, spare.drop more.length, rfl, hb, ?_, fz, ?_, ?_⟩
          · rw [List.length_drop, hs, hm, ← Nat.sub_mul]; congr 1; omega
          · rw [y3]
            congr 2
            rw [Nat.add_zero, ← h1, List.take_left', List.drop_append, List.append_assoc]
            · simp
            · rfl
          · intro i hi
            refine y2 i ?_
            simp only [List.length_append, List.length_drop] at hi ⊢
            rw [List.length_append] at hlen
            omega
        · intro b' hb' hne
          exact hoff.2 b' hb' (fun e => hne _ rfl e.symm)
        · intro p' ep'; cases ep'; exact .inl ⟨_, rfl, rfl⟩
  · refine .grows (by omega) room xs h1 ?_ ?_ ?_
    · intro p ep i hi
      obtain ⟨b, spare, rfl, hb, hs, y⟩ := h4 p ep
      rw [add_mk, Nat.zero_add, y.blk.cell, List.getElem?_append_left (by rw [h1]; exact hi)]
    · intro ea; have := h3 ea; omega
    · intro c' hc'
      refine k _ (some ⟨h.size, 0, none⟩) c' ⟨by rw [List.length_append, h1, hm, Nat.add_mul], hc', fun e => (by cases e), ?_⟩ ((Ext.push h _).kept hB) ?_ ?_
      · intro p' ep'
        cases ep'
        exact ⟨h.size, _, rfl, hB, by rw [zeroCells_len, hz], BlkW.push _ _ _⟩
      · intro b' hb' _; exact (Ext.push h _).2 b' hb'
      · intro p' ep'; cases ep'; exact .inr (Nat.le_refl _)

theorem Own.made {h : Heap} {e size n : Nat} {cs : List Value} (hl : cs.length = n * size) : Own (h.push (.cells cs.toArray e)) h.size e size (some ⟨h.size, 0, none⟩) n n cs :=
  ⟨hl, Nat.le_refl _, fun e => (by cases e), fun p ep => by cases ep; exact ⟨h.size, [], rfl, Nat.le_refl _, by simp, by simpa using BlkW.push h cs e⟩⟩

theorem new_own {h : Heap} {e : Nat} {o : Obj} {K : Nat → Heap → Prop} (size n : Nat) (cs : List Value) (eo : o = .cells cs.toArray e) (hl : cs.length = n * size)
    (k : ∀ h' b, Own h' h.size e size (some ⟨b, 0, none⟩) n n cs → Ext h h' → h'.size = h.size + 1 → b = h.size → K b h') : HNew h o K := by
  subst eo
  exact ⟨k _ _ (Own.made hl) (Ext.push _ _) (by simp) rfl⟩
theorem new_var {h : Heap} {e : Nat} {o : Obj} {K : Nat → Heap → Prop} (cs : List Value) (eo : o = .cells cs.toArray e)
    (k : ∀ h' b, BlkW h' b e cs → Ext h h' → h'.size = h.size + 1 → b = h.size → K b h') : HNew h o K := by
  subst eo
  exact ⟨k _ _ (BlkW.push _ _ _) (Ext.push _ _) (by simp) rfl⟩

theorem BlkW.sl {h : Heap} {b e : Nat} {cs : List Value} (x : BlkW h b e cs) : Sl h 1 (some ⟨b, 0, none⟩) cs.length cs.length cs :=
  ⟨by simp, Nat.le_refl _, fun e => (by cases e), fun p ep i hi => by cases ep; rw [add_mk, Nat.zero_add, x.blk.cell]⟩
theorem zeroCells_one (v : Value) (n : Nat) : Builtin.zeroCells [v].toArray n = (List.replicate n v).toArray := by
  apply Array.ext
  · simp [Builtin.zeroCells]
  · intro i h1 h2
    simp [Builtin.zeroCells, Nat.mod_one]

theorem HCall.to {P : Program} {f : FuncId} {args : Array Value} {h : Heap} {R : Ending → Heap → Prop} (args' : Array Value) (e : args = args') (k : HCalls P f args' h R) : HCall P f args h R := by subst e; exact ⟨k⟩
theorem Ext.offNew {h a b : Heap} {k : Nat} (x : Ext h a) (o : Off k a b) (hk : h.size ≤ k) : Ext h b :=
  ⟨Nat.le_trans x.1 o.1, fun i hi => (o.2 i (Nat.lt_of_lt_of_le hi x.1) (by omega)).trans (x.2 i hi)⟩
theorem Own.store {h : Heap} {B e n c i : Nat} {a : Option Addr} {xs : List Value} {p : Addr} {v : Value} {K : Heap → Prop} (x : Own h B e 1 a n c xs) (ep : a = some p) (hi : i < n) (one : isOne v = true)
    (k : ∀ h', Off p.block h h' → B ≤ p.block → h'.size = h.size → Own h' B e 1 a n c (xs.set i v) → K h') : HStore h (p.add (i * 1)) [v] K := by
  obtain ⟨h1, h2, h3, h4⟩ := x
  obtain ⟨b, spare, rfl, hb, hs, y⟩ := h4 p ep
  rw [Nat.mul_one] at h1
  rw [add_mk, Nat.zero_add, Nat.mul_one]
  refine store1_blk y (by rw [List.length_append]; omega) one ?_
  intro h' f z y'
  refine k h' f hb z ⟨by simp; omega, h2, h3, fun p' ep' => ?_⟩
  rw [ep] at ep'
  cases ep'
  refine ⟨b, spare, rfl, hb, hs, ?_⟩
  rw [List.set_append_left _ _ (by omega)] at y'
  exact y'

/-! ### Bytes -/

def byteV (b : UInt8) : Value := .int .u8 (b.toNat : Nat)
theorem bytesV_one {l : List UInt8} : ∀ v ∈ l.map byteV, isOne v = true := by simp [byteV, isOne]
theorem bytesV_get (l : List UInt8) (i : Nat) : (l.map byteV)[i]? = (l[i]?).map byteV := by simp

theorem add_add (a : Addr) (m k : Nat) : (a.add m).add k = a.add (m + k) := by
  unfold Addr.add
  by_cases hm : m = 0
  · subst hm; simp
  · by_cases hk : k = 0
    · subst hk; simp [hm]
    · simp [hm, hk, Nat.add_assoc]
theorem Sl.slice {h : Heap} {size n c i j : Nat} {a : Option Addr} {xs : List Value} (x : Sl h size a n c xs) (hij : i ≤ j) (hjn : j ≤ n) :
    Sl h size (a.map fun p => movedTo p c i size) (j - i) (c - i) ((xs.take (j * size)).drop (i * size)) := by
  obtain ⟨h1, h2, h3, h4⟩ := x
  have hj : j * size ≤ n * size := Nat.mul_le_mul_right _ hjn
  refine ⟨by rw [List.length_drop, List.length_take, h1, Nat.min_eq_left hj, Nat.sub_mul], by omega, fun e => by have := h3 (by simpa using e); omega, ?_⟩
  intro p ep k hk
  cases a with
  | none => cases ep
  | some q =>
    cases ep
    rw [Nat.sub_mul] at hk
    unfold movedTo
    have hne : c ≠ i := by
      intro e
      have : j * size ≤ i * size := Nat.mul_le_mul_right _ (by omega)
      omega
    show hcell h ((if c = i then q else q.add (i * size)).add k) = _
    rw [if_neg hne, add_add, h4 q rfl _ (by omega), List.getElem?_drop, List.getElem?_take, if_pos (by omega)]
theorem Sl.load {h : Heap} {a : Option Addr} {n c : Nat} {xs : List Value} {p : Addr} {i : Nat} {K : Value → Prop} (x : Sl h 1 a n c xs) (ep : a = some p) (hi : i < xs.length) (k : K xs[i]) : HLoad h (p.add (i * 1)) K := by
  have hx := x.1
  refine ⟨xs[i], ?_, k⟩
  rw [Nat.mul_one, x.2.2.2 p ep i (by omega), List.getElem?_eq_getElem hi]
theorem Sl.cells {h : Heap} {size : Nat} {a : Option Addr} {n c : Nat} {xs : List Value} {K : List Value → Prop} (x : Sl h size a n c xs) (k : K xs) : HCells h (.slice a n c) (n * size) K := by
  cases a with
  | none =>
    have hc := x.2.2.1 rfl
    have hn : n = 0 := by have := x.2.1; omega
    subst hn
    have : xs = [] := List.length_eq_zero_iff.1 (by simpa using x.1)
    subst this
    exact .nil c 0 rfl (by simp) k
  | some p => exact .mk p n c rfl xs x.1 (x.2.2.2 p rfl) k
theorem Sl.bytes {h : Heap} {a : Option Addr} {n c : Nat} {l : List UInt8} {K : ByteArray → Prop} (x : Sl h 1 a n c (l.map byteV)) (k : K ⟨l.toArray⟩) : HBytes h (.slice a n c) K := by
  have hl : l.length = n := by simpa using x.1
  cases a with
  | none =>
    have hc := x.2.2.1 rfl
    have hn : n = 0 := by have := x.2.1; omega
    rw [hn] at hl
    have : l = [] := List.length_eq_zero_iff.1 hl
    subst this
    exact .nil c n rfl k
  | some p =>
    subst hl
    refine .mk p c ⟨l.toArray⟩ (by rfl) ?_ k
    intro i hi
    have hi' : i < l.length := hi
    rw [x.2.2.2 p rfl i (by omega), bytesV_get, List.getElem?_eq_getElem hi']
    simp [byteV, hi']

/-! ### Numbers -/
theorem wrap_i64 {n : Int} (h : -9223372036854775808 ≤ n ∧ n ≤ 9223372036854775807) : IntKind.i64.wrap n = n := IntWalk.i64_in n h
theorem wrap_u64 {n : Int} (h : 0 ≤ n ∧ n ≤ 18446744073709551615) : IntKind.u64.wrap n = n := IntWalk.u64_in n h
theorem wrap_u32 {n : Int} (h : 0 ≤ n ∧ n ≤ 4294967295) : IntKind.u32.wrap n = n := IntWalk.u32_in n h
theorem wrap_u8 {n : Int} (h : 0 ≤ n ∧ n ≤ 255) : IntKind.u8.wrap n = n := IntWalk.u8_in n h
theorem wrap_u64' {n : Int} : IntKind.u64.wrap n = n % 18446744073709551616 := by
  simp only [IntKind.wrap, IntKind.bits, IntKind.signed, Bool.false_and, Bool.false_eq_true, if_false]
  rfl

end Go.H
