/- The resolved code does no more than the given one. -/
import Derived.Test.YtadkdfecmpjmdaaGreatDoorH9
set_option linter.unusedVariables false
set_option linter.unusedSimpArgs false
namespace Go.H

def Det {α : Type} (F : (α → Prop) → Prop) : Prop := ∀ K, F K → ∃ v, K v ∧ ∀ K' : α → Prop, K' v → F K'
theorem Det.pure {α : Type} (v : α) : Det fun K => K v := fun _ k => ⟨v, k, fun _ k' => k'⟩
theorem Det.bind {α β : Type} {F : (α → Prop) → Prop} {G : α → (β → Prop) → Prop} (hF : Det F) (hG : ∀ a, Det (G a)) : Det fun K => F fun a => G a K := fun K hk => by
  obtain ⟨a, h1, h2⟩ := hF _ hk
  obtain ⟨b, h3, h4⟩ := hG a _ h1
  exact ⟨b, h3, fun K' k' => h2 _ (h4 _ k')⟩
theorem Det.map {α β : Type} {F : (α → Prop) → Prop} (f : α → β) (hF : Det F) : Det fun K => F fun a => K (f a) := Det.bind hF fun a => Det.pure (f a)
theorem Det.false {α : Type} : Det (α := α) fun _ => False := fun _ k => k.elim
theorem Det.must {α : Type} (c : Prop) {F : (α → Prop) → Prop} (hF : Det F) : Det fun K => HMust c (F K) := fun K hk => by
  obtain ⟨hc, k⟩ := hk
  obtain ⟨v, h1, h2⟩ := hF _ k
  exact ⟨v, h1, fun K' k' => ⟨hc, h2 _ k'⟩⟩
theorem Det.int (k : IntKind) (n : Int) : Det (HInt k n) := fun K hk => by
  obtain ⟨m, e, k⟩ := hk
  exact ⟨m, k, fun K' k' => ⟨m, e, k'⟩⟩
theorem Det.idx (i : Int) (n : Nat) : Det (HIdx i n) := fun K hk => by
  obtain ⟨j, e, l, k⟩ := hk
  exact ⟨j, k, fun K' k' => ⟨j, e, l, k'⟩⟩
theorem Det.some (a : Option Addr) : Det (HSome a) := fun K hk => by
  obtain ⟨p, e, k⟩ := hk
  exact ⟨p, k, fun K' k' => ⟨p, e, k'⟩⟩
theorem Det.bound (i : Int) (n : Nat) : Det (HBound i n) := fun K hk => by
  obtain ⟨j, e, l, k⟩ := hk
  exact ⟨j, k, fun K' k' => ⟨j, e, l, k'⟩⟩
theorem Det.obound (ev : Operand → Value) (o : Option Operand) (d n : Nat) : Det (obound ev o d n) := by
  unfold H.obound
  split
  · exact Det.pure d
  · split
    · exact Det.bound _ _
    · exact Det.false
theorem Det.if {α : Type} (b : Bool) {F G : (α → Prop) → Prop} (hF : Det F) (hG : Det G) : Det fun K => HIf b (F K) (G K) := fun K hk => by
  obtain ⟨h1, h2⟩ := hk
  cases b with
  | true =>
    obtain ⟨v, h3, h4⟩ := hF _ (h1 rfl)
    exact ⟨v, h3, fun K' k' => ⟨fun _ => h4 _ k', fun e => by cases e⟩⟩
  | false =>
    obtain ⟨v, h3, h4⟩ := hG _ (h2 rfl)
    exact ⟨v, h3, fun K' k' => ⟨fun e => (by cases e), fun _ => h4 _ k'⟩⟩
theorem Det.mnmx (mx : Bool) (ev : Operand → Value) (k : IntKind) : ∀ (ys : List Operand) (a : Int), Det (mnmx mx ev k ys a)
  | [], a => Det.pure a
  | y :: ys, a => by
    intro K hk
    simp only [H.mnmx] at hk ⊢
    split at hk
    · exact Det.mnmx mx ev k ys _ K hk
    · exact hk.elim
theorem Det.splN (cs : List Value) (n : Nat) (vs : List Value) (s : Nat) : Det (splN cs n vs s) := fun K hk => by
  obtain ⟨h1, h2, h3⟩ := splN_eq _ _ _ _ _ hk
  subst h1
  exact ⟨_, h3, fun K' k' => splN_of _ _ _ _ h2 k'⟩
theorem Det.fillL (ev : Operand → Value) : ∀ (ps : List (Nat × Nat × Operand)) (cells : List Value), Det (fillL ev ps cells)
  | [], cells => Det.pure cells
  | (off, size, x) :: rest, cells => by
    intro K hk
    simp only [H.fillL, force_eq] at hk ⊢
    split at hk
    · exact Det.bind (Det.splN _ _ _ _) (fun r => Det.fillL ev rest r) K hk
    · exact Det.bind (Det.splN _ _ _ _) (fun r => Det.fillL ev rest r) K hk
theorem Det.ibin (op : BinOp) (k : IntKind) (a b : Int) : Det (ibin op k a b) := by
  unfold H.ibin
  cases op <;> first | exact Det.map (fun n => Value.int k n) (Det.int _ _) | exact Det.must _ (Det.map (fun n => Value.int k n) (Det.int _ _)) | exact Det.must _ (Det.pure _) | exact Det.pure _ | exact Det.false
theorem Det.ishift (op : BinOp) (k : IntKind) (a b : Int) : Det (ishift op k a b) := by
  unfold H.ishift
  cases op <;> first | exact Det.must _ (Det.map (fun n => Value.int k n) (Det.int _ _)) | exact Det.must _ (Det.pure _) | exact Det.false
theorem Det.sbin (op : BinOp) (a b : ByteArray) : Det (sbin op a b) := by
  unfold H.sbin
  cases op <;> first | exact Det.must _ (Det.pure _) | exact Det.pure _ | exact Det.false
theorem Det.abin (op : BinOp) (x y : Value) : Det (abin op x y) := by
  unfold H.abin
  split
  · split
    · exact Det.ishift _ _ _ _
    · split
      · exact Det.ibin _ _ _ _
      · exact Det.false
  · exact Det.sbin _ _ _
  · exact Det.false

theorem aop_pure {P : Program} {c : AOp} {ev : Operand → Value} {h : Heap} {K : Next → Heap → Prop} {E : Halt → Heap → Prop} (hp : pureK c = true) (hh : aop P c ev h K E) :
    ∃ v, K (.value v) h ∧ ∀ (h' : Heap) (K' : Next → Heap → Prop) (E' : Halt → Heap → Prop), K' (.value v) h' → aop P c ev h' K' E' := by
  have use : ∀ (F : (Value → Prop) → Prop), Det F → F (fun v => K (.value v) h) → (∀ (h' : Heap) (K' : Next → Heap → Prop) (E' : Halt → Heap → Prop), F (fun v => K' (.value v) h') → aop P c ev h' K' E') →
      ∃ v, K (.value v) h ∧ ∀ (h' : Heap) (K' : Next → Heap → Prop) (E' : Halt → Heap → Prop), K' (.value v) h' → aop P c ev h' K' E' := by
    intro F hF hk hb
    obtain ⟨v, h1, h2⟩ := hF _ hk
    exact ⟨v, h1, fun h' K' E' k' => hb h' K' E' (h2 _ k')⟩
  cases c with
  | mv x => exact ⟨_, hh, fun _ _ _ k => k⟩
  | val x => exact ⟨_, hh, fun _ _ _ k => k⟩
  | pick c a b =>
    simp only [aop] at hh
    split at hh
    · rename_i t hx; exact use _ (Det.if t (Det.pure (ev a)) (Det.pure (ev b))) hh (fun h' K' E' k => by simp only [aop, hx]; exact k)
    · exact hh.elim
  | build zs parts => exact use _ (Det.map (fun cells : List Value => Value.agg cells.toArray) (Det.fillL ev parts zs)) hh (fun h' K' E' k => k)
  | nilCheck x => simp only [aop] at hh ⊢; split at hh <;> first | exact ⟨_, hh, fun _ _ _ k => k⟩ | exact hh.elim
  | bin op x y => exact use _ (Det.abin op _ _) hh (fun h' K' E' k => k)
  | eqB neg x y => simp only [aop] at hh ⊢; split at hh <;> first | exact ⟨_, hh, fun _ _ _ k => k⟩ | exact hh.elim
  | isNil tag neg x => simp only [aop] at hh ⊢; split at hh <;> first | exact ⟨_, hh, fun _ _ _ k => k⟩ | exact hh.elim
  | un op x =>
    simp only [aop] at hh
    split at hh
    · rename_i hx; exact ⟨_, hh, fun _ _ _ k => by simp only [aop, hx]; exact k⟩
    · rename_i k n hx; exact use _ (Det.map (fun m => Value.int k m) (Det.int _ _)) hh (fun h' K' E' k => by simp only [aop, hx]; exact k)
    · rename_i hx; exact ⟨_, hh, fun _ _ _ k => by simp only [aop, hx]; exact k⟩
    · exact hh.elim
  | convInt k x =>
    simp only [aop] at hh
    split at hh
    · rename_i hx; exact use _ (Det.map (fun m => Value.int k m) (Det.int _ _)) hh (fun h' K' E' k' => by simp only [aop, hx]; exact k')
    · exact hh.elim
  | strStr x => simp only [aop] at hh ⊢; split at hh <;> first | exact ⟨_, hh, fun _ _ _ k => k⟩ | exact hh.elim
  | mkIface t x => exact ⟨_, hh, fun _ _ _ k => k⟩
  | mkFunc fn a b => exact ⟨_, hh, fun _ _ _ k => k⟩
  | sliceStr x lo hi =>
    simp only [aop] at hh
    split at hh
    · rename_i s hx
      exact use _ (Det.bind (Det.obound ev hi s.size s.size) fun j => Det.map (fun i => Value.string (s.extract i j)) (Det.obound ev lo 0 j)) hh (fun h' K' E' k => by simp only [aop, hx]; exact k)
    · exact hh.elim
  | sliceSl size x lo hi mx =>
    simp only [aop] at hh
    split at hh
    · rename_i a len cap hx
      exact use _ (Det.bind (Det.obound ev mx cap cap) fun m => Det.bind (Det.obound ev hi len m) fun j => Det.map (fun i => Value.slice (a.map fun a => movedTo a m i size) (j - i) (m - i)) (Det.obound ev lo 0 j)) hh (fun h' K' E' k => by simp only [aop, hx]; exact k)
    · exact hh.elim
  | sliceArr n size x lo hi mx =>
    simp only [aop] at hh
    split at hh
    · rename_i a hx
      exact use _ (Det.bind (Det.obound ev mx n n) fun m => Det.bind (Det.obound ev hi n m) fun j => Det.map (fun i => Value.slice (some (movedTo a m i size)) (j - i) (m - i)) (Det.obound ev lo 0 j)) hh (fun h' K' E' k => by simp only [aop, hx]; exact k)
    · exact hh.elim
  | fieldAddr off x => simp only [aop] at hh ⊢; split at hh <;> first | exact ⟨_, hh, fun _ _ _ k => k⟩ | exact hh.elim
  | field1 off x =>
    simp only [aop] at hh ⊢
    cases hx : ev x <;> simp only [hx] at hh ⊢
    all_goals first | exact hh.elim | skip
    · split at hh
      · exact ⟨_, hh, fun _ _ _ k => k⟩
      · exact hh.elim
  | fieldN off n x => simp only [aop] at hh ⊢; split at hh <;> first | exact ⟨_, hh, fun _ _ _ k => k⟩ | exact hh.elim
  | idxSl size x i =>
    simp only [aop] at hh
    split at hh
    · rename_i a len _ _ i' hx hy
      exact use _ (Det.bind (Det.idx i' len) fun j => Det.map (fun p : Addr => Value.pointer (some (p.add (j * size)))) (Det.some a)) hh (fun h' K' E' k => by simp only [aop, hx, hy]; exact k)
    · exact hh.elim
  | idxArrP len size x i =>
    simp only [aop] at hh
    split at hh
    · rename_i a _ i' hx hy
      exact use _ (Det.map (fun j => Value.pointer (some (a.add (j * size)))) (Det.idx i' len)) hh (fun h' K' E' k => by simp only [aop, hx, hy]; exact k)
    · exact hh.elim
  | idxStr x i =>
    simp only [aop] at hh
    split at hh
    · rename_i s _ i' hx hy
      exact use _ (Det.map (fun j => Value.int .u8 (s.data[j]!.toNat : Nat)) (Det.idx i' s.size)) hh (fun h' K' E' k => by simp only [aop, hx, hy]; exact k)
    · exact hh.elim
  | extract x i =>
    simp only [aop] at hh ⊢
    cases hx : ev x <;> simp only [hx] at hh ⊢
    all_goals first | exact hh.elim | skip
    · split at hh
      · exact ⟨_, hh, fun _ _ _ k => k⟩
      · exact hh.elim
  | minmax mx x ys =>
    simp only [aop] at hh
    split at hh
    · rename_i k a hx; exact use _ (Det.map (fun m => Value.int k m) (Det.mnmx mx ev k ys a)) hh (fun h' K' E' k' => by simp only [aop, hx]; exact k')
    · exact hh.elim
  | lenStr x => simp only [aop] at hh ⊢; split at hh <;> first | exact ⟨_, hh, fun _ _ _ k => k⟩ | exact hh.elim
  | lenSl x => simp only [aop] at hh ⊢; split at hh <;> first | exact ⟨_, hh, fun _ _ _ k => k⟩ | exact hh.elim
  | _ => cases hp

theorem aop_quiet {P : Program} {c : AOp} {ev : Operand → Value} {h : Heap} {K : Next → Heap → Prop} {E : Halt → Heap → Prop} (hq : quietK c = true) (hh : aop P c ev h K E) :
    ∃ v, K (.value v) h ∧ ∀ (K' : Next → Heap → Prop) (E' : Halt → Heap → Prop), K' (.value v) h → aop P c ev h K' E' := by
  by_cases hp : pureK c = true
  · obtain ⟨v, h1, h2⟩ := aop_pure hp hh
    exact ⟨v, h1, fun K' E' k => h2 h K' E' k⟩
  · cases c
    case load1 x =>
      simp only [aop] at hh ⊢
      split at hh
      · obtain ⟨v, e, k⟩ := hh; exact ⟨v, k, fun K' E' k' => ⟨v, e, k'⟩⟩
      · exact hh.elim
    case loadN n x =>
      simp only [aop] at hh ⊢
      split at hh
      · obtain ⟨vs, l, e, k⟩ := hh; exact ⟨_, k, fun K' E' k' => ⟨vs, l, e, k'⟩⟩
      · exact hh.elim
    case strOfBytes x =>
      simp only [aop] at hh ⊢
      cases hh with
      | nil c n e k => exact ⟨_, k, fun K' E' k' => .nil c n e k'⟩
      | mk a c s e r k => exact ⟨_, k, fun K' E' k' => .mk a c s e r k'⟩
    all_goals first | exact absurd rfl hp | cases hq

theorem grown_cell {h h' : Heap} {a : Addr} {v : Value} (g : Grown' h h') (e : hcell h a = some v) : hcell h' a = some v := by
  have hl : a.block < h.size := by
    rcases Nat.lt_or_ge a.block h.size with hl | hl
    · exact hl
    · unfold hcell at e; rw [Array.getElem?_eq_none hl] at e; cases e
  unfold hcell at *
  rw [g.2 _ hl]; exact e
theorem aop_load {P : Program} {c : AOp} {ev : Operand → Value} {h : Heap} {K : Next → Heap → Prop} {E : Halt → Heap → Prop} (hq : loadK c = true) (hh : aop P c ev h K E) :
    ∃ v, K (.value v) h ∧ ∀ (h' : Heap) (K' : Next → Heap → Prop) (E' : Halt → Heap → Prop), Grown' h h' → K' (.value v) h' → aop P c ev h' K' E' := by
  cases c
  case load1 x =>
    simp only [aop] at hh ⊢
    split at hh
    · obtain ⟨v, e, k⟩ := hh; exact ⟨v, k, fun h' K' E' g k' => ⟨v, grown_cell g e, k'⟩⟩
    · exact hh.elim
  case loadN n x =>
    simp only [aop] at hh ⊢
    split at hh
    · obtain ⟨vs, l, e, k⟩ := hh
      refine ⟨_, k, fun h' K' E' g k' => ⟨vs, l, fun i hi => ?_, k'⟩⟩
      have := e i hi
      rw [List.getElem?_eq_getElem (by omega)] at this ⊢
      exact grown_cell g this
    · exact hh.elim
  all_goals cases hq

end Go.H
