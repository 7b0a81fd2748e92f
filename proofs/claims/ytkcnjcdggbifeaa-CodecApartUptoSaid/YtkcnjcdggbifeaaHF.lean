/- More posts; slots that a piece of code does not write; loops and cuts by their live slots. -/
import Derived.Test.YtkcnjcdggbifeaaHE
set_option linter.unusedVariables false
set_option linter.unusedSimpArgs false
namespace Go.H

section mono
theorem HMust.mono {c : Prop} {K K' : Prop} (hk : K → K') (h : HMust c K) : HMust c K' := let ⟨c, k⟩ := h; ⟨c, hk k⟩
theorem HInt.mono {k : IntKind} {n : Int} {K K' : Int → Prop} (hk : ∀ m, K m → K' m) (h : HInt k n K) : HInt k n K' := let ⟨m, e, x⟩ := h; ⟨m, e, hk _ x⟩
theorem HIdx.mono {i : Int} {n : Nat} {K K' : Nat → Prop} (hk : ∀ m, K m → K' m) (h : HIdx i n K) : HIdx i n K' := let ⟨m, e, l, x⟩ := h; ⟨m, e, l, hk _ x⟩
theorem HBound.mono {i : Int} {n : Nat} {K K' : Nat → Prop} (hk : ∀ m, K m → K' m) (h : HBound i n K) : HBound i n K' := let ⟨m, e, l, x⟩ := h; ⟨m, e, l, hk _ x⟩
theorem HIf.mono {b : Bool} {T F T' F' : Prop} (ht : T → T') (hf : F → F') (h : HIf b T F) : HIf b T' F' := let ⟨t, f⟩ := h; ⟨fun e => ht (t e), fun e => hf (f e)⟩
theorem HIf.yes {b : Bool} {T F : Prop} (e : b = true) (t : T) : HIf b T F := ⟨fun _ => t, fun h => by rw [e] at h; cases h⟩
theorem HIf.no {b : Bool} {T F : Prop} (e : b = false) (f : F) : HIf b T F := ⟨fun h => (by rw [e] at h; cases h), fun _ => f⟩
theorem HLoad.mono {h : Heap} {a : Addr} {K K' : Value → Prop} (hk : ∀ v, K v → K' v) (hh : HLoad h a K) : HLoad h a K' := let ⟨v, e, k⟩ := hh; ⟨v, e, hk _ k⟩
theorem HLoadN.mono {h : Heap} {a : Addr} {n : Nat} {K K' : Value → Prop} (hk : ∀ v, K v → K' v) (hh : HLoadN h a n K) : HLoadN h a n K' := let ⟨v, l, e, k⟩ := hh; ⟨v, l, e, hk _ k⟩
theorem HStore.mono {h : Heap} {a : Addr} {vs : List Value} {K K' : Heap → Prop} (hk : ∀ v, K v → K' v) (hh : HStore h a vs K) : HStore h a vs K' := let ⟨v, e, k⟩ := hh; ⟨v, e, hk _ k⟩
theorem HStoreO.mono {h : Heap} {a : Option Addr} {vs : List Value} {K K' : Heap → Prop} (hk : ∀ v, K v → K' v) (hh : HStoreO h a vs K) : HStoreO h a vs K' := by
  cases hh with
  | mk p e k => exact .mk p e (k.mono hk)
  | none e z k => exact .none e z (hk _ k)
theorem HNew.mono {h : Heap} {o : Obj} {K K' : Nat → Heap → Prop} (hk : ∀ b h, K b h → K' b h) (hh : HNew h o K) : HNew h o K' := let ⟨k⟩ := hh; ⟨hk _ _ k⟩
theorem HBytes.mono {h : Heap} {v : Value} {K K' : ByteArray → Prop} (hk : ∀ s, K s → K' s) (hh : HBytes h v K) : HBytes h v K' := by
  cases hh with
  | nil c n e k => exact .nil c n e (hk _ k)
  | mk a c s e r k => exact .mk a c s e r (hk _ k)
theorem HCells.mono {h : Heap} {v : Value} {n : Nat} {K K' : List Value → Prop} (hk : ∀ s, K s → K' s) (hh : HCells h v n K) : HCells h v n K' := by
  cases hh with
  | nil c m e z k => exact .nil c m e z (hk _ k)
  | mk a m c e vs l r k => exact .mk a m c e vs l r (hk _ k)
theorem HAppend.mono {h : Heap} {e size bytes : Nat} {zs : List Value} {base : Option Addr} {len cap : Nat} {more : List Value} {n : Nat} {K K' : Value → Heap → Prop}
    (hk : ∀ v h, K v h → K' v h) (hh : HAppend h e size bytes zs base len cap more n K) : HAppend h e size bytes zs base len cap more n K' := by
  cases hh with
  | fits f a ea one there k => exact .fits f a ea one there (hk _ _ k)
  | fitsNone f ea k => exact .fitsNone f ea (hk _ _ k)
  | grows f room old lo eo en k => exact .grows f room old lo eo en fun c hc => hk _ _ (k c hc)
theorem obound_mono {ev : Operand → Value} {o : Option Operand} {d n : Nat} {K K' : Nat → Prop} (hk : ∀ m, K m → K' m) (h : obound ev o d n K) : obound ev o d n K' := by
  unfold obound at *
  split
  · exact hk _ h
  · rename_i x
    simp only at h
    split at h
    · exact h.mono hk
    · exact h.elim
theorem fillL_mono {ev : Operand → Value} {K K' : List Value → Prop} (hk : ∀ m, K m → K' m) (ps : List (Nat × Nat × Operand)) (cells : List Value) (h : fillL ev ps cells K) : fillL ev ps cells K' := by
  obtain ⟨v, h1, h2⟩ := Det.fillL ev ps cells K h
  exact h2 _ (hk _ h1)
theorem mnmx_mono {mx : Bool} {ev : Operand → Value} {k : IntKind} {K K' : Int → Prop} (hk : ∀ m, K m → K' m) : ∀ (ys : List Operand) (a : Int), mnmx mx ev k ys a K → mnmx mx ev k ys a K'
  | [], a, h => hk _ h
  | y :: ys, a, h => by
    simp only [mnmx] at h ⊢
    split at h
    · exact mnmx_mono hk ys _ h
    · exact h.elim
theorem abin_mono {op : BinOp} {x y : Value} {K K' : Value → Prop} (hk : ∀ m, K m → K' m) (h : abin op x y K) : abin op x y K' := by
  obtain ⟨v, h1, h2⟩ := Det.abin op x y K h
  exact h2 _ (hk _ h1)

def isDefer : Next → Bool
  | .defer _ => true
  | _ => false
def deferK : AOp → Bool
  | .deferV _ => true
  | _ => false
theorem aop_mono {P : Program} {x : AOp} {ev : Operand → Value} {h : Heap} {K K' : Next → Heap → Prop} {E E' : Halt → Heap → Prop} (hk' : ∀ n h, isDefer n = false → K n h → K' n h) (hkd : deferK x = true → ∀ d h, K (.defer d) h → K' (.defer d) h) (he : ∀ n h, E n h → E' n h)
    (hh : aop P x ev h K E) : aop P x ev h K' E' := by
  have hk : ∀ v h, K (.value v) h → K' (.value v) h := fun v h => hk' _ h rfl
  have hk1 : ∀ h, K .skip h → K' .skip h := fun h => hk' _ h rfl
  have hk2 : ∀ f args h, K (.enter f args) h → K' (.enter f args) h := fun f args h => hk' _ h rfl
  by_cases hq : quietK x = true
  · obtain ⟨v, h1, h2⟩ := aop_quiet hq hh
    exact h2 _ _ (hk _ _ h1)
  · cases x <;> first | exact absurd rfl hq | skip
    case new e cs => exact HNew.mono (fun _ _ => hk _ _) hh
    case box e x => exact HNew.mono (fun _ _ => hk _ _) hh
    case buildSlice e len cells parts => exact fillL_mono (fun _ => HNew.mono (fun _ _ => hk _ _)) _ _ hh
    case store1 a x => simp only [aop] at hh ⊢; split at hh <;> first | exact hh.mono (fun _ => hk1 _) | exact hh.elim
    case storeN n a x => simp only [aop] at hh ⊢; split at hh <;> first | exact hh.mono (HStore.mono (fun _ => hk1 _)) | exact hh.elim
    case bytesOfStr e x =>
      simp only [aop] at hh ⊢
      split at hh
      · exact hh.mono fun k c hc => (k c hc).mono (fun _ _ => hk _ _)
      · exact hh.elim
    case mkSlice e s b zs l c =>
      simp only [aop] at hh ⊢
      split at hh
      · exact hh.mono fun _ => HBound.mono fun _ => HMust.mono (HNew.mono (fun _ _ => hk _ _))
      · exact hh.elim
    case append e s b zs x y =>
      simp only [aop] at hh ⊢
      split at hh
      · split at hh
        · exact hh.mono (fun _ _ => hk _ _)
        · exact hh.mono fun _ => HAppend.mono (fun _ _ => hk _ _)
      · exact hh.elim
    case copy s x y =>
      simp only [aop] at hh ⊢
      split at hh
      · split at hh
        · exact hh.mono (fun _ => hk _ _)
        · exact hh.mono fun _ => HStoreO.mono (fun _ => hk _ _)
      · exact hh.elim
    case callF f args => exact hk2 _ _ _ hh
    case callV x args =>
      simp only [aop] at hh ⊢
      split at hh
      · exact hh.mono (hk2 _ _ _)
      · exact hh.elim
    case panicI x =>
      simp only [aop] at hh ⊢
      split at hh <;> first | exact he _ _ hh | exact hh.elim
    case lookMap d z ok x i =>
      simp only [aop] at hh ⊢
      split at hh
      · exact hk _ _ hh
      · obtain ⟨es, c, f, e1, e2, k⟩ := hh; exact ⟨es, c, f, e1, e2, hk _ _ k⟩
      · exact hh.elim
    case setMap d m k x =>
      simp only [aop] at hh ⊢
      split at hh
      · obtain ⟨es, c, f, e1, e2, k⟩ := hh
        refine ⟨es, c, f, e1, e2, ?_⟩
        split at k
        · exact k.mono (hk1 _)
        · exact hk1 _ k
      · exact hh.elim
    case lenMap x =>
      simp only [aop] at hh ⊢
      split at hh
      · exact hk _ _ hh
      · obtain ⟨es, c, e1, k⟩ := hh; exact ⟨es, c, e1, hk _ _ k⟩
      · exact hh.elim
    case mkMap => exact HNew.mono (fun _ _ => hk _ _) hh
    case assertT t z ok x =>
      simp only [aop] at hh ⊢
      split at hh
      · split at hh
        · exact hk _ _ hh
        · exact hh.elim
      · refine hh.mono (fun hh => ?_) (fun hh => ?_)
        · split at hh <;> exact hk _ _ hh
        · split at hh
          · exact hk _ _ hh
          · exact hh.elim
      · exact hh.elim
    case deferV x =>
      simp only [aop] at hh ⊢
      split at hh
      · exact hh.mono (hkd rfl _ _)
      · exact hh.elim
    case raw o =>
      obtain ⟨k⟩ := hh
      exact ⟨hw_mono _ _ _ _ _ _ (fun n h x => by cases n <;> first | exact hk' _ _ rfl x | exact x.elim) he k⟩

theorem aop_noDefer {P : Program} {x : AOp} {ev : Operand → Value} {h : Heap} {K : Next → Heap → Prop} {E : Halt → Heap → Prop} (hd : deferK x = false) (hh : aop P x ev h K E) : aop P x ev h (noDefer K) E :=
  aop_mono (fun n h hd k => by cases n <;> first | exact k | cases hd) (fun e => by rw [hd] at e; cases e) (fun _ _ x => x) hh

theorem anext_mono {P : Program} {dst : Option Nat} {a : AF} {N N' : AF → Heap → Prop} {K K' : APost} (hn : ∀ a h, N a h → N' a h) (hk : ∀ e a h, K e a h → K' e a h) :
    ∀ n h, anext P dst a N K n h → anext P dst a N' K' n h := by
  intro n h hh
  cases n with
  | value v => simp only [anext, force_eq] at hh ⊢; exact hn _ _ hh
  | skip => exact hn _ _ hh
  | «defer» d => exact hn _ _ hh
  | enter f args =>
    simp only [anext] at hh ⊢
    obtain ⟨k⟩ := hh
    refine ⟨k.mono ?_⟩
    intro e h' he
    cases e with
    | returned v => simp only [force_eq] at he ⊢; exact hn _ _ he
    | panicked ch => exact hk _ _ _ he
    | outgrown => exact he
  | _ => exact hh
theorem ahalt_mono {a : AF} {K K' : APost} (hk : ∀ e a h, K e a h → K' e a h) : ∀ n h, ahalt K a n h → ahalt K' a n h := by
  intro n h hh
  cases n <;> first | exact hk _ _ _ hh | exact hh

theorem aops_mono {P : Program} {K K' : APost} (hk : ∀ e a h, K e a h → K' e a h) : ∀ (l : List AOper) (a : AF) (h : Heap), aops P K l a h → aops P K' l a h
  | [], a, h, hh => hk _ _ _ hh
  | o :: rest, a, h, hh => by
    have go : aop P o.op (evf a.fr) h (anext P o.dst a (aops P K rest) K) (ahalt K a) → aop P o.op (evf a.fr) h (anext P o.dst a (aops P K' rest) K') (ahalt K' a) :=
      aop_mono (fun n h _ => anext_mono (aops_mono hk rest) hk n h) (fun _ d h => anext_mono (aops_mono hk rest) hk (.defer d) h) (ahalt_mono hk)
    simp only [aops] at hh ⊢
    split at hh
    · exact go hh
    · split at hh
      · split at hh
        · exact hh.mono go (aops_mono hk rest _ _)
        · exact hh.mono (aops_mono hk rest _ _) go
      · exact aops_mono hk rest _ _ hh

theorem thenA_mono {N N' : AF → Heap → Prop} {K K' : APost} (hn : ∀ a h, N a h → N' a h) (hk : ∀ e a h, K e a h → K' e a h) : ∀ e a h, thenA N K e a h → thenA N' K' e a h := by
  intro e a h hh
  cases e <;> first | exact hn _ _ hh | exact hk _ _ _ hh
theorem blockA_mono {id : Nat} {K K' : APost} (hk : ∀ e a h, K e a h → K' e a h) : ∀ e a h, blockA id K e a h → blockA id K' e a h := by
  intro e a h hh
  cases e with
  | exit id' =>
    simp only [blockA] at hh ⊢
    split at hh <;> exact hk _ _ _ hh
  | _ => exact hk _ _ _ hh
theorem havoc_mono {w : List Nat} {K K' : APost} (hk : ∀ e a h, K e a h → K' e a h) : ∀ e a h, havoc w K e a h → havoc w K' e a h := by
  intro e a h hh
  cases e with
  | panic c => exact fun fr' hf => hk _ _ _ (hh fr' hf)
  | _ => exact hk _ _ _ hh

theorem aexec_mono {P : Program} : ∀ (c : ACode) {K K' : APost} (_ : ∀ e a h, K e a h → K' e a h) (a : AF) (h : Heap), aexec P c K a h → aexec P c K' a h := by
  intro c
  induction c with
  | skip => intro K K' hk a h hh; exact hk _ _ _ hh
  | ops l => intro K K' hk a h hh; exact aops_mono hk l a h hh
  | any w l => intro K K' hk a h hh; exact aops_mono (havoc_mono hk) l a h hh
  | seq x y ihx ihy =>
    intro K K' hk a h hh
    simp only [aexec] at hh ⊢
    split at hh
    · exact ihx (thenA_mono (ihy hk) hk) a h hh
    · obtain ⟨k⟩ := hh; exact ⟨ihx (thenA_mono (ihy hk) hk) a h k⟩
  | cond c x y ihx ihy =>
    intro K K' hk a h hh
    simp only [aexec] at hh ⊢
    split at hh
    · exact hh.mono (ihx hk a h) (ihy hk a h)
    · exact hh.elim
  | alt x y ihx ihy =>
    intro K K' hk a h hh
    obtain ⟨h1, h2⟩ := hh
    exact ⟨ihx hk a h h1, ihy hk a h h2⟩
  | block id c ih => intro K K' hk a h hh; exact ih (blockA_mono hk) a h hh
  | loop c ih =>
    intro K K' hk a h hh
    obtain ⟨I, μ, start, round⟩ := hh
    exact ⟨I, μ, start, fun a h hi => ih (thenA_mono (fun _ _ x => x) hk) a h (round a h hi)⟩
  | exit id => intro K K' hk a h hh; exact hk _ _ _ hh
  | ret => intro K K' hk a h hh; exact hk _ _ _ hh
  | raw c =>
    intro K K' hk a h hh
    obtain ⟨k⟩ := hh
    exact ⟨fun b hb => (k b hb).mono fun e b' h' x => ⟨x.1, hk _ _ _ x.2⟩⟩
end mono

/-! ### Slots that are not written -/

def memN : List Nat → Nat → Bool
  | [], _ => false
  | a :: l, i => match Nat.beq i a with
    | true => true
    | false => memN l i

theorem memN_append (l m : List Nat) (i : Nat) : memN (l ++ m) i = (memN l i || memN m i) := by
  induction l with
  | nil => rfl
  | cons a l ih => simp only [List.cons_append, memN]; split <;> simp [ih]

theorem memN_contains : ∀ (l : List Nat) (i : Nat), memN l i = l.contains i
  | [], i => rfl
  | a :: l, i => by
    simp only [memN, List.contains_cons, memN_contains l i]
    cases hb : Nat.beq i a with
    | true => rw [Nat.eq_of_beq_eq_true hb]; simp
    | false =>
      have : (i == a) = false := by rw [beq_eq_false_iff_ne]; intro e; subst e; rw [Nat.beq_refl] at hb; cases hb
      rw [this]; simp
def dstL : Option Nat → List Nat
  | some d => [d]
  | none => []

def writes : ACode → List Nat
  | .skip => []
  | .ops l => l.flatMap fun o => dstL o.dst
  | .any w l => w ++ l.flatMap fun o => dstL o.dst
  | .seq a b => writes a ++ writes b
  | .cond _ a b => writes a ++ writes b
  | .alt a b => writes a ++ writes b
  | .block _ b => writes b
  | .loop b => writes b
  | .exit _ => []
  | .ret => []
  | .raw _ => []

/-- It defers nothing, and the slots that it writes are known. -/
def local' : ACode → Bool
  | .seq a b => local' a && local' b
  | .cond _ a b => local' a && local' b
  | .alt a b => local' a && local' b
  | .block _ b => local' b
  | .loop b => local' b
  | .raw _ => false
  | .ops l => l.all fun o => !deferK o.op
  | .any _ l => l.all fun o => !deferK o.op
  | _ => true

/-- What is as it was. -/
def Same (w : List Nat) (a a' : AF) : Prop := (∀ i, memN w i = false → a'.fr i = a.fr i) ∧ a'.df = a.df
theorem Same.refl (w : List Nat) (a : AF) : Same w a a := ⟨fun _ _ => rfl, rfl⟩
theorem Same.trans {w : List Nat} {a b c : AF} (h : Same w a b) (k : Same w b c) : Same w a c := ⟨fun i hi => (k.1 i hi).trans (h.1 i hi), k.2.trans h.2⟩
theorem Same.mono {w w' : List Nat} {a b : AF} (h : Same w a b) (hw : ∀ i, memN w' i = false → memN w i = false) : Same w' a b := ⟨fun i hi => h.1 i (hw i hi), h.2⟩
theorem same_upd {w : List Nat} {a : AF} {dst : Option Nat} {v : Value} (hd : ∀ d, dst = some d → memN w d = true) : Same w a ⟨updO a.fr dst v, a.df⟩ := by
  refine ⟨fun i hi => ?_, rfl⟩
  cases dst with
  | none => rfl
  | some d =>
    have hne : i ≠ d := fun e => by rw [e, hd d rfl] at hi; cases hi
    have e1 : Nat.beq i d = false := by
      cases hb : Nat.beq i d
      · rfl
      · exact absurd (Nat.eq_of_beq_eq_true hb) hne
    simp [updO, upd, e1]

theorem aops_same {P : Program} {K : APost} {w : List Nat} {a₀ : AF} : ∀ (l : List AOper) (a : AF) (h : Heap), (l.all fun o => !deferK o.op) = true → (∀ i, memN w i = false → memN (l.flatMap fun o => dstL o.dst) i = false) → Same w a₀ a →
    aops P K l a h → aops P (fun e a h => K e a h ∧ Same w a₀ a) l a h
  | [], a, h, _, _, s, hh => ⟨hh, s⟩
  | o :: rest, a, h, nd, hw, s, hh => by
    have nd1 : deferK o.op = false := by simpa using (List.all_eq_true.1 nd o (by simp))
    have nd2 : (rest.all fun o => !deferK o.op) = true := by rw [List.all_cons, Bool.and_eq_true] at nd; exact nd.2
    have hw' : ∀ i, memN w i = false → memN (rest.flatMap fun o => dstL o.dst) i = false := fun i hi => by
      have := hw i hi
      rw [List.flatMap_cons, memN_append] at this
      exact (Bool.or_eq_false_iff.1 this).2
    have hd : ∀ d, o.dst = some d → memN w d = true := fun d hd => by
      cases hm : memN w d with
      | true => rfl
      | false =>
        have := hw d hm
        rw [List.flatMap_cons, memN_append, hd] at this
        have := (Bool.or_eq_false_iff.1 this).1
        simp [dstL, memN] at this
    have nxt : ∀ v h, aops P K rest ⟨updO a.fr o.dst v, a.df⟩ h → aops P (fun e a h => K e a h ∧ Same w a₀ a) rest ⟨updO a.fr o.dst v, a.df⟩ h := fun v h x =>
      aops_same rest _ h nd2 hw' (s.trans (same_upd hd)) x
    have go : aop P o.op (evf a.fr) h (anext P o.dst a (aops P K rest) K) (ahalt K a) →
        aop P o.op (evf a.fr) h (anext P o.dst a (aops P (fun e a h => K e a h ∧ Same w a₀ a) rest) (fun e a h => K e a h ∧ Same w a₀ a)) (ahalt (fun e a h => K e a h ∧ Same w a₀ a) a) := by
      intro x
      have x' := aop_noDefer nd1 x
      refine aop_mono ?_ (fun _ _ _ k => k.elim) ?_ x'
      · intro n h' _ hn
        cases n with
        | value v => simp only [noDefer, anext, force_eq] at hn ⊢; exact nxt v h' hn
        | skip => exact nxt _ h' hn
        | «defer» d => exact hn.elim
        | enter f args =>
          simp only [noDefer, anext] at hn ⊢
          obtain ⟨k⟩ := hn
          refine ⟨k.mono ?_⟩
          intro e h'' he
          cases e with
          | returned v => simp only [force_eq] at he ⊢; exact nxt v h'' he
          | panicked ch => exact ⟨he, s⟩
          | outgrown => exact he
        | _ => exact hn
      · intro n h' hn
        cases n <;> first | exact ⟨hn, s⟩ | exact hn
    simp only [aops] at hh ⊢
    split at hh
    · exact go hh
    · split at hh
      · split at hh
        · exact hh.mono go (nxt _ _)
        · exact hh.mono (nxt _ _) go
      · exact nxt _ _ hh

theorem aexec_same {P : Program} {w : List Nat} {a₀ : AF} : ∀ (c : ACode) (K : APost) (a : AF) (h : Heap), local' c = true → (∀ i, memN w i = false → memN (writes c) i = false) → Same w a₀ a →
    aexec P c K a h → aexec P c (fun e a h => K e a h ∧ Same w a₀ a) a h := by
  intro c
  induction c with
  | skip => intro K a h hl hw s hh; exact ⟨hh, s⟩
  | ops l => intro K a h hl hw s hh; exact aops_same l a h hl hw s hh
  | any v l =>
    intro K a h hl hw s hh
    have h1 := aops_same (K := havoc v K) l a h hl (fun i hi => by have := hw i hi; simp only [writes, memN_append] at this; exact (Bool.or_eq_false_iff.1 this).2) s hh
    refine aops_mono ?_ l a h h1
    intro e a' h' ⟨k, s'⟩
    cases e with
    | panic c =>
      intro fr' hf
      refine ⟨k fr' hf, fun i hi => ?_, s'.2⟩
      rw [← s'.1 i hi]
      refine hf i ?_
      have := hw i hi
      simp only [writes, memN_append] at this
      rw [← memN_contains]
      exact (Bool.or_eq_false_iff.1 this).1
    | _ => exact ⟨k, s'⟩
  | seq x y ihx ihy =>
    intro K a h hl hw s hh
    simp only [local', Bool.and_eq_true] at hl
    have hwx : ∀ i, memN w i = false → memN (writes x) i = false := fun i hi => by
      have := hw i hi; simp only [writes, memN_append] at this; exact (Bool.or_eq_false_iff.1 this).1
    have hwy : ∀ i, memN w i = false → memN (writes y) i = false := fun i hi => by
      have := hw i hi; simp only [writes, memN_append] at this; exact (Bool.or_eq_false_iff.1 this).2
    have go : aexec P x (thenA (aexec P y K) K) a h → aexec P x (thenA (aexec P y fun e a h => K e a h ∧ Same w a₀ a) fun e a h => K e a h ∧ Same w a₀ a) a h := fun hx => by
      refine aexec_mono x ?_ a h (ihx _ a h hl.1 hwx s hx)
      intro e a' h' ⟨k, s'⟩
      cases e with
      | normal => exact ihy K a' h' hl.2 hwy s' k
      | _ => exact ⟨k, s'⟩
    simp only [aexec] at hh ⊢
    split at hh
    · exact go hh
    · obtain ⟨k⟩ := hh; exact ⟨go k⟩
  | cond c x y ihx ihy =>
    intro K a h hl hw s hh
    simp only [local', Bool.and_eq_true] at hl
    have hwx : ∀ i, memN w i = false → memN (writes x) i = false := fun i hi => by
      have := hw i hi; simp only [writes, memN_append] at this; exact (Bool.or_eq_false_iff.1 this).1
    have hwy : ∀ i, memN w i = false → memN (writes y) i = false := fun i hi => by
      have := hw i hi; simp only [writes, memN_append] at this; exact (Bool.or_eq_false_iff.1 this).2
    simp only [aexec] at hh ⊢
    split at hh
    · exact hh.mono (ihx K a h hl.1 hwx s) (ihy K a h hl.2 hwy s)
    · exact hh.elim
  | alt x y ihx ihy =>
    intro K a h hl hw s hh
    simp only [local', Bool.and_eq_true] at hl
    have hwx : ∀ i, memN w i = false → memN (writes x) i = false := fun i hi => by
      have := hw i hi; simp only [writes, memN_append] at this; exact (Bool.or_eq_false_iff.1 this).1
    have hwy : ∀ i, memN w i = false → memN (writes y) i = false := fun i hi => by
      have := hw i hi; simp only [writes, memN_append] at this; exact (Bool.or_eq_false_iff.1 this).2
    obtain ⟨h1, h2⟩ := hh
    exact ⟨ihx K a h hl.1 hwx s h1, ihy K a h hl.2 hwy s h2⟩
  | block id c ih =>
    intro K a h hl hw s hh
    refine aexec_mono c ?_ a h (ih _ a h hl hw s hh)
    intro e a' h' ⟨k, s'⟩
    cases e with
    | exit id' =>
      simp only [blockA] at k ⊢
      split at k <;> exact ⟨k, s'⟩
    | _ => exact ⟨k, s'⟩
  | loop c ih =>
    intro K a h hl hw s hh
    obtain ⟨I, μ, start, round⟩ := hh
    refine ⟨fun a h => I a h ∧ Same w a₀ a, μ, ⟨start, s⟩, ?_⟩
    intro a' h' ⟨i, s'⟩
    refine aexec_mono c ?_ a' h' (ih _ a' h' hl hw s' (round a' h' i))
    intro e a'' h'' ⟨k, s''⟩
    cases e with
    | normal => exact ⟨⟨k.1, s''⟩, k.2⟩
    | _ => exact ⟨k, s''⟩
  | exit id => intro K a h hl hw s hh; exact ⟨hh, s⟩
  | ret => intro K a h hl hw s hh; exact ⟨hh, s⟩
  | raw c => intro K a h hl; cases hl

/-! ### Loops and cuts, told of live slots -/

def mix (w : List Nat) (u fr : Nat → Value) : Nat → Value := fun i => match memN w i with
  | true => u i
  | false => fr i

def mixA (w : List Nat) (u : Nat → Value) (a : AF) : AF :=
  match a with
  | ⟨fr, df⟩ => ⟨mix w u fr, df⟩

/-- For every value of these slots. -/
def allSlots : List Nat → (Nat → Value) → ((Nat → Value) → List Value → Prop) → Prop
  | [], u, F => F u []
  | s :: ss, u, F => ∀ v, allSlots ss (upd u s v) fun u' vs => F u' (v :: vs)

theorem allSlots_use : ∀ (ss : List Nat) (u : Nat → Value) (F : (Nat → Value) → List Value → Prop) (_ : allSlots ss u F) (fr : Nat → Value) (_ : ∀ i, memN ss i = false → u i = fr i), ∃ u', (∀ i, u' i = fr i) ∧ F u' (ss.map fr)
  | [], u, F, h, fr, hu => ⟨u, fun i => hu i rfl, h⟩
  | s :: ss, u, F, h, fr, hu => by
    refine allSlots_use ss (upd u s (fr s)) _ (h (fr s)) fr ?_
    intro i hi
    unfold upd
    cases hb : Nat.beq i s with
    | true => rw [Nat.eq_of_beq_eq_true hb]; rfl
    | false => exact hu i (by simp only [memN, hb]; exact hi)

theorem mix_eq {w : List Nat} {a a' : AF} (s : Same w a a') {u : Nat → Value} (hu : ∀ i, u i = a'.fr i) : mixA w u a = a' := by
  obtain ⟨fr', df'⟩ := a'
  show (⟨mix w u a.fr, a.df⟩ : AF) = _
  have e1 : mix w u a.fr = fr' := by
    funext i
    unfold mix
    cases hm : memN w i with
    | true => exact hu i
    | false => exact (s.1 i hm).symm
  rw [e1]
  have := s.2
  simp only at this
  rw [this]

theorem loop_rule {P : Program} {b : ACode} {K : APost} {a : AF} {h : Heap} (live : List Nat) (J : List Value → Heap → Prop) (μ : List Value → Heap → Nat) (hl : local' b = true)
    (start : J (live.map a.fr) h)
    (round : ∀ (u : Nat → Value) (h' : Heap), allSlots live u fun u' vs => J vs h' →
      aexec P b (thenA (fun a'' h'' => J (live.map a''.fr) h'' ∧ μ (live.map a''.fr) h'' < μ vs h') K) (mixA (writes b) u' a) h') : HLoop (aexec P b) K a h := by
  refine ⟨fun a' h' => Same (writes b) a a' ∧ J (live.map a'.fr) h', fun a' h' => μ (live.map a'.fr) h', ⟨Same.refl _ _, start⟩, ?_⟩
  intro a' h' ⟨s, j⟩
  obtain ⟨u', hu, hF⟩ := allSlots_use live a'.fr _ (round a'.fr h') a'.fr (fun _ _ => rfl)
  have h1 := hF j
  rw [mix_eq s hu] at h1
  refine aexec_mono b ?_ a' h' (aexec_same b _ a' h' hl (fun _ hi => hi) s h1)
  intro e a'' h'' ⟨k, s'⟩
  cases e with
  | normal => exact ⟨⟨s', k.1⟩, k.2⟩
  | _ => exact k

theorem cut_rule {P : Program} {x y : ACode} {K : APost} {a : AF} {h : Heap} (live : List Nat) (J : List Value → Heap → Prop) (hl : local' x = true)
    (first : aexec P x (thenA (fun a' h' => J (live.map a'.fr) h') K) a h)
    (rest : ∀ (u : Nat → Value) (h' : Heap), allSlots live u fun u' vs => J vs h' → aexec P y K (mixA (writes x) u' a) h') : HSeq (aexec P x) (aexec P y) K a h := by
  refine ⟨aexec_mono x ?_ a h (aexec_same (w := writes x) x _ a h hl (fun _ hi => hi) (Same.refl _ a) first)⟩
  intro e a' h' ⟨k, s⟩
  cases e with
  | normal =>
    obtain ⟨u', hu, hF⟩ := allSlots_use live a'.fr _ (rest a'.fr h') a'.fr (fun _ _ => rfl)
    have h1 := hF k
    rw [mix_eq s hu] at h1
    exact h1
  | _ => exact k

end Go.H
