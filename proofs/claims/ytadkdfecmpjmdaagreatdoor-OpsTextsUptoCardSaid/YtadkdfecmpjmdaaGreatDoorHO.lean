/- More posts. -/
import Derived.Test.YtadkdfecmpjmdaaGreatDoorHC
set_option linter.unusedVariables false
set_option linter.unusedSimpArgs false
namespace Go.H

section mono
theorem HMust.mono {c : Prop} {K K' : Prop} (hk : K → K') (h : HMust c K) : HMust c K' := let ⟨c, k⟩ := h; ⟨c, hk k⟩
theorem HBound.mono {i : Int} {n : Nat} {K K' : Nat → Prop} (hk : ∀ m, K m → K' m) (h : HBound i n K) : HBound i n K' := let ⟨m, e, l, x⟩ := h; ⟨m, e, l, hk _ x⟩
theorem HIf.mono {b : Bool} {T F T' F' : Prop} (ht : T → T') (hf : F → F') (h : HIf b T F) : HIf b T' F' := let ⟨t, f⟩ := h; ⟨fun e => ht (t e), fun e => hf (f e)⟩
theorem HIf.yes {b : Bool} {T F : Prop} (e : b = true) (t : T) : HIf b T F := ⟨fun _ => t, fun h => by rw [e] at h; cases h⟩
theorem HIf.no {b : Bool} {T F : Prop} (e : b = false) (f : F) : HIf b T F := ⟨fun h => (by rw [e] at h; cases h), fun _ => f⟩
theorem HStore.mono {h : Heap} {a : Addr} {vs : List Value} {K K' : Heap → Prop} (hk : ∀ v, K v → K' v) (hh : HStore h a vs K) : HStore h a vs K' := let ⟨v, e, k⟩ := hh; ⟨v, e, hk _ k⟩
theorem HStoreO.mono {h : Heap} {a : Option Addr} {vs : List Value} {K K' : Heap → Prop} (hk : ∀ v, K v → K' v) (hh : HStoreO h a vs K) : HStoreO h a vs K' := by
  cases hh with
  | mk p e k => exact .mk p e (k.mono hk)
  | none e z k => exact .none e z (hk _ k)
theorem HNew.mono {h : Heap} {o : Obj} {K K' : Nat → Heap → Prop} (hk : ∀ b h, K b h → K' b h) (hh : HNew h o K) : HNew h o K' := let ⟨k⟩ := hh; ⟨hk _ _ k⟩
theorem HCells.mono {h : Heap} {v : Value} {n : Nat} {K K' : List Value → Prop} (hk : ∀ s, K s → K' s) (hh : HCells h v n K) : HCells h v n K' := by
  cases hh with
  | nil c m e z k => exact .nil c m e z (hk _ k)
  | mk a m c e vs l r k => exact .mk a m c e vs l r (hk _ k)
theorem HAppend.mono {h : Heap} {e size bytes : Nat} {zs : List Value} {base : Option Addr} {len cap : Nat} {more : List Value} {n : Nat} {K K' : Value → Heap → Prop}
    (hk : ∀ v h, K v h → K' v h) (hh : HAppend h e size bytes zs base len cap more n K) : HAppend h e size bytes zs base len cap more n K' := by
  cases hh with
  | fits f a ea one there k => exact .fits f a ea one there (hk _ _ k)
  | fitsNone f ea k => exact .fitsNone f ea (hk _ _ k)
  | grows f room old lo eo en k => exact .grows f room old lo eo en fun c hc => hk _ _ (k c hc)
theorem HEqI.mono {P : Program} {tx ty : TypeId} {vx vy : Value} {K K' : Bool → Prop} (hk : ∀ b, K b → K' b) (hh : HEqI P tx vx ty vy K) : HEqI P tx vx ty vy K' := by
  cases hh with
  | ne e k => exact .ne e (hk _ k)
  | int i k k' a b e ex ey hi hc hu kk => exact .int i k k' a b e ex ey hi hc hu (hk _ kk)
theorem HUStr.mono {P : Program} {t : TypeId} {h : Heap} {a : Addr} {m : Int} {K K' : ByteArray → Heap → Prop} (hk : ∀ s h, K s h → K' s h) (hh : HUStr P t h a m K) : HUStr P t h a m K' := by
  cases hh with
  | zero e k => exact .zero e (hk _ _ k)
  | mk s cells e hn hx h0 hs hl hc r k => exact .mk s cells e hn hx h0 hs hl hc r (hk _ _ k)
theorem fillL_mono {ev : Operand → Value} {K K' : List Value → Prop} (hk : ∀ m, K m → K' m) (ps : List (Nat × Nat × Operand)) (cells : List Value) (h : fillL ev ps cells K) : fillL ev ps cells K' := by
  obtain ⟨v, h1, h2⟩ := Det.fillL ev ps cells K h
  exact h2 _ (hk _ h1)
def isDefer : Next → Bool
  | .defer _ => true
  | _ => false
def deferK : AOp → Bool
  | .deferV _ => true
  | _ => false
theorem aop_mono {P : Program} {x : AOp} {ev : Operand → Value} {h : Heap} {K K' : Next → Heap → Prop} {E E' : Halt → Heap → Prop} (hk' : ∀ n h, isDefer n = false → K n h → K' n h) (hkd : deferK x = true → ∀ d h, K (.defer d) h → K' (.defer d) h) (he : ∀ n h, E n h → E' n h)
    (hh : aop P x ev h K E) : aop P x ev h K' E' := by
  have hk : ∀ v h, K (.value v) h → K' (.value v) h := fun v h => hk' _ h rfl
  have hk1 : ∀ h, K .skip h → K' .skip h := fun h => hk' _ h rfl
  have hk2 : ∀ f args h, K (.enter f args) h → K' (.enter f args) h := fun f args h => hk' _ h rfl
  by_cases hq : quietK x = true
  · obtain ⟨v, h1, h2⟩ := aop_quiet hq hh
    exact h2 _ _ (hk _ _ h1)
  · cases x <;> first | exact absurd rfl hq | skip
    case new e cs => exact HNew.mono (fun _ _ => hk _ _) hh
    case box e x => exact HNew.mono (fun _ _ => hk _ _) hh
    case buildSlice e len cells parts => exact fillL_mono (fun _ => HNew.mono (fun _ _ => hk _ _)) _ _ hh
    case store1 a x => simp only [aop] at hh ⊢; split at hh <;> first | exact hh.mono (fun _ => hk1 _) | exact hh.elim
    case storeN n a x => simp only [aop] at hh ⊢; split at hh <;> first | exact hh.mono (HStore.mono (fun _ => hk1 _)) | exact hh.elim
    case bytesOfStr e x =>
      simp only [aop] at hh ⊢
      split at hh
      · exact hh.mono fun k c hc => (k c hc).mono (fun _ _ => hk _ _)
      · exact hh.elim
    case eqI neg x y =>
      simp only [aop] at hh ⊢
      split at hh
      · exact hh.mono (fun _ => hk _ _)
      · exact hk _ _ hh
      · exact hk _ _ hh
      · exact hh.elim
    case ustr t x y =>
      simp only [aop] at hh ⊢
      split at hh
      · exact hh.mono (hk _ _)
      · exact hh.mono (fun _ _ => hk _ _)
      · exact hh.elim
    case sldata x =>
      simp only [aop] at hh ⊢
      split at hh
      · exact hk _ _ hh
      · exact hh.mono (hk _ _)
      · exact hh.elim
    case mkSlice e s b zs l c =>
      simp only [aop] at hh ⊢
      split at hh
      · exact hh.mono fun _ => HBound.mono fun _ => HMust.mono (HNew.mono (fun _ _ => hk _ _))
      · exact hh.elim
    case append e s b zs x y =>
      simp only [aop] at hh ⊢
      split at hh
      · split at hh
        · exact hh.mono (fun _ _ => hk _ _)
        · exact hh.mono fun _ => HAppend.mono (fun _ _ => hk _ _)
      · exact hh.elim
    case appendZ e s b zs x y =>
      simp only [aop] at hh ⊢
      split at hh
      · exact hh.mono fun _ => HMust.mono (HAppend.mono (fun _ _ => hk _ _))
      · exact hh.elim
    case copy s x y =>
      simp only [aop] at hh ⊢
      split at hh
      · split at hh
        · exact hh.mono (fun _ => hk _ _)
        · exact hh.mono fun _ => HStoreO.mono (fun _ => hk _ _)
      · exact hh.elim
    case callF f args => exact hk2 _ _ _ hh
    case callV x args =>
      simp only [aop] at hh ⊢
      split at hh
      · exact hh.mono (hk2 _ _ _)
      · obtain ⟨r, h1, h2, k⟩ := hh; exact ⟨r, h1, h2, hk' _ _ rfl k⟩
      · exact hh.elim
    case panicI x =>
      simp only [aop] at hh ⊢
      split at hh <;> first | exact he _ _ hh | exact hh.elim
    case lookMap d z ok x i =>
      simp only [aop] at hh ⊢
      split at hh
      · exact hk _ _ hh
      · obtain ⟨es, c, f, e1, e2, k⟩ := hh; exact ⟨es, c, f, e1, e2, hk _ _ k⟩
      · exact hh.elim
    case setMap d m k x =>
      simp only [aop] at hh ⊢
      split at hh
      · obtain ⟨es, c, f, e1, e2, k⟩ := hh
        refine ⟨es, c, f, e1, e2, ?_⟩
        split at k
        · exact k.mono (hk1 _)
        · exact hk1 _ k
      · exact hh.elim
    case lenMap x =>
      simp only [aop] at hh ⊢
      split at hh
      · exact hk _ _ hh
      · obtain ⟨es, c, e1, k⟩ := hh; exact ⟨es, c, e1, hk _ _ k⟩
      · exact hh.elim
    case mkMap => exact HNew.mono (fun _ _ => hk _ _) hh
    case assertT t z ok x =>
      simp only [aop] at hh ⊢
      split at hh
      · split at hh
        · exact hk _ _ hh
        · exact hh.elim
      · refine hh.mono (fun hh => ?_) (fun hh => ?_)
        · split at hh <;> exact hk _ _ hh
        · split at hh
          · exact hk _ _ hh
          · exact hh.elim
      · exact hh.elim
    case deferV x =>
      simp only [aop] at hh ⊢
      split at hh
      · exact hh.mono (hkd rfl _ _)
      · exact hh.elim
    case raw o =>
      obtain ⟨k⟩ := hh
      exact ⟨hw_mono _ _ _ _ _ _ (fun n h x => by cases n <;> first | exact hk' _ _ rfl x | exact x.elim) he k⟩

theorem aop_noDefer {P : Program} {x : AOp} {ev : Operand → Value} {h : Heap} {K : Next → Heap → Prop} {E : Halt → Heap → Prop} (hd : deferK x = false) (hh : aop P x ev h K E) : aop P x ev h (noDefer K) E :=
  aop_mono (fun n h hd k => by cases n <;> first | exact k | cases hd) (fun e => by rw [hd] at e; cases e) (fun _ _ x => x) hh

theorem anext_mono {P : Program} {dst : Option Nat} {a : AF} {N N' : AF → Heap → Prop} {K K' : APost} (hn : ∀ a h, N a h → N' a h) (hk : ∀ e a h, K e a h → K' e a h) :
    ∀ n h, anext P dst a N K n h → anext P dst a N' K' n h := by
  intro n h hh
  cases n with
  | value v => simp only [anext, force_eq] at hh ⊢; exact hn _ _ hh
  | skip => exact hn _ _ hh
  | «defer» d => exact hn _ _ hh
  | enter f args =>
    simp only [anext] at hh ⊢
    obtain ⟨k⟩ := hh
    refine ⟨k.mono ?_⟩
    intro e h' he
    cases e with
    | returned v => simp only [force_eq] at he ⊢; exact hn _ _ he
    | panicked ch => exact hk _ _ _ he
    | outgrown => exact he
  | round l f tmps assign body =>
    simp only [anext] at hh ⊢
    obtain ⟨k⟩ := hh
    refine ⟨k.mono ?_⟩
    intro e h' he
    cases e with
    | returned v => simp only [force_eq] at he ⊢; exact hn _ _ he
    | panicked ch => exact hk _ _ _ he
    | outgrown => exact he
  | _ => exact hh
theorem ahalt_mono {a : AF} {K K' : APost} (hk : ∀ e a h, K e a h → K' e a h) : ∀ n h, ahalt K a n h → ahalt K' a n h := by
  intro n h hh
  cases n <;> first | exact hk _ _ _ hh | exact hh

theorem aops_mono {P : Program} {K K' : APost} (hk : ∀ e a h, K e a h → K' e a h) : ∀ (l : List AOper) (a : AF) (h : Heap), aops P K l a h → aops P K' l a h
  | [], a, h, hh => hk _ _ _ hh
  | o :: rest, a, h, hh => by
    have go : aop P o.op (evf a.fr) h (anext P o.dst a (aops P K rest) K) (ahalt K a) → aop P o.op (evf a.fr) h (anext P o.dst a (aops P K' rest) K') (ahalt K' a) :=
      aop_mono (fun n h _ => anext_mono (aops_mono hk rest) hk n h) (fun _ d h => anext_mono (aops_mono hk rest) hk (.defer d) h) (ahalt_mono hk)
    simp only [aops] at hh ⊢
    split at hh
    · exact go hh
    · split at hh
      · split at hh
        · exact hh.mono go (aops_mono hk rest _ _)
        · exact hh.mono (aops_mono hk rest _ _) go
      · exact aops_mono hk rest _ _ hh

theorem thenA_mono {N N' : AF → Heap → Prop} {K K' : APost} (hn : ∀ a h, N a h → N' a h) (hk : ∀ e a h, K e a h → K' e a h) : ∀ e a h, thenA N K e a h → thenA N' K' e a h := by
  intro e a h hh
  cases e <;> first | exact hn _ _ hh | exact hk _ _ _ hh
theorem blockA_mono {id : Nat} {K K' : APost} (hk : ∀ e a h, K e a h → K' e a h) : ∀ e a h, blockA id K e a h → blockA id K' e a h := by
  intro e a h hh
  cases e with
  | exit id' =>
    simp only [blockA] at hh ⊢
    split at hh <;> exact hk _ _ _ hh
  | _ => exact hk _ _ _ hh
theorem havoc_mono {w : List Nat} {K K' : APost} (hk : ∀ e a h, K e a h → K' e a h) : ∀ e a h, havoc w K e a h → havoc w K' e a h := by
  intro e a h hh
  cases e with
  | panic c => exact fun fr' hf => hk _ _ _ (hh fr' hf)
  | _ => exact hk _ _ _ hh

theorem aexec_mono {P : Program} : ∀ (c : ACode) {K K' : APost} (_ : ∀ e a h, K e a h → K' e a h) (a : AF) (h : Heap), aexec P c K a h → aexec P c K' a h := by
  intro c
  induction c with
  | skip => intro K K' hk a h hh; exact hk _ _ _ hh
  | ops l => intro K K' hk a h hh; exact aops_mono hk l a h hh
  | any w l => intro K K' hk a h hh; exact aops_mono (havoc_mono hk) l a h hh
  | seq x y ihx ihy =>
    intro K K' hk a h hh
    simp only [aexec] at hh ⊢
    split at hh
    · exact ihx (thenA_mono (ihy hk) hk) a h hh
    · obtain ⟨k⟩ := hh; exact ⟨ihx (thenA_mono (ihy hk) hk) a h k⟩
  | cond c x y ihx ihy =>
    intro K K' hk a h hh
    simp only [aexec] at hh ⊢
    split at hh
    · exact hh.mono (ihx hk a h) (ihy hk a h)
    · exact hh.elim
  | alt x y ihx ihy =>
    intro K K' hk a h hh
    obtain ⟨h1, h2⟩ := hh
    exact ⟨ihx hk a h h1, ihy hk a h h2⟩
  | block id c ih => intro K K' hk a h hh; exact ih (blockA_mono hk) a h hh
  | loop c ih =>
    intro K K' hk a h hh
    obtain ⟨I, μ, start, round⟩ := hh
    exact ⟨I, μ, start, fun a h hi => ih (thenA_mono (fun _ _ x => x) hk) a h (round a h hi)⟩
  | exit id => intro K K' hk a h hh; exact hk _ _ _ hh
  | ret => intro K K' hk a h hh; exact hk _ _ _ hh
  | range g ps x c ihx ih =>
    intro K K' hk a h hh
    obtain ⟨gf, lb, hg, hgo, k⟩ := hh
    refine ⟨gf, lb, hg, hgo, fun rec y => (k rec y).mono ?_⟩
    intro e h' r
    cases e with
    | returned v =>
      obtain ⟨st, pe, h1, h2, h3⟩ := r
      refine ⟨st, pe, h1, h2, ?_⟩
      cases pe with
      | none => exact hk _ _ _ h3
      | some c => cases c <;> first | exact hk _ _ _ h3 | exact h3
    | panicked ch => exact hk _ _ _ r
    | outgrown => exact r
  | raw c =>
    intro K K' hk a h hh
    obtain ⟨k⟩ := hh
    exact ⟨fun b hb => (k b hb).mono fun e b' h' x => ⟨x.1, hk _ _ _ x.2⟩⟩
end mono

section
variable {P : Program}
theorem aopN_mono {K K' : APost} {N N' : AF → Heap → Prop} (hn : ∀ a h, N a h → N' a h) (hk : ∀ e a h, K e a h → K' e a h) {o : AOper} {a : AF} {h : Heap} (hh : aopN P o N K a h) : aopN P o N' K' a h := by
  obtain ⟨fr, df⟩ := a
  have go : aop P o.op (evf fr) h (anext P o.dst ⟨fr, df⟩ N K) (ahalt K ⟨fr, df⟩) → aop P o.op (evf fr) h (anext P o.dst ⟨fr, df⟩ N' K') (ahalt K' ⟨fr, df⟩) :=
    aop_mono (fun n h _ => anext_mono hn hk n h) (fun _ d h => anext_mono hn hk (.defer d) h) (ahalt_mono hk)
  simp only [aopN] at hh ⊢
  split at hh
  · exact go hh
  · split at hh
    · split at hh
      · exact hh.mono go (hn _ _)
      · exact hh.mono (hn _ _) go
    · exact hn _ _ hh
theorem seq_go {x y : ACode} {K : APost} {a : AF} {h : Heap} (hh : aexec P (.seq x y) K a h) : aexec P x (thenA (aexec P y K) K) a h := by
  simp only [aexec] at hh
  split at hh
  · exact hh
  · obtain ⟨k⟩ := hh; exact k
end

end Go.H
