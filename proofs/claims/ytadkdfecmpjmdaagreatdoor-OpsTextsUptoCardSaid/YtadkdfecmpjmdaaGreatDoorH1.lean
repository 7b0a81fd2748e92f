/- The heap-only logic: what a call does is told of the heap alone, for every tape. -/
import Derived.Calls
import Derived.OrdersHeld
import Derived.Recover
import Derived.OrdersIn
import Derived.RangeFuncLeaves
import Derived.RangeFuncRecord
import Derived.Below
import Derived.Laws.Sem
import Derived.Lib.UnsafeStr
set_option linter.unusedVariables false
set_option linter.unusedSimpArgs false
namespace Go.H

abbrev Heap := Array Obj

def hcell (h : Heap) (a : Addr) : Option Value :=
  match h[a.block]? with
  | some (.cells c _ _) => if a.spot.isSome then none else c[a.off]?
  | _ => none
def hshape (h : Heap) (r : Nat) : Option (TypeId × Nat) :=
  match h[r]? with
  | some (.cells c elem _) => some (elem, c.size)
  | _ => none
def hfrozen (h : Heap) (a : Addr) : Bool :=
  match h[a.block]? with
  | some (.cells _ _ (lo, hi)) => lo ≤ a.off && a.off < hi
  | _ => false
def hfreeze (h : Heap) (a : Addr) (n : Nat) : Heap :=
  if n = 0 then h else h.modify a.block fun
      | .cells c elem (lo, hi) => .cells c elem (if lo == hi then (a.off, a.off + n) else (min lo a.off, max hi (a.off + n)))
      | o => o
def hsetCell (h : Heap) (a : Addr) (v : Value) : Heap :=
  h.modify a.block fun
      | .cells c elem frozen => .cells (if a.spot.isSome then c else c.setIfInBounds a.off v) elem frozen
      | o => o

theorem cell_eq (w : World) (a : Addr) : w.cell? a = hcell w.heap a := rfl
theorem frozen_eq (w : World) (a : Addr) : w.frozen? a = hfrozen w.heap a := rfl
theorem freeze_heap (w : World) (a : Addr) (n : Nat) : (w.freeze a n).heap = hfreeze w.heap a n := by
  unfold World.freeze hfreeze; split <;> rfl
structure Side (w w' : World) : Prop where
  os : w'.os = w.os
  tape : w'.tape = w.tape
  output : w'.output = w.output
theorem Side.refl (w : World) : Side w w := ⟨rfl, rfl, rfl⟩
theorem Side.trans {a b c : World} (h : Side a b) (k : Side b c) : Side a c := ⟨k.os.trans h.os, k.tape.trans h.tape, k.output.trans h.output⟩

def isOne : Value → Bool
  | .agg _ | .tuple _ => false
  | _ => true

def hw (P : Program) (q : Bool) {α : Type} : Sem α → Heap → (α → Heap → Prop) → (Halt → Heap → Prop) → Prop
  | .pure a, h, Q, _ => Q a h
  | .load _ a k, h, Q, E => match hcell h a with
    | some v => hw P q (k v) h Q E
    | none => False
  | .store _ a v k, h, Q, E => match q with
    | true => False
    | false => isOne v = true ∧ (hcell h a).isSome = true ∧ hfrozen h a = false ∧ hw P q k (hsetCell h a v) Q E
  | .new o k, h, Q, E => match q with
    | true => False
    | false => hw P q (k h.size) (h.push o) Q E
  | .shape r k, h, Q, E => hw P q (k (hshape h r)) h Q E
  | .freeze a n k, h, Q, E => match q with
    | true => False
    | false => hw P q k (hfreeze h a n) Q E
  | .frozen a k, h, Q, E => hw P q (k (hfrozen h a)) h Q E
  | .getObj r k, h, Q, E => match h[r]? with
    | some (.cells ..) => False
    | some o => hw P q (k o) h Q E
    | none => False
  | .setObj r o k, h, Q, E => match q with
    | true => False
    | false => match h[r]? with
      | some (.cells ..) => False
      | some _ => hw P q k (h.setIfInBounds r o) Q E
      | none => False
  | .choose u k, h, Q, E => match q with
    | true => False
    | false => if u.forced then hw P q (k 0) h Q E else ∀ t, hw P q (k (u.cut t)) h Q E
  | .sys _ _, _, _, _ => False
  | .program k, h, Q, E => hw P q (k P) h Q E
  | .mark _ k, h, Q, E => hw P q k h Q E
  | .halt hl, h, _, E => E hl h

def Told {α : Type} (q : Bool) (w : World) (Q : α → Heap → Prop) (E : Halt → Heap → Prop) : Result α → Prop
  | .ok a w' => Side w w' ∧ (q = true → w' = w) ∧ Q a w'.heap
  | .halt hl w' => Side w w' ∧ (q = true → w' = w) ∧ E hl w'.heap

theorem Told.side {α : Type} (w w' : World) {Q : α → Heap → Prop} {E : Halt → Heap → Prop} (s : Side w w') {r : Result α} (h : Told false w' Q E r) : Told false w Q E r := by
  cases r with
  | ok a w'' => exact ⟨s.trans h.1, by simp, h.2.2⟩
  | halt hl w'' => exact ⟨s.trans h.1, by simp, h.2.2⟩

theorem hw_sound {P : Program} {q : Bool} {α : Type} (s : Sem α) : ∀ (h : Heap) (Q : α → Heap → Prop) (E : Halt → Heap → Prop), hw P q s h Q E →
    ∀ w : World, w.heap = h → Told q w Q E (s.run P w) := by
  induction s with
  | pure a => intro h Q E hs w hw; subst hw; exact ⟨.refl w, fun _ => rfl, hs⟩
  | load m a k ih =>
    intro h Q E hs w hw
    subst hw
    simp only [H.hw] at hs
    simp only [Sem.run, cell_eq]
    split at hs
    · rename_i v hv; rw [hv]; exact ih v _ Q E hs w rfl
    · exact hs.elim
  | store m a v k ih =>
    intro h Q E hs w hw
    subst hw
    cases q with
    | true => exact hs.elim
    | false =>
      obtain ⟨h1, h2, h3, h4⟩ := hs
      obtain ⟨u, hu⟩ := Option.isSome_iff_exists.1 h2
      have e : (Sem.store m a v k).run P w = k.run P (w.setCell a v) := by
        cases v <;> simp_all [isOne, Sem.run, cell_eq, frozen_eq]
      rw [e]
      exact Told.side w (w.setCell a v) ⟨rfl, rfl, rfl⟩ (ih _ Q E h4 (w.setCell a v) rfl)
  | new o k ih =>
    intro h Q E hs w hw
    subst hw
    cases q with
    | true => exact hs.elim
    | false => simp only [Sem.run]; exact Told.side w { w with heap := w.heap.push o } ⟨rfl, rfl, rfl⟩ (ih _ _ Q E hs { w with heap := w.heap.push o } rfl)
  | shape r k ih => intro h Q E hs w hw; subst hw; simp only [Sem.run]; exact ih _ _ Q E hs w rfl
  | freeze a n k ih =>
    intro h Q E hs w hw
    subst hw
    cases q with
    | true => exact hs.elim
    | false => simp only [Sem.run]; exact Told.side w (w.freeze a n) (by unfold World.freeze; split <;> exact ⟨rfl, rfl, rfl⟩) (ih _ Q E hs (w.freeze a n) (freeze_heap w a n))
  | frozen a k ih => intro h Q E hs w hw; subst hw; simp only [Sem.run]; exact ih _ _ Q E hs w rfl
  | getObj r k ih =>
    intro h Q E hs w hw
    subst hw
    simp only [H.hw] at hs
    simp only [Sem.run]
    split at hs
    · exact hs.elim
    · rename_i o hne ho
      rw [ho]
      cases o <;> first | exact ih _ _ Q E hs w rfl | exact (hne _ _ _ rfl).elim
    · exact hs.elim
  | setObj r o k ih =>
    intro h Q E hs w hw
    subst hw
    cases q with
    | true => exact hs.elim
    | false =>
      simp only [H.hw] at hs
      simp only [Sem.run]
      split at hs
      · exact hs.elim
      · rename_i o' hne ho
        have key := Told.side w { w with heap := w.heap.setIfInBounds r o } ⟨rfl, rfl, rfl⟩ (ih _ Q E hs { w with heap := w.heap.setIfInBounds r o } rfl)
        rw [ho]
        cases o' <;> first | exact (hne _ _ _ rfl).elim | exact key
      · exact hs.elim
  | choose u k ih =>
    intro h Q E hs w hw
    subst hw
    cases q with
    | true => exact hs.elim
    | false =>
      simp only [H.hw] at hs
      simp only [Sem.run]
      split
      · rename_i hq; rw [if_pos hq] at hs; exact ih _ _ Q E hs w rfl
      · rename_i hq; rw [if_neg hq] at hs; exact Told.side w { w with drawn := w.drawn + 1 } ⟨rfl, rfl, rfl⟩ (ih _ _ Q E (hs _) { w with drawn := w.drawn + 1 } rfl)
  | sys c k ih => intro h Q E hs w hw; exact hs.elim
  | program k ih => intro h Q E hs w hw; subst hw; simp only [Sem.run]; exact ih _ _ Q E hs w rfl
  | mark m k ih => intro h Q E hs w hw; subst hw; simp only [Sem.run]; exact ih _ Q E hs w rfl
  | halt hl => intro h Q E hs w hw; subst hw; exact ⟨.refl w, fun _ => rfl, hs⟩

theorem hw_mono {P : Program} {q : Bool} {α : Type} (s : Sem α) : ∀ (h : Heap) (Q Q' : α → Heap → Prop) (E E' : Halt → Heap → Prop), (∀ a h, Q a h → Q' a h) →
    (∀ a h, E a h → E' a h) → hw P q s h Q E → hw P q s h Q' E' := by
  induction s with
  | pure a => intro h Q Q' E E' hq he hs; exact hq _ _ hs
  | load m a k ih => intro h Q Q' E E' hq he hs; simp only [H.hw] at hs ⊢; split at hs <;> first | exact ih _ _ _ _ _ _ hq he hs | exact hs.elim
  | store m a v k ih => intro h Q Q' E E' hq he hs; cases q <;> first | exact hs.elim | exact ⟨hs.1, hs.2.1, hs.2.2.1, ih _ _ _ _ _ hq he hs.2.2.2⟩
  | new o k ih => intro h Q Q' E E' hq he hs; cases q <;> first | exact hs.elim | exact ih _ _ _ _ _ _ hq he hs
  | shape r k ih => intro h Q Q' E E' hq he hs; exact ih _ _ _ _ _ _ hq he hs
  | freeze a n k ih => intro h Q Q' E E' hq he hs; cases q <;> first | exact hs.elim | exact ih _ _ _ _ _ hq he hs
  | frozen a k ih => intro h Q Q' E E' hq he hs; exact ih _ _ _ _ _ _ hq he hs
  | getObj r k ih =>
    intro h Q Q' E E' hq he hs
    simp only [H.hw] at hs ⊢
    split at hs
    · exact hs.elim
    · exact ih _ _ _ _ _ _ hq he hs
    · exact hs.elim
  | setObj r o k ih =>
    intro h Q Q' E E' hq he hs
    cases q with
    | true => exact hs.elim
    | false =>
      simp only [H.hw] at hs ⊢
      split at hs
      · exact hs.elim
      · exact ih _ _ _ _ _ hq he hs
      · exact hs.elim
  | choose u k ih =>
    intro h Q Q' E E' hq he hs
    cases q with
    | true => exact hs.elim
    | false =>
      simp only [H.hw] at hs ⊢
      split
      · rename_i hf; rw [if_pos hf] at hs; exact ih _ _ _ _ _ _ hq he hs
      · rename_i hf; rw [if_neg hf] at hs; exact fun t => ih _ _ _ _ _ _ hq he (hs t)
  | sys c k ih => intro h Q Q' E E' hq he hs; exact hs.elim
  | program k ih => intro h Q Q' E E' hq he hs; exact ih _ _ _ _ _ _ hq he hs
  | mark m k ih => intro h Q Q' E E' hq he hs; exact ih _ _ _ _ _ hq he hs
  | halt hl => intro h Q Q' E E' hq he hs; exact he _ _ hs

theorem hw_bind {P : Program} {q : Bool} {α β : Type} (s : Sem α) (f : α → Sem β) : ∀ (h : Heap) (Q : β → Heap → Prop) (E : Halt → Heap → Prop),
    hw P q (s.bind f) h Q E = hw P q s h (fun a h' => hw P q (f a) h' Q E) E := by
  induction s with
  | pure a => intro h Q E; rfl
  | load m a k ih => intro h Q E; simp only [Sem.bind, H.hw]; split <;> simp [ih]
  | store m a v k ih => intro h Q E; cases q <;> simp only [Sem.bind, H.hw, ih]
  | new o k ih => intro h Q E; cases q <;> simp only [Sem.bind, H.hw, ih]
  | shape r k ih => intro h Q E; simp only [Sem.bind, H.hw, ih]
  | freeze a n k ih => intro h Q E; cases q <;> simp only [Sem.bind, H.hw, ih]
  | frozen a k ih => intro h Q E; simp only [Sem.bind, H.hw, ih]
  | getObj r k ih => intro h Q E; simp only [Sem.bind, H.hw]; split <;> simp [ih]
  | setObj r o k ih => intro h Q E; cases q <;> simp only [Sem.bind, H.hw] <;> split <;> simp [ih]
  | choose u k ih => intro h Q E; cases q <;> simp only [Sem.bind, H.hw, ih]
  | sys c k ih => intro h Q E; rfl
  | program k ih => intro h Q E; simp only [Sem.bind, H.hw, ih]
  | mark m k ih => intro h Q E; simp only [Sem.bind, H.hw, ih]
  | halt hl => intro h Q E; rfl

theorem hw_bind' {P : Program} {q : Bool} {α β : Type} (s : Sem α) (f : α → Sem β) (h : Heap) (Q : β → Heap → Prop) (E : Halt → Heap → Prop) :
    hw P q (s >>= f) h Q E = hw P q s h (fun a h' => hw P q (f a) h' Q E) E := hw_bind s f h Q E
theorem hw_pure {P : Program} {q : Bool} {α : Type} (a : α) (h : Heap) (Q : α → Heap → Prop) (E : Halt → Heap → Prop) : hw P q (pure a : Sem α) h Q E = Q a h := rfl

/-! ### Calls -/

def HCalls (P : Program) (f : FuncId) (args : Array Value) (h : Heap) (R : Ending → Heap → Prop) : Prop :=
  ∀ w : World, w.heap = h → Calls P f args w fun e w' => Side w w' ∧ R e w'.heap

theorem HCalls.mono {P : Program} {f : FuncId} {args : Array Value} {h : Heap} {R R' : Ending → Heap → Prop} (c : HCalls P f args h R)
    (hr : ∀ e h', R e h' → R' e h') : HCalls P f args h R' :=
  fun w hw => (c w hw).mono fun e w' r => ⟨r.1, hr _ _ r.2⟩

abbrev HPost := Exit → Act → Heap → Prop

def lift (w₀ : World) (Q : HPost) : Exit → Act → World → Prop := fun e a w => Side w₀ w ∧ Q e a w.heap

def fw (ro : Option Nat) : Fence := { Fence.wide with round := ro }
def plain : Code → Bool
  | .seq x y => plain x && plain y
  | .cond _ x y => plain x && plain y
  | .block _ x => plain x
  | .loop x => plain x
  | .scope x => plain x
  | .region _ ops _ => ops.all fun o => match o.op with
    | .defer _ => false
    | _ => true
  | .rangeFunc .. => false
  | _ => true
def HWp (P : Program) (c : Code) (Q : HPost) (a : Act) (h : Heap) : Prop := ∀ (ro : Option Nat) (w : World), (ro.isSome = true → plain c = true) → w.heap = h → c.wpIn (fw ro) 0 P (lift w Q) a w

section
variable {P : Program} {Q : HPost} {a : Act} {h : Heap}

theorem HWp.wp {c : Code} (x : HWp P c Q a h) (w : World) (hw : w.heap = h) : c.wp P (lift w Q) a w := wpIn_wide.1 (x none w (fun e => by cases e) hw)
theorem HWp.mono {c : Code} {Q' : HPost} (hc : HWp P c Q a h) (hq : ∀ e a h, Q e a h → Q' e a h) : HWp P c Q' a h :=
  fun ro w hp hw => wpIn_mono (hc ro w hp hw) fun _ _ _ q => ⟨q.1, hq _ _ _ q.2⟩

theorem hwp_skip (hq : Q .normal a h) : HWp P .skip Q a h := fun ro w _ hw => wpIn_skip ⟨.refl w, hw ▸ hq⟩
theorem hwp_exit {id : Nat} (hq : Q (.exit id) a h) : HWp P (.exit id) Q a h := fun ro w _ hw => wpIn_exit ⟨.refl w, hw ▸ hq⟩
theorem hwp_ret (hq : Q .ret a h) : HWp P .ret Q a h := fun ro w _ hw => wpIn_ret ⟨.refl w, hw ▸ hq⟩

def thenH (next : Act → Heap → Prop) (Q : HPost) : HPost
  | .normal, a, h => next a h
  | e, a, h => Q e a h

theorem hwp_seq {x y : Code} (hx : HWp P x (thenH (HWp P y Q) Q) a h) : HWp P (.seq x y) Q a h := by
  intro ro w hp hw
  have hp1 : ro.isSome = true → plain x = true := fun e => by have := hp e; simp only [plain, Bool.and_eq_true] at this; exact this.1
  have hp2 : ro.isSome = true → plain y = true := fun e => by have := hp e; simp only [plain, Bool.and_eq_true] at this; exact this.2
  refine wpIn_seq (wpIn_mono (hx ro w hp1 hw) ?_)
  rintro e a' w' ⟨s, q⟩
  cases e with
  | normal => exact wpIn_mono (q ro w' hp2 rfl) fun e a'' w'' q' => ⟨s.trans q'.1, q'.2⟩
  | exit id => exact ⟨s, q⟩
  | goto l => exact ⟨s, q⟩
  | ret => exact ⟨s, q⟩
  | panic ch => exact ⟨s, q⟩
  | outgrown => exact ⟨s, q⟩

theorem hwp_cond {c : Operand} {x y : Code} {t : Bool} (hc : a.eval c = .bool t) (hx : HWp P (if t then x else y) Q a h) : HWp P (.cond c x y) Q a h :=
  fun ro w hp hw => wpIn_cond hc (hx ro w (fun e => by
    have := hp e
    simp only [plain, Bool.and_eq_true] at this
    cases t
    · exact this.2
    · exact this.1) hw)

def blockH (id : Nat) (Q : HPost) : HPost
  | .exit id', a, h => if id' = id then Q .normal a h else Q (.exit id') a h
  | e, a, h => Q e a h

theorem hwp_block {id : Nat} {c : Code} (hc : HWp P c (blockH id Q) a h) : HWp P (.block id c) Q a h := by
  intro ro w hp hw
  refine wpIn_block (wpIn_mono (hc ro w (fun e => by have := hp e; simpa only [plain] using this) hw) ?_)
  rintro e a' w' ⟨s, q⟩
  cases e with
  | exit id' =>
    simp only [blockH] at q
    simp only [Exit.inBlock]
    split
    · rename_i hid; rw [if_pos hid] at q; exact ⟨s, q⟩
    · rename_i hid; rw [if_neg hid] at q; exact ⟨s, q⟩
  | normal => exact ⟨s, q⟩
  | goto l => exact ⟨s, q⟩
  | ret => exact ⟨s, q⟩
  | panic ch => exact ⟨s, q⟩
  | outgrown => exact ⟨s, q⟩

theorem hwp_loop {c : Code} (I : Act → Heap → Prop) (μ : Act → Heap → Nat) (h₀ : I a h)
    (round : ∀ a h, I a h → HWp P c (thenH (fun a' h' => I a' h' ∧ μ a' h' < μ a h) Q) a h) : HWp P (.loop c) Q a h := by
  intro ro w hp hw
  subst hw
  refine wpIn_loop (fun a' w' => Side w w' ∧ I a' w'.heap) (fun a' w' => μ a' w'.heap) ⟨.refl w, h₀⟩ ?_
  rintro a' w' ⟨s, i⟩
  refine wpIn_mono (round a' w'.heap i ro w' (fun e => by have := hp e; simpa only [plain] using this) rfl) ?_
  rintro e a'' w'' ⟨s', q⟩
  cases e with
  | normal => exact ⟨⟨s.trans s', q.1⟩, q.2⟩
  | exit id => exact ⟨s.trans s', q⟩
  | goto l => exact ⟨s.trans s', q⟩
  | ret => exact ⟨s.trans s', q⟩
  | panic ch => exact ⟨s.trans s', q⟩
  | outgrown => exact ⟨s.trans s', q⟩

def HRound (P : Program) (l : Nat) (f : FuncId) (tmps : Array Value) (assign body : Code) (h : Heap) (R : Ending → Heap → Prop) : Prop :=
  ∀ w : World, w.heap = h → RoundIn Fence.wide 0 P l f tmps assign body w fun e w' => Side w w' ∧ R e w'.heap
theorem HRound.mono {l : Nat} {f : FuncId} {tmps : Array Value} {assign body : Code} {R R' : Ending → Heap → Prop} (c : HRound P l f tmps assign body h R) (hr : ∀ e h', R e h' → R' e h') : HRound P l f tmps assign body h R' :=
  fun w hw => (c w hw).mono fun e w' r => ⟨r.1, hr _ _ r.2⟩

def hnext (P : Program) (o : Oper) (a : Act) (next : Act → Heap → Prop) (Q : HPost) : Next → Heap → Prop
  | .value v, h => next (a.put o.dst v) h
  | .skip, h => next (a.put o.dst undef) h
  | .defer d, h => next ({ a with defers := d :: a.defers }.put o.dst undef) h
  | .enter f args, h => HCalls P f args h fun e h' => match e with
    | .returned v => next (a.put o.dst v) h'
    | .panicked ch => Q (.panic ch) a h'
    | .outgrown => False
  | .round l f tmps assign body, h => HRound P l f tmps assign body h fun e h' => match e with
    | .returned v => next (a.put o.dst v) h'
    | .panicked ch => Q (.panic ch) a h'
    | .outgrown => False
  | _, _ => False
def hhalt (Q : HPost) (a : Act) : Halt → Heap → Prop
  | .panic v, h => Q (.panic [{ v, recovered := false }]) a h
  | _, _ => False
def hop (P : Program) (o : Oper) (a : Act) (h : Heap) (next : Act → Heap → Prop) (Q : HPost) : Prop :=
  hw P false (execOp a.eval o) h (hnext P o a next Q) (hhalt Q a)

def calmOp (o : Oper) : Bool := match o.op with
  | .defer _ => false
  | _ => true
theorem semAt_calm (ro : Option Nat) (ρ : Operand → Value) (o : Oper) (h : ro.isSome = true → calmOp o = true) : Oper.semAt ro ρ o = execOp ρ o := by
  cases ro with
  | none => rfl
  | some l =>
    have h1 := h rfl
    unfold Oper.semAt
    cases ho : o.op <;> first | rfl | (unfold calmOp at h1; rw [ho] at h1; cases h1)

theorem hop_sound {ro : Option Nat} {o : Oper} {next : Act → Heap → Prop} {w₀ w : World} (hp : ro.isSome = true → calmOp o = true) (s₀ : Side w₀ w) (hh : hop P o a w.heap next Q)
    {next' : Act → World → Prop} (hn : ∀ a' w', Side w₀ w' → next a' w'.heap → next' a' w') : o.wpIn (fw ro) 0 P a w next' (lift w₀ Q) := by
  have h1 := hw_sound _ _ _ _ hh w rfl
  unfold Oper.wpIn
  refine ⟨fun _ _ => trivial, ?_⟩
  have hs : o.semAt (fw ro).round a.eval = execOp a.eval o := semAt_calm ro _ o hp
  rw [hs]
  generalize (execOp a.eval o).run P w = r at h1
  cases r with
  | ok nx w' =>
    obtain ⟨s, _, q⟩ := h1
    cases nx with
    | value v => exact hn _ _ (s₀.trans s) q
    | skip => exact hn _ _ (s₀.trans s) q
    | «defer» d => exact hn _ _ (s₀.trans s) q
    | enter f args =>
      refine ⟨fun e => (by cases e), ?_⟩
      have q1 : CallsIn Fence.wide 0 P f args w' _ := callsIn_wide.2 (q w' rfl)
      have q2 : CallsIn (fw ro) (0 - 1) P f args w' _ := q1
      refine q2.mono ?_
      rintro e w'' ⟨s', q'⟩
      cases e with
      | returned v => exact hn _ _ ((s₀.trans s).trans s') q'
      | panicked ch => exact ⟨(s₀.trans s).trans s', q'⟩
      | outgrown => exact q'.elim
    | round l f tmps assign body =>
      refine ⟨fun e => (by cases e), ?_⟩
      have q1 : RoundIn Fence.wide 0 P l f tmps assign body w' _ := q w' rfl
      have q2 : RoundIn (fw ro) (0 - 1) P l f tmps assign body w' _ := q1
      refine q2.mono ?_
      rintro e w'' ⟨s', q'⟩
      cases e with
      | returned v => exact hn _ _ ((s₀.trans s).trans s') q'
      | panicked ch => exact ⟨(s₀.trans s).trans s', q'⟩
      | outgrown => exact q'.elim
    | _ => exact q.elim
  | halt hl w' =>
    obtain ⟨s, _, q⟩ := h1
    cases hl with
    | panic v => exact ⟨s₀.trans s, q⟩
    | _ => exact q.elim

def hops (P : Program) (ops : Array Oper) (Q : HPost) : List Nat → Act → Heap → Prop
  | [], a, h => Q .normal a h
  | i :: rest, a, h =>
    match ops[i]? with
    | none => hops P ops Q rest a h
    | some o => if Region.wanted o (yielded ops a.tmps) then hop P o a h (hops P ops Q rest) Q else hops P ops Q rest (a.put o.dst undef) h

theorem calm_at {ro : Option Nat} {ops : Array Oper} (hp : ro.isSome = true → ops.all calmOp = true) {i : Nat} {o : Oper} (ho : ops[i]? = some o) : ro.isSome = true → calmOp o = true := fun e => by
  have h1 := hp e
  rw [Array.all_eq_true] at h1
  obtain ⟨hi, rfl⟩ := Array.getElem?_eq_some_iff.1 ho
  exact h1 i hi

theorem hops_sound {ro : Option Nat} {ops : Array Oper} (hp : ro.isSome = true → ops.all calmOp = true) {w₀ : World} : ∀ (l : List Nat) (a : Act) (w : World), Side w₀ w → hops P ops Q l a w.heap → wpOpsIn (fw ro) 0 P ops (lift w₀ Q) l a w := by
  intro l
  induction l with
  | nil => intro a w s hh; exact ⟨s, hh⟩
  | cons i rest ih =>
    intro a w s hh
    simp only [hops] at hh
    simp only [wpOpsIn]
    cases ho : ops[i]? with
    | none => simp only [ho] at hh; exact ih a w s hh
    | some o =>
      simp only [ho] at hh
      by_cases hwd : Region.wanted o (yielded ops a.tmps) = true
      · simp only [hwd, if_true] at hh ⊢
        exact hop_sound (calm_at hp ho) s hh fun a' w' s' q => ih a' w' s' q
      · simp only [hwd, Bool.false_eq_true, if_false] at hh ⊢
        exact ⟨fun _ _ => trivial, ih _ w s hh⟩

theorem plain_region {id : Nat} {ops : Array Oper} {d : Bool} {ro : Option Nat} (hp : ro.isSome = true → plain (.region id ops d) = true) : ro.isSome = true → ops.all calmOp = true := fun e => hp e

theorem hwp_region {id : Nat} {ops : Array Oper} (hh : hops P ops Q (List.range ops.size) a h) : HWp P (.region id ops false) Q a h := by
  intro ro w hp hw
  subst hw
  exact wpIn_region (hops_sound (plain_region hp) _ a w (.refl w) hh)

def hany (P : Program) (ops : Array Oper) (Q : HPost) : Nat → Array Bool → Act → Heap → Prop
  | 0, listed, a, h => Region.ready .any ops listed = [] ∧ Q .normal a h
  | fuel + 1, listed, a, h =>
    (Region.ready .any ops listed = [] → Q .normal a h) ∧
    ∀ i ∈ Region.ready .any ops listed, match ops[i]? with
      | none => hany P ops Q fuel (listed.setIfInBounds i true) a h
      | some o => if Region.wanted o (yielded ops a.tmps) then hop P o a h (hany P ops Q fuel (listed.setIfInBounds i true)) Q
        else hany P ops Q fuel (listed.setIfInBounds i true) (a.put o.dst undef) h

theorem hany_sound {ro : Option Nat} {ops : Array Oper} (hp : ro.isSome = true → ops.all calmOp = true) {w₀ : World} : ∀ (fuel : Nat) (listed : Array Bool) (a : Act) (w : World), Side w₀ w →
    hany P ops Q fuel listed a w.heap → wpAnyIn (fw ro) 0 P .any ops (lift w₀ Q) fuel listed a w := by
  intro fuel
  induction fuel with
  | zero => intro listed a w s hh; exact ⟨hh.1, s, hh.2⟩
  | succ fuel ih =>
    intro listed a w s hh
    refine ⟨fun h0 => ⟨s, hh.1 h0⟩, fun i hi => ?_⟩
    have h1 := hh.2 i hi
    unfold wpOpIn
    cases ho : ops[i]? with
    | none => simp only [ho] at h1; exact ih _ a w s h1
    | some o =>
      simp only [ho] at h1
      by_cases hwd : Region.wanted o (yielded ops a.tmps) = true
      · simp only [hwd, if_true] at h1 ⊢
        exact hop_sound (calm_at hp ho) s h1 fun a' w' s' q => ih _ a' w' s' q
      · simp only [hwd, Bool.false_eq_true, if_false] at h1 ⊢
        exact ⟨fun _ _ => trivial, ih _ _ w s h1⟩

theorem hwp_region_any {id : Nat} {ops : Array Oper} (hm : P.follows .mixedOrders = true)
    (hh : hany P ops Q ops.size (Array.replicate ops.size false) a h) : HWp P (.region id ops true) Q a h := by
  intro ro w hp hw
  subst hw
  exact wpIn_region_any hm (hany_sound (plain_region hp) _ _ a { w with drawn := w.drawn + 1 } ⟨rfl, rfl, rfl⟩ hh)

/-! ### A function's body -/

end
end Go.H
