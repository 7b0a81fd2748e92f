/- More posts; slots that a piece of code does not write; loops and cuts by their live slots. -/
import Derived.Test.YtadkdfecmpjmdaaGreatDoorHE
set_option linter.unusedVariables false
set_option linter.unusedSimpArgs false
namespace Go.H


/-! ### Slots that are not written -/

def memN : List Nat → Nat → Bool
  | [], _ => false
  | a :: l, i => match Nat.beq i a with
    | true => true
    | false => memN l i

theorem memN_append (l m : List Nat) (i : Nat) : memN (l ++ m) i = (memN l i || memN m i) := by
  induction l with
  | nil => rfl
  | cons a l ih => simp only [List.cons_append, memN]; split <;> simp [ih]

theorem memN_contains : ∀ (l : List Nat) (i : Nat), memN l i = l.contains i
  | [], i => rfl
  | a :: l, i => by
    simp only [memN, List.contains_cons, memN_contains l i]
    cases hb : Nat.beq i a with
    | true => rw [Nat.eq_of_beq_eq_true hb]; simp
    | false =>
      have : (i == a) = false := by rw [beq_eq_false_iff_ne]; intro e; subst e; rw [Nat.beq_refl] at hb; cases hb
      rw [this]; simp
def dstL : Option Nat → List Nat
  | some d => [d]
  | none => []

def writes : ACode → List Nat
  | .skip => []
  | .ops l => l.flatMap fun o => dstL o.dst
  | .any w l => w ++ l.flatMap fun o => dstL o.dst
  | .seq a b => writes a ++ writes b
  | .cond _ a b => writes a ++ writes b
  | .alt a b => writes a ++ writes b
  | .block _ b => writes b
  | .loop b => writes b
  | .exit _ => []
  | .ret => []
  | .range .. => []
  | .raw _ => []

def local' : ACode → Bool
  | .seq a b => local' a && local' b
  | .cond _ a b => local' a && local' b
  | .alt a b => local' a && local' b
  | .block _ b => local' b
  | .loop b => local' b
  | .range .. => false
  | .raw _ => false
  | .ops l => l.all fun o => !deferK o.op
  | .any _ l => l.all fun o => !deferK o.op
  | _ => true

def Same (w : List Nat) (a a' : AF) : Prop := (∀ i, memN w i = false → a'.fr i = a.fr i) ∧ a'.df = a.df
theorem Same.refl (w : List Nat) (a : AF) : Same w a a := ⟨fun _ _ => rfl, rfl⟩
theorem Same.trans {w : List Nat} {a b c : AF} (h : Same w a b) (k : Same w b c) : Same w a c := ⟨fun i hi => (k.1 i hi).trans (h.1 i hi), k.2.trans h.2⟩
theorem same_upd {w : List Nat} {a : AF} {dst : Option Nat} {v : Value} (hd : ∀ d, dst = some d → memN w d = true) : Same w a ⟨updO a.fr dst v, a.df⟩ := by
  refine ⟨fun i hi => ?_, rfl⟩
  cases dst with
  | none => rfl
  | some d =>
    have hne : i ≠ d := fun e => by rw [e, hd d rfl] at hi; cases hi
    have e1 : Nat.beq i d = false := by
      cases hb : Nat.beq i d
      · rfl
      · exact absurd (Nat.eq_of_beq_eq_true hb) hne
    simp [updO, upd, e1]

theorem aops_same {P : Program} {K : APost} {w : List Nat} {a₀ : AF} : ∀ (l : List AOper) (a : AF) (h : Heap), (l.all fun o => !deferK o.op) = true → (∀ i, memN w i = false → memN (l.flatMap fun o => dstL o.dst) i = false) → Same w a₀ a →
    aops P K l a h → aops P (fun e a h => K e a h ∧ Same w a₀ a) l a h
  | [], a, h, _, _, s, hh => ⟨hh, s⟩
  | o :: rest, a, h, nd, hw, s, hh => by
    have nd1 : deferK o.op = false := by simpa using (List.all_eq_true.1 nd o (by simp))
    have nd2 : (rest.all fun o => !deferK o.op) = true := by rw [List.all_cons, Bool.and_eq_true] at nd; exact nd.2
    have hw' : ∀ i, memN w i = false → memN (rest.flatMap fun o => dstL o.dst) i = false := fun i hi => by
      have := hw i hi
      rw [List.flatMap_cons, memN_append] at this
      exact (Bool.or_eq_false_iff.1 this).2
    have hd : ∀ d, o.dst = some d → memN w d = true := fun d hd => by
      cases hm : memN w d with
      | true => rfl
      | false =>
        have := hw d hm
        rw [List.flatMap_cons, memN_append, hd] at this
        have := (Bool.or_eq_false_iff.1 this).1
        simp [dstL, memN] at this
    have nxt : ∀ v h, aops P K rest ⟨updO a.fr o.dst v, a.df⟩ h → aops P (fun e a h => K e a h ∧ Same w a₀ a) rest ⟨updO a.fr o.dst v, a.df⟩ h := fun v h x =>
      aops_same rest _ h nd2 hw' (s.trans (same_upd hd)) x
    have go : aop P o.op (evf a.fr) h (anext P o.dst a (aops P K rest) K) (ahalt K a) →
        aop P o.op (evf a.fr) h (anext P o.dst a (aops P (fun e a h => K e a h ∧ Same w a₀ a) rest) (fun e a h => K e a h ∧ Same w a₀ a)) (ahalt (fun e a h => K e a h ∧ Same w a₀ a) a) := by
      intro x
      have x' := aop_noDefer nd1 x
      refine aop_mono ?_ (fun _ _ _ k => k.elim) ?_ x'
      · intro n h' _ hn
        cases n with
        | value v => simp only [noDefer, anext, force_eq] at hn ⊢; exact nxt v h' hn
        | skip => exact nxt _ h' hn
        | «defer» d => exact hn.elim
        | enter f args =>
          simp only [noDefer, anext] at hn ⊢
          obtain ⟨k⟩ := hn
          refine ⟨k.mono ?_⟩
          intro e h'' he
          cases e with
          | returned v => simp only [force_eq] at he ⊢; exact nxt v h'' he
          | panicked ch => exact ⟨he, s⟩
          | outgrown => exact he
        | round l f tmps assign body =>
          simp only [noDefer, anext] at hn ⊢
          obtain ⟨k⟩ := hn
          refine ⟨k.mono ?_⟩
          intro e h'' he
          cases e with
          | returned v => simp only [force_eq] at he ⊢; exact nxt v h'' he
          | panicked ch => exact ⟨he, s⟩
          | outgrown => exact he
        | _ => exact hn
      · intro n h' hn
        cases n <;> first | exact ⟨hn, s⟩ | exact hn
    simp only [aops] at hh ⊢
    split at hh
    · exact go hh
    · split at hh
      · split at hh
        · exact hh.mono go (nxt _ _)
        · exact hh.mono (nxt _ _) go
      · exact nxt _ _ hh

theorem aexec_same {P : Program} {w : List Nat} {a₀ : AF} : ∀ (c : ACode) (K : APost) (a : AF) (h : Heap), local' c = true → (∀ i, memN w i = false → memN (writes c) i = false) → Same w a₀ a →
    aexec P c K a h → aexec P c (fun e a h => K e a h ∧ Same w a₀ a) a h := by
  intro c
  induction c with
  | skip => intro K a h hl hw s hh; exact ⟨hh, s⟩
  | ops l => intro K a h hl hw s hh; exact aops_same l a h hl hw s hh
  | any v l =>
    intro K a h hl hw s hh
    have h1 := aops_same (K := havoc v K) l a h hl (fun i hi => by have := hw i hi; simp only [writes, memN_append] at this; exact (Bool.or_eq_false_iff.1 this).2) s hh
    refine aops_mono ?_ l a h h1
    intro e a' h' ⟨k, s'⟩
    cases e with
    | panic c =>
      intro fr' hf
      refine ⟨k fr' hf, fun i hi => ?_, s'.2⟩
      rw [← s'.1 i hi]
      refine hf i ?_
      have := hw i hi
      simp only [writes, memN_append] at this
      rw [← memN_contains]
      exact (Bool.or_eq_false_iff.1 this).1
    | _ => exact ⟨k, s'⟩
  | seq x y ihx ihy =>
    intro K a h hl hw s hh
    simp only [local', Bool.and_eq_true] at hl
    have hwx : ∀ i, memN w i = false → memN (writes x) i = false := fun i hi => by
      have := hw i hi; simp only [writes, memN_append] at this; exact (Bool.or_eq_false_iff.1 this).1
    have hwy : ∀ i, memN w i = false → memN (writes y) i = false := fun i hi => by
      have := hw i hi; simp only [writes, memN_append] at this; exact (Bool.or_eq_false_iff.1 this).2
    have go : aexec P x (thenA (aexec P y K) K) a h → aexec P x (thenA (aexec P y fun e a h => K e a h ∧ Same w a₀ a) fun e a h => K e a h ∧ Same w a₀ a) a h := fun hx => by
      refine aexec_mono x ?_ a h (ihx _ a h hl.1 hwx s hx)
      intro e a' h' ⟨k, s'⟩
      cases e with
      | normal => exact ihy K a' h' hl.2 hwy s' k
      | _ => exact ⟨k, s'⟩
    simp only [aexec] at hh ⊢
    split at hh
    · exact go hh
    · obtain ⟨k⟩ := hh; exact ⟨go k⟩
  | cond c x y ihx ihy =>
    intro K a h hl hw s hh
    simp only [local', Bool.and_eq_true] at hl
    have hwx : ∀ i, memN w i = false → memN (writes x) i = false := fun i hi => by
      have := hw i hi; simp only [writes, memN_append] at this; exact (Bool.or_eq_false_iff.1 this).1
    have hwy : ∀ i, memN w i = false → memN (writes y) i = false := fun i hi => by
      have := hw i hi; simp only [writes, memN_append] at this; exact (Bool.or_eq_false_iff.1 this).2
    simp only [aexec] at hh ⊢
    split at hh
    · exact hh.mono (ihx K a h hl.1 hwx s) (ihy K a h hl.2 hwy s)
    · exact hh.elim
  | alt x y ihx ihy =>
    intro K a h hl hw s hh
    simp only [local', Bool.and_eq_true] at hl
    have hwx : ∀ i, memN w i = false → memN (writes x) i = false := fun i hi => by
      have := hw i hi; simp only [writes, memN_append] at this; exact (Bool.or_eq_false_iff.1 this).1
    have hwy : ∀ i, memN w i = false → memN (writes y) i = false := fun i hi => by
      have := hw i hi; simp only [writes, memN_append] at this; exact (Bool.or_eq_false_iff.1 this).2
    obtain ⟨h1, h2⟩ := hh
    exact ⟨ihx K a h hl.1 hwx s h1, ihy K a h hl.2 hwy s h2⟩
  | block id c ih =>
    intro K a h hl hw s hh
    refine aexec_mono c ?_ a h (ih _ a h hl hw s hh)
    intro e a' h' ⟨k, s'⟩
    cases e with
    | exit id' =>
      simp only [blockA] at k ⊢
      split at k <;> exact ⟨k, s'⟩
    | _ => exact ⟨k, s'⟩
  | loop c ih =>
    intro K a h hl hw s hh
    obtain ⟨I, μ, start, round⟩ := hh
    refine ⟨fun a h => I a h ∧ Same w a₀ a, μ, ⟨start, s⟩, ?_⟩
    intro a' h' ⟨i, s'⟩
    refine aexec_mono c ?_ a' h' (ih _ a' h' hl hw s' (round a' h' i))
    intro e a'' h'' ⟨k, s''⟩
    cases e with
    | normal => exact ⟨⟨k.1, s''⟩, k.2⟩
    | _ => exact ⟨k, s''⟩
  | exit id => intro K a h hl hw s hh; exact ⟨hh, s⟩
  | ret => intro K a h hl hw s hh; exact ⟨hh, s⟩
  | range g ps x c ihx ih => intro K a h hl; cases hl
  | raw c => intro K a h hl; cases hl

/-! ### Loops and cuts, told of live slots -/

def mix (w : List Nat) (u fr : Nat → Value) : Nat → Value := fun i => match memN w i with
  | true => u i
  | false => fr i

def mixA (w : List Nat) (u : Nat → Value) (a : AF) : AF :=
  match a with
  | ⟨fr, df⟩ => ⟨mix w u fr, df⟩

def allSlots : List Nat → (Nat → Value) → ((Nat → Value) → List Value → Prop) → Prop
  | [], u, F => F u []
  | s :: ss, u, F => ∀ v, allSlots ss (upd u s v) fun u' vs => F u' (v :: vs)

theorem allSlots_use : ∀ (ss : List Nat) (u : Nat → Value) (F : (Nat → Value) → List Value → Prop) (_ : allSlots ss u F) (fr : Nat → Value) (_ : ∀ i, memN ss i = false → u i = fr i), ∃ u', (∀ i, u' i = fr i) ∧ F u' (ss.map fr)
  | [], u, F, h, fr, hu => ⟨u, fun i => hu i rfl, h⟩
  | s :: ss, u, F, h, fr, hu => by
    refine allSlots_use ss (upd u s (fr s)) _ (h (fr s)) fr ?_
    intro i hi
    unfold upd
    cases hb : Nat.beq i s with
    | true => rw [Nat.eq_of_beq_eq_true hb]; rfl
    | false => exact hu i (by simp only [memN, hb]; exact hi)

theorem mix_eq {w : List Nat} {a a' : AF} (s : Same w a a') {u : Nat → Value} (hu : ∀ i, u i = a'.fr i) : mixA w u a = a' := by
  obtain ⟨fr', df'⟩ := a'
  show (⟨mix w u a.fr, a.df⟩ : AF) = _
  have e1 : mix w u a.fr = fr' := by
    funext i
    unfold mix
    cases hm : memN w i with
    | true => exact hu i
    | false => exact (s.1 i hm).symm
  rw [e1]
  have := s.2
  simp only at this
  rw [this]

theorem loop_rule {P : Program} {b : ACode} {K : APost} {a : AF} {h : Heap} (live : List Nat) (J : List Value → Heap → Prop) (μ : List Value → Heap → Nat) (hl : local' b = true)
    (start : J (live.map a.fr) h)
    (round : ∀ (u : Nat → Value) (h' : Heap), allSlots live u fun u' vs => J vs h' →
      aexec P b (thenA (fun a'' h'' => J (live.map a''.fr) h'' ∧ μ (live.map a''.fr) h'' < μ vs h') K) (mixA (writes b) u' a) h') : HLoop (aexec P b) K a h := by
  refine ⟨fun a' h' => Same (writes b) a a' ∧ J (live.map a'.fr) h', fun a' h' => μ (live.map a'.fr) h', ⟨Same.refl _ _, start⟩, ?_⟩
  intro a' h' ⟨s, j⟩
  obtain ⟨u', hu, hF⟩ := allSlots_use live a'.fr _ (round a'.fr h') a'.fr (fun _ _ => rfl)
  have h1 := hF j
  rw [mix_eq s hu] at h1
  refine aexec_mono b ?_ a' h' (aexec_same b _ a' h' hl (fun _ hi => hi) s h1)
  intro e a'' h'' ⟨k, s'⟩
  cases e with
  | normal => exact ⟨⟨s', k.1⟩, k.2⟩
  | _ => exact k

theorem cut_rule {P : Program} {x y : ACode} {K : APost} {a : AF} {h : Heap} (live : List Nat) (J : List Value → Heap → Prop) (hl : local' x = true)
    (first : aexec P x (thenA (fun a' h' => J (live.map a'.fr) h') K) a h)
    (rest : ∀ (u : Nat → Value) (h' : Heap), allSlots live u fun u' vs => J vs h' → aexec P y K (mixA (writes x) u' a) h') : HSeq (aexec P x) (aexec P y) K a h := by
  refine ⟨aexec_mono x ?_ a h (aexec_same (w := writes x) x _ a h hl (fun _ hi => hi) (Same.refl _ a) first)⟩
  intro e a' h' ⟨k, s⟩
  cases e with
  | normal =>
    obtain ⟨u', hu, hF⟩ := allSlots_use live a'.fr _ (rest a'.fr h') a'.fr (fun _ _ => rfl)
    have h1 := hF k
    rw [mix_eq s hu] at h1
    exact h1
  | _ => exact k

end Go.H
