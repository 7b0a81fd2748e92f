/- A region that draws its order, along one order. -/
import Derived.Test.YtgmlbaikeepniaaH8
set_option linter.unusedVariables false
set_option linter.unusedSimpArgs false
namespace Go.H

theorem hw_weaken {P : Program} {α : Type} (s : Sem α) : ∀ (q : Bool) (h : Heap) (Q : α → Heap → Prop) (E : Halt → Heap → Prop), hw P q s h Q E → hw P false s h Q E := by
  intro q
  cases q with
  | false => intro h Q E hs; exact hs
  | true =>
    induction s with
    | pure a => intro h Q E hs; exact hs
    | load m a k ih => intro h Q E hs; simp only [H.hw] at hs ⊢; split at hs <;> first | exact ih _ _ _ _ hs | exact hs.elim
    | store m a v k ih => intro h Q E hs; exact hs.elim
    | new o k ih => intro h Q E hs; exact hs.elim
    | shape r k ih => intro h Q E hs; exact ih _ _ _ _ hs
    | freeze a n k ih => intro h Q E hs; exact hs.elim
    | frozen a k ih => intro h Q E hs; exact ih _ _ _ _ hs
    | getObj r k ih => intro h Q E hs; simp only [H.hw] at hs ⊢; split at hs <;> first | exact ih _ _ _ _ hs | exact hs.elim
    | setObj r o k ih => intro h Q E hs; exact hs.elim
    | choose u k ih => intro h Q E hs; exact hs.elim
    | sys c k ih => intro h Q E hs; exact hs.elim
    | program k ih => intro h Q E hs; exact ih _ _ _ _ hs
    | mark m k ih => intro h Q E hs; exact ih _ _ _ hs
    | halt hl => intro h Q E hs; exact hs

theorem hw_true_heap {P : Program} {α : Type} (s : Sem α) : ∀ (h : Heap) (Q : α → Heap → Prop) (E : Halt → Heap → Prop), hw P true s h Q E →
    hw P true s h (fun a h' => h' = h ∧ Q a h') (fun a h' => h' = h ∧ E a h') := by
  induction s with
  | pure a => intro h Q E hs; exact ⟨rfl, hs⟩
  | load m a k ih => intro h Q E hs; simp only [H.hw] at hs ⊢; split at hs <;> first | exact ih _ _ _ _ hs | exact hs.elim
  | store m a v k ih => intro h Q E hs; exact hs.elim
  | new o k ih => intro h Q E hs; exact hs.elim
  | shape r k ih => intro h Q E hs; exact ih _ _ _ _ hs
  | freeze a n k ih => intro h Q E hs; exact hs.elim
  | frozen a k ih => intro h Q E hs; exact ih _ _ _ _ hs
  | getObj r k ih => intro h Q E hs; simp only [H.hw] at hs ⊢; split at hs <;> first | exact ih _ _ _ _ hs | exact hs.elim
  | setObj r o k ih => intro h Q E hs; exact hs.elim
  | choose u k ih => intro h Q E hs; exact hs.elim
  | sys c k ih => intro h Q E hs; exact hs.elim
  | program k ih => intro h Q E hs; exact ih _ _ _ _ hs
  | mark m k ih => intro h Q E hs; exact ih _ _ _ hs
  | halt hl => intro h Q E hs; exact ⟨rfl, hs⟩

section
variable {P : Program} {ops : Array Oper} {Q : HPost}

/-- One operation of a region; a quiet one is run quietly. -/
def hopB (P : Program) (Q : HPost) (o : Oper) (K : Act → Heap → Prop) (a : Act) (h : Heap) : Prop :=
  match quietK (compOp P o) with
  | true => hw P true (execOp a.eval o) h (fun n h' => ∃ v, n = .value v ∧ K (a.put o.dst v) h') (hhalt Q a)
  | false => hw P false (execOp a.eval o) h (hnext P o a K Q) (hhalt Q a)
def hopI (P : Program) (ops : Array Oper) (Q : HPost) (i : Nat) (K : Act → Heap → Prop) (a : Act) (h : Heap) : Prop :=
  match ops[i]? with
  | none => K a h
  | some o => if Region.wanted o (yielded ops a.tmps) = true then hopB P Q o K a h else K (a.put o.dst undef) h

theorem hnext_mono {o : Oper} {a : Act} {K K' : Act → Heap → Prop} (hk : ∀ a h, K a h → K' a h) : ∀ (n : Next) (h : Heap), hnext P o a K Q n h → hnext P o a K' Q n h := by
  intro n h hn
  cases n with
  | value v => exact hk _ _ hn
  | skip => exact hk _ _ hn
  | «defer» d => exact hk _ _ hn
  | enter f args =>
    simp only [hnext] at hn ⊢
    refine hn.mono ?_
    intro e h' he
    cases e with
    | returned v => exact hk _ _ he
    | panicked ch => exact he
    | outgrown => exact he
  | _ => exact hn

theorem hopB_mono {o : Oper} {a : Act} {h : Heap} {K K' : Act → Heap → Prop} (hk : ∀ a h, K a h → K' a h) (hh : hopB P Q o K a h) : hopB P Q o K' a h := by
  unfold hopB at *
  split
  · rename_i hq; simp only [hq] at hh; exact hw_mono _ _ _ _ _ _ (fun n h' ⟨v, e, k⟩ => ⟨v, e, hk _ _ k⟩) (fun _ _ x => x) hh
  · rename_i hq; simp only [hq] at hh; exact hw_mono _ _ _ _ _ _ (hnext_mono hk) (fun _ _ x => x) hh

theorem hop_of_hopB {o : Oper} {a : Act} {h : Heap} {K : Act → Heap → Prop} (hh : hopB P Q o K a h) : hop P o a h K Q := by
  unfold hopB at hh
  unfold hop
  split at hh
  · refine hw_weaken _ _ _ _ _ (hw_mono _ _ _ _ _ _ ?_ (fun _ _ x => x) hh)
    rintro n h' ⟨v, rfl, k⟩; exact k
  · exact hh

theorem hopI_mono {i : Nat} {a : Act} {h : Heap} {K K' : Act → Heap → Prop} (hk : ∀ a h, K a h → K' a h) (hh : hopI P ops Q i K a h) : hopI P ops Q i K' a h := by
  unfold hopI at *
  split
  · rename_i ho; simp only [ho] at hh; exact hk _ _ hh
  · rename_i o ho
    simp only [ho] at hh
    split
    · rename_i hw'; rw [if_pos hw'] at hh; exact hopB_mono hk hh
    · rename_i hw'; rw [if_neg hw'] at hh; exact hk _ _ hh

def hanyQ (P : Program) (ops : Array Oper) (Q : HPost) : Nat → Array Bool → Act → Heap → Prop
  | 0, listed, a, h => Region.ready .any ops listed = [] ∧ Q .normal a h
  | fuel + 1, listed, a, h =>
    (Region.ready .any ops listed = [] → Q .normal a h) ∧
    ∀ i ∈ Region.ready .any ops listed, hopI P ops Q i (hanyQ P ops Q fuel (listed.setIfInBounds i true)) a h

theorem hany_of_hanyQ : ∀ (fuel : Nat) (listed : Array Bool) (a : Act) (h : Heap), hanyQ P ops Q fuel listed a h → hany P ops Q fuel listed a h
  | 0, _, _, _, hh => hh
  | fuel + 1, listed, a, h, hh => by
    refine ⟨hh.1, fun i hi => ?_⟩
    have h1 := hh.2 i hi
    have h2 := hopI_mono (hany_of_hanyQ fuel (listed.setIfInBounds i true)) h1
    unfold hopI at h2
    split
    · rename_i ho; simp only [ho] at h2; exact h2
    · rename_i o ho
      simp only [ho] at h2
      split
      · rename_i hw'; rw [if_pos hw'] at h2; exact hop_of_hopB h2
      · rename_i hw'; rw [if_neg hw'] at h2; exact h2

/-- It leaves v in its slot, at this heap (pu: at every one), and does nothing else. -/
def Good (P : Program) (ops : Array Oper) (pu : Bool) (o : Oper) (v : Value) (a : Act) (h : Heap) : Prop :=
  (Region.wanted o (yielded ops a.tmps) = true ∧ ∀ h', (pu = true ∨ h' = h) → hw P true (execOp a.eval o) h' (fun n _ => n = .value v) (fun _ _ => False)) ∨
  (Region.wanted o (yielded ops a.tmps) = false ∧ v = undef)

theorem Good.of_same {pu : Bool} {o : Oper} {v : Value} {a a' : Act} {h : Heap} (hy : Good P ops pu o v a h) (he : execOp a'.eval o = execOp a.eval o)
    (hw : Region.wanted o (yielded ops a'.tmps) = Region.wanted o (yielded ops a.tmps)) : Good P ops pu o v a' h := by
  unfold Good at *
  rw [he, hw]
  exact hy

theorem Good.heap {pu : Bool} {o : Oper} {v : Value} {a : Act} {h h' : Heap} (hy : Good P ops pu o v a h) (hh : pu = true ∨ h' = h) : Good P ops pu o v a h' := by
  rcases hy with ⟨h1, h2⟩ | h1
  · refine .inl ⟨h1, fun h'' e => h2 h'' ?_⟩
    rcases e with e | rfl
    · exact .inl e
    · exact hh
  · exact .inr h1

theorem Good.hopI {i : Nat} {pu : Bool} {o : Oper} {v : Value} {a : Act} {h : Heap} (hi : ops[i]? = some o) (hq : quietK (compOp P o) = true) (hy : Good P ops pu o v a h)
    {K : Act → Heap → Prop} (hk : K (a.put o.dst v) h) : hopI P ops Q i K a h := by
  unfold H.hopI
  simp only [hi]
  rcases hy with ⟨h1, h2⟩ | ⟨h1, rfl⟩
  · rw [if_pos h1]
    unfold hopB
    simp only [hq]
    refine hw_mono _ _ _ _ _ _ ?_ ?_ (hw_true_heap _ _ _ _ (h2 h (.inr rfl)))
    · rintro n h' ⟨rfl, rfl⟩; exact ⟨v, rfl, hk⟩
    · rintro n h' ⟨_, hf⟩; exact hf.elim
  · rw [if_neg (by rw [h1]; simp)]; exact hk

theorem hopI_put {j : Nat} {pu : Bool} {oi oj : Oper} {v : Value} (hj : ops[j]? = some oj) (hap : oi.apart ops oj = true)
    (hsi : ∀ cs b, oi.op ≠ .select cs b) (hsj : ∀ cs b, oj.op ≠ .select cs b) (hpq : pu = true ∨ quietK (compOp P oj) = true)
    (hQ : ∀ c a h, Q (.panic c) (a.put oi.dst v) h → Q (.panic c) a h) {K : Act → Heap → Prop} {a : Act} {h : Heap}
    (hy : Good P ops pu oi v a h) (hh : hopI P ops Q j K (a.put oi.dst v) h) :
    hopI P ops Q j (fun a' h' => Good P ops pu oi v a' h' ∧ K (a'.put oi.dst v) h') a h := by
  obtain ⟨h1, h2, h3⟩ := Oper.apart_spec hap
  have keep : ∀ (a : Act) (h h' : Heap), Good P ops pu oi v a h → (pu = true ∨ h' = h) → ∀ u, Good P ops pu oi v (a.put oj.dst u) h' := fun a h h' hy hh u =>
    (hy.heap hh).of_same (execOp_put oi hsi a oj.dst u h3) (wanted_put oi a oj.dst u h3)
  have keepD : ∀ (h' : Heap), (pu = true ∨ h' = h) → ∀ d, Good P ops pu oi v { a with defers := d :: a.defers } h' := fun h' hh d => (hy.heap hh).of_same rfl rfl
  unfold H.hopI at *
  simp only [hj] at *
  rw [wanted_put oj a oi.dst v h1] at hh
  split
  · rename_i hw'
    rw [if_pos hw'] at hh
    unfold hopB at *
    rw [execOp_put oj hsj a oi.dst v h1] at hh
    split at hh
    · refine hw_mono _ _ _ _ _ _ ?_ ?_ (hw_true_heap _ _ _ _ hh)
      · rintro n h' ⟨rfl, u, rfl, k⟩
        exact ⟨u, rfl, keep a _ _ hy (.inr rfl) u, by rw [← Act.put_comm a v u h2]; exact k⟩
      · rintro n h' ⟨rfl, he⟩
        cases n <;> first | exact hQ _ _ _ he | exact he
    · rename_i hqq
      have hpu : pu = true := hpq.resolve_right (by rw [hqq]; simp)
      refine hw_mono _ _ _ _ _ _ ?_ ?_ hh
      · intro n h' hn
        cases n with
        | value u => exact ⟨keep a h h' hy (.inl hpu) u, by rw [← Act.put_comm a v u h2]; exact hn⟩
        | skip => exact ⟨keep a h h' hy (.inl hpu) _, by rw [← Act.put_comm a v _ h2]; exact hn⟩
        | «defer» d =>
          refine ⟨keep _ h' h' (keepD h' (.inl hpu) d) (.inr rfl) _, ?_⟩
          rw [← Act.put_comm _ v _ h2, ← Act.put_defers]; exact hn
        | enter f args =>
          simp only [hnext] at hn ⊢
          refine hn.mono ?_
          intro e h'' he
          cases e with
          | returned u => exact ⟨keep a h h'' hy (.inl hpu) u, by rw [← Act.put_comm a v u h2]; exact he⟩
          | panicked ch => exact hQ _ _ _ he
          | outgrown => exact he
        | _ => exact hn
      · intro n h' he
        cases n <;> first | exact hQ _ _ _ he | exact he
  · rename_i hw'
    rw [if_neg hw'] at hh
    exact ⟨keep a h h hy (.inr rfl) _, by rw [← Act.put_comm a v undef h2]; exact hh⟩

/-- It may be taken first. -/
theorem hanyQ_first {i : Nat} {pu : Bool} {oi : Oper} {v : Value} (hi : ops[i]? = some oi) (hqi : quietK (compOp P oi) = true)
    (hsel : ∀ (j : Nat) (o : Oper) cs b, ops[j]? = some o → o.op ≠ .select cs b) (hQ : ∀ c a h, Q (.panic c) (a.put oi.dst v) h → Q (.panic c) a h) :
    ∀ (fuel : Nat) (listed : Array Bool) (a : Act) (h : Heap),
      (∀ j oj, ops[j]? = some oj → j ≠ i → listed.getD j true = false → (∀ e ∈ oj.after, Region.binds .any e = true → e.on ≠ i) →
        oi.apart ops oj = true ∧ (pu = true ∨ quietK (compOp P oj) = true)) →
      i ∈ Region.ready .any ops listed → Good P ops pu oi v a h →
      hanyQ P ops Q fuel (listed.setIfInBounds i true) (a.put oi.dst v) h → hanyQ P ops Q (fuel + 1) listed a h := by
  intro fuel
  induction fuel with
  | zero =>
    intro listed a h _ hr hy H
    refine ⟨fun h => (by rw [h] at hr; cases hr), fun j hj => ?_⟩
    by_cases hji : j = i
    · subst hji; exact hy.hopI hi hqi H
    · have := ready_mono hj hji
      rw [H.1] at this
      cases this
  | succ fuel ih =>
    intro listed a h hfree hr hy H
    refine ⟨fun h => (by rw [h] at hr; cases hr), fun j hj => ?_⟩
    by_cases hji : j = i
    · subst hji; exact hy.hopI hi hqi H
    · have h1 := H.2 j (ready_mono hj hji)
      obtain ⟨hjun, oj, hoj, hall⟩ := mem_ready.1 hj
      have hnot : ∀ e ∈ oj.after, Region.binds .any e = true → e.on ≠ i := fun e he hb heq => by
        have h1 := hall e he hb
        have h0 := (mem_ready.1 hr).1
        rw [heq] at h1
        rcases Nat.lt_or_ge i listed.size with h' | h'
        · simp [h'] at h0 h1; rw [h0] at h1; cases h1
        · simp [Array.getElem?_eq_none h'] at h1
      have h2 := hopI_put hoj (hfree j oj hoj hji hjun hnot).1 (fun cs b => hsel i oi cs b hi) (fun cs b => hsel j oj cs b hoj) (hfree j oj hoj hji hjun hnot).2 hQ hy h1
      have hfree' : ∀ k ok, ops[k]? = some ok → k ≠ i → (listed.setIfInBounds j true).getD k true = false →
          (∀ e ∈ ok.after, Region.binds .any e = true → e.on ≠ i) → oi.apart ops ok = true ∧ (pu = true ∨ quietK (compOp P ok) = true) := fun k ok hk hki hun hno => by
        refine hfree k ok hk hki ?_ hno
        by_cases hjk : j = k
        · subst hjk; exact hjun
        · rw [getD_set_ne true hjk] at hun; exact hun
      refine hopI_mono (fun a' h' h3 => ih (listed.setIfInBounds j true) a' h' hfree' (ready_mono hr (Ne.symm hji)) h3.1 ?_) h2
      rw [Array.setIfInBounds_comm _ _ hji]
      exact h3.2

/-- Orders that stand for all. -/
inductive Planned (P : Program) (ops : Array Oper) : Nat → Array Bool → List Nat → Prop
  | nil (fuel : Nat) (listed : Array Bool) (r : Region.ready .any ops listed = []) : Planned P ops fuel listed []
  | take (fuel : Nat) (listed : Array Bool) (k : Nat) (l : List Nat) (r : k ∈ Region.ready .any ops listed) (f : okFirst P ops listed k = true)
      (p : Planned P ops fuel (listed.setIfInBounds k true) l) : Planned P ops (fuel + 1) listed (k :: l)
  | only (fuel : Nat) (listed : Array Bool) (k : Nat) (l : List Nat) (r : Region.ready .any ops listed = [k])
      (p : Planned P ops fuel (listed.setIfInBounds k true) l) : Planned P ops (fuel + 1) listed (k :: l)

theorem plan_planned : ∀ (fuel : Nat) (listed : Array Bool) (acc res : List Nat), plan P ops fuel listed acc = some res → ∃ l, res = acc.reverse ++ l ∧ Planned P ops fuel listed l := by
  intro fuel
  induction fuel with
  | zero =>
    intro listed acc res hp
    simp only [plan] at hp
    split at hp
    · rename_i hr; cases hp; exact ⟨[], by simp, .nil _ _ hr⟩
    · cases hp
  | succ fuel ih =>
    intro listed acc res hp
    simp only [plan] at hp
    split at hp
    · rename_i hr; cases hp; exact ⟨[], by simp, .nil _ _ hr⟩
    · rename_i i rs hr
      split at hp
      · rename_i k hk
        obtain ⟨l, e, p⟩ := ih _ _ _ hp
        exact ⟨k :: l, by rw [e]; simp, .take _ _ _ _ (by rw [hr]; exact List.mem_of_find?_eq_some hk) (List.find?_some hk) p⟩
      · split at hp
        · obtain ⟨l, e, p⟩ := ih _ _ _ hp
          exact ⟨i :: l, by rw [e]; simp, .only _ _ _ _ hr p⟩
        · cases hp

theorem noSelect_spec (hs : noSelect ops = true) (j : Nat) (o : Oper) (cs : Array SelectCase) (b : Bool) (ho : ops[j]? = some o) : o.op ≠ .select cs b := by
  intro he
  unfold noSelect at hs
  rw [List.all_eq_true] at hs
  have := hs o (by
    rw [← Array.getElem?_toList] at ho
    exact List.mem_of_getElem? ho)
  rw [he] at this
  cases this

theorem okFirst_spec {listed : Array Bool} {i : Nat} {oi : Oper} (hi : ops[i]? = some oi) (hf : okFirst P ops listed i = true) :
    quietK (compOp P oi) = true ∧ ∀ j oj, ops[j]? = some oj → j ≠ i → listed.getD j true = false → (∀ e ∈ oj.after, Region.binds .any e = true → e.on ≠ i) →
        oi.apart ops oj = true ∧ (pureK (compOp P oi) = true ∨ quietK (compOp P oj) = true) := by
  unfold okFirst at hf
  simp only [hi, Bool.and_eq_true] at hf
  refine ⟨hf.1, fun j oj hj hji hun hno => ?_⟩
  have h1 := List.all_eq_true.1 hf.2 j (List.mem_range.2 (by
    rcases Nat.lt_or_ge j ops.size with h' | h'
    · exact h'
    · rw [Array.getElem?_eq_none h'] at hj; cases hj))
  have e1 : (j == i) = false := by simpa using hji
  simp only [e1, hun, hj, Bool.false_or, Bool.or_eq_true, Bool.and_eq_true] at h1
  rcases h1 with h1 | h1
  · exfalso
    rw [Array.any_eq_true] at h1
    obtain ⟨x, hx, h2⟩ := h1
    simp only [Bool.and_eq_true, beq_iff_eq] at h2
    exact hno _ (Array.getElem_mem hx) h2.1 h2.2
  · exact h1

end
end Go.H
