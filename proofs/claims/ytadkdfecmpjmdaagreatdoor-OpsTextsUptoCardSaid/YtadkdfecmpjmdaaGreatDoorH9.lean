/- A region that draws its order, along one order. -/
import Derived.Test.YtadkdfecmpjmdaaGreatDoorH8
set_option linter.unusedVariables false
set_option linter.unusedSimpArgs false
namespace Go.H

theorem hw_weaken {P : Program} {α : Type} (s : Sem α) : ∀ (q : Bool) (h : Heap) (Q : α → Heap → Prop) (E : Halt → Heap → Prop), hw P q s h Q E → hw P false s h Q E := by
  intro q
  cases q with
  | false => intro h Q E hs; exact hs
  | true =>
    induction s with
    | pure a => intro h Q E hs; exact hs
    | load m a k ih => intro h Q E hs; simp only [H.hw] at hs ⊢; split at hs <;> first | exact ih _ _ _ _ hs | exact hs.elim
    | store m a v k ih => intro h Q E hs; exact hs.elim
    | new o k ih => intro h Q E hs; exact hs.elim
    | shape r k ih => intro h Q E hs; exact ih _ _ _ _ hs
    | freeze a n k ih => intro h Q E hs; exact hs.elim
    | frozen a k ih => intro h Q E hs; exact ih _ _ _ _ hs
    | getObj r k ih => intro h Q E hs; simp only [H.hw] at hs ⊢; split at hs <;> first | exact ih _ _ _ _ hs | exact hs.elim
    | setObj r o k ih => intro h Q E hs; exact hs.elim
    | choose u k ih => intro h Q E hs; exact hs.elim
    | sys c k ih => intro h Q E hs; exact hs.elim
    | program k ih => intro h Q E hs; exact ih _ _ _ _ hs
    | mark m k ih => intro h Q E hs; exact ih _ _ _ hs
    | halt hl => intro h Q E hs; exact hs

theorem hw_true_heap {P : Program} {α : Type} (s : Sem α) : ∀ (h : Heap) (Q : α → Heap → Prop) (E : Halt → Heap → Prop), hw P true s h Q E →
    hw P true s h (fun a h' => h' = h ∧ Q a h') (fun a h' => h' = h ∧ E a h') := by
  induction s with
  | pure a => intro h Q E hs; exact ⟨rfl, hs⟩
  | load m a k ih => intro h Q E hs; simp only [H.hw] at hs ⊢; split at hs <;> first | exact ih _ _ _ _ hs | exact hs.elim
  | store m a v k ih => intro h Q E hs; exact hs.elim
  | new o k ih => intro h Q E hs; exact hs.elim
  | shape r k ih => intro h Q E hs; exact ih _ _ _ _ hs
  | freeze a n k ih => intro h Q E hs; exact hs.elim
  | frozen a k ih => intro h Q E hs; exact ih _ _ _ _ hs
  | getObj r k ih => intro h Q E hs; simp only [H.hw] at hs ⊢; split at hs <;> first | exact ih _ _ _ _ hs | exact hs.elim
  | setObj r o k ih => intro h Q E hs; exact hs.elim
  | choose u k ih => intro h Q E hs; exact hs.elim
  | sys c k ih => intro h Q E hs; exact hs.elim
  | program k ih => intro h Q E hs; exact ih _ _ _ _ hs
  | mark m k ih => intro h Q E hs; exact ih _ _ _ hs
  | halt hl => intro h Q E hs; exact ⟨rfl, hs⟩

section
variable {P : Program} {ops : Array Oper} {Q : HPost}

def hopB (P : Program) (Q : HPost) (o : Oper) (K : Act → Heap → Prop) (a : Act) (h : Heap) : Prop :=
  match quietK (compOp P o) with
  | true => hw P true (execOp a.eval o) h (fun n h' => ∃ v, n = .value v ∧ K (a.put o.dst v) h') (hhalt Q a)
  | false => hw P false (execOp a.eval o) h (hnext P o a K Q) (hhalt Q a)
def hopI (P : Program) (ops : Array Oper) (Q : HPost) (i : Nat) (K : Act → Heap → Prop) (a : Act) (h : Heap) : Prop :=
  match ops[i]? with
  | none => K a h
  | some o => if Region.wanted o (yielded ops a.tmps) = true then hopB P Q o K a h else K (a.put o.dst undef) h

theorem hnext_mono {o : Oper} {a : Act} {K K' : Act → Heap → Prop} (hk : ∀ a h, K a h → K' a h) : ∀ (n : Next) (h : Heap), hnext P o a K Q n h → hnext P o a K' Q n h := by
  intro n h hn
  cases n with
  | value v => exact hk _ _ hn
  | skip => exact hk _ _ hn
  | «defer» d => exact hk _ _ hn
  | enter f args =>
    simp only [hnext] at hn ⊢
    refine hn.mono ?_
    intro e h' he
    cases e with
    | returned v => exact hk _ _ he
    | panicked ch => exact he
    | outgrown => exact he
  | round l f tmps assign body =>
    simp only [hnext] at hn ⊢
    refine hn.mono ?_
    intro e h' he
    cases e with
    | returned v => exact hk _ _ he
    | panicked ch => exact he
    | outgrown => exact he
  | _ => exact hn

theorem hopB_mono {o : Oper} {a : Act} {h : Heap} {K K' : Act → Heap → Prop} (hk : ∀ a h, K a h → K' a h) (hh : hopB P Q o K a h) : hopB P Q o K' a h := by
  unfold hopB at *
  split
  · rename_i hq; simp only [hq] at hh; exact hw_mono _ _ _ _ _ _ (fun n h' ⟨v, e, k⟩ => ⟨v, e, hk _ _ k⟩) (fun _ _ x => x) hh
  · rename_i hq; simp only [hq] at hh; exact hw_mono _ _ _ _ _ _ (hnext_mono hk) (fun _ _ x => x) hh

theorem hop_of_hopB {o : Oper} {a : Act} {h : Heap} {K : Act → Heap → Prop} (hh : hopB P Q o K a h) : hop P o a h K Q := by
  unfold hopB at hh
  unfold hop
  split at hh
  · refine hw_weaken _ _ _ _ _ (hw_mono _ _ _ _ _ _ ?_ (fun _ _ x => x) hh)
    rintro n h' ⟨v, rfl, k⟩; exact k
  · exact hh

theorem hopI_mono {i : Nat} {a : Act} {h : Heap} {K K' : Act → Heap → Prop} (hk : ∀ a h, K a h → K' a h) (hh : hopI P ops Q i K a h) : hopI P ops Q i K' a h := by
  unfold hopI at *
  split
  · rename_i ho; simp only [ho] at hh; exact hk _ _ hh
  · rename_i o ho
    simp only [ho] at hh
    split
    · rename_i hw'; rw [if_pos hw'] at hh; exact hopB_mono hk hh
    · rename_i hw'; rw [if_neg hw'] at hh; exact hk _ _ hh

def hanyQ (P : Program) (ops : Array Oper) (Q : HPost) : Nat → Array Bool → Act → Heap → Prop
  | 0, listed, a, h => Region.ready .any ops listed = [] ∧ Q .normal a h
  | fuel + 1, listed, a, h =>
    (Region.ready .any ops listed = [] → Q .normal a h) ∧
    ∀ i ∈ Region.ready .any ops listed, hopI P ops Q i (hanyQ P ops Q fuel (listed.setIfInBounds i true)) a h

theorem hany_of_hanyQ : ∀ (fuel : Nat) (listed : Array Bool) (a : Act) (h : Heap), hanyQ P ops Q fuel listed a h → hany P ops Q fuel listed a h
  | 0, _, _, _, hh => hh
  | fuel + 1, listed, a, h, hh => by
    refine ⟨hh.1, fun i hi => ?_⟩
    have h1 := hh.2 i hi
    have h2 := hopI_mono (hany_of_hanyQ fuel (listed.setIfInBounds i true)) h1
    unfold hopI at h2
    split
    · rename_i ho; simp only [ho] at h2; exact h2
    · rename_i o ho
      simp only [ho] at h2
      split
      · rename_i hw'; rw [if_pos hw'] at h2; exact hop_of_hopB h2
      · rename_i hw'; rw [if_neg hw'] at h2; exact h2

def Good (P : Program) (ops : Array Oper) (R : Heap → Heap → Prop) (o : Oper) (v : Value) (a : Act) (h : Heap) : Prop :=
  (Region.wanted o (yielded ops a.tmps) = true ∧ ∀ h', R h h' → hw P true (execOp a.eval o) h' (fun n _ => n = .value v) (fun _ _ => False)) ∨
  (Region.wanted o (yielded ops a.tmps) = false ∧ v = undef)

theorem Good.of_same {R : Heap → Heap → Prop} {o : Oper} {v : Value} {a a' : Act} {h : Heap} (hy : Good P ops R o v a h) (he : execOp a'.eval o = execOp a.eval o)
    (hw : Region.wanted o (yielded ops a'.tmps) = Region.wanted o (yielded ops a.tmps)) : Good P ops R o v a' h := by
  unfold Good at *
  rw [he, hw]
  exact hy

theorem Good.heap {R : Heap → Heap → Prop} (Rt : ∀ a b c, R a b → R b c → R a c) {o : Oper} {v : Value} {a : Act} {h h' : Heap} (hy : Good P ops R o v a h) (hh : R h h') : Good P ops R o v a h' := by
  rcases hy with ⟨h1, h2⟩ | h1
  · exact .inl ⟨h1, fun h'' e => h2 h'' (Rt _ _ _ hh e)⟩
  · exact .inr h1

theorem Good.hopI {i : Nat} {R : Heap → Heap → Prop} (Rr : ∀ h, R h h) {o : Oper} {v : Value} {a : Act} {h : Heap} (hi : ops[i]? = some o) (hq : quietK (compOp P o) = true) (hy : Good P ops R o v a h)
    {K : Act → Heap → Prop} (hk : K (a.put o.dst v) h) : hopI P ops Q i K a h := by
  unfold H.hopI
  simp only [hi]
  rcases hy with ⟨h1, h2⟩ | ⟨h1, rfl⟩
  · rw [if_pos h1]
    unfold hopB
    simp only [hq]
    refine hw_mono _ _ _ _ _ _ ?_ ?_ (hw_true_heap _ _ _ _ (h2 h (Rr h)))
    · rintro n h' ⟨rfl, rfl⟩; exact ⟨v, rfl, hk⟩
    · rintro n h' ⟨_, hf⟩; exact hf.elim
  · rw [if_neg (by rw [h1]; simp)]; exact hk

def FreeOf (P : Program) (R : Heap → Heap → Prop) (oj : Oper) : Prop := quietK (compOp P oj) = true ∨ (∀ h h', R h h') ∨ (growO oj = true ∧ ∀ h h', Grown' h h' → R h h')
theorem hopI_put {j : Nat} {R : Heap → Heap → Prop} (Rr : ∀ h, R h h) (Rt : ∀ a b c, R a b → R b c → R a c) {oi oj : Oper} {v : Value} (hj : ops[j]? = some oj) (hap : oi.apart ops oj = true)
    (hsi : ∀ cs b, oi.op ≠ .select cs b) (hsj : ∀ cs b, oj.op ≠ .select cs b) (hpq : FreeOf P R oj)
    (hQ : ∀ c a h, Q (.panic c) (a.put oi.dst v) h → Q (.panic c) a h) {K : Act → Heap → Prop} {a : Act} {h : Heap}
    (hy : Good P ops R oi v a h) (hh : hopI P ops Q j K (a.put oi.dst v) h) :
    hopI P ops Q j (fun a' h' => Good P ops R oi v a' h' ∧ K (a'.put oi.dst v) h') a h := by
  obtain ⟨h1, h2, h3⟩ := Oper.apart_spec hap
  have keep : ∀ (a : Act) (h h' : Heap), Good P ops R oi v a h → R h h' → ∀ u, Good P ops R oi v (a.put oj.dst u) h' := fun a h h' hy hh u =>
    (hy.heap Rt hh).of_same (execOp_put oi hsi a oj.dst u h3) (wanted_put oi a oj.dst u h3)
  have keepD : ∀ (h' : Heap), R h h' → ∀ d, Good P ops R oi v { a with defers := d :: a.defers } h' := fun h' hh d => (hy.heap Rt hh).of_same rfl rfl
  unfold H.hopI at *
  simp only [hj] at *
  rw [wanted_put oj a oi.dst v h1] at hh
  split
  · rename_i hw'
    rw [if_pos hw'] at hh
    unfold hopB at *
    rw [execOp_put oj hsj a oi.dst v h1] at hh
    split at hh
    · refine hw_mono _ _ _ _ _ _ ?_ ?_ (hw_true_heap _ _ _ _ hh)
      · rintro n h' ⟨rfl, u, rfl, k⟩
        exact ⟨u, rfl, keep a _ _ hy (Rr _) u, by rw [← Act.put_comm a v u h2]; exact k⟩
      · rintro n h' ⟨rfl, he⟩
        cases n <;> first | exact hQ _ _ _ he | exact he
    · rename_i hqq
      rcases hpq.resolve_left (by rw [hqq]; simp) with hpu | ⟨hg, hpu⟩
      rotate_left
      · obtain ⟨sg, e1, e2⟩ := growO_run (ev := a.eval) (fun _ => rfl) hg
        rw [e1] at hh ⊢
        rw [hw_bind'] at hh ⊢
        refine hw_mono _ _ _ _ _ _ ?_ ?_ (noStore_grown _ _ _ _ e2 hh)
        · rintro u h' ⟨k, g⟩
          exact ⟨keep a h h' hy (hpu _ _ g) u, by rw [← Act.put_comm a v u h2]; exact k⟩
        · intro n h' he
          cases n <;> first | exact hQ _ _ _ he | exact he
      refine hw_mono _ _ _ _ _ _ ?_ ?_ hh
      · intro n h' hn
        cases n with
        | value u => exact ⟨keep a h h' hy (hpu _ _) u, by rw [← Act.put_comm a v u h2]; exact hn⟩
        | skip => exact ⟨keep a h h' hy (hpu _ _) _, by rw [← Act.put_comm a v _ h2]; exact hn⟩
        | «defer» d =>
          refine ⟨keep _ h' h' (keepD h' (hpu _ _) d) (Rr _) _, ?_⟩
          rw [← Act.put_comm _ v _ h2, ← Act.put_defers]; exact hn
        | enter f args =>
          simp only [hnext] at hn ⊢
          refine hn.mono ?_
          intro e h'' he
          cases e with
          | returned u => exact ⟨keep a h h'' hy (hpu _ _) u, by rw [← Act.put_comm a v u h2]; exact he⟩
          | panicked ch => exact hQ _ _ _ he
          | outgrown => exact he
        | round l f tmps assign body =>
          simp only [hnext] at hn ⊢
          refine hn.mono ?_
          intro e h'' he
          cases e with
          | returned u => exact ⟨keep a h h'' hy (hpu _ _) u, by rw [← Act.put_comm a v u h2]; exact he⟩
          | panicked ch => exact hQ _ _ _ he
          | outgrown => exact he
        | _ => exact hn
      · intro n h' he
        cases n <;> first | exact hQ _ _ _ he | exact he
  · rename_i hw'
    rw [if_neg hw'] at hh
    exact ⟨keep a h h hy (Rr _) _, by rw [← Act.put_comm a v undef h2]; exact hh⟩

inductive Dep (ops : Array Oper) (i : Nat) : Nat → Prop
  | one (j : Nat) (oj : Oper) (e : Edge) (ho : ops[j]? = some oj) (he : e ∈ oj.after) (hb : Region.binds .any e = true) (hi : e.on = i) : Dep ops i j
  | more (j : Nat) (oj : Oper) (e : Edge) (ho : ops[j]? = some oj) (he : e ∈ oj.after) (hb : Region.binds .any e = true) (d : Dep ops i e.on) : Dep ops i j
def Closed (ops : Array Oper) (listed : Array Bool) : Prop := ∀ j oj, ops[j]? = some oj → listed.getD j false = true → ∀ e ∈ oj.after, Region.binds .any e = true → listed.getD e.on false = true
theorem Closed.start (ops : Array Oper) (n : Nat) : Closed ops (Array.replicate n false) := by
  intro j oj _ h
  rw [Array.getD_eq_getD_getElem?, Array.getElem?_replicate] at h
  split at h <;> cases h
theorem Closed.set {listed : Array Bool} {k : Nat} (c : Closed ops listed) (hk : k ∈ Region.ready .any ops listed) : Closed ops (listed.setIfInBounds k true) := by
  intro j oj ho h e he hb
  obtain ⟨_, o, ho', hall⟩ := mem_ready.1 hk
  by_cases hjk : j = k
  · subst hjk
    rw [ho] at ho'; cases ho'
    exact getD_set_true (hall e he hb)
  · rw [getD_set_ne false (Ne.symm hjk)] at h
    exact getD_set_true (c j oj ho h e he hb)
theorem Closed.not_dep {listed : Array Bool} {i j : Nat} (c : Closed ops listed) (hi : listed.getD i false = false) (d : Dep ops i j) :
    ∀ oj, ops[j]? = some oj → (∀ e ∈ oj.after, Region.binds .any e = true → listed.getD e.on false = true) → False := by
  induction d with
  | one j oj e ho he hb hie =>
    intro oj' ho' hall
    rw [ho] at ho'; cases ho'
    have := hall e he hb
    rw [hie, hi] at this; cases this
  | more j oj e ho he hb d ih =>
    intro oj' ho' hall
    rw [ho] at ho'; cases ho'
    have h1 := hall e he hb
    have hd := d
    cases hd with
    | one _ o2 e2 ho2 _ _ _ => exact ih o2 ho2 fun e' he' hb' => c _ o2 ho2 h1 e' he' hb'
    | more _ o2 e2 ho2 _ _ _ => exact ih o2 ho2 fun e' he' hb' => c _ o2 ho2 h1 e' he' hb'
theorem waits_spec {i : Nat} : ∀ j ∈ waits ops i, Dep ops i j := by
  have key : ∀ (l : List Nat) (acc : List Nat), (∀ j ∈ acc, Dep ops i j) → ∀ j ∈ l.foldl (fun acc j => match ops[j]? with
    | some oj => if oj.after.any (fun e => Region.binds .any e && (e.on == i || acc.contains e.on)) then j :: acc else acc
    | none => acc) acc, Dep ops i j := by
    intro l
    induction l with
    | nil => intro acc h; exact h
    | cons k l ih =>
      intro acc h
      rw [List.foldl_cons]
      refine ih _ ?_
      split
      · rename_i oj ho
        split
        · rename_i ha
          intro j hj
          rcases List.mem_cons.1 hj with rfl | hj
          · rw [Array.any_eq_true] at ha
            obtain ⟨x, hx, h2⟩ := ha
            simp only [Bool.and_eq_true, Bool.or_eq_true, beq_iff_eq] at h2
            rcases h2.2 with h3 | h3
            · exact .one _ oj _ ho (Array.getElem_mem hx) h2.1 h3
            · exact .more _ oj _ ho (Array.getElem_mem hx) h2.1 (h _ (by simpa using h3))
          · exact h j hj
        · exact h
      · exact h
  exact key _ [] (by simp)

theorem hanyQ_first {i : Nat} {R : Heap → Heap → Prop} (Rr : ∀ h, R h h) (Rt : ∀ a b c, R a b → R b c → R a c) {oi : Oper} {v : Value} (hi : ops[i]? = some oi) (hqi : quietK (compOp P oi) = true)
    (hsel : ∀ (j : Nat) (o : Oper) cs b, ops[j]? = some o → o.op ≠ .select cs b) (hQ : ∀ c a h, Q (.panic c) (a.put oi.dst v) h → Q (.panic c) a h) :
    ∀ (fuel : Nat) (listed : Array Bool) (a : Act) (h : Heap),
      Closed ops listed → (∀ j oj, ops[j]? = some oj → j ≠ i → listed.getD j true = false → ¬ Dep ops i j →
        oi.apart ops oj = true ∧ FreeOf P R oj) →
      i ∈ Region.ready .any ops listed → Good P ops R oi v a h →
      hanyQ P ops Q fuel (listed.setIfInBounds i true) (a.put oi.dst v) h → hanyQ P ops Q (fuel + 1) listed a h := by
  intro fuel
  induction fuel with
  | zero =>
    intro listed a h _ _ hr hy H
    refine ⟨fun h => (by rw [h] at hr; cases hr), fun j hj => ?_⟩
    by_cases hji : j = i
    · subst hji; exact hy.hopI Rr hi hqi H
    · have := ready_mono hj hji
      rw [H.1] at this
      cases this
  | succ fuel ih =>
    intro listed a h hcl hfree hr hy H
    refine ⟨fun h => (by rw [h] at hr; cases hr), fun j hj => ?_⟩
    by_cases hji : j = i
    · subst hji; exact hy.hopI Rr hi hqi H
    · have h1 := H.2 j (ready_mono hj hji)
      obtain ⟨hjun, oj, hoj, hall⟩ := mem_ready.1 hj
      have hun : listed.getD i false = false := by
        have h0 := (mem_ready.1 hr).1
        rcases Nat.lt_or_ge i listed.size with h' | h'
        · simp [h'] at h0 ⊢; exact h0
        · simp [Array.getElem?_eq_none h'] at h0
      have hnot : ¬ Dep ops i j := fun d => hcl.not_dep hun d oj hoj hall
      have h2 := hopI_put Rr Rt hoj (hfree j oj hoj hji hjun hnot).1 (fun cs b => hsel i oi cs b hi) (fun cs b => hsel j oj cs b hoj) (hfree j oj hoj hji hjun hnot).2 hQ hy h1
      have hfree' : ∀ k ok, ops[k]? = some ok → k ≠ i → (listed.setIfInBounds j true).getD k true = false →
          ¬ Dep ops i k → oi.apart ops ok = true ∧ FreeOf P R ok := fun k ok hk hki hun hno => by
        refine hfree k ok hk hki ?_ hno
        by_cases hjk : j = k
        · subst hjk; exact hjun
        · rw [getD_set_ne true hjk] at hun; exact hun
      refine hopI_mono (fun a' h' h3 => ih (listed.setIfInBounds j true) a' h' (hcl.set hj) hfree' (ready_mono hr (Ne.symm hji)) h3.1 ?_) h2
      rw [Array.setIfInBounds_comm _ _ hji]
      exact h3.2

inductive Planned (P : Program) (ops : Array Oper) : Nat → Array Bool → PTree → Prop
  | nil (fuel : Nat) (listed : Array Bool) (r : Region.ready .any ops listed = []) : Planned P ops fuel listed .done
  | take (fuel : Nat) (listed : Array Bool) (k : Nat) (t : PTree) (r : k ∈ Region.ready .any ops listed) (f : okFirst P ops listed k = true)
      (p : Planned P ops fuel (listed.setIfInBounds k true) t) : Planned P ops (fuel + 1) listed (.take k t)
  | alts (fuel : Nat) (listed : Array Bool) (ts : List (Nat × PTree)) (ne : ts ≠ []) (r : Region.ready .any ops listed = ts.map (·.1))
      (p : ∀ x ∈ ts, Planned P ops fuel (listed.setIfInBounds x.1 true) x.2) : Planned P ops (fuel + 1) listed (mkAlt ts)

theorem allPlans_spec {f : Nat → Option PTree} : ∀ (l : List Nat) (ts : List (Nat × PTree)), allPlans f l = some ts → l = ts.map (·.1) ∧ ∀ x ∈ ts, f x.1 = some x.2 := by
  intro l
  induction l with
  | nil => intro ts h; simp only [allPlans] at h; cases h; exact ⟨rfl, by simp⟩
  | cons k r ih =>
    intro ts h
    simp only [allPlans] at h
    split at h
    · rename_i t l' ht hl'
      cases h
      obtain ⟨e, p⟩ := ih _ hl'
      refine ⟨by rw [List.map_cons, ← e], fun x hx => ?_⟩
      rcases List.mem_cons.1 hx with rfl | hx
      · exact ht
      · exact p x hx
    · cases h
theorem plan_planned : ∀ (fuel : Nat) (listed : Array Bool) (t : PTree), plan P ops fuel listed = some t → Planned P ops fuel listed t := by
  intro fuel
  induction fuel with
  | zero =>
    intro listed t hp
    simp only [plan] at hp
    split at hp
    · rename_i hr; cases hp; exact .nil _ _ hr
    · cases hp
  | succ fuel ih =>
    intro listed t hp
    simp only [plan] at hp
    split at hp
    · rename_i hr; cases hp; exact .nil _ _ hr
    · rename_i i rs hr
      split at hp
      · rename_i k hk
        split at hp
        · rename_i t' ht'
          cases hp
          exact .take _ _ _ _ (by rw [hr]; exact List.mem_of_find?_eq_some hk) (List.find?_some hk) (ih _ _ ht')
        · cases hp
      · split at hp
        · split at hp
          · rename_i ts hts
            cases hp
            obtain ⟨e, p⟩ := allPlans_spec _ _ hts
            refine .alts _ _ _ (fun h0 => ?_) (by rw [hr, e]) (fun x hx => ih _ _ (p x hx))
            rw [h0] at e; cases e
          · cases hp
        · cases hp

mutual
def flat : PT → PTree → PTree
  | .done, r => r
  | .take k t, r => .take k (flat t r)
  | .alt a b, r => mkAlt (branches a r ++ branches b r)
  | .join a b, r => flat a (flat b r)
def branches : PT → PTree → List (Nat × PTree)
  | .take k t, r => [(k, flat t r)]
  | .alt a b, r => branches a r ++ branches b r
  | _, _ => []
end
theorem branches_heads (r : PTree) : ∀ t : PT, (branches t r).map (·.1) = heads t
  | .done => by simp [branches, heads]
  | .take k t => by simp [branches, heads]
  | .alt a b => by simp [branches, heads, branches_heads r a, branches_heads r b]
  | .join a b => by simp [branches, heads]
theorem verify_planned (P : Program) (ops : Array Oper) : ∀ (t : PT) (rest : PTree) (fuel : Nat) (listed : Array Bool) (f1 : Nat) (l1 : Array Bool), Planned P ops f1 l1 rest →
    (verify P ops false t fuel listed = some (f1, l1) → Planned P ops fuel listed (flat t rest)) ∧
    (verify P ops true t fuel listed = some (f1, l1) → heads t ≠ [] ∧ ∃ f', fuel = f' + 1 ∧ ∀ x ∈ branches t rest, Planned P ops f' (listed.setIfInBounds x.1 true) x.2) := by
  intro t
  induction t with
  | done =>
    intro rest fuel listed f1 l1 hp
    refine ⟨fun h => ?_, fun h => by simp [verify] at h⟩
    simp only [verify, Option.some.injEq, Prod.mk.injEq] at h
    obtain ⟨rfl, rfl⟩ := h
    exact hp
  | take k t ih =>
    intro rest fuel listed f1 l1 hp
    cases fuel with
    | zero => exact ⟨fun h => by simp [verify] at h, fun h => by simp [verify] at h⟩
    | succ fuel =>
      refine ⟨fun h => ?_, fun h => ?_⟩
      · simp only [verify] at h
        simp only [flat]
        split at h
        · rename_i i hr
          split at h
          · rename_i e
            subst e
            exact .alts fuel listed [(i, flat t rest)] (by simp) (by rw [hr]; rfl) (fun x hx => by
              rw [List.mem_singleton] at hx; subst hx; exact (ih rest _ _ _ _ hp).1 h)
          · cases h
        · split at h
          · rename_i hc
            rw [Bool.and_eq_true] at hc
            exact .take _ _ _ _ (by simpa using hc.1) hc.2 ((ih rest _ _ _ _ hp).1 h)
          · cases h
      · simp only [verify] at h
        refine ⟨by simp [heads], fuel, rfl, ?_⟩
        intro x hx
        simp only [branches, List.mem_singleton] at hx
        subst hx
        exact (ih rest _ _ _ _ hp).1 h
  | alt a b iha ihb =>
    intro rest fuel listed f1 l1 hp
    have both : ∀ m, verify P ops m (.alt a b) fuel listed = some (f1, l1) → heads (.alt a b) ≠ [] ∧ ∃ f', fuel = f' + 1 ∧ ∀ x ∈ branches (.alt a b) rest, Planned P ops f' (listed.setIfInBounds x.1 true) x.2 := by
      intro m h
      simp only [verify] at h
      split at h
      · split at h
        · rename_i x y hx hy
          split at h
          · rename_i e
            cases h
            subst e
            obtain ⟨h1, f', e1, h2⟩ := (iha rest fuel listed f1 l1 hp).2 hx
            obtain ⟨h3, f'', e2, h4⟩ := (ihb rest fuel listed f1 l1 hp).2 hy
            refine ⟨by simp [heads, h1], f', e1, ?_⟩
            intro z hz
            simp only [branches, List.mem_append] at hz
            rcases hz with hz | hz
            · exact h2 z hz
            · have : f'' = f' := by omega
              subst this
              exact h4 z hz
          · cases h
        · cases h
      · cases h
    refine ⟨fun h => ?_, both true⟩
    obtain ⟨h1, f', rfl, h2⟩ := both false h
    simp only [verify] at h
    split at h
    · rename_i hr
      have hr' : Region.ready .any ops listed = heads a ++ heads b := by simpa using hr
      have hb := branches_heads rest (.alt a b)
      simp only [flat]
      refine .alts f' listed _ ?_ ?_ ?_
      · intro h0
        simp only [branches] at hb
        rw [h0] at hb
        exact h1 hb.symm
      · simp only [branches, heads] at hb
        rw [hr', hb]
      · simpa only [branches] using h2
    · cases h
  | join a b iha ihb =>
    intro rest fuel listed f1 l1 hp
    refine ⟨fun h => ?_, fun h => by simp [verify] at h⟩
    simp only [verify] at h
    split at h
    · rename_i l hl
      simp only [flat]
      exact (iha (flat b rest) fuel listed l.1 l.2 ((ihb rest l.1 l.2 f1 l1 hp).1 h)).1 hl
    · cases h

theorem noSelect_spec (hs : noSelect ops = true) (j : Nat) (o : Oper) (cs : Array SelectCase) (b : Bool) (ho : ops[j]? = some o) : o.op ≠ .select cs b := by
  intro he
  unfold noSelect at hs
  rw [List.all_eq_true] at hs
  have := hs o (by
    rw [← Array.getElem?_toList] at ho
    exact List.mem_of_getElem? ho)
  rw [he] at this
  cases this

theorem okFirst_spec {listed : Array Bool} {i : Nat} {oi : Oper} (hi : ops[i]? = some oi) (hf : okFirst P ops listed i = true) :
    quietK (compOp P oi) = true ∧ ∀ j oj, ops[j]? = some oj → j ≠ i → listed.getD j true = false → ¬ Dep ops i j →
        oi.apart ops oj = true ∧ ((pureK (compOp P oi) = true ∨ quietK (compOp P oj) = true) ∨ (loadK (compOp P oi) = true ∧ growO oj = true)) := by
  unfold okFirst at hf
  simp only [hi, Bool.and_eq_true] at hf
  refine ⟨hf.1, fun j oj hj hji hun hno => ?_⟩
  have h1 := List.all_eq_true.1 hf.2 j (List.mem_range.2 (by
    rcases Nat.lt_or_ge j ops.size with h' | h'
    · exact h'
    · rw [Array.getElem?_eq_none h'] at hj; cases hj))
  have e1 : (j == i) = false := by simpa using hji
  simp only [e1, hun, hj, Bool.false_or, Bool.or_eq_true, Bool.and_eq_true] at h1
  rcases h1 with h1 | h1
  · exact absurd (waits_spec j (by simpa using h1)) hno
  · exact h1

end
end Go.H
