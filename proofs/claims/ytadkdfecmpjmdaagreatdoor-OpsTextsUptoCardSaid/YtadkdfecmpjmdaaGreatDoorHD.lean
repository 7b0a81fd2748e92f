import Derived.Test.YtadkdfecmpjmdaaGreatDoorHO
set_option linter.unusedVariables false
set_option linter.unusedSimpArgs false
namespace Go.H
section
variable {P : Program} {n : Nat} {K : APost}

theorem toAF_put {b : Act} {dst : Option Nat} {v : Value} (hd : dstOk b.tmps.size dst = true) : toAF (b.put dst v) = ⟨updO (toAF b).fr dst v, b.defers⟩ := by
  cases dst with
  | none => rfl
  | some d =>
    have hlt : d < b.tmps.size := by simpa [dstOk] using hd
    unfold toAF Act.put updO upd
    dsimp only
    congr 1
    funext t
    by_cases e : t = d
    · subst e; simp [hlt]
    · have e1 : Nat.beq t d = false := by
        cases hb : Nat.beq t d
        · rfl
        · exact absurd (Nat.eq_of_beq_eq_true hb) e
      simp [e1, Array.getElem?_setIfInBounds_ne (Ne.symm e)]

theorem put_size {b : Act} {dst : Option Nat} {v : Value} : (b.put dst v).tmps.size = b.tmps.size := by cases dst <;> simp [Act.put]
theorem put_defers' {b : Act} {dst : Option Nat} {v : Value} : (b.put dst v).defers = b.defers := by cases dst <;> rfl

theorem eval_evf (b : Act) : b.eval = evf (toAF b).fr := by funext x; cases x <;> rfl

def post (n : Nat) (K : APost) : HPost := fun e b h => b.tmps.size = n ∧ K e (toAF b) h

def nextOk (n : Nat) (nextA : AF → Heap → Prop) (nextH : Act → Heap → Prop) : Prop := ∀ b h, b.tmps.size = n → nextA (toAF b) h → nextH b h

theorem anext_hnext {o : Oper} {b : Act} {nextA : AF → Heap → Prop} {nextH : Act → Heap → Prop} (hb : b.tmps.size = n) (hd : dstOk n o.dst = true) (hn : nextOk n nextA nextH) :
    ∀ x h, anext P o.dst (toAF b) nextA K x h → hnext P o b nextH (post n K) x h := by
  intro x h hx
  have put : ∀ (b : Act) v h, b.tmps.size = n → nextA ⟨updO (toAF b).fr o.dst v, b.defers⟩ h → nextH (b.put o.dst v) h := fun b v h hb hx =>
    hn _ _ (by rw [put_size]; exact hb) (by rw [toAF_put (by rw [hb]; exact hd)]; exact hx)
  cases x with
  | value v => exact put b v h hb (by simp only [anext, force_eq] at hx; exact hx)
  | skip => exact put b _ h hb hx
  | «defer» d => exact put { b with defers := d :: b.defers } _ h hb hx
  | enter f args =>
    simp only [anext] at hx
    obtain ⟨hx⟩ := hx
    simp only [hnext]
    refine hx.mono ?_
    intro e h' he
    cases e with
    | returned v => exact put b v h' hb (by simp only [force_eq] at he; exact he)
    | panicked ch => exact ⟨hb, he⟩
    | outgrown => exact he
  | round l f tmps assign body =>
    simp only [anext] at hx
    obtain ⟨hx⟩ := hx
    simp only [hnext]
    refine hx.mono ?_
    intro e h' he
    cases e with
    | returned v => exact put b v h' hb (by simp only [force_eq] at he; exact he)
    | panicked ch => exact ⟨hb, he⟩
    | outgrown => exact he
  | _ => exact hx

theorem ahalt_hhalt {b : Act} (hb : b.tmps.size = n) : ∀ x h, ahalt K (toAF b) x h → hhalt (post n K) b x h := by
  intro x h hx
  cases x <;> first | exact ⟨hb, hx⟩ | exact hx

theorem evOk (fr : Nat → Value) : ∀ f, evf fr (.func f) = .func (.func f) #[] #[] := fun _ => rfl

theorem aop_hopB {o : Oper} {b : Act} {h : Heap} {nextA : AF → Heap → Prop} {nextH : Act → Heap → Prop} (hb : b.tmps.size = n) (hd : dstOk n o.dst = true) (hn : nextOk n nextA nextH)
    (hh : aop P (compOp P o) (evf (toAF b).fr) h (anext P o.dst (toAF b) nextA K) (ahalt K (toAF b))) : hopB P (post n K) o nextH b h := by
  unfold hopB
  rw [eval_evf b]
  split
  · rename_i hq
    obtain ⟨v, k, hall⟩ := aop_quiet hq hh
    have h1 := hall (fun x h' => x = .value v) (fun _ _ => False) rfl
    have h2 := compOp_sound (q := true) (evOk _) (fun _ => rfl) (fun _ => hq) h1
    refine hw_mono _ _ _ _ _ _ ?_ ?_ (hw_true_heap _ _ _ _ h2)
    · rintro x h' ⟨rfl, rfl⟩
      exact ⟨v, rfl, anext_hnext hb hd hn _ _ k⟩
    · rintro x h' ⟨_, hf⟩; exact hf.elim
  · rename_i hq
    have h2 := compOp_sound (q := false) (evOk _) (fun _ => rfl) (fun e => by cases e) hh
    exact hw_mono _ _ _ _ _ _ (anext_hnext hb hd hn) (ahalt_hhalt hb) h2

theorem compOper_spec {ops : Array Oper} {o : Oper} {x : AOper} (hc : compOper P n ops o = some x) :
    dstOk n o.dst = true ∧ x.dst = o.dst ∧ x.op = compOp P o ∧
      ((o.guard = none ∧ x.guard = none) ∨ ∃ j w d, o.guard = some (j, w) ∧ (ops[j]?).bind (·.dst) = some d ∧ d < n ∧ x.guard = some (d, w)) := by
  unfold compOper at hc
  split at hc
  · cases hc
  · rename_i hd
    split at hc
    · rename_i hg; cases hc; exact ⟨hd, rfl, rfl, .inl ⟨hg, rfl⟩⟩
    · rename_i j w hg
      split at hc
      · rename_i d hdj
        split at hc
        · rename_i hlt; cases hc; exact ⟨hd, rfl, rfl, .inr ⟨j, w, d, hg, hdj, by simpa using hlt, rfl⟩⟩
        · cases hc
      · cases hc

theorem one_hopI {ops : Array Oper} {i : Nat} {o : Oper} {x : AOper} (ho : ops[i]? = some o) (hc : compOper P n ops o = some x) {next : AF → Heap → Prop} {b : Act} {h : Heap} (hb : b.tmps.size = n)
    {nextH : Act → Heap → Prop} (hn : nextOk n (next) nextH) (hh : aopN P x next K (toAF b) h) : hopI P ops (post n K) i nextH b h := by
  obtain ⟨hd, e1, e2, hg⟩ := compOper_spec hc
  unfold hopI
  simp only [ho]
  simp only [aopN] at hh
  rw [e1, e2] at hh
  have skip : next ⟨updO (toAF b).fr o.dst undef, (toAF b).df⟩ h → nextH (b.put o.dst undef) h := fun hk =>
    hn _ _ (by rw [put_size]; exact hb) (by rw [toAF_put (by rw [hb]; exact hd)]; exact hk)
  rcases hg with ⟨g1, g2⟩ | ⟨j, w, d, g1, g2, g3, g4⟩
  · rw [g2] at hh
    have hw' : Region.wanted o (yielded ops b.tmps) = true := by unfold Region.wanted; rw [g1]
    rw [if_pos hw']
    exact aop_hopB hb hd hn hh
  · rw [g4] at hh
    simp only at hh
    have hy : yielded ops b.tmps j = match (toAF b).fr d with | .bool t => some t | _ => none := by
      unfold yielded
      rw [g2]
      have hlt : d < b.tmps.size := by rw [hb]; exact g3
      show (match b.tmps[d]? with | some (.bool t) => some t | _ => none) = match b.tmps.getD d undef with | .bool t => some t | _ => none
      rw [Array.getElem?_eq_getElem hlt, Array.getD_eq_getD_getElem?, Array.getElem?_eq_getElem hlt]
      generalize b.tmps[d] = u
      cases u <;> rfl
    have hwd : Region.wanted o (yielded ops b.tmps) = (yielded ops b.tmps j == some w) := by unfold Region.wanted; rw [g1]
    rw [hwd, hy]
    split at hh
    · rename_i t ht
      rw [ht]
      cases w <;> obtain ⟨h1, h2⟩ := hh <;> cases t
      · rw [if_pos (by simp)]; exact aop_hopB hb hd hn (h2 rfl)
      · rw [if_neg (by simp)]; exact skip (h1 rfl)
      · rw [if_neg (by simp)]; exact skip (h2 rfl)
      · rw [if_pos (by simp)]; exact aop_hopB hb hd hn (h1 rfl)
    · rename_i hne
      have : (match (toAF b).fr d with | .bool t => some t | _ => (none : Option Bool)) = none := by
        cases hv : (toAF b).fr d <;> first | rfl | exact absurd hv (hne _)
      rw [this, if_neg (by simp)]
      exact skip hh

theorem compList_cons {ops : Array Oper} {i : Nat} {l : List Nat} {xs : List AOper} (hc : compList P n ops (i :: l) = some xs) :
    ∃ o x r, ops[i]? = some o ∧ compOper P n ops o = some x ∧ compList P n ops l = some r ∧ xs = x :: r := by
  simp only [compList] at hc
  split at hc
  · rename_i o ho
    split at hc
    · rename_i x r hx hr; cases hc; exact ⟨o, x, r, ho, hx, hr, rfl⟩
    · cases hc
  · cases hc

theorem aops_hops {ops : Array Oper} : ∀ (l : List Nat) (xs : List AOper) (b : Act) (h : Heap), compList P n ops l = some xs → b.tmps.size = n → aops P K xs (toAF b) h →
    hops P ops (post n K) l b h := by
  intro l
  induction l with
  | nil => intro xs b h hc hb hh; cases hc; exact ⟨hb, hh⟩
  | cons i l ih =>
    intro xs b h hc hb hh
    obtain ⟨o, x, r, ho, hx, hr, rfl⟩ := compList_cons hc
    have h1 := one_hopI ho hx hb (nextH := hops P ops (post n K) l) (fun b' h' hb' hk => ih r b' h' hr hb' hk) hh
    unfold hopI at h1
    simp only [hops]
    simp only [ho] at h1 ⊢
    split
    · rename_i hw'; rw [if_pos hw'] at h1; exact hop_of_hopB h1
    · rename_i hw'; rw [if_neg hw'] at h1; exact h1

theorem consAny_spec {w : List Nat} {x : AOper} {r : ACode} {a : AF} {h : Heap} (hh : aexec P (consAny w x r) K a h) : aopN P x (aexec P r K) (havoc w K) a h := by
  unfold consAny at hh
  split at hh
  · split at hh
    · rename_i e
      obtain rfl := of_decide_eq_true e
      exact hh
    · exact hh
  · split at hh
    · rename_i e
      obtain rfl := of_decide_eq_true e
      exact hh
    · exact hh
  · exact hh
def tsem (P : Program) (n : Nat) (ops : Array Oper) (w : List Nat) (K : APost) : PTree → AF → Heap → Prop
  | .done, a, h => K .normal a h
  | .take k t, a, h => ∃ o x, ops[k]? = some o ∧ compOper P n ops o = some x ∧ aopN P x (tsem P n ops w K t) (havoc w K) a h
  | .alt s t, a, h => tsem P n ops w K s a h ∧ tsem P n ops w K t a h
theorem tsem_mkAlt {ops : Array Oper} {w : List Nat} {a : AF} {h : Heap} : ∀ (ts : List (Nat × PTree)), tsem P n ops w K (mkAlt ts) a h →
    ∀ y ∈ ts, ∃ o x, ops[y.1]? = some o ∧ compOper P n ops o = some x ∧ aopN P x (tsem P n ops w K y.2) (havoc w K) a h
  | [], _, y, hy => by cases hy
  | [(k, t)], hh, y, hy => by
    obtain rfl : y = (k, t) := by simpa using hy
    exact hh
  | (k, t) :: y2 :: ts, hh, y, hy => by
    simp only [mkAlt, tsem] at hh
    rcases List.mem_cons.1 hy with rfl | hy
    · exact hh.1
    · exact tsem_mkAlt (y2 :: ts) hh.2 y hy
theorem mkAlt_tsem {ops : Array Oper} {w : List Nat} {a : AF} {h : Heap} : ∀ (ts : List (Nat × PTree)), ts ≠ [] → (∀ y ∈ ts, tsem P n ops w K (.take y.1 y.2) a h) → tsem P n ops w K (mkAlt ts) a h
  | [], hne, _ => absurd rfl hne
  | [(k, t)], _, hh => hh (k, t) (by simp)
  | (k, t) :: y2 :: ts, _, hh => by
    simp only [mkAlt, tsem]
    exact ⟨hh (k, t) (by simp), mkAlt_tsem (y2 :: ts) (by simp) fun y hy => hh y (List.mem_cons_of_mem _ hy)⟩
theorem compTree_tsem {ops : Array Oper} {w : List Nat} : ∀ (t : PTree) (c : ACode) (a : AF) (h : Heap), compTree P n ops w t = some c → aexec P c K a h → tsem P n ops w K t a h := by
  intro t
  induction t with
  | done => intro c a h hc hh; cases hc; exact hh
  | take k t ih =>
    intro c a h hc hh
    simp only [compTree] at hc
    split at hc
    · rename_i o ho
      split at hc
      · rename_i x r hx hr
        cases hc
        exact ⟨o, x, ho, hx, aopN_mono (fun a h k => ih r a h hr k) (fun _ _ _ k => k) (consAny_spec hh)⟩
      · cases hc
    · cases hc
  | alt s t ihs iht =>
    intro c a h hc hh
    simp only [compTree] at hc
    split at hc
    · rename_i x y hx hy
      cases hc
      obtain ⟨h1, h2⟩ := hh
      exact ⟨ihs x a h hx h1, iht y a h hy h2⟩
    · cases hc
theorem consAny_thenA {w : List Nat} {x : AOper} {r : ACode} {N : AF → Heap → Prop} {a : AF} {h : Heap} (hh : aexec P (consAny w x r) (thenA N K) a h) : aopN P x (aexec P r (thenA N K)) (havoc w K) a h :=
  consAny_spec hh
theorem compPT_tsem {ops : Array Oper} {w : List Nat} : ∀ (t : PT) (c : ACode) (rest : PTree) (N : AF → Heap → Prop) (a : AF) (h : Heap), compPT P n ops w t = some c → aexec P c (thenA N K) a h → (∀ a h, N a h → tsem P n ops w K rest a h) →
    tsem P n ops w K (flat t rest) a h ∧ ∀ y ∈ branches t rest, tsem P n ops w K (.take y.1 y.2) a h := by
  intro t
  induction t with
  | done => intro c rest N a h hc hh hn; cases hc; exact ⟨hn _ _ hh, by simp [branches]⟩
  | take k t ih =>
    intro c rest N a h hc hh hn
    simp only [compPT] at hc
    split at hc
    · rename_i o ho
      split at hc
      · rename_i x r hx hr
        cases hc
        have h1 : tsem P n ops w K (.take k (flat t rest)) a h := ⟨o, x, ho, hx, aopN_mono (fun a h k => (ih r rest N a h hr k hn).1) (fun _ _ _ k => k) (consAny_thenA hh)⟩
        refine ⟨h1, fun y hy => ?_⟩
        simp only [branches, List.mem_singleton] at hy
        subst hy
        exact h1
      · cases hc
    · cases hc
  | alt s t ihs iht =>
    intro c rest N a h hc hh hn
    simp only [compPT] at hc
    split at hc
    · rename_i i l x y hhd hx hy
      cases hc
      obtain ⟨h1, h2⟩ := hh
      have hall : ∀ y ∈ branches s rest ++ branches t rest, tsem P n ops w K (.take y.1 y.2) a h := by
        intro z hz
        rcases List.mem_append.1 hz with hz | hz
        · exact (ihs x rest N a h hx h1 hn).2 z hz
        · exact (iht y rest N a h hy h2 hn).2 z hz
      refine ⟨?_, by simpa only [branches] using hall⟩
      simp only [flat]
      refine mkAlt_tsem _ ?_ hall
      intro h0
      have := branches_heads rest s
      rw [(List.append_eq_nil_iff.1 h0).1, hhd] at this
      simp at this
    · cases hc
  | join s t ihs iht =>
    intro c rest N a h hc hh hn
    simp only [compPT] at hc
    split at hc
    · rename_i x y hx hy
      cases hc
      have h1 : aexec P x (thenA (aexec P y (thenA N K)) K) a h := by
        refine aexec_mono x ?_ a h (seq_go hh)
        intro e a' h' k
        cases e <;> exact k
      refine ⟨?_, by simp [branches]⟩
      simp only [flat]
      exact (ihs x (flat t rest) _ a h hx h1 fun a' h' k => (iht y rest N a' h' hy k hn).1).1
    · cases hc

theorem aops_hanyQ {ops : Array Oper} (hs : noSelect ops = true) {w : List Nat} (hw : ∀ (i : Nat) (o : Oper) (d : Nat), ops[i]? = some o → o.dst = some d → w.contains d = true) :
    ∀ (fuel : Nat) (listed : Array Bool) (t : PTree), Planned P ops fuel listed t → Closed ops listed → ∀ (b : Act) (h : Heap), b.tmps.size = n →
      tsem P n ops w K t (toAF b) h → hanyQ P ops (post n (havoc w K)) fuel listed b h := by
  intro fuel listed t hp
  induction hp with
  | nil fuel listed r =>
    intro hcl b h hb hh
    cases fuel with
    | zero => exact ⟨r, hb, hh⟩
    | succ fuel => exact ⟨fun _ => ⟨hb, hh⟩, by rw [r]; simp⟩
  | alts fuel listed ts ne r p ih =>
    intro hcl b h hb hh
    refine ⟨fun h0 => (by rw [r] at h0; exact absurd (List.map_eq_nil_iff.1 h0) ne), ?_⟩
    rw [r]
    intro i hi
    obtain ⟨y, hy, rfl⟩ := List.mem_map.1 hi
    obtain ⟨o, x, ho, hx, hk⟩ := tsem_mkAlt ts hh y hy
    exact one_hopI ho hx hb (fun b' h' hb' hk => ih y hy (hcl.set (by rw [r]; exact List.mem_map_of_mem hy)) b' h' hb' hk) hk
  | take fuel listed k t r f p ih =>
    intro hcl b h hb hh
    obtain ⟨o, x, ho, hx, hh⟩ := hh
    obtain ⟨hq, hfree⟩ := okFirst_spec ho f
    obtain ⟨hd, e1, e2, hg⟩ := compOper_spec hx
    have hQ : ∀ v, ∀ c a h, post n (havoc w K) (.panic c) (a.put o.dst v) h → post n (havoc w K) (.panic c) a h := by
      intro v c a h ⟨h1, h2⟩
      rw [put_size] at h1
      refine ⟨h1, fun fr' hfr => ?_⟩
      have := h2 fr' (fun t ht => by
        rw [hfr t ht, toAF_put (by rw [h1]; exact hd)]
        cases ho' : o.dst with
        | none => rfl
        | some d =>
          have hne : t ≠ d := fun e => by rw [e, hw k o d ho ho'] at ht; cases ht
          have e1 : Nat.beq t d = false := by
            cases hb : Nat.beq t d
            · rfl
            · exact absurd (Nat.eq_of_beq_eq_true hb) hne
          simp [updO, upd, e1])
      have e : (toAF (a.put o.dst v)).df = (toAF a).df := put_defers'
      rw [e] at this
      exact this
    -- the operation's own value
    simp only [aopN] at hh
    rw [e1, e2] at hh
    have go : ∀ (R : Heap → Heap → Prop) (Rr : ∀ h, R h h) (Rt : ∀ a b c, R a b → R b c → R a c)
        (hR : ∀ oj, ((pureK (compOp P o) = true ∨ quietK (compOp P oj) = true) ∨ (loadK (compOp P o) = true ∧ growO oj = true)) → FreeOf P R oj) (v : Value), Good P ops R o v b h → tsem P n ops w K t ⟨updO (toAF b).fr o.dst v, (toAF b).df⟩ h →
        hanyQ P ops (post n (havoc w K)) (fuel + 1) listed b h := by
      intro R Rr Rt hR v hy hk
      refine hanyQ_first Rr Rt ho hq (noSelect_spec hs) (hQ v) fuel listed b h hcl (fun j oj h1 h2 h3 h4 => ⟨(hfree j oj h1 h2 h3 h4).1, hR oj (hfree j oj h1 h2 h3 h4).2⟩) r hy ?_
      refine ih (hcl.set r) _ h (by rw [put_size]; exact hb) ?_
      rw [toAF_put (by rw [hb]; exact hd)]; exact hk
    have done : Region.wanted o (yielded ops b.tmps) = false → tsem P n ops w K t ⟨updO (toAF b).fr o.dst undef, (toAF b).df⟩ h → hanyQ P ops (post n (havoc w K)) (fuel + 1) listed b h := by
      intro h1 hk
      exact go (fun _ _ => True) (fun _ => trivial) (fun _ _ _ _ _ => trivial) (fun _ _ => .inr (.inl fun _ _ => trivial)) undef (.inr ⟨h1, rfl⟩) hk
    have run : Region.wanted o (yielded ops b.tmps) = true →
        aop P (compOp P o) (evf (toAF b).fr) h (anext P o.dst (toAF b) (tsem P n ops w K t) (havoc w K)) (ahalt (havoc w K) (toAF b)) → hanyQ P ops (post n (havoc w K)) (fuel + 1) listed b h := by
      intro hwd ha
      by_cases hp : pureK (compOp P o) = true
      · obtain ⟨v, k, hall⟩ := aop_pure hp ha
        refine go (fun _ _ => True) (fun _ => trivial) (fun _ _ _ _ _ => trivial) (fun _ _ => .inr (.inl fun _ _ => trivial)) v (.inl ⟨hwd, fun h' _ => ?_⟩) (by simp only [anext, force_eq] at k; exact k)
        rw [eval_evf b]
        exact compOp_sound (q := true) (evOk _) (fun _ => rfl) (fun _ => hq) (hall h' _ _ rfl)
      · by_cases hp2 : loadK (compOp P o) = true
        · obtain ⟨v, k, hall⟩ := aop_load hp2 ha
          refine go Grown' Grown'.refl (fun _ _ _ a b => a.trans b) (fun oj hj => ?_) v (.inl ⟨hwd, fun h' g => ?_⟩) (by simp only [anext, force_eq] at k; exact k)
          · rcases hj with (hj | hj) | hj
            · exact absurd hj hp
            · exact .inl hj
            · exact .inr (.inr ⟨hj.2, fun _ _ g => g⟩)
          · rw [eval_evf b]
            exact compOp_sound (q := true) (evOk _) (fun _ => rfl) (fun _ => hq) (hall h' _ _ g rfl)
        · obtain ⟨v, k, hall⟩ := aop_quiet hq ha
          refine go (fun h h' => h' = h) (fun _ => rfl) (fun a b c (e1 : b = a) (e2 : c = b) => by subst e1; exact e2) (fun oj hj => ?_) v (.inl ⟨hwd, fun h' hh' => ?_⟩) (by simp only [anext, force_eq] at k; exact k)
          · rcases hj with (hj | hj) | hj
            · exact absurd hj hp
            · exact .inl hj
            · exact absurd hj.1 hp2
          · obtain rfl : h' = h := hh'
            rw [eval_evf b]
            exact compOp_sound (q := true) (evOk _) (fun _ => rfl) (fun _ => hq) (hall _ _ rfl)
    rcases hg with ⟨g1, g2⟩ | ⟨j, ww, d, g1, g2, g3, g4⟩
    · rw [g2] at hh
      exact run (by unfold Region.wanted; rw [g1]) hh
    · rw [g4] at hh
      simp only at hh
      have hy : yielded ops b.tmps j = match (toAF b).fr d with | .bool t => some t | _ => none := by
        unfold yielded
        rw [g2]
        have hlt : d < b.tmps.size := by rw [hb]; exact g3
        show (match b.tmps[d]? with | some (.bool t) => some t | _ => none) = match b.tmps.getD d undef with | .bool t => some t | _ => none
        rw [Array.getElem?_eq_getElem hlt, Array.getD_eq_getD_getElem?, Array.getElem?_eq_getElem hlt]
        generalize b.tmps[d] = u
        cases u <;> rfl
      have hwd : Region.wanted o (yielded ops b.tmps) = (yielded ops b.tmps j == some ww) := by unfold Region.wanted; rw [g1]
      rw [hy] at hwd
      split at hh
      · rename_i t ht
        rw [ht] at hwd
        cases ww <;> obtain ⟨h1, h2⟩ := hh <;> cases t
        · exact run (by rw [hwd]; rfl) (h2 rfl)
        · exact done (by rw [hwd]; rfl) (h1 rfl)
        · exact done (by rw [hwd]; rfl) (h2 rfl)
        · exact run (by rw [hwd]; rfl) (h1 rfl)
      · rename_i hne
        have : (match (toAF b).fr d with | .bool t => some t | _ => (none : Option Bool)) = none := by
          cases hv : (toAF b).fr d <;> first | rfl | exact absurd hv (hne _)
        rw [this] at hwd
        exact done (by rw [hwd]; rfl) hh

end
end Go.H
