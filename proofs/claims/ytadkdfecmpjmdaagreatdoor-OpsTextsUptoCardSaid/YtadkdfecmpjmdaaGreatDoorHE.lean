import Derived.Test.YtadkdfecmpjmdaaGreatDoorHD
set_option linter.unusedVariables false
set_option linter.unusedSimpArgs false
namespace Go.H
section
variable {P : Program} {n : Nat}

theorem post_then {next : AF → Heap → Prop} {nextH : Act → Heap → Prop} {K : APost} (hn : nextOk n next nextH) : ∀ e b h, post n (thenA next K) e b h → thenH nextH (post n K) e b h := by
  intro e b h ⟨hb, hk⟩
  cases e with
  | normal => exact hn b h hb hk
  | exit id => exact ⟨hb, hk⟩
  | goto l => exact ⟨hb, hk⟩
  | ret => exact ⟨hb, hk⟩
  | panic ch => exact ⟨hb, hk⟩
  | outgrown => exact ⟨hb, hk⟩

theorem post_block {id : Nat} {K : APost} : ∀ e b h, post n (blockA id K) e b h → blockH id (post n K) e b h := by
  intro e b h ⟨hb, hk⟩
  cases e with
  | exit id' =>
    simp only [blockA] at hk
    simp only [blockH]
    by_cases e : id' = id
    · subst e
      rw [if_pos rfl]
      rw [Nat.beq_refl] at hk
      exact ⟨hb, hk⟩
    · rw [if_neg e]
      have e1 : Nat.beq id' id = false := by
        cases hb' : Nat.beq id' id
        · rfl
        · exact absurd (Nat.eq_of_beq_eq_true hb') e
      rw [e1] at hk
      exact ⟨hb, hk⟩
  | normal => exact ⟨hb, hk⟩
  | goto l => exact ⟨hb, hk⟩
  | ret => exact ⟨hb, hk⟩
  | panic ch => exact ⟨hb, hk⟩
  | outgrown => exact ⟨hb, hk⟩

theorem raw_sound {c : Code} {K : APost} {b : Act} {h : Heap} (hb : b.tmps.size = n) (hh : HRawC P c K (toAF b) h) : HWp P c (post n K) b h := by
  obtain ⟨k⟩ := hh
  exact (k b rfl).mono fun e b' h' ⟨h1, h2⟩ => ⟨by rw [h1, hb], h2⟩

theorem fold_ps (f : Array Value) : ∀ (ps : List Nat) (vs : List Value) (ts : Array Value), (∀ p ∈ ps, p < ts.size) →
    ((ps.zip vs).foldl (fun tmps (x : Nat × Value) => tmps.setIfInBounds x.1 x.2) ts).size = ts.size ∧
    (fun t => ((ps.zip vs).foldl (fun tmps (x : Nat × Value) => tmps.setIfInBounds x.1 x.2) ts).getD t undef) = setPs (fun t => ts.getD t undef) ps vs
  | [], vs, ts, _ => by simp [setPs]
  | p :: ps, [], ts, _ => by simp [setPs]
  | p :: ps, v :: vs, ts, hp => by
    obtain ⟨h1, h2⟩ := fold_ps f ps vs (ts.setIfInBounds p v) (fun q hq => by rw [Array.size_setIfInBounds]; exact hp q (by simp [hq]))
    have hlt : p < ts.size := hp p (by simp)
    refine ⟨by rw [List.zip_cons_cons, List.foldl_cons, h1, Array.size_setIfInBounds], ?_⟩
    rw [List.zip_cons_cons, List.foldl_cons, h2]
    show setPs _ ps vs = setPs (upd _ p v) ps vs
    congr 1
    funext t
    unfold upd
    by_cases e : t = p
    · subst e
      rw [Nat.beq_refl]
      simp [Array.getD_eq_getD_getElem?, hlt]
    · have e1 : Nat.beq t p = false := by
        cases hb' : Nat.beq t p
        · rfl
        · exact absurd (Nat.eq_of_beq_eq_true hb') e
      rw [e1]
      simp only [Array.getD_eq_getD_getElem?, cond_false]
      rw [Array.getElem?_setIfInBounds_ne (Ne.symm e)]
theorem enters {f : FuncId} (hg : goesIn P f = true) (args : Array Value) (w : World) : (callFunc f args).run P w = .ok (.enter f args) w := by
  have h1 : hw P true (callFunc f args) w.heap (fun a _ => a = Next.enter f args) (fun _ _ => False) := goes_callFunc hg rfl
  have h2 := hw_sound _ _ _ _ h1 w rfl
  generalize (callFunc f args).run P w = r at h2
  cases r with
  | ok v w' => obtain ⟨_, e1, e2⟩ := h2; rw [e1 rfl, e2]
  | halt hl w' => exact h2.2.2.elim
theorem range_sound {g : Operand} {ps : Array Tmp} {asn body : Code} {K : APost} {b : Act} {h : Heap} (hb : b.tmps.size = n) (hpx : plain asn = true) (hpl : plain body = true) (hps : ps.toList.all (Nat.blt · n) = true)
    (ihx : ∀ (K : APost) (b : Act) (h : Heap), b.tmps.size = n → aexec P (compCode P n asn) K (toAF b) h → HWp P asn (post n K) b h)
    (ih : ∀ (K : APost) (b : Act) (h : Heap), b.tmps.size = n → aexec P (compCode P n body) K (toAF b) h → HWp P body (post n K) b h)
    (hh : HRange P g ps.toList (aexec P (compCode P n asn)) (aexec P (compCode P n body)) K (toAF b) h) : HWp P (.rangeFunc g ps asn body) (post n K) b h := by
  intro ro w hp hw
  subst hw
  cases ro with
  | some l => cases hp rfl
  | none =>
  obtain ⟨gf, lb, hg, hgo, k⟩ := hh
  have hg' : b.eval g = .func (.func gf) #[] lb := by rw [eval_evf]; exact hg
  refine wpIn_rangeFunc (fun fn _ => ?_)
  let rec' : Rec := fun st pe => { state := st, pending := pe, fn, tmps := b.tmps, params := ps, assign := asn, body, defers := w.heap.size }
  have hcalls := k rec' ?_
  · refine ⟨w.heap.size + 1, [markAt w.heap.size], (w.alloc (.deferred (some []))).alloc (.loop (rec' .ready none)), { target := .fn (.func gf) lb, args := #[.func (.yield (w.heap.size + 1)) #[] #[]] },
      (w.alloc (.deferred (some []))).alloc (.loop (rec' .ready none)), gf, #[.func (.yield (w.heap.size + 1)) #[] #[]] ++ lb, (w.alloc (.deferred (some []))).alloc (.loop (rec' .ready none)), run_enterLoop_outer _ _ _ _ _, ?_, fun _ _ => trivial, ?_, fun e => (by cases e), ?_⟩
    · simp only [resolve, hg']
      simp [go_sem]
    · simp [invoke, go_sem, enters hgo]
    · have ea : #[Value.func (.yield (w.heap.size + 1)) #[] #[]] ++ lb = (Value.func (.yield (w.heap.size + 1)) #[] #[] :: lb.toList).toArray := by apply Array.ext'; simp
      rw [ea]
      have h1 : CallsIn Fence.wide 0 P gf _ ((w.alloc (.deferred (some []))).alloc (.loop (rec' .ready none))) _ := callsIn_wide.2 (hcalls ((w.alloc (.deferred (some []))).alloc (.loop (rec' .ready none))) rfl)
      have h2 : CallsIn (fw none) (0 - 1) P gf _ ((w.alloc (.deferred (some []))).alloc (.loop (rec' .ready none))) _ := h1
      refine h2.mono ?_
      rintro e w' ⟨s, r⟩
      have s0 : Side w w' := ⟨s.os, s.tape, s.output⟩
      cases e with
      | returned v =>
        obtain ⟨st, pe, h1, h2, h3⟩ := r
        refine ⟨pe, _, run_endLoop h1 h2, ?_⟩
        cases pe with
        | none => exact ⟨⟨s0.os, s0.tape, s0.output⟩, hb, h3⟩
        | some c => cases c <;> first | exact wpIn_ret ⟨⟨s0.os, s0.tape, s0.output⟩, hb, h3⟩ | exact wpIn_exit ⟨⟨s0.os, s0.tape, s0.output⟩, hb, h3⟩ | exact h3.elim
      | panicked ch => exact ⟨s0, hb, r⟩
      | outgrown => exact r.elim
  · intro args h' R hlen hl hbody
    refine ⟨rec' .ready none, hl, by simpa using hlen, ?_⟩
    intro w1 hw1
    subst hw1
    have hps' : ∀ p ∈ ps.toList, p < b.tmps.size := fun p hp => by
      rw [List.all_eq_true] at hps
      rw [hb]
      have h1 := hps p hp
      rw [Nat.blt_eq] at h1
      exact h1
    obtain ⟨f1, f2⟩ := fold_ps #[] ps.toList args b.tmps hps'
    have fe : (ps.zip args.toArray).foldl (fun tmps (x : Nat × Value) => tmps.setIfInBounds x.1 x.2) b.tmps = (ps.toList.zip args).foldl (fun tmps (x : Nat × Value) => tmps.setIfInBounds x.1 x.2) b.tmps := by
      rw [← Array.foldl_toList]; congr 1; simp
    refine roundIn_of_wpIn trivial ?_
    show asn.wpIn (fw (some (w.heap.size + 1))) 0 P _ { tmps := (ps.zip args.toArray).foldl (fun tmps (x : Nat × Value) => tmps.setIfInBounds x.1 x.2) b.tmps, defers := [] } _
    rw [fe]
    have e2 : toAF { tmps := (ps.toList.zip args).foldl (fun tmps (x : Nat × Value) => tmps.setIfInBounds x.1 x.2) b.tmps, defers := [] } = ⟨setPs (toAF b).fr ps.toList args, []⟩ := by
      unfold toAF; rw [f2]
    rw [← e2] at hbody
    refine wpIn_mono (ihx _ _ _ (by rw [f1, hb]) hbody (some (w.heap.size + 1)) _ (fun _ => hpx) rfl) ?_
    rintro e a2 w2 ⟨s2, hb2, r2⟩
    cases e with
    | normal =>
      obtain ⟨hl2, r2⟩ := r2
      refine ⟨_, run_beginRound hl2 rfl, ?_⟩
      show body.wpIn (fw (some (w.heap.size + 1))) 0 P _ a2 _
      refine wpIn_mono (ih _ _ _ hb2 r2 (some (w.heap.size + 1)) _ (fun _ => hpl) rfl) ?_
      rintro e a3 w3 ⟨s, _, r⟩
      have s0 : Side w1 w3 := s2.trans ⟨s.os, s.tape, s.output⟩
      cases e with
      | normal => obtain ⟨⟨st, pe, h1⟩, r⟩ := r; exact ⟨_, _, run_endRound none h1, ⟨s0.os, s0.tape, s0.output⟩, r⟩
      | ret => obtain ⟨⟨st, pe, h1⟩, r⟩ := r; exact ⟨_, _, run_endRound (some .ret) h1, ⟨s0.os, s0.tape, s0.output⟩, r⟩
      | exit id => obtain ⟨⟨st, pe, h1⟩, r⟩ := r; exact ⟨_, _, run_endRound (some (.exit id)) h1, ⟨s0.os, s0.tape, s0.output⟩, r⟩
      | goto l => exact r.elim
      | panic ch => exact r.elim
      | outgrown => exact r.elim
    | _ => exact r2.elim

theorem aexec_sound : ∀ (c : Code) (K : APost) (b : Act) (h : Heap), b.tmps.size = n → aexec P (compCode P n c) K (toAF b) h → HWp P c (post n K) b h := by
  intro c
  induction c with
  | skip => intro K b h hb hh; exact hwp_skip ⟨hb, hh⟩
  | region id ops d =>
    intro K b h hb hh
    simp only [compCode] at hh
    cases d with
    | false =>
      simp only at hh
      split at hh
      · rename_i l hl
        exact hwp_region (aops_hops _ _ b h hl hb hh)
      · exact raw_sound hb hh
    | true =>
      simp only at hh
      have fin : ∀ (tr : PTree), noSelect ops = true → P.follows .mixedOrders = true → Planned P ops ops.size (Array.replicate ops.size false) tr → tsem P n ops (ops.toList.filterMap fun (x : Oper) => x.dst) K tr (toAF b) h → HWp P (.region id ops true) (post n K) b h := by
        intro tr hs hm p ht
        refine (hwp_region_any hm (hany_of_hanyQ _ _ _ _ (aops_hanyQ (K := K) (w := ops.toList.filterMap fun (x : Oper) => x.dst) hs ?_ _ _ _ p (Closed.start _ _) b h hb ht))).mono ?_
        · intro i o d ho hd
          rw [List.contains_iff_mem]
          refine List.mem_filterMap.2 ⟨o, ?_, hd⟩
          rw [← Array.getElem?_toList] at ho
          exact List.mem_of_getElem? ho
        · intro e b' h' ⟨h1, h2⟩
          refine ⟨h1, ?_⟩
          cases e with
          | panic ch => exact h2 _ fun _ _ => rfl
          | normal => exact h2
          | exit id => exact h2
          | goto l => exact h2
          | ret => exact h2
          | outgrown => exact h2
      split at hh
      · split at hh
        · rename_i tr hs hm hp
          split at hh
          · rename_i c hc
            exact fin tr hs hm (plan_planned _ _ _ hp) (compTree_tsem tr c _ _ hc hh)
          · exact raw_sound hb hh
        · exact raw_sound hb hh
      · split at hh
        · rename_i tr hs hm hp
          split at hh
          · rename_i l c hv hc
            split at hh
            · rename_i hr
              refine fin (flat tr .done) hs hm ((verify_planned P ops tr .done _ _ l.1 l.2 (.nil _ _ hr)).1 hv) ?_
              refine (compPT_tsem tr c .done (fun a h => K .normal a h) _ _ hc (aexec_mono c ?_ _ _ hh) fun _ _ k => k).1
              intro e a' h' k
              cases e <;> exact k
            · exact raw_sound hb hh
          · exact raw_sound hb hh
        · exact raw_sound hb hh
  | seq x y ihx ihy =>
    intro K b h hb hh
    simp only [compCode, aexec] at hh
    refine hwp_seq ?_
    have key : aexec P (compCode P n x) (thenA (aexec P (compCode P n y) K) K) (toAF b) h := by
      split at hh
      · exact hh
      · obtain ⟨k⟩ := hh; exact k
    exact (ihx _ b h hb key).mono (post_then fun b' h' hb' hk => ihy K b' h' hb' hk)
  | cond c x y ihx ihy =>
    intro K b h hb hh
    simp only [compCode, aexec] at hh
    split at hh
    · rename_i t ht
      obtain ⟨h1, h2⟩ := hh
      refine hwp_cond (t := t) (by rw [eval_evf]; exact ht) ?_
      cases t with
      | true => exact ihx K b h hb (h1 rfl)
      | false => exact ihy K b h hb (h2 rfl)
    · exact hh.elim
  | block id c ih =>
    intro K b h hb hh
    exact hwp_block ((ih _ b h hb hh).mono post_block)
  | loop c ih =>
    intro K b h hb hh
    simp only [compCode, aexec] at hh
    obtain ⟨I, μ, start, round⟩ := hh
    refine hwp_loop (fun b h => b.tmps.size = n ∧ I (toAF b) h) (fun b h => μ (toAF b) h) ⟨hb, start⟩ ?_
    rintro b' h' ⟨hb', hi⟩
    refine (ih _ b' h' hb' (round _ _ hi)).mono (post_then ?_)
    intro b'' h'' hb'' ⟨k1, k2⟩
    exact ⟨⟨hb'', k1⟩, k2⟩
  | exit id => intro K b h hb hh; exact hwp_exit ⟨hb, hh⟩
  | ret => intro K b h hb hh; exact hwp_ret ⟨hb, hh⟩
  | rangeFunc f ps a c iha ihc =>
    intro K b h hb hh
    simp only [compCode] at hh
    cases hx : (plain a && plain c && ps.toList.all (Nat.blt · n)) with
    | true =>
      rw [hx] at hh
      rw [Bool.and_eq_true, Bool.and_eq_true] at hx
      exact range_sound hb hx.1.1 hx.1.2 hx.2 iha ihc hh
    | false => rw [hx] at hh; exact raw_sound hb hh
  | scope c _ => intro K b h hb hh; exact raw_sound hb hh
  | label l => intro K b h hb hh; exact raw_sound hb hh
  | goto l => intro K b h hb hh; exact raw_sound hb hh
  | refuse w => intro K b h hb hh; exact raw_sound hb hh

/-! ### A function -/

inductive ARes where
  | slot (t : Nat)
  | cell1 (t : Nat)
  | cellN (t n : Nat)
  deriving Inhabited

def compRes (P : Program) (n : Nat) : List ResultVar → Option (List ARes)
  | [] => some []
  | .tmp t :: l => match compRes P n l with
    | some r => some (.slot t :: r)
    | none => none
  | .cell a t :: l => match compRes P n l, isAggT P t, sizeOfT P t with
    | some r, some true, some m => some (.cellN a m :: r)
    | some r, some false, _ => some (.cell1 a :: r)
    | _, _, _ => none

def ares (fr : Nat → Value) (h : Heap) : List ARes → (List Value → Prop) → Prop
  | [], K => K []
  | .slot t :: l, K => ares fr h l fun vs => K (fr t :: vs)
  | .cell1 t :: l, K => match fr t with
    | .pointer (some a) => HLoad h a fun v => ares fr h l fun vs => K (v :: vs)
    | _ => False
  | .cellN t n :: l, K => match fr t with
    | .pointer (some a) => HLoadN h a n fun v => ares fr h l fun vs => K (v :: vs)
    | _ => False

def oneOrMore : List Value → Value
  | [v] => v
  | vs => .tuple vs.toArray

theorem ares_hw {fr : Nat → Value} {tmps : Array Value} (hf : ∀ t, tmps.getD t undef = fr t) {h : Heap} : ∀ (rs : List ResultVar) (as : List ARes) (K : List Value → Prop), compRes P n rs = some as → ares fr h as K →
    ∃ vs, K vs ∧ ∀ (E : Halt → Heap → Prop) (Q : List Value → Heap → Prop), Q vs h → hw P true (rs.mapM fun x => match x with
      | .tmp t => pure (tmps.getD t undef)
      | .cell a t => (do loadVar t (← asAddr (tmps.getD a undef)) : Sem Value)) h Q E := by
  intro rs
  induction rs with
  | nil => intro as K hc hh; cases hc; exact ⟨[], hh, fun E Q hq => hq⟩
  | cons x rs ih =>
    intro as K hc hh
    cases x with
    | tmp t =>
      simp only [compRes] at hc
      split at hc
      · rename_i r hr
        cases hc
        obtain ⟨vs, hk, hall⟩ := ih r _ hr hh
        refine ⟨fr t :: vs, hk, fun E Q hq => ?_⟩
        rw [List.mapM_cons, hw_bind', hw_pure, hf, hw_bind']
        exact hall E _ hq
      · cases hc
    | cell a t =>
      simp only [compRes] at hc
      split at hc
      · rename_i r m hr ha hs
        cases hc
        simp only [ares] at hh
        split at hh
        · rename_i p hp
          obtain ⟨vs, l, e, k⟩ := hh
          obtain ⟨vs', hk, hall⟩ := ih r _ hr k
          refine ⟨_, hk, fun E Q hq => ?_⟩
          rw [List.mapM_cons, hw_bind']
          show hw P true (asAddr (tmps.getD a undef) >>= fun p => loadVar t p) h _ E
          rw [hf, hp]
          show hw P true (loadVar t p) h _ E
          unfold loadVar
          rw [hw_bind', hw_isAgg ha]
          simp only [if_true]
          rw [hw_bind', hw_size hs, hw_bind']
          refine hw_loadCells l e ?_
          rw [hw_pure, hw_bind']
          exact hall E _ hq
        · exact hh.elim
      · rename_i r hr ha
        cases hc
        simp only [ares] at hh
        split at hh
        · rename_i p hp
          obtain ⟨v, e, k⟩ := hh
          obtain ⟨vs', hk, hall⟩ := ih r _ hr k
          refine ⟨_, hk, fun E Q hq => ?_⟩
          rw [List.mapM_cons, hw_bind']
          show hw P true (asAddr (tmps.getD a undef) >>= fun p => loadVar t p) h _ E
          rw [hf, hp]
          show hw P true (loadVar t p) h _ E
          unfold loadVar
          rw [hw_bind', hw_isAgg ha]
          simp only [Bool.false_eq_true, if_false]
          rw [hw_load e, hw_bind']
          exact hall E _ hq
        · exact hh.elim
      · cases hc

theorem results_run {fn : Func} {as : List ARes} {b : Act} {w : World} {K : Value → Prop} (hc : compRes P n fn.results.toList = some as)
    (hh : ares (toAF b).fr w.heap as fun vs => K (oneOrMore vs)) : ∃ v, (results fn b.tmps).run P w = .ok v w ∧ K v := by
  obtain ⟨vs, hk, hall⟩ := ares_hw (tmps := b.tmps) (fun _ => rfl) _ _ _ hc hh
  refine ⟨oneOrMore vs, ?_, hk⟩
  have h1 : hw P true (results fn b.tmps) w.heap (fun v _ => v = oneOrMore vs) (fun _ _ => False) := by
    unfold results
    rw [hw_bind', Array.mapM_eq_mapM_toList, map_eq_pure_bind, hw_bind']
    refine hall _ _ ?_
    rw [hw_pure, hw_pure]
    match vs with
    | [] => rfl
    | [v] => rfl
    | v :: u :: vs => simp [oneOrMore]
  have h2 := hw_sound _ _ _ _ h1 w rfl
  generalize (results fn b.tmps).run P w = r at h2
  cases r with
  | ok v w' => obtain ⟨_, e1, e2⟩ := h2; rw [e1 rfl, e2]
  | halt hl w' => exact h2.2.2.elim

def initFr : List Value → Nat → Value
  | [], _ => undef
  | v :: vs, i => match i with
    | 0 => v
    | i + 1 => initFr vs i

theorem initFr_eq : ∀ (vs : List Value) (m t : Nat), ((vs ++ List.replicate m undef)[t]?).getD undef = initFr vs t
  | [], m, t => by
    rw [List.nil_append, List.getElem?_replicate]
    split <;> rfl
  | v :: vs, m, 0 => rfl
  | v :: vs, m, t + 1 => by
    simp only [List.cons_append, List.getElem?_cons_succ]
    exact initFr_eq vs m t

def abody (as : List ARes) (R : Ending → Heap → Prop) (e : Exit) (a : AF) (h : Heap) : Prop :=
  match e with
  | .normal => match a.df with
    | [] => ares a.fr h as fun vs => R (.returned (oneOrMore vs)) h
    | _ => False
  | .ret => match a.df with
    | [] => ares a.fr h as fun vs => R (.returned (oneOrMore vs)) h
    | _ => False
  | .panic ch => match a.df with
    | [] => R (.panicked ch) h
    | _ => False
  | _ => False

theorem hcalls_of {f : FuncId} {fn : Func} {c : Code} {ac : ACode} {as : List ARes} {args : Array Value} {h : Heap} {R : Ending → Heap → Prop}
    (hf : P.funcs[f]? = some fn) (hb : fn.body = some c) (hn : fn.ntmps = n) (hc : compCode P n c = ac) (hr : compRes P n fn.results.toList = some as) (ha : args.size ≤ n)
    (hh : aexec P ac (abody as R) ⟨initFr args.toList, []⟩ h) : HCalls P f args h R := by
  intro w hw
  subst hw hc
  refine calls_of_wp hf hb ?_
  let b : Act := { tmps := args ++ Array.replicate (fn.ntmps - args.size) undef, defers := [] }
  have hsz : b.tmps.size = n := by simp [b, hn]; omega
  have htb : toAF b = ⟨initFr args.toList, []⟩ := by
    unfold toAF
    congr 1
    funext t
    rw [Array.getD_eq_getD_getElem?, ← Array.getElem?_toList]
    simp only [b, Array.toList_append, Array.toList_replicate]
    exact initFr_eq _ _ _
  rw [← htb] at hh
  refine wp_mono ((aexec_sound c _ b w.heap hsz hh).wp w rfl) ?_
  rintro e b' w' ⟨s, hb', hk⟩
  have res : ∀ K : Value → Prop, (match (toAF b').df with | [] => ares (toAF b').fr w'.heap as fun vs => K (oneOrMore vs) | _ => False) →
      b'.defers = [] ∧ ∃ v, (results fn b'.tmps).run P w' = .ok v w' ∧ K v := by
    intro K hk
    split at hk
    · rename_i hd; exact ⟨hd, results_run hr hk⟩
    · exact hk.elim
  cases e with
  | normal =>
    obtain ⟨hd, v, h1, h2⟩ := res (fun v => R (.returned v) w'.heap) hk
    exact ⟨hd, v, h1, s, h2⟩
  | ret =>
    obtain ⟨hd, v, h1, h2⟩ := res (fun v => R (.returned v) w'.heap) hk
    exact ⟨hd, v, h1, s, h2⟩
  | panic ch =>
    simp only [abody] at hk
    split at hk
    · rename_i hd; exact ⟨hd, s, hk⟩
    · exact hk.elim
  | exit id => exact hk.elim
  | goto l => exact hk.elim
  | outgrown => exact hk.elim

end
end Go.H
