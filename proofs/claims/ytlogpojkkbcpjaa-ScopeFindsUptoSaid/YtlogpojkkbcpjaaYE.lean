/- scope.early: what stands at a place may not be said. -/
import Derived.Test.YtlogpojkkbcpjaaYD
set_option linter.unusedVariables false
set_option linter.unusedSimpArgs false
namespace Go.Proofs.Ytlogpojkkbcpjaa.Hc
open Go Go.H Go.Proofs
set_option maxRecDepth 100000
set_option maxHeartbeats 8000000
/-- What is around a place. -/
structure Env where
  labels : List (ByteArray × Bool)
  breaks : Bool
  goes : Bool
  inside : Bool
def PRep (h : Heap) (d : NT) (v : Env) (cs : List Value) : Prop := ∃ ncs lb, cs = ncs ++ [.pointer lb, .bool v.breaks, .bool v.goes, .bool v.inside] ∧ TRep h d ncs ∧ LRep h v.labels lb
abbrev zeroP : List Value := [.int .i64 0, .string ⟨#[]⟩, .int .i64 0, .string ⟨#[]⟩, .slice none 0 0, .slice none 0 0, .pointer none, .bool false, .bool false, .bool false]
def kidName (l : List NT) (i : Nat) : ByteArray := match l[i]? with
  | some d => d.name
  | none => ⟨#[]⟩
def earlyB (d : NT) (v : Env) : Bool :=
  if d.kind = 23 ∨ d.kind = 35 then bannedB d.name else
  if d.kind = 39 ∨ d.kind = 10 then bannedB d.name || d.names.any bannedB || !distinctB d.names else
  if d.kind = 20 ∨ d.kind = 16 ∨ d.kind = 30 then (kidKind d.l 0 == 3) && bannedB (kidName d.l 0) else
  if d.kind = 15 then strEq d.name ⟨#[100, 101, 108, 101, 116, 101]⟩ && (kidKind d.l 0 == 3) else
  if d.kind = 8 then !distinctB (d.l.map NT.text) else
  if d.kind = 33 then !v.inside else
  if d.kind = 31 then (strEq d.name ⟨#[]⟩ && !v.breaks) || (!strEq d.name ⟨#[]⟩ && (findL d.name v.labels).isEmpty) else
  if d.kind = 32 then (if strEq d.name ⟨#[]⟩ = true then !v.goes else match findL d.name v.labels with
    | [] => true
    | x :: _ => !x.2) else
  if d.kind = 38 then !(findL d.name v.labels).isEmpty else false
theorem earlyB_mk (k : Int) (nm : ByteArray) (n : Int) (t : ByteArray) (ns : List ByteArray) (l : List NT) (v : Env) : earlyB (.mk k nm n t ns l) v = (
  if k = 23 ∨ k = 35 then bannedB nm else
  if k = 39 ∨ k = 10 then bannedB nm || ns.any bannedB || !distinctB ns else
  if k = 20 ∨ k = 16 ∨ k = 30 then (kidKind l 0 == 3) && bannedB (kidName l 0) else
  if k = 15 then strEq nm ⟨#[100, 101, 108, 101, 116, 101]⟩ && (kidKind l 0 == 3) else
  if k = 8 then !distinctB (l.map NT.text) else
  if k = 33 then !v.inside else
  if k = 31 then (strEq nm ⟨#[]⟩ && !v.breaks) || (!strEq nm ⟨#[]⟩ && (findL nm v.labels).isEmpty) else
  if k = 32 then (if strEq nm ⟨#[]⟩ = true then !v.goes else match findL nm v.labels with
    | [] => true
    | x :: _ => !x.2) else
  if k = 38 then !(findL nm v.labels).isEmpty else false) := rfl
/-- A load of a kid's name. -/
theorem tname {h : Heap} {a : Option Addr} {c : Nat} {xs : List Value} {l : List NT} {p : Addr} {i : Nat} {K : Value → Prop} (x : Sl h 6 a l.length c xs) (r : TReps h l xs) (ep : a = some p) (hi : i < l.length)
    (k : K (.string l[i].name)) : HLoad h ((p.add (i * 6)).add 1) K := by
  obtain ⟨cs, r1, r2⟩ := r.els.get (fun _ _ r => r.len) i hi
  refine ⟨_, ?_, k⟩
  rw [add_add, x.2.2.2 p ep (i * 6 + 1) (by omega), r2 1 (by omega)]
  cases hd : l[i] with
  | mk kk nm n t ns kl =>
  rw [hd] at r1
  simp only [TRep] at r1
  obtain ⟨_, _, _, _, _, _, _, ka, kc, la, lc, ys, rfl, _⟩ := r1
  rfl
theorem isNil_of {h : Heap} {l : List (ByteArray × Bool)} {a : Option Addr} (r : LRep h l a) : a.isNone = l.isEmpty := by
  cases l with
  | nil => simp only [LRep] at r; subst r; rfl
  | cons x l => obtain ⟨b, up, rfl, _⟩ := r; rfl
theorem early_spec {h : Heap} {d : NT} {v : Env} {cs : List Value} (r : PRep h d v cs) (hk : okT d = true) : HCalls Try.prog 24 #[.agg cs.toArray] h fun e h' => e = .returned (.bool (earlyB d v)) ∧ Ext h h' := by
  cases d with
  | mk k nm n t ns l =>
  obtain ⟨ncs, lb, rfl, r, rl⟩ := r
  simp only [TRep] at r
  obtain ⟨b1, b2, b3, b4, b5, b6, b7, ka, kc, la, lc, ys, rfl, s1, s2, s3⟩ := r
  simp only [List.cons_append, List.nil_append]
  generalize hz : earlyB (.mk k nm n t ns l) v = z
  refine c24 (by simp) ?_
  ((conv=>whnf);repeat((first|(with_reducible first|refine Z1 ?_|refine Z2 ?_|refine Z3 ?_|refine Z4 ?_|refine Z5 ?_|refine Z9 (by assumption) rfl ?_|refine ZA (by assumption) rfl ?_|refine ZB (by assumption) rfl ?_|refine Z6 ?_|refine Z7 ?_|refine Z8 ?_)|((with_reducible refine ZM ?_ ?_);(focus rfl)));(conv=>whnf)))
  refine new_var (e := 45) [.int .i64 k, .string nm, .int .i64 n, .string t, .slice ka ns.length kc, .slice la l.length lc, .pointer lb, .bool v.breaks, .bool v.goes, .bool v.inside] rfl ?_
  intro h1 bp o1 x1 z1 hbp
  ((conv=>whnf);repeat((first|(with_reducible first|refine Z1 ?_|refine Z2 ?_|refine Z3 ?_|refine Z4 ?_|refine Z5 ?_|refine Z9 (by assumption) rfl ?_|refine ZA (by assumption) rfl ?_|refine ZB (by assumption) rfl ?_|refine Z6 ?_|refine Z7 ?_|refine Z8 ?_)|((with_reducible refine ZM ?_ ?_);(focus rfl)));(conv=>whnf)))
  refine ldP o1 rfl rfl ?_
  ((conv=>whnf);repeat((first|(with_reducible first|refine Z1 ?_|refine Z2 ?_|refine Z3 ?_|refine Z4 ?_|refine Z5 ?_|refine Z9 (by assumption) rfl ?_|refine ZA (by assumption) rfl ?_|refine ZB (by assumption) rfl ?_|refine Z6 ?_|refine Z7 ?_|refine Z8 ?_)|((with_reducible refine ZM ?_ ?_);(focus rfl)));(conv=>whnf)))
  refine new_var (e := 26) zeroT rfl ?_
  intro h2 bn o2 x2 z2 hbn
  have o1 := o1.ext x2
  ((conv=>whnf);repeat((first|(with_reducible first|refine Z1 ?_|refine Z2 ?_|refine Z3 ?_|refine Z4 ?_|refine Z5 ?_|refine Z9 (by assumption) rfl ?_|refine ZA (by assumption) rfl ?_|refine ZB (by assumption) rfl ?_|refine Z6 ?_|refine Z7 ?_|refine Z8 ?_)|((with_reducible refine ZM ?_ ?_);(focus rfl)));(conv=>whnf)))
  refine store_blk o2 (by simp) (by simp [isOne]) ?_
  intro h3 f3 z3 o3
  replace o3 : BlkW h3 bn 26 [.int .i64 k, .string nm, .int .i64 n, .string t, .slice ka ns.length kc, .slice la l.length lc] := by simpa using o3
  have hb := o1.lt
  have hb1 := x1.1
  have hb2 := x2.1
  have o1 := o1.offk f3 (by omega)
  have x3 : Ext h h3 := (x1.trans x2).offNew f3 (by omega)
  clear o2
  have s1 := s1.ext x3
  have s2 := s2.ext x3
  have s3 := s3.ext x3
  have rl := rl.ext x3
  rw [earlyB_mk] at hz
  simp only [okT, Bool.and_eq_true] at hk
  have hneed : needs k = true → 0 < l.length := by
    intro e
    have := hk.1
    rw [e, Bool.not_true, Bool.false_or] at this
    have := of_decide_eq_true this
    omega
  by_cases hA : k = 23 ∨ k = 35
  · rw [if_pos hA] at hz
    subst hz
    have qs : (k == 23) = true ∨ ((k == 23) = false ∧ (k == 35) = true) := by rcases hA with rfl | rfl <;> decide
    rcases qs with q | ⟨q, q2⟩
    · ((conv=>whnf);repeat((first|(with_reducible first|refine Z1 ?_|refine Z2 ?_|refine Z3 ?_|refine Z4 ?_|refine Z5 ?_|refine Z9 (by assumption) rfl ?_|refine ZA (by assumption) rfl ?_|refine ZB (by assumption) rfl ?_|refine Z6 ?_|refine Z7 ?_|refine Z8 ?_)|((with_reducible refine ZM ?_ ?_);(focus rfl)));(conv=>whnf)))
      refine HCall.mk ((banned_spec nm h3).mono ?_)
      rintro e h4 ⟨rfl, rfl⟩
      ((conv=>whnf);repeat((first|(with_reducible first|refine Z1 ?_|refine Z2 ?_|refine Z3 ?_|refine Z4 ?_|refine Z5 ?_|refine Z9 (by assumption) rfl ?_|refine ZA (by assumption) rfl ?_|refine ZB (by assumption) rfl ?_|refine Z6 ?_|refine Z7 ?_|refine Z8 ?_)|((with_reducible refine ZM ?_ ?_);(focus rfl)));(conv=>whnf)))
      exact ⟨rfl, x3⟩
    · ((conv=>whnf);repeat((first|(with_reducible first|refine Z1 ?_|refine Z2 ?_|refine Z3 ?_|refine Z4 ?_|refine Z5 ?_|refine Z9 (by assumption) rfl ?_|refine ZA (by assumption) rfl ?_|refine ZB (by assumption) rfl ?_|refine Z6 ?_|refine Z7 ?_|refine Z8 ?_)|((with_reducible refine ZM ?_ ?_);(focus rfl)));(conv=>whnf)))
      refine HCall.mk ((banned_spec nm h3).mono ?_)
      rintro e h4 ⟨rfl, rfl⟩
      ((conv=>whnf);repeat((first|(with_reducible first|refine Z1 ?_|refine Z2 ?_|refine Z3 ?_|refine Z4 ?_|refine Z5 ?_|refine Z9 (by assumption) rfl ?_|refine ZA (by assumption) rfl ?_|refine ZB (by assumption) rfl ?_|refine Z6 ?_|refine Z7 ?_|refine Z8 ?_)|((with_reducible refine ZM ?_ ?_);(focus rfl)));(conv=>whnf)))
      exact ⟨rfl, x3⟩
  rw [if_neg hA] at hz
  have qA1 : (k == 23) = false := beq_eq_false_iff_ne.2 fun e => hA (.inl e)
  have qA2 : (k == 35) = false := beq_eq_false_iff_ne.2 fun e => hA (.inr e)
  clear hA
  by_cases hB : k = 39 ∨ k = 10
  · rw [if_pos hB] at hz
    have qs : (k == 39) = true ∨ ((k == 39) = false ∧ (k == 10) = true) := by rcases hB with rfl | rfl <;> decide
    have cb : HCalls Try.prog 36 #[.slice ka ns.length kc, .func (.func 35) #[] #[]] h3 fun e h' => e = .returned (.bool (ns.any bannedB)) ∧ h' = h3 :=
      containsFunc_spec (by kernel_rfl) (fun s _ => banned_spec s h3) s1 b5
    have cd := distinct_spec b5 s1
    have fin : ∀ {K : Ending → Heap → Prop}, (∀ h', Ext h h' → K (.returned (.bool z)) h') → ∀ h', Ext h h' → K (.returned (.bool z)) h' := fun k => k
    rcases qs with q | ⟨q, q2⟩
    · ((conv=>whnf);repeat((first|(with_reducible first|refine Z1 ?_|refine Z2 ?_|refine Z3 ?_|refine Z4 ?_|refine Z5 ?_|refine Z9 (by assumption) rfl ?_|refine ZA (by assumption) rfl ?_|refine ZB (by assumption) rfl ?_|refine Z6 ?_|refine Z7 ?_|refine Z8 ?_)|((with_reducible refine ZM ?_ ?_);(focus rfl)));(conv=>whnf)))
      refine HCall.mk ((banned_spec nm h3).mono ?_)
      rintro e h4 ⟨rfl, rfl⟩
      cases e1 : bannedB nm
      · ((conv=>whnf);repeat((first|(with_reducible first|refine Z1 ?_|refine Z2 ?_|refine Z3 ?_|refine Z4 ?_|refine Z5 ?_|refine Z9 (by assumption) rfl ?_|refine ZA (by assumption) rfl ?_|refine ZB (by assumption) rfl ?_|refine Z6 ?_|refine Z7 ?_|refine Z8 ?_)|((with_reducible refine ZM ?_ ?_);(focus rfl)));(conv=>whnf)))
        refine HCall.mk (cb.mono ?_)
        rintro e h5 ⟨rfl, rfl⟩
        cases e2 : ns.any bannedB
        · ((conv=>whnf);repeat((first|(with_reducible first|refine Z1 ?_|refine Z2 ?_|refine Z3 ?_|refine Z4 ?_|refine Z5 ?_|refine Z9 (by assumption) rfl ?_|refine ZA (by assumption) rfl ?_|refine ZB (by assumption) rfl ?_|refine Z6 ?_|refine Z7 ?_|refine Z8 ?_)|((with_reducible refine ZM ?_ ?_);(focus rfl)));(conv=>whnf)))
          refine HCall.mk (cd.mono ?_)
          rintro e h6 ⟨rfl, x6⟩
          ((conv=>whnf);repeat((first|(with_reducible first|refine Z1 ?_|refine Z2 ?_|refine Z3 ?_|refine Z4 ?_|refine Z5 ?_|refine Z9 (by assumption) rfl ?_|refine ZA (by assumption) rfl ?_|refine ZB (by assumption) rfl ?_|refine Z6 ?_|refine Z7 ?_|refine Z8 ?_)|((with_reducible refine ZM ?_ ?_);(focus rfl)));(conv=>whnf)))
          exact ⟨by rw [← hz, e1, e2]; rfl, x3.trans x6⟩
        · ((conv=>whnf);repeat((first|(with_reducible first|refine Z1 ?_|refine Z2 ?_|refine Z3 ?_|refine Z4 ?_|refine Z5 ?_|refine Z9 (by assumption) rfl ?_|refine ZA (by assumption) rfl ?_|refine ZB (by assumption) rfl ?_|refine Z6 ?_|refine Z7 ?_|refine Z8 ?_)|((with_reducible refine ZM ?_ ?_);(focus rfl)));(conv=>whnf)))
          exact ⟨by rw [← hz, e1, e2]; rfl, x3⟩
      · ((conv=>whnf);repeat((first|(with_reducible first|refine Z1 ?_|refine Z2 ?_|refine Z3 ?_|refine Z4 ?_|refine Z5 ?_|refine Z9 (by assumption) rfl ?_|refine ZA (by assumption) rfl ?_|refine ZB (by assumption) rfl ?_|refine Z6 ?_|refine Z7 ?_|refine Z8 ?_)|((with_reducible refine ZM ?_ ?_);(focus rfl)));(conv=>whnf)))
        exact ⟨by rw [← hz, e1]; rfl, x3⟩
    · ((conv=>whnf);repeat((first|(with_reducible first|refine Z1 ?_|refine Z2 ?_|refine Z3 ?_|refine Z4 ?_|refine Z5 ?_|refine Z9 (by assumption) rfl ?_|refine ZA (by assumption) rfl ?_|refine ZB (by assumption) rfl ?_|refine Z6 ?_|refine Z7 ?_|refine Z8 ?_)|((with_reducible refine ZM ?_ ?_);(focus rfl)));(conv=>whnf)))
      refine HCall.mk ((banned_spec nm h3).mono ?_)
      rintro e h4 ⟨rfl, rfl⟩
      cases e1 : bannedB nm
      · ((conv=>whnf);repeat((first|(with_reducible first|refine Z1 ?_|refine Z2 ?_|refine Z3 ?_|refine Z4 ?_|refine Z5 ?_|refine Z9 (by assumption) rfl ?_|refine ZA (by assumption) rfl ?_|refine ZB (by assumption) rfl ?_|refine Z6 ?_|refine Z7 ?_|refine Z8 ?_)|((with_reducible refine ZM ?_ ?_);(focus rfl)));(conv=>whnf)))
        refine HCall.mk (cb.mono ?_)
        rintro e h5 ⟨rfl, rfl⟩
        cases e2 : ns.any bannedB
        · ((conv=>whnf);repeat((first|(with_reducible first|refine Z1 ?_|refine Z2 ?_|refine Z3 ?_|refine Z4 ?_|refine Z5 ?_|refine Z9 (by assumption) rfl ?_|refine ZA (by assumption) rfl ?_|refine ZB (by assumption) rfl ?_|refine Z6 ?_|refine Z7 ?_|refine Z8 ?_)|((with_reducible refine ZM ?_ ?_);(focus rfl)));(conv=>whnf)))
          refine HCall.mk (cd.mono ?_)
          rintro e h6 ⟨rfl, x6⟩
          ((conv=>whnf);repeat((first|(with_reducible first|refine Z1 ?_|refine Z2 ?_|refine Z3 ?_|refine Z4 ?_|refine Z5 ?_|refine Z9 (by assumption) rfl ?_|refine ZA (by assumption) rfl ?_|refine ZB (by assumption) rfl ?_|refine Z6 ?_|refine Z7 ?_|refine Z8 ?_)|((with_reducible refine ZM ?_ ?_);(focus rfl)));(conv=>whnf)))
          exact ⟨by rw [← hz, e1, e2]; rfl, x3.trans x6⟩
        · ((conv=>whnf);repeat((first|(with_reducible first|refine Z1 ?_|refine Z2 ?_|refine Z3 ?_|refine Z4 ?_|refine Z5 ?_|refine Z9 (by assumption) rfl ?_|refine ZA (by assumption) rfl ?_|refine ZB (by assumption) rfl ?_|refine Z6 ?_|refine Z7 ?_|refine Z8 ?_)|((with_reducible refine ZM ?_ ?_);(focus rfl)));(conv=>whnf)))
          exact ⟨by rw [← hz, e1, e2]; rfl, x3⟩
      · ((conv=>whnf);repeat((first|(with_reducible first|refine Z1 ?_|refine Z2 ?_|refine Z3 ?_|refine Z4 ?_|refine Z5 ?_|refine Z9 (by assumption) rfl ?_|refine ZA (by assumption) rfl ?_|refine ZB (by assumption) rfl ?_|refine Z6 ?_|refine Z7 ?_|refine Z8 ?_)|((with_reducible refine ZM ?_ ?_);(focus rfl)));(conv=>whnf)))
        exact ⟨by rw [← hz, e1]; rfl, x3⟩
  rw [if_neg hB] at hz
  have qB1 : (k == 39) = false := beq_eq_false_iff_ne.2 fun e => hB (.inl e)
  have qB2 : (k == 10) = false := beq_eq_false_iff_ne.2 fun e => hB (.inr e)
  clear hB
  by_cases hC : k = 20 ∨ k = 16 ∨ k = 30
  · rw [if_pos hC] at hz
    have hl : 0 < l.length := hneed (by rcases hC with rfl | rfl | rfl <;> rfl)
    have hkn : kidName l 0 = l[0].name := by unfold kidName; rw [List.getElem?_eq_getElem hl]
    rw [kidKind_in hl, hkn] at hz
    have q20 : ∀ b, (k == 20) = b → (k == 20) = b := fun _ h => h
    cases q1 : (k == 20) <;> cases q2 : (k == 16) <;> cases q3 : (k == 30)
    · rw [beq_eq_false_iff_ne] at q1 q2 q3
      exact absurd hC (by rintro (h | h | h) <;> contradiction)
    all_goals
      ((conv=>whnf);repeat((first|(with_reducible first|refine Z1 ?_|refine Z2 ?_|refine Z3 ?_|refine Z4 ?_|refine Z5 ?_|refine Z9 (by assumption) rfl ?_|refine ZA (by assumption) rfl ?_|refine ZB (by assumption) rfl ?_|refine Z6 ?_|refine Z7 ?_|refine Z8 ?_)|((with_reducible refine ZM ?_ ?_);(focus rfl)));(conv=>whnf)))
      refine HIdx.mk 0 rfl hl ?_
      refine sl_some s2 hl fun p ep => ?_
      ((conv=>whnf);repeat((first|(with_reducible first|refine Z1 ?_|refine Z2 ?_|refine Z3 ?_|refine Z4 ?_|refine Z5 ?_|refine Z9 (by assumption) rfl ?_|refine ZA (by assumption) rfl ?_|refine ZB (by assumption) rfl ?_|refine Z6 ?_|refine Z7 ?_|refine Z8 ?_)|((with_reducible refine ZM ?_ ?_);(focus rfl)));(conv=>whnf)))
      refine tkind s2 s3 ep hl ?_
      cases e1 : (l[0].kind == 3)
      · ((conv=>whnf);repeat((first|(with_reducible first|refine Z1 ?_|refine Z2 ?_|refine Z3 ?_|refine Z4 ?_|refine Z5 ?_|refine Z9 (by assumption) rfl ?_|refine ZA (by assumption) rfl ?_|refine ZB (by assumption) rfl ?_|refine Z6 ?_|refine Z7 ?_|refine Z8 ?_)|((with_reducible refine ZM ?_ ?_);(focus rfl)));(conv=>whnf)))
        exact ⟨by rw [← hz, e1]; rfl, x3⟩
      · ((conv=>whnf);repeat((first|(with_reducible first|refine Z1 ?_|refine Z2 ?_|refine Z3 ?_|refine Z4 ?_|refine Z5 ?_|refine Z9 (by assumption) rfl ?_|refine ZA (by assumption) rfl ?_|refine ZB (by assumption) rfl ?_|refine Z6 ?_|refine Z7 ?_|refine Z8 ?_)|((with_reducible refine ZM ?_ ?_);(focus rfl)));(conv=>whnf)))
        refine HIdx.mk 0 rfl hl ?_
        refine sl_some s2 hl fun p ep => ?_
        ((conv=>whnf);repeat((first|(with_reducible first|refine Z1 ?_|refine Z2 ?_|refine Z3 ?_|refine Z4 ?_|refine Z5 ?_|refine Z9 (by assumption) rfl ?_|refine ZA (by assumption) rfl ?_|refine ZB (by assumption) rfl ?_|refine Z6 ?_|refine Z7 ?_|refine Z8 ?_)|((with_reducible refine ZM ?_ ?_);(focus rfl)));(conv=>whnf)))
        refine tname s2 s3 ep hl ?_
        ((conv=>whnf);repeat((first|(with_reducible first|refine Z1 ?_|refine Z2 ?_|refine Z3 ?_|refine Z4 ?_|refine Z5 ?_|refine Z9 (by assumption) rfl ?_|refine ZA (by assumption) rfl ?_|refine ZB (by assumption) rfl ?_|refine Z6 ?_|refine Z7 ?_|refine Z8 ?_)|((with_reducible refine ZM ?_ ?_);(focus rfl)));(conv=>whnf)))
        refine HCall.mk ((banned_spec l[0].name h3).mono ?_)
        rintro e h4 ⟨rfl, rfl⟩
        ((conv=>whnf);repeat((first|(with_reducible first|refine Z1 ?_|refine Z2 ?_|refine Z3 ?_|refine Z4 ?_|refine Z5 ?_|refine Z9 (by assumption) rfl ?_|refine ZA (by assumption) rfl ?_|refine ZB (by assumption) rfl ?_|refine Z6 ?_|refine Z7 ?_|refine Z8 ?_)|((with_reducible refine ZM ?_ ?_);(focus rfl)));(conv=>whnf)))
        exact ⟨by rw [← hz, e1]; rfl, x3⟩
  rw [if_neg hC] at hz
  have qC1 : (k == 20) = false := beq_eq_false_iff_ne.2 fun e => hC (.inl e)
  have qC2 : (k == 16) = false := beq_eq_false_iff_ne.2 fun e => hC (.inr (.inl e))
  have qC3 : (k == 30) = false := beq_eq_false_iff_ne.2 fun e => hC (.inr (.inr e))
  clear hC
  by_cases hD : k = 15
  · rw [if_pos hD] at hz
    have hl : 0 < l.length := hneed (by rw [hD]; rfl)
    rw [kidKind_in hl] at hz
    have q : (k == 15) = true := beq_iff_eq.2 hD
    cases e1 : strEq nm ⟨#[100, 101, 108, 101, 116, 101]⟩
    · ((conv=>whnf);repeat((first|(with_reducible first|refine Z1 ?_|refine Z2 ?_|refine Z3 ?_|refine Z4 ?_|refine Z5 ?_|refine Z9 (by assumption) rfl ?_|refine ZA (by assumption) rfl ?_|refine ZB (by assumption) rfl ?_|refine Z6 ?_|refine Z7 ?_|refine Z8 ?_)|((with_reducible refine ZM ?_ ?_);(focus rfl)));(conv=>whnf)))
      exact ⟨by rw [← hz, e1]; rfl, x3⟩
    · ((conv=>whnf);repeat((first|(with_reducible first|refine Z1 ?_|refine Z2 ?_|refine Z3 ?_|refine Z4 ?_|refine Z5 ?_|refine Z9 (by assumption) rfl ?_|refine ZA (by assumption) rfl ?_|refine ZB (by assumption) rfl ?_|refine Z6 ?_|refine Z7 ?_|refine Z8 ?_)|((with_reducible refine ZM ?_ ?_);(focus rfl)));(conv=>whnf)))
      refine HIdx.mk 0 rfl hl ?_
      refine sl_some s2 hl fun p ep => ?_
      ((conv=>whnf);repeat((first|(with_reducible first|refine Z1 ?_|refine Z2 ?_|refine Z3 ?_|refine Z4 ?_|refine Z5 ?_|refine Z9 (by assumption) rfl ?_|refine ZA (by assumption) rfl ?_|refine ZB (by assumption) rfl ?_|refine Z6 ?_|refine Z7 ?_|refine Z8 ?_)|((with_reducible refine ZM ?_ ?_);(focus rfl)));(conv=>whnf)))
      refine tkind s2 s3 ep hl ?_
      ((conv=>whnf);repeat((first|(with_reducible first|refine Z1 ?_|refine Z2 ?_|refine Z3 ?_|refine Z4 ?_|refine Z5 ?_|refine Z9 (by assumption) rfl ?_|refine ZA (by assumption) rfl ?_|refine ZB (by assumption) rfl ?_|refine Z6 ?_|refine Z7 ?_|refine Z8 ?_)|((with_reducible refine ZM ?_ ?_);(focus rfl)));(conv=>whnf)))
      exact ⟨by rw [← hz, e1]; rfl, x3⟩
  rw [if_neg hD] at hz
  have qD : (k == 15) = false := beq_eq_false_iff_ne.2 hD
  clear hD
  by_cases hE : k = 8
  · rw [if_pos hE] at hz
    have q : (k == 8) = true := beq_iff_eq.2 hE
    ((conv=>whnf);repeat((first|(with_reducible first|refine Z1 ?_|refine Z2 ?_|refine Z3 ?_|refine Z4 ?_|refine Z5 ?_|refine Z9 (by assumption) rfl ?_|refine ZA (by assumption) rfl ?_|refine ZB (by assumption) rfl ?_|refine Z6 ?_|refine Z7 ?_|refine Z8 ?_)|((with_reducible refine ZM ?_ ?_);(focus rfl)));(conv=>whnf)))
    refine loop_rule [4, 71] (fun vs h' => ∃ (i : Nat) (a' : Option Addr) (c' : Nat), vs = [.slice a' i c', .int .i64 i] ∧ i ≤ l.length ∧ Own h' h3.size 9 1 a' i c' (((l.take i).map NT.text).map .string) ∧ Ext h3 h')
      (fun vs _ => match vs with | [_, .int _ i] => l.length - i.toNat | _ => 0) rfl ?_ ?_
    · exact ⟨0, none, 0, rfl, by omega, Own.nil _ _ _ _, Ext.refl _⟩
    intro u h4 v4 v71
    rintro ⟨i, a4, c4, e, hi, w4, x4⟩
    cases e
    ((conv=>whnf);repeat((first|(with_reducible first|refine Z1 ?_|refine Z2 ?_|refine Z3 ?_|refine Z4 ?_|refine Z5 ?_|refine Z9 (by assumption) rfl ?_|refine ZA (by assumption) rfl ?_|refine ZB (by assumption) rfl ?_|refine Z6 ?_|refine Z7 ?_|refine Z8 ?_)|((with_reducible refine ZM ?_ ?_);(focus rfl)));(conv=>whnf)))
    refine HIf.mk (fun hlt => ?_) (fun hlt => ?_)
    · have hi1 : i < l.length := by have := of_decide_eq_true hlt; omega
      have hmu : l.length - ((i : Int) + 1).toNat < l.length - ((i : Int)).toNat := by omega
      have vt : ((l.take (i + 1)).map NT.text).map Value.string = ((l.take i).map NT.text).map Value.string ++ [.string l[i].text] := by rw [take_succ' hi1, List.map_append, List.map_append]; rfl
      generalize ((l.take i).map NT.text).map Value.string = out at w4 vt
      ((conv=>whnf);repeat((first|(with_reducible first|refine Z1 ?_|refine Z2 ?_|refine Z3 ?_|refine Z4 ?_|refine Z5 ?_|refine Z9 (by assumption) rfl ?_|refine ZA (by assumption) rfl ?_|refine ZB (by assumption) rfl ?_|refine Z6 ?_|refine Z7 ?_|refine Z8 ?_)|((with_reducible refine ZM ?_ ?_);(focus rfl)));(conv=>whnf)))
      refine HIdx.mk i rfl hi1 ?_
      refine sl_some s2 hi1 fun p ep => ?_
      ((conv=>whnf);repeat((first|(with_reducible first|refine Z1 ?_|refine Z2 ?_|refine Z3 ?_|refine Z4 ?_|refine Z5 ?_|refine Z9 (by assumption) rfl ?_|refine ZA (by assumption) rfl ?_|refine ZB (by assumption) rfl ?_|refine Z6 ?_|refine Z7 ?_|refine Z8 ?_)|((with_reducible refine ZM ?_ ?_);(focus rfl)));(conv=>whnf)))
      refine tload' s2 s3 x4 ep hi1 fun cs rt => ?_
      cases hd : l[i] with
      | mk k' nm' n' t' ns' kl =>
      rw [hd] at rt vt
      simp only [TRep] at rt
      obtain ⟨_, _, _, _, _, _, _, ka', kc', la', lc', ys', rfl, _⟩ := rt
      ((conv=>whnf);repeat((first|(with_reducible first|refine Z1 ?_|refine Z2 ?_|refine Z3 ?_|refine Z4 ?_|refine Z5 ?_|refine Z9 (by assumption) rfl ?_|refine ZA (by assumption) rfl ?_|refine ZB (by assumption) rfl ?_|refine Z6 ?_|refine Z7 ?_|refine Z8 ?_)|((with_reducible refine ZM ?_ ?_);(focus rfl)));(conv=>whnf)))
      refine new_var (e := 26) zeroT rfl ?_
      intro h5 b5 o5 x5 z5 hb5
      have w5 := w4.ext x5
      have hs5 := x5.1
      have hs4 := x4.1
      have w4lt := w4.lt
      ((conv=>whnf);repeat((first|(with_reducible first|refine Z1 ?_|refine Z2 ?_|refine Z3 ?_|refine Z4 ?_|refine Z5 ?_|refine Z9 (by assumption) rfl ?_|refine ZA (by assumption) rfl ?_|refine ZB (by assumption) rfl ?_|refine Z6 ?_|refine Z7 ?_|refine Z8 ?_)|((with_reducible refine ZM ?_ ?_);(focus rfl)));(conv=>whnf)))
      refine store_blk o5 (by simp) (by simp [isOne]) ?_
      intro h6 f6 z6 o6
      replace o6 : BlkW h6 b5 26 [.int .i64 k', .string nm', .int .i64 n', .string t', .slice ka' ns'.length kc', .slice la' kl.length lc'] := by simpa using o6
      have w6 := w5.off f6 (fun p ep => by have := w4lt p ep; omega)
      have x6 : Ext h3 h6 := (x4.trans x5).offNew f6 (by omega)
      clear o5
      ((conv=>whnf);repeat((first|(with_reducible first|refine Z1 ?_|refine Z2 ?_|refine Z3 ?_|refine Z4 ?_|refine Z5 ?_|refine Z9 (by assumption) rfl ?_|refine ZA (by assumption) rfl ?_|refine ZB (by assumption) rfl ?_|refine Z6 ?_|refine Z7 ?_|refine Z8 ?_)|((with_reducible refine ZM ?_ ?_);(focus rfl)));(conv=>whnf)))
      refine new_own (e := 9) 1 1 [.string t'] rfl rfl ?_
      intro h7 b7 w7 x7 z7 hb7
      have w67 := w6.ext x7
      have hs7 := x7.1
      ((conv=>whnf);repeat((first|(with_reducible first|refine Z1 ?_|refine Z2 ?_|refine Z3 ?_|refine Z4 ?_|refine Z5 ?_|refine Z9 (by assumption) rfl ?_|refine ZA (by assumption) rfl ?_|refine ZB (by assumption) rfl ?_|refine Z6 ?_|refine Z7 ?_|refine Z8 ?_)|((with_reducible refine ZM ?_ ?_);(focus rfl)));(conv=>whnf)))
      refine w7.sl.cells ?_
      refine Own.grow w67 (by omega) rfl rfl (by intro v hv; simp only [List.mem_singleton] at hv; subst hv; rfl) (by omega) ?_
      intro h8 a8 c8 w8 g8
      ((conv=>whnf);repeat((first|(with_reducible first|refine Z1 ?_|refine Z2 ?_|refine Z3 ?_|refine Z4 ?_|refine Z5 ?_|refine Z9 (by assumption) rfl ?_|refine ZA (by assumption) rfl ?_|refine ZB (by assumption) rfl ?_|refine Z6 ?_|refine Z7 ?_|refine Z8 ?_)|((with_reducible refine ZM ?_ ?_);(focus rfl)));(conv=>whnf)))
      exact ⟨⟨i + 1, a8, c8, rfl, by omega, by rw [vt]; exact w8, (x6.trans x7).keep (g8.kept (by omega) fun p ep => (w4lt p ep).1)⟩, hmu⟩
    · have hge := of_decide_eq_false hlt
      obtain rfl : i = l.length := by omega
      rw [List.take_length] at w4
      have sw := w4.sl
      have e4 : l.length = (l.map NT.text).length := by simp
      rw [e4] at sw
      have cd := distinct_spec (by simpa using b6) sw
      rw [← e4] at cd
      ((conv=>whnf);repeat((first|(with_reducible first|refine Z1 ?_|refine Z2 ?_|refine Z3 ?_|refine Z4 ?_|refine Z5 ?_|refine Z9 (by assumption) rfl ?_|refine ZA (by assumption) rfl ?_|refine ZB (by assumption) rfl ?_|refine Z6 ?_|refine Z7 ?_|refine Z8 ?_)|((with_reducible refine ZM ?_ ?_);(focus rfl)));(conv=>whnf)))
      refine HCall.mk (cd.mono ?_)
      rintro e h6 ⟨rfl, x6⟩
      ((conv=>whnf);repeat((first|(with_reducible first|refine Z1 ?_|refine Z2 ?_|refine Z3 ?_|refine Z4 ?_|refine Z5 ?_|refine Z9 (by assumption) rfl ?_|refine ZA (by assumption) rfl ?_|refine ZB (by assumption) rfl ?_|refine Z6 ?_|refine Z7 ?_|refine Z8 ?_)|((with_reducible refine ZM ?_ ?_);(focus rfl)));(conv=>whnf)))
      exact ⟨by rw [← hz]; rfl, x3.trans (x4.trans x6)⟩
  rw [if_neg hE] at hz
  have qE : (k == 8) = false := beq_eq_false_iff_ne.2 hE
  clear hE
  by_cases hF : k = 33
  · rw [if_pos hF] at hz
    have q : (k == 33) = true := beq_iff_eq.2 hF
    ((conv=>whnf);repeat((first|(with_reducible first|refine Z1 ?_|refine Z2 ?_|refine Z3 ?_|refine Z4 ?_|refine Z5 ?_|refine Z9 (by assumption) rfl ?_|refine ZA (by assumption) rfl ?_|refine ZB (by assumption) rfl ?_|refine Z6 ?_|refine Z7 ?_|refine Z8 ?_)|((with_reducible refine ZM ?_ ?_);(focus rfl)));(conv=>whnf)))
    exact ⟨by rw [← hz]; rfl, x3⟩
  rw [if_neg hF] at hz
  have qF : (k == 33) = false := beq_eq_false_iff_ne.2 hF
  clear hF
  by_cases hG : k = 31
  · rw [if_pos hG] at hz
    have q : (k == 31) = true := beq_iff_eq.2 hG
    cases e1 : strEq nm ⟨#[]⟩
    · have e2 : (!strEq nm ⟨#[]⟩) = true := by rw [e1]; rfl
      ((conv=>whnf);repeat((first|(with_reducible first|refine Z1 ?_|refine Z2 ?_|refine Z3 ?_|refine Z4 ?_|refine Z5 ?_|refine Z9 (by assumption) rfl ?_|refine ZA (by assumption) rfl ?_|refine ZB (by assumption) rfl ?_|refine Z6 ?_|refine Z7 ?_|refine Z8 ?_)|((with_reducible refine ZM ?_ ?_);(focus rfl)));(conv=>whnf)))
      refine HCall.mk ((find_spec rl nm).mono ?_)
      rintro e h4 ⟨rfl, a4, rfl, r4⟩
      have en := isNil_of r4
      ((conv=>whnf);repeat((first|(with_reducible first|refine Z1 ?_|refine Z2 ?_|refine Z3 ?_|refine Z4 ?_|refine Z5 ?_|refine Z9 (by assumption) rfl ?_|refine ZA (by assumption) rfl ?_|refine ZB (by assumption) rfl ?_|refine Z6 ?_|refine Z7 ?_|refine Z8 ?_)|((with_reducible refine ZM ?_ ?_);(focus rfl)));(conv=>whnf)))
      exact ⟨by rw [← hz, e1, ← en]; rfl, x3⟩
    · have e2 : (!strEq nm ⟨#[]⟩) = false := by rw [e1]; rfl
      cases e3 : v.breaks
      · have e4 : (!v.breaks) = true := by rw [e3]; rfl
        ((conv=>whnf);repeat((first|(with_reducible first|refine Z1 ?_|refine Z2 ?_|refine Z3 ?_|refine Z4 ?_|refine Z5 ?_|refine Z9 (by assumption) rfl ?_|refine ZA (by assumption) rfl ?_|refine ZB (by assumption) rfl ?_|refine Z6 ?_|refine Z7 ?_|refine Z8 ?_)|((with_reducible refine ZM ?_ ?_);(focus rfl)));(conv=>whnf)))
        exact ⟨by rw [← hz, e1, e3]; rfl, x3⟩
      · have e4 : (!v.breaks) = false := by rw [e3]; rfl
        ((conv=>whnf);repeat((first|(with_reducible first|refine Z1 ?_|refine Z2 ?_|refine Z3 ?_|refine Z4 ?_|refine Z5 ?_|refine Z9 (by assumption) rfl ?_|refine ZA (by assumption) rfl ?_|refine ZB (by assumption) rfl ?_|refine Z6 ?_|refine Z7 ?_|refine Z8 ?_)|((with_reducible refine ZM ?_ ?_);(focus rfl)));(conv=>whnf)))
        exact ⟨by rw [← hz, e1, e3]; rfl, x3⟩
  rw [if_neg hG] at hz
  have qG : (k == 31) = false := beq_eq_false_iff_ne.2 hG
  clear hG
  by_cases hH : k = 32
  · rw [if_pos hH] at hz
    have q : (k == 32) = true := beq_iff_eq.2 hH
    cases e1 : strEq nm ⟨#[]⟩
    · ((conv=>whnf);repeat((first|(with_reducible first|refine Z1 ?_|refine Z2 ?_|refine Z3 ?_|refine Z4 ?_|refine Z5 ?_|refine Z9 (by assumption) rfl ?_|refine ZA (by assumption) rfl ?_|refine ZB (by assumption) rfl ?_|refine Z6 ?_|refine Z7 ?_|refine Z8 ?_)|((with_reducible refine ZM ?_ ?_);(focus rfl)));(conv=>whnf)))
      refine HCall.mk ((find_spec rl nm).mono ?_)
      rintro e h4 ⟨rfl, a4, rfl, r4⟩
      rw [e1, if_neg (by simp)] at hz
      cases hf : findL nm v.labels with
      | nil =>
        rw [hf] at r4 hz
        simp only [LRep] at r4
        subst r4
        ((conv=>whnf);repeat((first|(with_reducible first|refine Z1 ?_|refine Z2 ?_|refine Z3 ?_|refine Z4 ?_|refine Z5 ?_|refine Z9 (by assumption) rfl ?_|refine ZA (by assumption) rfl ?_|refine ZB (by assumption) rfl ?_|refine Z6 ?_|refine Z7 ?_|refine Z8 ?_)|((with_reducible refine ZM ?_ ?_);(focus rfl)));(conv=>whnf)))
        exact ⟨by rw [← hz]; rfl, x3⟩
      | cons x lr =>
        rw [hf] at r4 hz
        obtain ⟨b, up, rfl, o, hu, r5⟩ := r4
        have qn : (bif false then !(some (⟨b, 0, none⟩ : Addr)).isNone else (some (⟨b, 0, none⟩ : Addr)).isNone) = false := rfl
        ((conv=>whnf);repeat((first|(with_reducible first|refine Z1 ?_|refine Z2 ?_|refine Z3 ?_|refine Z4 ?_|refine Z5 ?_|refine Z9 (by assumption) rfl ?_|refine ZA (by assumption) rfl ?_|refine ZB (by assumption) rfl ?_|refine Z6 ?_|refine Z7 ?_|refine Z8 ?_)|((with_reducible refine ZM ?_ ?_);(focus rfl)));(conv=>whnf)))
        exact ⟨by rw [← hz]; rfl, x3⟩
    · ((conv=>whnf);repeat((first|(with_reducible first|refine Z1 ?_|refine Z2 ?_|refine Z3 ?_|refine Z4 ?_|refine Z5 ?_|refine Z9 (by assumption) rfl ?_|refine ZA (by assumption) rfl ?_|refine ZB (by assumption) rfl ?_|refine Z6 ?_|refine Z7 ?_|refine Z8 ?_)|((with_reducible refine ZM ?_ ?_);(focus rfl)));(conv=>whnf)))
      rw [e1, if_pos rfl] at hz
      exact ⟨by rw [← hz]; rfl, x3⟩
  rw [if_neg hH] at hz
  have qH : (k == 32) = false := beq_eq_false_iff_ne.2 hH
  clear hH
  by_cases hI : k = 38
  · rw [if_pos hI] at hz
    have q : (k == 38) = true := beq_iff_eq.2 hI
    ((conv=>whnf);repeat((first|(with_reducible first|refine Z1 ?_|refine Z2 ?_|refine Z3 ?_|refine Z4 ?_|refine Z5 ?_|refine Z9 (by assumption) rfl ?_|refine ZA (by assumption) rfl ?_|refine ZB (by assumption) rfl ?_|refine Z6 ?_|refine Z7 ?_|refine Z8 ?_)|((with_reducible refine ZM ?_ ?_);(focus rfl)));(conv=>whnf)))
    refine HCall.mk ((find_spec rl nm).mono ?_)
    rintro e h4 ⟨rfl, a4, rfl, r4⟩
    have en := isNil_of r4
    ((conv=>whnf);repeat((first|(with_reducible first|refine Z1 ?_|refine Z2 ?_|refine Z3 ?_|refine Z4 ?_|refine Z5 ?_|refine Z9 (by assumption) rfl ?_|refine ZA (by assumption) rfl ?_|refine ZB (by assumption) rfl ?_|refine Z6 ?_|refine Z7 ?_|refine Z8 ?_)|((with_reducible refine ZM ?_ ?_);(focus rfl)));(conv=>whnf)))
    exact ⟨by rw [← hz, ← en]; rfl, x3⟩
  rw [if_neg hI] at hz
  have qI : (k == 38) = false := beq_eq_false_iff_ne.2 hI
  ((conv=>whnf);repeat((first|(with_reducible first|refine Z1 ?_|refine Z2 ?_|refine Z3 ?_|refine Z4 ?_|refine Z5 ?_|refine Z9 (by assumption) rfl ?_|refine ZA (by assumption) rfl ?_|refine ZB (by assumption) rfl ?_|refine Z6 ?_|refine Z7 ?_|refine Z8 ?_)|((with_reducible refine ZM ?_ ?_);(focus rfl)));(conv=>whnf)))
  exact ⟨by rw [← hz]; rfl, x3⟩
end Go.Proofs.Ytlogpojkkbcpjaa.Hc
