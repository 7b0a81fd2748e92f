/- Names in lists; scope.Vars. -/
import Derived.Test.YtlogpojkkbcpjaaY0
import Derived.Test.YtlogpojkkbcpjaaG1
set_option linter.unusedVariables false
set_option linter.unusedSimpArgs false
namespace Go.Proofs.Ytlogpojkkbcpjaa.Hc
open Go Go.H Go.Proofs
set_option maxRecDepth 100000
set_option maxHeartbeats 8000000
theorem index_spec {h : Heap} {a : Option Addr} {c : Nat} {ks : List ByteArray} (x : Sl h 1 a ks.length c (ks.map .string)) (s : ByteArray) (hn : ks.length ≤ 17179869184) :
    HCalls Try.prog 43 #[.slice a ks.length c, .string s] h fun e h' => h' = h ∧ ∃ n : Int, e = .returned (.int .i64 n) ∧ -1 ≤ n ∧ n < ks.length ∧
      ((n = -1 ∧ s ∉ ks) ∨ (∃ i : Nat, ∃ hi : i < ks.length, n = i ∧ ks[i] = s ∧ s ∉ ks.take i)) := by
  refine c43 (by simp) ?_
  ((conv=>whnf);repeat((first|(with_reducible first|refine Z1 ?_|refine Z2 ?_|refine Z3 ?_|refine Z4 ?_|refine Z5 ?_|refine Z9 (by assumption) rfl ?_|refine ZA (by assumption) rfl ?_|refine ZB (by assumption) rfl ?_|refine Z6 ?_|refine Z7 ?_|refine Z8 ?_)|((with_reducible refine ZM ?_ ?_);(focus rfl)));(conv=>whnf)))
  refine loop_rule [8] (fun vs h' => ∃ (i : Nat), vs = [.int .i64 i] ∧ i ≤ ks.length ∧ h' = h ∧ s ∉ ks.take i)
    (fun vs _ => match vs with | [.int _ i] => ks.length - i.toNat | _ => 0) rfl ?_ ?_
  · exact ⟨0, rfl, by omega, rfl, by simp⟩
  · intro u h v8
    rintro ⟨i, e, hi, rfl, hs⟩
    cases e
    ((conv=>whnf);repeat((first|(with_reducible first|refine Z1 ?_|refine Z2 ?_|refine Z3 ?_|refine Z4 ?_|refine Z5 ?_|refine Z9 (by assumption) rfl ?_|refine ZA (by assumption) rfl ?_|refine ZB (by assumption) rfl ?_|refine Z6 ?_|refine Z7 ?_|refine Z8 ?_)|((with_reducible refine ZM ?_ ?_);(focus rfl)));(conv=>whnf)))
    refine HIf.mk (fun hb => ?_) (fun hb => ?_)
    · have hi1 : i < ks.length := by have := of_decide_eq_true hb; omega
      ((conv=>whnf);repeat((first|(with_reducible first|refine Z1 ?_|refine Z2 ?_|refine Z3 ?_|refine Z4 ?_|refine Z5 ?_|refine Z9 (by assumption) rfl ?_|refine ZA (by assumption) rfl ?_|refine ZB (by assumption) rfl ?_|refine Z6 ?_|refine Z7 ?_|refine Z8 ?_)|((with_reducible refine ZM ?_ ?_);(focus rfl)));(conv=>whnf)))
      refine HIdx.mk i rfl hi1 ?_
      refine sl_some x hi1 fun p ep => ?_
      ((conv=>whnf);repeat((first|(with_reducible first|refine Z1 ?_|refine Z2 ?_|refine Z3 ?_|refine Z4 ?_|refine Z5 ?_|refine Z9 (by assumption) rfl ?_|refine ZA (by assumption) rfl ?_|refine ZB (by assumption) rfl ?_|refine Z6 ?_|refine Z7 ?_|refine Z8 ?_)|((with_reducible refine ZM ?_ ?_);(focus rfl)));(conv=>whnf)))
      refine x.load ep (by simpa using hi1) ?_
      rw [List.getElem_map]
      ((conv=>whnf);repeat((first|(with_reducible first|refine Z1 ?_|refine Z2 ?_|refine Z3 ?_|refine Z4 ?_|refine Z5 ?_|refine Z9 (by assumption) rfl ?_|refine ZA (by assumption) rfl ?_|refine ZB (by assumption) rfl ?_|refine Z6 ?_|refine Z7 ?_|refine Z8 ?_)|((with_reducible refine ZM ?_ ?_);(focus rfl)));(conv=>whnf)))
      refine HIf.mk (fun he => ?_) (fun he => ?_)
      · have heq := (strEq_iff _ _).1 he
        ((conv=>whnf);repeat((first|(with_reducible first|refine Z1 ?_|refine Z2 ?_|refine Z3 ?_|refine Z4 ?_|refine Z5 ?_|refine Z9 (by assumption) rfl ?_|refine ZA (by assumption) rfl ?_|refine ZB (by assumption) rfl ?_|refine Z6 ?_|refine Z7 ?_|refine Z8 ?_)|((with_reducible refine ZM ?_ ?_);(focus rfl)));(conv=>whnf)))
        exact ⟨rfl, i, rfl, by omega, by omega, .inr ⟨i, hi1, rfl, heq.symm, hs⟩⟩
      · have hne := (strEq_no _ _).1 he
        ((conv=>whnf);repeat((first|(with_reducible first|refine Z1 ?_|refine Z2 ?_|refine Z3 ?_|refine Z4 ?_|refine Z5 ?_|refine Z9 (by assumption) rfl ?_|refine ZA (by assumption) rfl ?_|refine ZB (by assumption) rfl ?_|refine Z6 ?_|refine Z7 ?_|refine Z8 ?_)|((with_reducible refine ZM ?_ ?_);(focus rfl)));(conv=>whnf)))
        refine ⟨⟨i + 1, rfl, by omega, rfl, ?_⟩, ?_⟩
        · rw [take_succ' hi1, List.mem_append, List.mem_singleton]
          rintro (h | h)
          · exact hs h
          · exact hne h
        · show ks.length - (((i : Int) + 1)).toNat < ks.length - ((i : Int)).toNat
          omega
    · have hge := of_decide_eq_false hb
      rw [List.take_of_length_le (by omega)] at hs
      ((conv=>whnf);repeat((first|(with_reducible first|refine Z1 ?_|refine Z2 ?_|refine Z3 ?_|refine Z4 ?_|refine Z5 ?_|refine Z9 (by assumption) rfl ?_|refine ZA (by assumption) rfl ?_|refine ZB (by assumption) rfl ?_|refine Z6 ?_|refine Z7 ?_|refine Z8 ?_)|((with_reducible refine ZM ?_ ?_);(focus rfl)));(conv=>whnf)))
      exact ⟨rfl, -1, rfl, by omega, by omega, .inl ⟨rfl, hs⟩⟩

theorem contains_spec {h : Heap} {a : Option Addr} {c : Nat} {ks : List ByteArray} (x : Sl h 1 a ks.length c (ks.map .string)) (s : ByteArray) (hn : ks.length ≤ 17179869184) :
    HCalls Try.prog 28 #[.slice a ks.length c, .string s] h fun e h' => h' = h ∧ e = .returned (.bool (strIn ks s)) := by
  refine c28 (by simp) ?_
  ((conv=>whnf);repeat((first|(with_reducible first|refine Z1 ?_|refine Z2 ?_|refine Z3 ?_|refine Z4 ?_|refine Z5 ?_|refine Z9 (by assumption) rfl ?_|refine ZA (by assumption) rfl ?_|refine ZB (by assumption) rfl ?_|refine Z6 ?_|refine Z7 ?_|refine Z8 ?_)|((with_reducible refine ZM ?_ ?_);(focus rfl)));(conv=>whnf)))
  refine HCall.mk ((index_spec x s hn).mono ?_)
  rintro e h1 ⟨rfl, n, rfl, h1', h2', h3⟩
  ((conv=>whnf);repeat((first|(with_reducible first|refine Z1 ?_|refine Z2 ?_|refine Z3 ?_|refine Z4 ?_|refine Z5 ?_|refine Z9 (by assumption) rfl ?_|refine ZA (by assumption) rfl ?_|refine ZB (by assumption) rfl ?_|refine Z6 ?_|refine Z7 ?_|refine Z8 ?_)|((with_reducible refine ZM ?_ ?_);(focus rfl)));(conv=>whnf)))
  refine ⟨rfl, ?_⟩
  show Ending.returned (.bool (decide (n ≥ 0))) = _
  rcases h3 with ⟨rfl, hs⟩ | ⟨i, hi, rfl, he, _⟩
  · have : strIn ks s = false := by rw [← Bool.not_eq_true, strIn_iff]; exact hs
    rw [this]; rfl
  · have : strIn ks s = true := strIn_iff.2 (he ▸ List.getElem_mem hi)
    rw [this, decide_eq_true (by omega)]

/-- A name laid behind, if it is new. -/
def addN (out : List ByteArray) (s : ByteArray) : List ByteArray := if strIn out s = true then out else out ++ [s]
theorem addN_yes {out : List ByteArray} {s : ByteArray} (h : strIn out s = true) : addN out s = out := if_pos h
theorem addN_no {out : List ByteArray} {s : ByteArray} (h : strIn out s = false) : addN out s = out ++ [s] := if_neg (by rw [h]; simp)
theorem sl_at {h h' : Heap} {size n c : Nat} {a : Option Addr} {xs : List Value} (x : Sl h size a n c xs) (e : ∀ p, a = some p → h'[p.block]? = h[p.block]?) : Sl h' size a n c xs :=
  ⟨x.1, x.2.1, x.2.2.1, fun p ep i hi => by
    have h1 := x.2.2.2 p ep i hi
    have e2 : h'[(p.add i).block]? = h[(p.add i).block]? := by rw [add_block]; exact e p ep
    rw [hcell_of e2, h1]⟩
theorem addN_len (out : List ByteArray) (s : ByteArray) : (addN out s).length ≤ out.length + 1 := by unfold addN; split <;> simp
theorem fold_len : ∀ (l out : List ByteArray), (l.foldl addN out).length ≤ out.length + l.length
  | [], out => by simp
  | s :: l, out => by
    have h1 := fold_len l (addN out s)
    have h2 := addN_len out s
    rw [List.foldl_cons, List.length_cons]; omega
mutual
/-- What one node declares, laid behind. -/
def varsT : NT → List ByteArray → List ByteArray
  | .mk k nm _ _ _ l, out => if k = 39 ∨ k = 10 then out else (varsL l []).foldl addN (if k = 23 then addN out nm else out)
def varsL : List NT → List ByteArray → List ByteArray
  | [], out => out
  | d :: r, out => varsL r (varsT d out)
end
mutual
theorem varsT_len : ∀ (d : NT) (out : List ByteArray), (varsT d out).length ≤ out.length + cnt d
  | .mk k nm n t ns l, out => by
    unfold varsT
    simp only [cnt]
    split
    · omega
    · have h1 := fold_len (varsL l []) (if k = 23 then addN out nm else out)
      have h2 := varsL_len l []
      have h3 := addN_len out nm
      split at h1
      · rw [if_pos (by assumption)]
        simp only [List.length_nil, Nat.zero_add] at h2; omega
      · rw [if_neg (by assumption)]
        simp only [List.length_nil, Nat.zero_add] at h2; omega
theorem varsL_len : ∀ (l : List NT) (out : List ByteArray), (varsL l out).length ≤ out.length + cnts l
  | [], out => by simp [varsL]
  | d :: r, out => by
    have h1 := varsT_len d out
    have h2 := varsL_len r (varsT d out)
    simp only [varsL, cnts]; omega
end
theorem varsL_take (l : List NT) (i : Nat) (hi : i < l.length) : varsL (l.take (i + 1)) [] = varsT l[i] (varsL (l.take i) []) := by
  have key : ∀ (l m : List NT) (out : List ByteArray), varsL (l ++ m) out = varsL m (varsL l out) := by
    intro l
    induction l with
    | nil => intro m out; rfl
    | cons d r ih => intro m out; simp only [List.cons_append, varsL]; exact ih _ _
  rw [List.take_add_one, List.getElem?_eq_getElem hi]
  show varsL (l.take i ++ [l[i]]) [] = _
  rw [key]; rfl
theorem cnts_take (l : List NT) (i : Nat) : cnts (l.take i) ≤ cnts l := by
  induction l generalizing i with
  | nil => simp [cnts]
  | cons d r ih => cases i with
    | zero => simp [cnts]
    | succ i => have := ih i; simp only [List.take_succ_cons, cnts]; omega
theorem cnts_get (l : List NT) (i : Nat) (hi : i < l.length) : cnt l[i] ≤ cnts l := by
  induction l generalizing i with
  | nil => simp at hi
  | cons d r ih => cases i with
    | zero => simp only [List.getElem_cons_zero, cnts]; omega
    | succ i => have := ih i (by simpa using hi); simp only [List.getElem_cons_succ, cnts]; omega
theorem kids_lt (d : NT) : cnts d.l < cnt d := by cases d; simp only [NT.l, cnt]; omega

abbrev SlS (h : Heap) (B : Nat) (a : Option Addr) (c : Nat) (l : List ByteArray) : Prop := Own h B 9 1 a l.length c (l.map .string)

theorem vars_spec : ∀ (m : Nat) (l : List NT) (_ : cnts l = m) (h : Heap) (a : Option Addr) (c : Nat) (xs : List Value) (_ : Sl h 6 a l.length c xs) (_ : TReps h l xs) (_ : cnts l ≤ 1048576),
    HCalls Try.prog 16 #[.slice a l.length c] h fun e h' => ∃ a' c', e = .returned (.slice a' (varsL l []).length c') ∧ SlS h' h.size a' c' (varsL l []) ∧ Ext h h' := by
  intro m
  induction m using Nat.strongRecOn with
  | ind m ih =>
  intro l hm h a c xs s r hc
  have hl := cnts_len l
  refine c16 (by simp) ?_
  ((conv=>whnf);repeat((first|(with_reducible first|refine Z1 ?_|refine Z2 ?_|refine Z3 ?_|refine Z4 ?_|refine Z5 ?_|refine Z9 (by assumption) rfl ?_|refine ZA (by assumption) rfl ?_|refine ZB (by assumption) rfl ?_|refine Z6 ?_|refine Z7 ?_|refine Z8 ?_)|((with_reducible refine ZM ?_ ?_);(focus rfl)));(conv=>whnf)))
  refine loop_rule [2, 9] (fun vs h' => ∃ (i : Nat) (a' : Option Addr) (c' : Nat), vs = [.slice a' (varsL (l.take i) []).length c', .int .i64 i] ∧ i ≤ l.length ∧ SlS h' h.size a' c' (varsL (l.take i) []) ∧ Ext h h')
    (fun vs _ => match vs with | [_, .int _ i] => l.length - i.toNat | _ => 0) rfl ?_ ?_
  · exact ⟨0, none, 0, rfl, by omega, Own.nil _ _ _ _, Ext.refl _⟩
  intro u h1 v2 v9
  rintro ⟨i, a1, c1, e, hi, w1, x1⟩
  cases e
  ((conv=>whnf);repeat((first|(with_reducible first|refine Z1 ?_|refine Z2 ?_|refine Z3 ?_|refine Z4 ?_|refine Z5 ?_|refine Z9 (by assumption) rfl ?_|refine ZA (by assumption) rfl ?_|refine ZB (by assumption) rfl ?_|refine Z6 ?_|refine Z7 ?_|refine Z8 ?_)|((with_reducible refine ZM ?_ ?_);(focus rfl)));(conv=>whnf)))
  refine HIf.mk (fun hlt => ?_) (fun hlt => ?_)
  · have hi1 : i < l.length := by have := of_decide_eq_true hlt; omega
    have hmu : l.length - ((i : Int) + 1).toNat < l.length - ((i : Int)).toNat := by omega
    have vt := varsL_take l i hi1
    have hvl := varsL_len (l.take i) []
    have hct := cnts_take l i
    have hcg := cnts_get l i hi1
    have hkl := kids_lt l[i]
    simp only [List.length_nil, Nat.zero_add] at hvl
    generalize varsL (l.take i) [] = out at w1 vt hvl
    ((conv=>whnf);repeat((first|(with_reducible first|refine Z1 ?_|refine Z2 ?_|refine Z3 ?_|refine Z4 ?_|refine Z5 ?_|refine Z9 (by assumption) rfl ?_|refine ZA (by assumption) rfl ?_|refine ZB (by assumption) rfl ?_|refine Z6 ?_|refine Z7 ?_|refine Z8 ?_)|((with_reducible refine ZM ?_ ?_);(focus rfl)));(conv=>whnf)))
    refine HIdx.mk i rfl hi1 ?_
    refine sl_some s hi1 fun p ep => ?_
    ((conv=>whnf);repeat((first|(with_reducible first|refine Z1 ?_|refine Z2 ?_|refine Z3 ?_|refine Z4 ?_|refine Z5 ?_|refine Z9 (by assumption) rfl ?_|refine ZA (by assumption) rfl ?_|refine ZB (by assumption) rfl ?_|refine Z6 ?_|refine Z7 ?_|refine Z8 ?_)|((with_reducible refine ZM ?_ ?_);(focus rfl)));(conv=>whnf)))
    refine tload' s r x1 ep hi1 fun cs rt => ?_
    have hcl := rt.len
    cases hd : l[i] with
    | mk k nm n t ns kl =>
    rw [hd] at rt vt hcg hkl
    simp only [NT.l] at hkl
    simp only [TRep] at rt
    obtain ⟨b1, b2, b3, b4, b5, b6, b7, ka, kc, la, lc, ys, rfl, s1, s2, s3⟩ := rt
    ((conv=>whnf);repeat((first|(with_reducible first|refine Z1 ?_|refine Z2 ?_|refine Z3 ?_|refine Z4 ?_|refine Z5 ?_|refine Z9 (by assumption) rfl ?_|refine ZA (by assumption) rfl ?_|refine ZB (by assumption) rfl ?_|refine Z6 ?_|refine Z7 ?_|refine Z8 ?_)|((with_reducible refine ZM ?_ ?_);(focus rfl)));(conv=>whnf)))
    refine new_var (e := 26) zeroT rfl ?_
    intro h2 b2' o2 x2 z2 hb2
    ((conv=>whnf);repeat((first|(with_reducible first|refine Z1 ?_|refine Z2 ?_|refine Z3 ?_|refine Z4 ?_|refine Z5 ?_|refine Z9 (by assumption) rfl ?_|refine ZA (by assumption) rfl ?_|refine ZB (by assumption) rfl ?_|refine Z6 ?_|refine Z7 ?_|refine Z8 ?_)|((with_reducible refine ZM ?_ ?_);(focus rfl)));(conv=>whnf)))
    refine store_blk o2 (by simp) (by simp [isOne]) ?_
    intro h3 f3 z3 o3
    have o3' : BlkW h3 b2' 26 [.int .i64 k, .string nm, .int .i64 n, .string t, .slice ka ns.length kc, .slice la kl.length lc] := by simpa using o3
    have x13 : Ext h1 h3 := x2.offNew f3 (by omega)
    have w3 := w1.ext x13
    clear o2 o3
    simp only [varsT] at vt
    by_cases hk1 : k = 39
    · have q1 : (k == 39) = true := beq_iff_eq.2 hk1
      rw [if_pos (.inl hk1)] at vt
      ((conv=>whnf);repeat((first|(with_reducible first|refine Z1 ?_|refine Z2 ?_|refine Z3 ?_|refine Z4 ?_|refine Z5 ?_|refine Z9 (by assumption) rfl ?_|refine ZA (by assumption) rfl ?_|refine ZB (by assumption) rfl ?_|refine Z6 ?_|refine Z7 ?_|refine Z8 ?_)|((with_reducible refine ZM ?_ ?_);(focus rfl)));(conv=>whnf)))
      exact ⟨⟨i + 1, a1, c1, by rw [vt]; rfl, by omega, by rw [vt]; exact w3, x1.trans x13⟩, hmu⟩
    have q1 : (k == 39) = false := beq_eq_false_iff_ne.2 hk1
    by_cases hk2 : k = 10
    · have q2 : (k == 10) = true := beq_iff_eq.2 hk2
      rw [if_pos (.inr hk2)] at vt
      ((conv=>whnf);repeat((first|(with_reducible first|refine Z1 ?_|refine Z2 ?_|refine Z3 ?_|refine Z4 ?_|refine Z5 ?_|refine Z9 (by assumption) rfl ?_|refine ZA (by assumption) rfl ?_|refine ZB (by assumption) rfl ?_|refine Z6 ?_|refine Z7 ?_|refine Z8 ?_)|((with_reducible refine ZM ?_ ?_);(focus rfl)));(conv=>whnf)))
      exact ⟨⟨i + 1, a1, c1, by rw [vt]; rfl, by omega, by rw [vt]; exact w3, x1.trans x13⟩, hmu⟩
    have q2 : (k == 10) = false := beq_eq_false_iff_ne.2 hk2
    rw [if_neg (by omega)] at vt
    ((conv=>whnf);repeat((first|(with_reducible first|refine Z2 ?_|refine Z3 ?_|refine Z4 ?_|refine Z5 ?_|refine Z9 (by assumption) rfl ?_|refine ZA (by assumption) rfl ?_|refine ZB (by assumption) rfl ?_|refine Z6 ?_|refine Z7 ?_|refine Z8 ?_)|((with_reducible refine ZM ?_ ?_);(focus rfl)));(conv=>whnf)))
    refine cut_rule [2] (fun vs h' => ∃ (a' : Option Addr) (c' : Nat), vs = [.slice a' (if k = 23 then addN out nm else out).length c'] ∧ SlS h' h.size a' c' (if k = 23 then addN out nm else out) ∧ Ext h h' ∧ h3.size ≤ h'.size ∧ BlkW h' b2' 26 [.int .i64 k, .string nm, .int .i64 n, .string t, .slice ka ns.length kc, .slice la kl.length lc]) rfl ?_ ?_
    · by_cases hk3 : k = 23
      · have q3 : (k == 23) = true := beq_iff_eq.2 hk3
        rw [if_pos hk3]
        ((conv=>whnf);repeat((first|(with_reducible first|refine Z1 ?_|refine Z2 ?_|refine Z3 ?_|refine Z4 ?_|refine Z5 ?_|refine Z9 (by assumption) rfl ?_|refine ZA (by assumption) rfl ?_|refine ZB (by assumption) rfl ?_|refine Z6 ?_|refine Z7 ?_|refine Z8 ?_)|((with_reducible refine ZM ?_ ?_);(focus rfl)));(conv=>whnf)))
        refine HCall.mk ((contains_spec w3.sl nm (by omega)).mono ?_)
        rintro e h4 ⟨rfl, rfl⟩
        cases hin : strIn out nm
        · rw [addN_no hin]
          ((conv=>whnf);repeat((first|(with_reducible first|refine Z1 ?_|refine Z2 ?_|refine Z3 ?_|refine Z4 ?_|refine Z5 ?_|refine Z9 (by assumption) rfl ?_|refine ZA (by assumption) rfl ?_|refine ZB (by assumption) rfl ?_|refine Z6 ?_|refine Z7 ?_|refine Z8 ?_)|((with_reducible refine ZM ?_ ?_);(focus rfl)));(conv=>whnf)))
          refine new_own (e := 9) 1 1 [.string nm] rfl rfl ?_
          intro h5 b5 w5 x5 z5 hb5
          have o5 := o3'.ext x5
          have w35 := w3.ext x5
          ((conv=>whnf);repeat((first|(with_reducible first|refine Z1 ?_|refine Z2 ?_|refine Z3 ?_|refine Z4 ?_|refine Z5 ?_|refine Z9 (by assumption) rfl ?_|refine ZA (by assumption) rfl ?_|refine ZB (by assumption) rfl ?_|refine Z6 ?_|refine Z7 ?_|refine Z8 ?_)|((with_reducible refine ZM ?_ ?_);(focus rfl)));(conv=>whnf)))
          refine w5.sl.cells ?_
          refine Own.grow w35 (by have := x1.1; have := x13.1; have := x5.1; omega) rfl rfl (by intro v hv; simp only [List.mem_singleton] at hv; subst hv; rfl) (by omega) ?_
          intro h6 a6 c6 w6 g6
          have w3lt := w3.lt
          have o6 := g6.blk o5 (fun p ep => by have := w3lt p ep; have := w1.lt p ep; have := x2.1; omega)
          have hs6 := g6.1
          ((conv=>whnf);repeat((first|(with_reducible first|refine Z1 ?_|refine Z2 ?_|refine Z3 ?_|refine Z4 ?_|refine Z5 ?_|refine Z9 (by assumption) rfl ?_|refine ZA (by assumption) rfl ?_|refine ZB (by assumption) rfl ?_|refine Z6 ?_|refine Z7 ?_|refine Z8 ?_)|((with_reducible refine ZM ?_ ?_);(focus rfl)));(conv=>whnf)))
          exact ⟨a6, c6, by rw [List.length_append]; rfl, by rw [SlS, List.length_append, List.map_append]; exact w6, (x1.trans (x13.trans x5)).keep (g6.kept (by have := x1.1; have := x13.1; have := x5.1; omega) fun p ep => by have := w3lt p ep; omega), by have := x5.1; omega, o6⟩
        · rw [addN_yes hin]
          ((conv=>whnf);repeat((first|(with_reducible first|refine Z1 ?_|refine Z2 ?_|refine Z3 ?_|refine Z4 ?_|refine Z5 ?_|refine Z9 (by assumption) rfl ?_|refine ZA (by assumption) rfl ?_|refine ZB (by assumption) rfl ?_|refine Z6 ?_|refine Z7 ?_|refine Z8 ?_)|((with_reducible refine ZM ?_ ?_);(focus rfl)));(conv=>whnf)))
          exact ⟨a1, c1, rfl, w3, x1.trans x13, Nat.le_refl _, o3'⟩
      · have q3 : (k == 23) = false := beq_eq_false_iff_ne.2 hk3
        rw [if_neg hk3]
        ((conv=>whnf);repeat((first|(with_reducible first|refine Z1 ?_|refine Z2 ?_|refine Z3 ?_|refine Z4 ?_|refine Z5 ?_|refine Z9 (by assumption) rfl ?_|refine ZA (by assumption) rfl ?_|refine ZB (by assumption) rfl ?_|refine Z6 ?_|refine Z7 ?_|refine Z8 ?_)|((with_reducible refine ZM ?_ ?_);(focus rfl)));(conv=>whnf)))
        exact ⟨a1, c1, rfl, w3, x1.trans x13, Nat.le_refl _, o3'⟩
    · intro u4 h4 v2
      rintro ⟨a4, c4, e, w4, x4, hs4, o4⟩
      cases e
      have hb4 : b2' < h4.size := o4.lt
      have ho2 : (if k = 23 then addN out nm else out).length ≤ 1048577 := by have := addN_len out nm; split <;> omega
      generalize (if k = 23 then addN out nm else out) = out2 at w4 vt ho2
      have hv2 := varsL_len kl []
      ((conv=>whnf);repeat((first|(with_reducible first|refine Z1 ?_|refine Z2 ?_|refine Z3 ?_|refine Z4 ?_|refine Z5 ?_|refine Z9 (by assumption) rfl ?_|refine ZA (by assumption) rfl ?_|refine ZB (by assumption) rfl ?_|refine Z6 ?_|refine Z7 ?_|refine Z8 ?_)|((with_reducible refine ZM ?_ ?_);(focus rfl)));(conv=>whnf)))
      refine HCall.mk ((ih (cnts kl) (by omega) kl rfl h4 la lc ys (s2.ext x4) (s3.ext x4) (by omega)).mono ?_)
      rintro e h5 ⟨a5, c5, rfl, w5, x5⟩
      have w45 := w4.ext x5
      have hs45 := x5.1
      have hs04 := x4.1
      generalize varsL kl [] = ks at w5 vt hv2
      simp only [List.length_nil, Nat.zero_add] at hv2
      have hfl : ∀ j, (ks.take j).foldl addN out2 = (ks.take j).foldl addN out2 := fun _ => rfl
      ((conv=>whnf);repeat((first|(with_reducible first|refine Z1 ?_|refine Z2 ?_|refine Z3 ?_|refine Z4 ?_|refine Z5 ?_|refine Z9 (by assumption) rfl ?_|refine ZA (by assumption) rfl ?_|refine ZB (by assumption) rfl ?_|refine Z6 ?_|refine Z7 ?_|refine Z8 ?_)|((with_reducible refine ZM ?_ ?_);(focus rfl)));(conv=>whnf)))
      refine loop_rule [2, 34] (fun vs h' => ∃ (j : Nat) (a' : Option Addr) (c' : Nat), vs = [.slice a' ((ks.take j).foldl addN out2).length c', .int .i64 j] ∧ j ≤ ks.length ∧ SlS h' h.size a' c' ((ks.take j).foldl addN out2) ∧ Sl h' 1 a5 ks.length c5 (ks.map .string) ∧ Ext h h' ∧ h5.size ≤ h'.size ∧ (∀ p, a' = some p → p.block < h4.size ∨ h5.size ≤ p.block))
        (fun vs _ => match vs with | [_, .int _ i] => ks.length - i.toNat | _ => 0) rfl ?_ ?_
      · exact ⟨0, a4, c4, rfl, by omega, w45, w5.sl, x4.trans x5, Nat.le_refl _, fun p ep => .inl (w4.lt p ep).2⟩
      intro u6 h6 v2' v34
      rintro ⟨j, a6, c6, e, hj, w6, s6, x6, hs6, ap6⟩
      cases e
      ((conv=>whnf);repeat((first|(with_reducible first|refine Z1 ?_|refine Z2 ?_|refine Z3 ?_|refine Z4 ?_|refine Z5 ?_|refine Z9 (by assumption) rfl ?_|refine ZA (by assumption) rfl ?_|refine ZB (by assumption) rfl ?_|refine Z6 ?_|refine Z7 ?_|refine Z8 ?_)|((with_reducible refine ZM ?_ ?_);(focus rfl)));(conv=>whnf)))
      refine HIf.mk (fun hlt2 => ?_) (fun hlt2 => ?_)
      · have hj1 : j < ks.length := by have := of_decide_eq_true hlt2; omega
        have hmu2 : ks.length - ((j : Int) + 1).toNat < ks.length - ((j : Int)).toNat := by omega
        have ft : (ks.take (j + 1)).foldl addN out2 = addN ((ks.take j).foldl addN out2) ks[j] := by rw [take_succ' hj1, List.foldl_append]; rfl
        have fl := fold_len (ks.take j) out2
        rw [List.length_take] at fl
        generalize (ks.take j).foldl addN out2 = out3 at w6 ft fl
        ((conv=>whnf);repeat((first|(with_reducible first|refine Z1 ?_|refine Z2 ?_|refine Z3 ?_|refine Z4 ?_|refine Z5 ?_|refine Z9 (by assumption) rfl ?_|refine ZA (by assumption) rfl ?_|refine ZB (by assumption) rfl ?_|refine Z6 ?_|refine Z7 ?_|refine Z8 ?_)|((with_reducible refine ZM ?_ ?_);(focus rfl)));(conv=>whnf)))
        refine HIdx.mk j rfl hj1 ?_
        refine sl_some s6 hj1 fun p ep => ?_
        ((conv=>whnf);repeat((first|(with_reducible first|refine Z1 ?_|refine Z2 ?_|refine Z3 ?_|refine Z4 ?_|refine Z5 ?_|refine Z9 (by assumption) rfl ?_|refine ZA (by assumption) rfl ?_|refine ZB (by assumption) rfl ?_|refine Z6 ?_|refine Z7 ?_|refine Z8 ?_)|((with_reducible refine ZM ?_ ?_);(focus rfl)));(conv=>whnf)))
        refine s6.load ep (by simpa using hj1) ?_
        rw [List.getElem_map]
        ((conv=>whnf);repeat((first|(with_reducible first|refine Z1 ?_|refine Z2 ?_|refine Z3 ?_|refine Z4 ?_|refine Z5 ?_|refine Z9 (by assumption) rfl ?_|refine ZA (by assumption) rfl ?_|refine ZB (by assumption) rfl ?_|refine Z6 ?_|refine Z7 ?_|refine Z8 ?_)|((with_reducible refine ZM ?_ ?_);(focus rfl)));(conv=>whnf)))
        refine HCall.mk ((contains_spec w6.sl ks[j] (by omega)).mono ?_)
        rintro e h7 ⟨rfl, rfl⟩
        cases hin : strIn out3 ks[j]
        · rw [addN_no hin] at ft
          ((conv=>whnf);repeat((first|(with_reducible first|refine Z1 ?_|refine Z2 ?_|refine Z3 ?_|refine Z4 ?_|refine Z5 ?_|refine Z9 (by assumption) rfl ?_|refine ZA (by assumption) rfl ?_|refine ZB (by assumption) rfl ?_|refine Z6 ?_|refine Z7 ?_|refine Z8 ?_)|((with_reducible refine ZM ?_ ?_);(focus rfl)));(conv=>whnf)))
          refine new_own (e := 9) 1 1 [.string ks[j]] rfl rfl ?_
          intro h8 b8 w8 x8 z8 hb8
          have w68 := w6.ext x8
          have s68 := s6.ext x8
          have hs8 := x8.1
          ((conv=>whnf);repeat((first|(with_reducible first|refine Z1 ?_|refine Z2 ?_|refine Z3 ?_|refine Z4 ?_|refine Z5 ?_|refine Z9 (by assumption) rfl ?_|refine ZA (by assumption) rfl ?_|refine ZB (by assumption) rfl ?_|refine Z6 ?_|refine Z7 ?_|refine Z8 ?_)|((with_reducible refine ZM ?_ ?_);(focus rfl)));(conv=>whnf)))
          refine w8.sl.cells ?_
          refine Own.grow w68 (by have := x6.1; omega) rfl rfl (by intro v hv; simp only [List.mem_singleton] at hv; subst hv; rfl) (by omega) ?_
          intro h9 a9 c9 w9 g9
          have w6lt := w6.lt
          have w5lt := w5.lt
          have hs9 := g9.1
          have ap9 : ∀ p, a9 = some p → p.block < h4.size ∨ h5.size ≤ p.block := by
            intro p ep
            rcases g9.2.2 p ep with ⟨q, eq, hq⟩ | hq
            · rw [hq]; exact ap6 q eq
            · right; omega
          have s9 : Sl h9 1 a5 ks.length c5 (ks.map .string) := sl_at s68 fun q eq => g9.2.1 _ (by have := w5lt q eq; omega) (fun p ep => by have := w5lt q eq; have := ap6 p ep; omega)
          ((conv=>whnf);repeat((first|(with_reducible first|refine Z1 ?_|refine Z2 ?_|refine Z3 ?_|refine Z4 ?_|refine Z5 ?_|refine Z9 (by assumption) rfl ?_|refine ZA (by assumption) rfl ?_|refine ZB (by assumption) rfl ?_|refine Z6 ?_|refine Z7 ?_|refine Z8 ?_)|((with_reducible refine ZM ?_ ?_);(focus rfl)));(conv=>whnf)))
          exact ⟨⟨j + 1, a9, c9, by rw [ft, List.length_append]; rfl, by omega, by rw [ft, SlS, List.length_append, List.map_append]; exact w9, s9, (x6.trans x8).keep (g9.kept (by have := x6.1; omega) fun p ep => by have := w6lt p ep; omega), by omega, ap9⟩, hmu2⟩
        · rw [addN_yes hin] at ft
          ((conv=>whnf);repeat((first|(with_reducible first|refine Z1 ?_|refine Z2 ?_|refine Z3 ?_|refine Z4 ?_|refine Z5 ?_|refine Z9 (by assumption) rfl ?_|refine ZA (by assumption) rfl ?_|refine ZB (by assumption) rfl ?_|refine Z6 ?_|refine Z7 ?_|refine Z8 ?_)|((with_reducible refine ZM ?_ ?_);(focus rfl)));(conv=>whnf)))
          exact ⟨⟨j + 1, a6, c6, by rw [ft]; rfl, by omega, by rw [ft]; exact w6, s6, x6, hs6, ap6⟩, hmu2⟩
      · have hge2 := of_decide_eq_false hlt2
        obtain rfl : j = ks.length := by omega
        rw [List.take_length] at w6 ⊢
        ((conv=>whnf);repeat((first|(with_reducible first|refine Z1 ?_|refine Z2 ?_|refine Z3 ?_|refine Z4 ?_|refine Z5 ?_|refine Z9 (by assumption) rfl ?_|refine ZA (by assumption) rfl ?_|refine ZB (by assumption) rfl ?_|refine Z6 ?_|refine Z7 ?_|refine Z8 ?_)|((with_reducible refine ZM ?_ ?_);(focus rfl)));(conv=>whnf)))
        exact ⟨⟨i + 1, a6, c6, by rw [vt]; rfl, by omega, by rw [vt]; exact w6, x6⟩, hmu⟩
  · have hge := of_decide_eq_false hlt
    obtain rfl : i = l.length := by omega
    rw [List.take_length] at w1 ⊢
    ((conv=>whnf);repeat((first|(with_reducible first|refine Z1 ?_|refine Z2 ?_|refine Z3 ?_|refine Z4 ?_|refine Z5 ?_|refine Z9 (by assumption) rfl ?_|refine ZA (by assumption) rfl ?_|refine ZB (by assumption) rfl ?_|refine Z6 ?_|refine Z7 ?_|refine Z8 ?_)|((with_reducible refine ZM ?_ ?_);(focus rfl)));(conv=>whnf)))
    exact ⟨a1, c1, rfl, w1, x1⟩

end Go.Proofs.Ytlogpojkkbcpjaa.Hc
