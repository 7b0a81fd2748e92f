/- Funcs, r09's has, decls, Vars, Funcs; r07.Same of a tree with itself. -/
import Derived.Test.YtlogpojkkbcpjaaYH
set_option linter.unusedVariables false
set_option linter.unusedSimpArgs false
namespace Go.Proofs.Ytlogpojkkbcpjaa.Hc
open Go Go.H Go.Proofs
set_option maxRecDepth 100000
set_option maxHeartbeats 8000000
def funcsL (l : List NT) : List NT := l.filter fun d => d.kind == 39
theorem funcsL_take (l : List NT) (i : Nat) (hi : i < l.length) : funcsL (l.take (i + 1)) = funcsL (l.take i) ++ (if l[i].kind = 39 then [l[i]] else []) := by
  unfold funcsL
  rw [take_succ' hi, List.filter_append]
  congr 1
  by_cases h : l[i].kind = 39
  · rw [if_pos h]; simp [h]
  · rw [if_neg h]; simp [h]
theorem funcsL_len (l : List NT) : (funcsL l).length ≤ l.length := List.length_filter_le _ _
theorem TReps.append {h : Heap} {l m : List NT} {xs ys : List Value} (r : TReps h l xs) (s : TReps h m ys) : TReps h (l ++ m) (xs ++ ys) := TReps.of_els (Els.append r.els s.els)
/-- Trees in a slice of one's own. -/
def FRes (h h' : Heap) (l : List NT) (e : Ending) : Prop := ∃ a c xs, e = .returned (.slice a l.length c) ∧ Own h' h.size 26 6 a l.length c xs ∧ TReps h l xs ∧ Ext h h'
theorem funcs_spec (l : List NT) (h : Heap) (a : Option Addr) (c : Nat) (xs : List Value) (s : Sl h 6 a l.length c xs) (r : TReps h l xs) (hc : l.length ≤ 4194304) : HCalls Try.prog 17 #[.slice a l.length c] h fun e h' => FRes h h' (funcsL l) e := by
  refine c17 (by simp) ?_
  ((conv=>whnf);repeat((first|(with_reducible first|refine Z1 ?_|refine Z2 ?_|refine Z3 ?_|refine Z4 ?_|refine Z5 ?_|refine Z9 (by assumption) rfl ?_|refine ZA (by assumption) rfl ?_|refine ZB (by assumption) rfl ?_|refine Z6 ?_|refine Z7 ?_|refine Z8 ?_)|((with_reducible refine ZM ?_ ?_);(focus rfl)));(conv=>whnf)))
  refine loop_rule [2, 7] (fun vs h' => ∃ (i : Nat) (a' : Option Addr) (c' : Nat) (ys : List Value), vs = [.slice a' (funcsL (l.take i)).length c', .int .i64 i] ∧ i ≤ l.length ∧ Own h' h.size 26 6 a' (funcsL (l.take i)).length c' ys ∧ TReps h (funcsL (l.take i)) ys ∧ Ext h h')
    (fun vs _ => match vs with | [_, .int _ i] => l.length - i.toNat | _ => 0) rfl ?_ ?_
  · exact ⟨0, none, 0, [], rfl, by omega, Own.nil _ _ _ _, by simp [funcsL, TReps], Ext.refl _⟩
  intro u h1 v2 v7
  rintro ⟨i, a1, c1, ys, e, hi, w1, r1, x1⟩
  cases e
  ((conv=>whnf);repeat((first|(with_reducible first|refine Z1 ?_|refine Z2 ?_|refine Z3 ?_|refine Z4 ?_|refine Z5 ?_|refine Z9 (by assumption) rfl ?_|refine ZA (by assumption) rfl ?_|refine ZB (by assumption) rfl ?_|refine Z6 ?_|refine Z7 ?_|refine Z8 ?_)|((with_reducible refine ZM ?_ ?_);(focus rfl)));(conv=>whnf)))
  refine HIf.mk (fun hlt => ?_) (fun hlt => ?_)
  · have hi1 : i < l.length := by have := of_decide_eq_true hlt; omega
    have hmu : l.length - ((i : Int) + 1).toNat < l.length - ((i : Int)).toNat := by omega
    have ft := funcsL_take l i hi1
    have fl := funcsL_len (l.take i)
    rw [List.length_take] at fl
    generalize funcsL (l.take i) = out at w1 r1 ft fl
    ((conv=>whnf);repeat((first|(with_reducible first|refine Z1 ?_|refine Z2 ?_|refine Z3 ?_|refine Z4 ?_|refine Z5 ?_|refine Z9 (by assumption) rfl ?_|refine ZA (by assumption) rfl ?_|refine ZB (by assumption) rfl ?_|refine Z6 ?_|refine Z7 ?_|refine Z8 ?_)|((with_reducible refine ZM ?_ ?_);(focus rfl)));(conv=>whnf)))
    refine HIdx.mk i rfl hi1 ?_
    refine sl_some s hi1 fun p ep => ?_
    ((conv=>whnf);repeat((first|(with_reducible first|refine Z1 ?_|refine Z2 ?_|refine Z3 ?_|refine Z4 ?_|refine Z5 ?_|refine Z9 (by assumption) rfl ?_|refine ZA (by assumption) rfl ?_|refine ZB (by assumption) rfl ?_|refine Z6 ?_|refine Z7 ?_|refine Z8 ?_)|((with_reducible refine ZM ?_ ?_);(focus rfl)));(conv=>whnf)))
    refine tloadK s r (.of_ext x1) ep hi1 fun cs rt => ?_
    have rt0 := rt
    have hx1 := x1.1
    have w1lt := w1.lt
    cases hd : l[i] with
    | mk k nm n t ns kl =>
    rw [hd] at rt ft
    have rt1 := rt
    simp only [TRep] at rt
    obtain ⟨_, _, _, _, _, _, _, ka, kc, la, lc, zs, rfl, _⟩ := rt
    ((conv=>whnf);repeat((first|(with_reducible first|refine Z1 ?_|refine Z2 ?_|refine Z3 ?_|refine Z4 ?_|refine Z5 ?_|refine Z9 (by assumption) rfl ?_|refine ZA (by assumption) rfl ?_|refine ZB (by assumption) rfl ?_|refine Z6 ?_|refine Z7 ?_|refine Z8 ?_)|((with_reducible refine ZM ?_ ?_);(focus rfl)));(conv=>whnf)))
    refine new_var (e := 26) zeroT rfl ?_
    intro h2 b2 o2 x2 z2 hb2
    ((conv=>whnf);repeat((first|(with_reducible first|refine Z1 ?_|refine Z2 ?_|refine Z3 ?_|refine Z4 ?_|refine Z5 ?_|refine Z9 (by assumption) rfl ?_|refine ZA (by assumption) rfl ?_|refine ZB (by assumption) rfl ?_|refine Z6 ?_|refine Z7 ?_|refine Z8 ?_)|((with_reducible refine ZM ?_ ?_);(focus rfl)));(conv=>whnf)))
    refine store_blk o2 (by simp) (by simp [isOne]) ?_
    intro h3 f3 z3 o3
    replace o3 : BlkW h3 b2 26 [.int .i64 k, .string nm, .int .i64 n, .string t, .slice ka ns.length kc, .slice la kl.length lc] := by simpa using o3
    have x13 : Ext h1 h3 := x2.offNew f3 (by omega)
    have w3 := w1.ext x13
    rw [show NT.kind (.mk k nm n t ns kl) = k from rfl] at ft
    by_cases hk : k = 39
    · have q : (k == 39) = true := beq_iff_eq.2 hk
      rw [if_pos hk] at ft
      ((conv=>whnf);repeat((first|(with_reducible first|refine Z1 ?_|refine Z2 ?_|refine Z3 ?_|refine Z4 ?_|refine Z5 ?_|refine Z9 (by assumption) rfl ?_|refine ZA (by assumption) rfl ?_|refine ZB (by assumption) rfl ?_|refine Z6 ?_|refine Z7 ?_|refine Z8 ?_|refine ZB (by assumption) (by assumption) ?_)|((with_reducible refine ZM ?_ ?_);(focus rfl)));(conv=>whnf)))
      refine new_own (e := 26) 6 1 [.int .i64 k, .string nm, .int .i64 n, .string t, .slice ka ns.length kc, .slice la kl.length lc] rfl rfl ?_
      intro h4 b4 w4 x4 z4 hb4
      have hx13 := x13.1
      ((conv=>whnf);repeat((first|(with_reducible first|refine Z1 ?_|refine Z2 ?_|refine Z3 ?_|refine Z4 ?_|refine Z5 ?_|refine Z9 (by assumption) rfl ?_|refine ZA (by assumption) rfl ?_|refine ZB (by assumption) rfl ?_|refine Z6 ?_|refine Z7 ?_|refine Z8 ?_)|((with_reducible refine ZM ?_ ?_);(focus rfl)));(conv=>whnf)))
      refine w4.sl.cells ?_
      refine Own.grow (w3.ext x4) (by have := x4.1; omega) rfl rfl (by simp [isOne]) (by omega) ?_
      intro h5 a5 c5 w5 g5
      ((conv=>whnf);repeat((first|(with_reducible first|refine Z1 ?_|refine Z2 ?_|refine Z3 ?_|refine Z4 ?_|refine Z5 ?_|refine Z9 (by assumption) rfl ?_|refine ZA (by assumption) rfl ?_|refine ZB (by assumption) rfl ?_|refine Z6 ?_|refine Z7 ?_|refine Z8 ?_)|((with_reducible refine ZM ?_ ?_);(focus rfl)));(conv=>whnf)))
      exact ⟨⟨i + 1, a5, c5, _, by rw [ft, List.length_append]; rfl, by omega, by rw [ft, List.length_append]; exact w5, by rw [ft]; exact r1.append (treps1 rt1), ((x1.trans x13).trans x4).keep (g5.kept (by have := x4.1; omega) fun p ep => (w1lt p ep).1)⟩, hmu⟩
    · have q : (k == 39) = false := beq_eq_false_iff_ne.2 hk
      rw [if_neg hk, List.append_nil] at ft
      ((conv=>whnf);repeat((first|(with_reducible first|refine Z1 ?_|refine Z2 ?_|refine Z3 ?_|refine Z4 ?_|refine Z5 ?_|refine Z9 (by assumption) rfl ?_|refine ZA (by assumption) rfl ?_|refine ZB (by assumption) rfl ?_|refine Z6 ?_|refine Z7 ?_|refine Z8 ?_)|((with_reducible refine ZM ?_ ?_);(focus rfl)));(conv=>whnf)))
      exact ⟨⟨i + 1, a1, c1, ys, by rw [ft]; rfl, by omega, by rw [ft]; exact w3, by rw [ft]; exact r1, x1.trans x13⟩, hmu⟩
  · have hge := of_decide_eq_false hlt
    obtain rfl : i = l.length := by omega
    rw [List.take_length] at w1 r1 ⊢
    ((conv=>whnf);repeat((first|(with_reducible first|refine Z1 ?_|refine Z2 ?_|refine Z3 ?_|refine Z4 ?_|refine Z5 ?_|refine Z9 (by assumption) rfl ?_|refine ZA (by assumption) rfl ?_|refine ZB (by assumption) rfl ?_|refine Z6 ?_|refine Z7 ?_|refine Z8 ?_)|((with_reducible refine ZM ?_ ?_);(focus rfl)));(conv=>whnf)))
    exact ⟨a1, c1, ys, rfl, w1, r1, x1⟩
theorem rfuncs_spec (l : List NT) (h : Heap) (a : Option Addr) (c : Nat) (xs : List Value) (s : Sl h 6 a l.length c xs) (r : TReps h l xs) (hc : l.length ≤ 4194304) : HCalls Try.prog 18 #[.slice a l.length c] h fun e h' => FRes h h' (funcsL l) e := by
  refine c18 (by simp) ?_
  ((conv=>whnf);repeat((first|(with_reducible first|refine Z1 ?_|refine Z2 ?_|refine Z3 ?_|refine Z4 ?_|refine Z5 ?_|refine Z9 (by assumption) rfl ?_|refine ZA (by assumption) rfl ?_|refine ZB (by assumption) rfl ?_|refine Z6 ?_|refine Z7 ?_|refine Z8 ?_)|((with_reducible refine ZM ?_ ?_);(focus rfl)));(conv=>whnf)))
  refine loop_rule [3, 8] (fun vs h' => ∃ (i : Nat) (a' : Option Addr) (c' : Nat) (ys : List Value), vs = [.slice a' (funcsL (l.take i)).length c', .int .i64 i] ∧ i ≤ l.length ∧ Own h' h.size 26 6 a' (funcsL (l.take i)).length c' ys ∧ TReps h (funcsL (l.take i)) ys ∧ Ext h h')
    (fun vs _ => match vs with | [_, .int _ i] => l.length - i.toNat | _ => 0) rfl ?_ ?_
  · exact ⟨0, none, 0, [], rfl, by omega, Own.nil _ _ _ _, by simp [funcsL, TReps], Ext.refl _⟩
  intro u h1 v2 v7
  rintro ⟨i, a1, c1, ys, e, hi, w1, r1, x1⟩
  cases e
  ((conv=>whnf);repeat((first|(with_reducible first|refine Z1 ?_|refine Z2 ?_|refine Z3 ?_|refine Z4 ?_|refine Z5 ?_|refine Z9 (by assumption) rfl ?_|refine ZA (by assumption) rfl ?_|refine ZB (by assumption) rfl ?_|refine Z6 ?_|refine Z7 ?_|refine Z8 ?_)|((with_reducible refine ZM ?_ ?_);(focus rfl)));(conv=>whnf)))
  refine HIf.mk (fun hlt => ?_) (fun hlt => ?_)
  · have hi1 : i < l.length := by have := of_decide_eq_true hlt; omega
    have hmu : l.length - ((i : Int) + 1).toNat < l.length - ((i : Int)).toNat := by omega
    have ft := funcsL_take l i hi1
    have fl := funcsL_len (l.take i)
    rw [List.length_take] at fl
    generalize funcsL (l.take i) = out at w1 r1 ft fl
    ((conv=>whnf);repeat((first|(with_reducible first|refine Z1 ?_|refine Z2 ?_|refine Z3 ?_|refine Z4 ?_|refine Z5 ?_|refine Z9 (by assumption) rfl ?_|refine ZA (by assumption) rfl ?_|refine ZB (by assumption) rfl ?_|refine Z6 ?_|refine Z7 ?_|refine Z8 ?_)|((with_reducible refine ZM ?_ ?_);(focus rfl)));(conv=>whnf)))
    refine HIdx.mk i rfl hi1 ?_
    refine sl_some s hi1 fun p ep => ?_
    ((conv=>whnf);repeat((first|(with_reducible first|refine Z1 ?_|refine Z2 ?_|refine Z3 ?_|refine Z4 ?_|refine Z5 ?_|refine Z9 (by assumption) rfl ?_|refine ZA (by assumption) rfl ?_|refine ZB (by assumption) rfl ?_|refine Z6 ?_|refine Z7 ?_|refine Z8 ?_)|((with_reducible refine ZM ?_ ?_);(focus rfl)));(conv=>whnf)))
    refine tloadK s r (.of_ext x1) ep hi1 fun cs rt => ?_
    have rt0 := rt
    have hx1 := x1.1
    have w1lt := w1.lt
    cases hd : l[i] with
    | mk k nm n t ns kl =>
    rw [hd] at rt ft
    have rt1 := rt
    simp only [TRep] at rt
    obtain ⟨_, _, _, _, _, _, _, ka, kc, la, lc, zs, rfl, _⟩ := rt
    ((conv=>whnf);repeat((first|(with_reducible first|refine Z1 ?_|refine Z2 ?_|refine Z3 ?_|refine Z4 ?_|refine Z5 ?_|refine Z9 (by assumption) rfl ?_|refine ZA (by assumption) rfl ?_|refine ZB (by assumption) rfl ?_|refine Z6 ?_|refine Z7 ?_|refine Z8 ?_)|((with_reducible refine ZM ?_ ?_);(focus rfl)));(conv=>whnf)))
    refine new_var (e := 26) zeroT rfl ?_
    intro h2 b2 o2 x2 z2 hb2
    ((conv=>whnf);repeat((first|(with_reducible first|refine Z1 ?_|refine Z2 ?_|refine Z3 ?_|refine Z4 ?_|refine Z5 ?_|refine Z9 (by assumption) rfl ?_|refine ZA (by assumption) rfl ?_|refine ZB (by assumption) rfl ?_|refine Z6 ?_|refine Z7 ?_|refine Z8 ?_)|((with_reducible refine ZM ?_ ?_);(focus rfl)));(conv=>whnf)))
    refine store_blk o2 (by simp) (by simp [isOne]) ?_
    intro h3 f3 z3 o3
    replace o3 : BlkW h3 b2 26 [.int .i64 k, .string nm, .int .i64 n, .string t, .slice ka ns.length kc, .slice la kl.length lc] := by simpa using o3
    have x13 : Ext h1 h3 := x2.offNew f3 (by omega)
    have w3 := w1.ext x13
    rw [show NT.kind (.mk k nm n t ns kl) = k from rfl] at ft
    by_cases hk : k = 39
    · have q : (k == 39) = true := beq_iff_eq.2 hk
      rw [if_pos hk] at ft
      ((conv=>whnf);repeat((first|(with_reducible first|refine Z1 ?_|refine Z2 ?_|refine Z3 ?_|refine Z4 ?_|refine Z5 ?_|refine Z9 (by assumption) rfl ?_|refine ZA (by assumption) rfl ?_|refine ZB (by assumption) rfl ?_|refine Z6 ?_|refine Z7 ?_|refine Z8 ?_|refine ZB (by assumption) (by assumption) ?_)|((with_reducible refine ZM ?_ ?_);(focus rfl)));(conv=>whnf)))
      refine new_own (e := 26) 6 1 [.int .i64 k, .string nm, .int .i64 n, .string t, .slice ka ns.length kc, .slice la kl.length lc] rfl rfl ?_
      intro h4 b4 w4 x4 z4 hb4
      have hx13 := x13.1
      ((conv=>whnf);repeat((first|(with_reducible first|refine Z1 ?_|refine Z2 ?_|refine Z3 ?_|refine Z4 ?_|refine Z5 ?_|refine Z9 (by assumption) rfl ?_|refine ZA (by assumption) rfl ?_|refine ZB (by assumption) rfl ?_|refine Z6 ?_|refine Z7 ?_|refine Z8 ?_)|((with_reducible refine ZM ?_ ?_);(focus rfl)));(conv=>whnf)))
      refine w4.sl.cells ?_
      refine Own.grow (w3.ext x4) (by have := x4.1; omega) rfl rfl (by simp [isOne]) (by omega) ?_
      intro h5 a5 c5 w5 g5
      ((conv=>whnf);repeat((first|(with_reducible first|refine Z1 ?_|refine Z2 ?_|refine Z3 ?_|refine Z4 ?_|refine Z5 ?_|refine Z9 (by assumption) rfl ?_|refine ZA (by assumption) rfl ?_|refine ZB (by assumption) rfl ?_|refine Z6 ?_|refine Z7 ?_|refine Z8 ?_)|((with_reducible refine ZM ?_ ?_);(focus rfl)));(conv=>whnf)))
      exact ⟨⟨i + 1, a5, c5, _, by rw [ft, List.length_append]; rfl, by omega, by rw [ft, List.length_append]; exact w5, by rw [ft]; exact r1.append (treps1 rt1), ((x1.trans x13).trans x4).keep (g5.kept (by have := x4.1; omega) fun p ep => (w1lt p ep).1)⟩, hmu⟩
    · have q : (k == 39) = false := beq_eq_false_iff_ne.2 hk
      rw [if_neg hk, List.append_nil] at ft
      ((conv=>whnf);repeat((first|(with_reducible first|refine Z1 ?_|refine Z2 ?_|refine Z3 ?_|refine Z4 ?_|refine Z5 ?_|refine Z9 (by assumption) rfl ?_|refine ZA (by assumption) rfl ?_|refine ZB (by assumption) rfl ?_|refine Z6 ?_|refine Z7 ?_|refine Z8 ?_)|((with_reducible refine ZM ?_ ?_);(focus rfl)));(conv=>whnf)))
      exact ⟨⟨i + 1, a1, c1, ys, by rw [ft]; rfl, by omega, by rw [ft]; exact w3, by rw [ft]; exact r1, x1.trans x13⟩, hmu⟩
  · have hge := of_decide_eq_false hlt
    obtain rfl : i = l.length := by omega
    rw [List.take_length] at w1 r1 ⊢
    ((conv=>whnf);repeat((first|(with_reducible first|refine Z1 ?_|refine Z2 ?_|refine Z3 ?_|refine Z4 ?_|refine Z5 ?_|refine Z9 (by assumption) rfl ?_|refine ZA (by assumption) rfl ?_|refine ZB (by assumption) rfl ?_|refine Z6 ?_|refine Z7 ?_|refine Z8 ?_)|((with_reducible refine ZM ?_ ?_);(focus rfl)));(conv=>whnf)))
    exact ⟨a1, c1, ys, rfl, w1, r1, x1⟩
theorem rhas_spec {h : Heap} {a : Option Addr} {c : Nat} {ks : List ByteArray} (x : Sl h 1 a ks.length c (ks.map .string)) (s : ByteArray) (hn : ks.length ≤ 17179869184) :
    HCalls Try.prog 30 #[.slice a ks.length c, .string s] h fun e h' => h' = h ∧ e = .returned (.bool (strIn ks s)) := by
  refine c30 (by simp) ?_
  ((conv=>whnf);repeat((first|(with_reducible first|refine Z1 ?_|refine Z2 ?_|refine Z3 ?_|refine Z4 ?_|refine Z5 ?_|refine Z9 (by assumption) rfl ?_|refine ZA (by assumption) rfl ?_|refine ZB (by assumption) rfl ?_|refine Z6 ?_|refine Z7 ?_|refine Z8 ?_)|((with_reducible refine ZM ?_ ?_);(focus rfl)));(conv=>whnf)))
  refine loop_rule [9] (fun vs h' => ∃ (i : Nat), vs = [.int .i64 i] ∧ i ≤ ks.length ∧ h' = h ∧ s ∉ ks.take i)
    (fun vs _ => match vs with | [.int _ i] => ks.length - i.toNat | _ => 0) rfl ?_ ?_
  · exact ⟨0, rfl, by omega, rfl, by simp⟩
  · intro u h v8
    rintro ⟨i, e, hi, rfl, hs⟩
    cases e
    ((conv=>whnf);repeat((first|(with_reducible first|refine Z1 ?_|refine Z2 ?_|refine Z3 ?_|refine Z4 ?_|refine Z5 ?_|refine Z9 (by assumption) rfl ?_|refine ZA (by assumption) rfl ?_|refine ZB (by assumption) rfl ?_|refine Z6 ?_|refine Z7 ?_|refine Z8 ?_)|((with_reducible refine ZM ?_ ?_);(focus rfl)));(conv=>whnf)))
    refine HIf.mk (fun hb => ?_) (fun hb => ?_)
    · have hi1 : i < ks.length := by have := of_decide_eq_true hb; omega
      have hmu : ks.length - ((i : Int) + 1).toNat < ks.length - ((i : Int)).toNat := by omega
      ((conv=>whnf);repeat((first|(with_reducible first|refine Z1 ?_|refine Z2 ?_|refine Z3 ?_|refine Z4 ?_|refine Z5 ?_|refine Z9 (by assumption) rfl ?_|refine ZA (by assumption) rfl ?_|refine ZB (by assumption) rfl ?_|refine Z6 ?_|refine Z7 ?_|refine Z8 ?_)|((with_reducible refine ZM ?_ ?_);(focus rfl)));(conv=>whnf)))
      refine HIdx.mk i rfl hi1 ?_
      refine sl_some x hi1 fun p ep => ?_
      ((conv=>whnf);repeat((first|(with_reducible first|refine Z1 ?_|refine Z2 ?_|refine Z3 ?_|refine Z4 ?_|refine Z5 ?_|refine Z9 (by assumption) rfl ?_|refine ZA (by assumption) rfl ?_|refine ZB (by assumption) rfl ?_|refine Z6 ?_|refine Z7 ?_|refine Z8 ?_)|((with_reducible refine ZM ?_ ?_);(focus rfl)));(conv=>whnf)))
      refine x.load ep (by simpa using hi1) ?_
      rw [List.getElem_map]
      cases q : strEq ks[i] s
      · have hne := (strEq_no _ _).1 q
        ((conv=>whnf);repeat((first|(with_reducible first|refine Z1 ?_|refine Z2 ?_|refine Z3 ?_|refine Z4 ?_|refine Z5 ?_|refine Z9 (by assumption) rfl ?_|refine ZA (by assumption) rfl ?_|refine ZB (by assumption) rfl ?_|refine Z6 ?_|refine Z7 ?_|refine Z8 ?_)|((with_reducible refine ZM ?_ ?_);(focus rfl)));(conv=>whnf)))
        refine ⟨⟨i + 1, rfl, by omega, rfl, ?_⟩, hmu⟩
        rw [take_succ' hi1, List.mem_append, List.mem_singleton]
        rintro (h | h)
        · exact hs h
        · exact hne h.symm
      · have heq := (strEq_iff _ _).1 q
        ((conv=>whnf);repeat((first|(with_reducible first|refine Z1 ?_|refine Z2 ?_|refine Z3 ?_|refine Z4 ?_|refine Z5 ?_|refine Z9 (by assumption) rfl ?_|refine ZA (by assumption) rfl ?_|refine ZB (by assumption) rfl ?_|refine Z6 ?_|refine Z7 ?_|refine Z8 ?_)|((with_reducible refine ZM ?_ ?_);(focus rfl)));(conv=>whnf)))
        have : strIn ks s = true := strIn_iff.2 (heq ▸ List.getElem_mem hi1)
        exact ⟨rfl, by rw [this]; rfl⟩
    · have hge := of_decide_eq_false hb
      rw [List.take_of_length_le (by omega)] at hs
      ((conv=>whnf);repeat((first|(with_reducible first|refine Z1 ?_|refine Z2 ?_|refine Z3 ?_|refine Z4 ?_|refine Z5 ?_|refine Z9 (by assumption) rfl ?_|refine ZA (by assumption) rfl ?_|refine ZB (by assumption) rfl ?_|refine Z6 ?_|refine Z7 ?_|refine Z8 ?_)|((with_reducible refine ZM ?_ ?_);(focus rfl)));(conv=>whnf)))
      have : strIn ks s = false := by rw [← Bool.not_eq_true, strIn_iff]; exact hs
      exact ⟨rfl, by rw [this]; rfl⟩
mutual
def declsT : NT → List ByteArray
  | .mk k nm _ _ _ l => if k = 39 ∨ k = 10 then [] else (if k = 23 then [nm] else []) ++ declsL l
def declsL : List NT → List ByteArray
  | [] => []
  | d :: r => declsT d ++ declsL r
end
theorem declsL_take (l : List NT) (i : Nat) (hi : i < l.length) : declsL (l.take (i + 1)) = declsL (l.take i) ++ declsT l[i] := by
  have key : ∀ (l m : List NT), declsL (l ++ m) = declsL l ++ declsL m := by
    intro l
    induction l with
    | nil => intro m; rfl
    | cons d r ih => intro m; simp only [List.cons_append, declsL, ih, List.append_assoc]
  rw [take_succ' hi, key]; simp [declsL]
mutual
theorem declsT_len : ∀ d : NT, (declsT d).length ≤ cnt d
  | .mk k nm n t ns l => by
    have h1 := declsL_len l
    simp only [declsT, cnt]
    split
    · simp
    · rw [List.length_append]
      split <;> simp <;> omega
theorem declsL_len : ∀ l : List NT, (declsL l).length ≤ cnts l
  | [] => by simp [declsL]
  | d :: r => by
    have h1 := declsT_len d
    have h2 := declsL_len r
    simp only [declsL, cnts, List.length_append]; omega
end
theorem addN_mem {out : List ByteArray} {s x : ByteArray} : x ∈ addN out s ↔ x ∈ out ∨ x = s := by
  unfold addN
  split
  · rename_i h
    have := strIn_iff.1 h
    constructor
    · intro hx; exact .inl hx
    · rintro (hx | rfl)
      · exact hx
      · exact this
  · simp
theorem fold_mem : ∀ {ks out : List ByteArray} {x : ByteArray}, x ∈ ks.foldl addN out ↔ x ∈ out ∨ x ∈ ks
  | [], out, x => by simp
  | s :: ks, out, x => by
    rw [List.foldl_cons, fold_mem, addN_mem, List.mem_cons]
    exact ⟨fun h => by rcases h with (h | h) | h <;> simp [h], fun h => by rcases h with h | h | h <;> simp [h]⟩
theorem fold_fold : ∀ (ds acc out : List ByteArray), (ds.foldl addN acc).foldl addN out = ds.foldl addN (acc.foldl addN out)
  | [], acc, out => rfl
  | s :: ds, acc, out => by
    rw [List.foldl_cons, List.foldl_cons, fold_fold ds (addN acc s) out]
    congr 1
    by_cases h : strIn acc s = true
    · rw [addN_yes h, addN_yes (strIn_iff.2 (fold_mem.2 (.inr (strIn_iff.1 h))))]
    · rw [addN_no (by simpa using h), List.foldl_append]; rfl
mutual
theorem varsT_decls : ∀ (d : NT) (out : List ByteArray), varsT d out = (declsT d).foldl addN out
  | .mk k nm n t ns l, out => by
    simp only [varsT, declsT]
    split
    · rfl
    · rw [varsL_decls l [], fold_fold, List.foldl_append]
      congr 1
      simp only [List.foldl_nil]
      split <;> rfl
theorem varsL_decls : ∀ (l : List NT) (out : List ByteArray), varsL l out = (declsL l).foldl addN out
  | [], out => by simp [varsL, declsL]
  | d :: r, out => by simp only [varsL, declsL, List.foldl_append]; rw [varsL_decls r, varsT_decls d]
end
theorem decls_spec : ∀ (m : Nat) (l : List NT) (_ : cnts l = m) (h : Heap) (a : Option Addr) (c : Nat) (xs : List Value) (_ : Sl h 6 a l.length c xs) (_ : TReps h l xs) (_ : cnts l ≤ 1048576),
    HCalls Try.prog 29 #[.slice a l.length c] h fun e h' => ∃ a' c', e = .returned (.slice a' (declsL l).length c') ∧ SlS h' h.size a' c' (declsL l) ∧ Ext h h' := by
  intro m
  induction m using Nat.strongRecOn with
  | ind m ih =>
  intro l hm h a c xs s r hc
  have hl := cnts_len l
  refine c29 (by simp) ?_
  ((conv=>whnf);repeat((first|(with_reducible first|refine Z1 ?_|refine Z2 ?_|refine Z3 ?_|refine Z4 ?_|refine Z5 ?_|refine Z9 (by assumption) rfl ?_|refine ZA (by assumption) rfl ?_|refine ZB (by assumption) rfl ?_|refine Z6 ?_|refine Z7 ?_|refine Z8 ?_)|((with_reducible refine ZM ?_ ?_);(focus rfl)));(conv=>whnf)))
  refine loop_rule [3, 8] (fun vs h' => ∃ (i : Nat) (a' : Option Addr) (c' : Nat), vs = [.slice a' (declsL (l.take i)).length c', .int .i64 i] ∧ i ≤ l.length ∧ SlS h' h.size a' c' (declsL (l.take i)) ∧ Ext h h')
    (fun vs _ => match vs with | [_, .int _ i] => l.length - i.toNat | _ => 0) rfl ?_ ?_
  · exact ⟨0, none, 0, rfl, by omega, Own.nil _ _ _ _, Ext.refl _⟩
  intro u h1 v3 v8
  rintro ⟨i, a1, c1, e, hi, w1, x1⟩
  cases e
  ((conv=>whnf);repeat((first|(with_reducible first|refine Z1 ?_|refine Z2 ?_|refine Z3 ?_|refine Z4 ?_|refine Z5 ?_|refine Z9 (by assumption) rfl ?_|refine ZA (by assumption) rfl ?_|refine ZB (by assumption) rfl ?_|refine Z6 ?_|refine Z7 ?_|refine Z8 ?_)|((with_reducible refine ZM ?_ ?_);(focus rfl)));(conv=>whnf)))
  refine HIf.mk (fun hlt => ?_) (fun hlt => ?_)
  · have hi1 : i < l.length := by have := of_decide_eq_true hlt; omega
    have hmu : l.length - ((i : Int) + 1).toNat < l.length - ((i : Int)).toNat := by omega
    have vt := declsL_take l i hi1
    have hvl := declsL_len (l.take i)
    have hct := cnts_take l i
    have hcg := cnts_get l i hi1
    have hkl := kids_lt l[i]
    generalize declsL (l.take i) = out at w1 vt hvl
    ((conv=>whnf);repeat((first|(with_reducible first|refine Z1 ?_|refine Z2 ?_|refine Z3 ?_|refine Z4 ?_|refine Z5 ?_|refine Z9 (by assumption) rfl ?_|refine ZA (by assumption) rfl ?_|refine ZB (by assumption) rfl ?_|refine Z6 ?_|refine Z7 ?_|refine Z8 ?_)|((with_reducible refine ZM ?_ ?_);(focus rfl)));(conv=>whnf)))
    refine HIdx.mk i rfl hi1 ?_
    refine sl_some s hi1 fun p ep => ?_
    ((conv=>whnf);repeat((first|(with_reducible first|refine Z1 ?_|refine Z2 ?_|refine Z3 ?_|refine Z4 ?_|refine Z5 ?_|refine Z9 (by assumption) rfl ?_|refine ZA (by assumption) rfl ?_|refine ZB (by assumption) rfl ?_|refine Z6 ?_|refine Z7 ?_|refine Z8 ?_)|((with_reducible refine ZM ?_ ?_);(focus rfl)));(conv=>whnf)))
    refine tloadK s r (.of_ext x1) ep hi1 fun cs rt => ?_
    cases hd : l[i] with
    | mk k nm n t ns kl =>
    rw [hd] at rt vt hcg hkl
    simp only [NT.l] at hkl
    simp only [TRep] at rt
    obtain ⟨_, _, _, _, _, _, _, ka, kc, la, lc, zs, rfl, t1, t2, t3⟩ := rt
    have hx1 := x1.1
    have w1lt := w1.lt
    ((conv=>whnf);repeat((first|(with_reducible first|refine Z1 ?_|refine Z2 ?_|refine Z3 ?_|refine Z4 ?_|refine Z5 ?_|refine Z9 (by assumption) rfl ?_|refine ZA (by assumption) rfl ?_|refine ZB (by assumption) rfl ?_|refine Z6 ?_|refine Z7 ?_|refine Z8 ?_)|((with_reducible refine ZM ?_ ?_);(focus rfl)));(conv=>whnf)))
    refine new_var (e := 26) zeroT rfl ?_
    intro h2 b2 o2 x2 z2 hb2
    ((conv=>whnf);repeat((first|(with_reducible first|refine Z1 ?_|refine Z2 ?_|refine Z3 ?_|refine Z4 ?_|refine Z5 ?_|refine Z9 (by assumption) rfl ?_|refine ZA (by assumption) rfl ?_|refine ZB (by assumption) rfl ?_|refine Z6 ?_|refine Z7 ?_|refine Z8 ?_)|((with_reducible refine ZM ?_ ?_);(focus rfl)));(conv=>whnf)))
    refine store_blk o2 (by simp) (by simp [isOne]) ?_
    intro h3 f3 z3 o3
    replace o3 : BlkW h3 b2 26 [.int .i64 k, .string nm, .int .i64 n, .string t, .slice ka ns.length kc, .slice la kl.length lc] := by simpa using o3
    have x13 : Ext h1 h3 := x2.offNew f3 (by omega)
    have w3 : SlS h3 h.size a1 c1 out := w1.ext x13
    have x03 := x1.trans x13
    have hx13 := x13.1
    have hx2 := x2.1
    simp only [declsT] at vt
    clear o2 f3
    by_cases hA : k = 39 ∨ k = 10
    · rw [if_pos hA, List.append_nil] at vt
      have qs : (k == 39) = true ∨ ((k == 39) = false ∧ (k == 10) = true) := by rcases hA with rfl | rfl <;> decide
      rcases qs with q | ⟨q, q2⟩
      all_goals
        ((conv=>whnf);repeat((first|(with_reducible first|refine Z1 ?_|refine Z2 ?_|refine Z3 ?_|refine Z4 ?_|refine Z5 ?_|refine Z9 (by assumption) rfl ?_|refine ZA (by assumption) rfl ?_|refine ZB (by assumption) rfl ?_|refine Z6 ?_|refine Z7 ?_|refine Z8 ?_)|((with_reducible refine ZM ?_ ?_);(focus rfl)));(conv=>whnf)))
        exact ⟨⟨i + 1, a1, c1, by rw [vt]; rfl, by omega, by rw [vt]; exact w3, x03⟩, hmu⟩
    rw [if_neg hA] at vt
    have qA1 : (k == 39) = false := beq_eq_false_iff_ne.2 fun e => hA (.inl e)
    have qA2 : (k == 10) = false := beq_eq_false_iff_ne.2 fun e => hA (.inr e)
    clear hA
    ((conv=>whnf);repeat((first|(with_reducible first|refine Z2 ?_|refine Z3 ?_|refine Z4 ?_|refine Z5 ?_|refine Z9 (by assumption) rfl ?_|refine ZA (by assumption) rfl ?_|refine ZB (by assumption) rfl ?_|refine Z6 ?_|refine Z7 ?_|refine Z8 ?_)|((with_reducible refine ZM ?_ ?_);(focus rfl)));(conv=>whnf)))
    refine HSeq.go ?_
    ((conv=>whnf);repeat((first|(with_reducible first|refine Z2 ?_|refine Z3 ?_|refine Z4 ?_|refine Z5 ?_|refine Z9 (by assumption) rfl ?_|refine ZA (by assumption) rfl ?_|refine ZB (by assumption) rfl ?_|refine Z6 ?_|refine Z7 ?_|refine Z8 ?_)|((with_reducible refine ZM ?_ ?_);(focus rfl)));(conv=>whnf)))
    refine cut_rule [3] (fun vs h' => ∃ (a' : Option Addr) (c' : Nat), vs = [.slice a' (out ++ if k = 23 then [nm] else []).length c'] ∧ SlS h' h.size a' c' (out ++ if k = 23 then [nm] else []) ∧ Ext h h' ∧ BlkW h' b2 26 [.int .i64 k, .string nm, .int .i64 n, .string t, .slice ka ns.length kc, .slice la kl.length lc]) rfl ?_ ?_
    · by_cases hk3 : k = 23
      · have q3 : (k == 23) = true := beq_iff_eq.2 hk3
        rw [if_pos hk3]
        ((conv=>whnf);repeat((first|(with_reducible first|refine Z1 ?_|refine Z2 ?_|refine Z3 ?_|refine Z4 ?_|refine Z5 ?_|refine Z9 (by assumption) rfl ?_|refine ZA (by assumption) rfl ?_|refine ZB (by assumption) rfl ?_|refine Z6 ?_|refine Z7 ?_|refine Z8 ?_)|((with_reducible refine ZM ?_ ?_);(focus rfl)));(conv=>whnf)))
        refine new_own (e := 9) 1 1 [.string nm] rfl rfl ?_
        intro h5 b5 w5 x5 z5 hb5
        have o5 := o3.ext x5
        have w35 := w3.ext x5
        have hx5 := x5.1
        have w3lt := w3.lt
        ((conv=>whnf);repeat((first|(with_reducible first|refine Z1 ?_|refine Z2 ?_|refine Z3 ?_|refine Z4 ?_|refine Z5 ?_|refine Z9 (by assumption) rfl ?_|refine ZA (by assumption) rfl ?_|refine ZB (by assumption) rfl ?_|refine Z6 ?_|refine Z7 ?_|refine Z8 ?_)|((with_reducible refine ZM ?_ ?_);(focus rfl)));(conv=>whnf)))
        refine w5.sl.cells ?_
        refine Own.grow w35 (by omega) rfl rfl (by intro v hv; simp only [List.mem_singleton] at hv; subst hv; rfl) (by omega) ?_
        intro h6 a6 c6 w6 g6
        have o6 := g6.blk o5 (fun p ep => by have := w1lt p ep; omega)
        ((conv=>whnf);repeat((first|(with_reducible first|refine Z1 ?_|refine Z2 ?_|refine Z3 ?_|refine Z4 ?_|refine Z5 ?_|refine Z9 (by assumption) rfl ?_|refine ZA (by assumption) rfl ?_|refine ZB (by assumption) rfl ?_|refine Z6 ?_|refine Z7 ?_|refine Z8 ?_)|((with_reducible refine ZM ?_ ?_);(focus rfl)));(conv=>whnf)))
        exact ⟨a6, c6, by rw [List.length_append]; rfl, by rw [SlS, List.length_append, List.map_append]; exact w6, (x03.trans x5).keep (g6.kept (by omega) fun p ep => (w1lt p ep).1), o6⟩
      · have q3 : (k == 23) = false := beq_eq_false_iff_ne.2 hk3
        rw [if_neg hk3, List.append_nil]
        ((conv=>whnf);repeat((first|(with_reducible first|refine Z1 ?_|refine Z2 ?_|refine Z3 ?_|refine Z4 ?_|refine Z5 ?_|refine Z9 (by assumption) rfl ?_|refine ZA (by assumption) rfl ?_|refine ZB (by assumption) rfl ?_|refine Z6 ?_|refine Z7 ?_|refine Z8 ?_)|((with_reducible refine ZM ?_ ?_);(focus rfl)));(conv=>whnf)))
        exact ⟨a1, c1, rfl, w3, x03, o3⟩
    · intro u4 h4 v3'
      rintro ⟨a4, c4, e, w4, x4, o4⟩
      cases e
      have ho2 : (out ++ if k = 23 then [nm] else []).length ≤ 1048577 := by rw [List.length_append]; split <;> simp <;> omega
      rw [← List.append_assoc] at vt
      generalize (out ++ if k = 23 then [nm] else []) = out2 at w4 vt ho2
      have hdl := declsL_len kl
      have hx4 := x4.1
      ((conv=>whnf);repeat((first|(with_reducible first|refine Z1 ?_|refine Z2 ?_|refine Z3 ?_|refine Z4 ?_|refine Z5 ?_|refine Z9 (by assumption) rfl ?_|refine ZA (by assumption) rfl ?_|refine ZB (by assumption) rfl ?_|refine Z6 ?_|refine Z7 ?_|refine Z8 ?_)|((with_reducible refine ZM ?_ ?_);(focus rfl)));(conv=>whnf)))
      refine HCall.mk ((ih (cnts kl) (by omega) kl rfl h4 la lc zs (t2.ext x4) (t3.ext x4) (by omega)).mono ?_)
      rintro e h5 ⟨a5, c5, rfl, w5, x5⟩
      have w45 := w4.ext x5
      have w4lt := w4.lt
      have hx5 := x5.1
      generalize declsL kl = ks at w5 vt hdl
      ((conv=>whnf);repeat((first|(with_reducible first|refine Z1 ?_|refine Z2 ?_|refine Z3 ?_|refine Z4 ?_|refine Z5 ?_|refine Z9 (by assumption) rfl ?_|refine ZA (by assumption) rfl ?_|refine ZB (by assumption) rfl ?_|refine Z6 ?_|refine Z7 ?_|refine Z8 ?_)|((with_reducible refine ZM ?_ ?_);(focus rfl)));(conv=>whnf)))
      refine w5.sl.cells ?_
      refine Own.grow w45 (by omega) rfl (by simp) (by intro v hv; obtain ⟨s, _, rfl⟩ := List.mem_map.1 hv; rfl) (by omega) ?_
      intro h6 a6 c6 w6 g6
      ((conv=>whnf);repeat((first|(with_reducible first|refine Z1 ?_|refine Z2 ?_|refine Z3 ?_|refine Z4 ?_|refine Z5 ?_|refine Z9 (by assumption) rfl ?_|refine ZA (by assumption) rfl ?_|refine ZB (by assumption) rfl ?_|refine Z6 ?_|refine Z7 ?_|refine Z8 ?_)|((with_reducible refine ZM ?_ ?_);(focus rfl)));(conv=>whnf)))
      exact ⟨⟨i + 1, a6, c6, by rw [vt, List.length_append]; rfl, by omega, by rw [vt, SlS, List.length_append, List.map_append]; exact w6, (x4.trans x5).keep (g6.kept (by omega) fun p ep => (w4lt p ep).1)⟩, hmu⟩
  · have hge := of_decide_eq_false hlt
    obtain rfl : i = l.length := by omega
    rw [List.take_length] at w1 ⊢
    ((conv=>whnf);repeat((first|(with_reducible first|refine Z1 ?_|refine Z2 ?_|refine Z3 ?_|refine Z4 ?_|refine Z5 ?_|refine Z9 (by assumption) rfl ?_|refine ZA (by assumption) rfl ?_|refine ZB (by assumption) rfl ?_|refine Z6 ?_|refine Z7 ?_|refine Z8 ?_)|((with_reducible refine ZM ?_ ?_);(focus rfl)));(conv=>whnf)))
    exact ⟨a1, c1, rfl, w1, x1⟩
theorem rvars_spec (l : List NT) (h : Heap) (a : Option Addr) (c : Nat) (xs : List Value) (s : Sl h 6 a l.length c xs) (r : TReps h l xs) (hc : cnts l ≤ 1048576) :
    HCalls Try.prog 21 #[.slice a l.length c] h fun e h' => ∃ a' c', e = .returned (.slice a' (varsL l []).length c') ∧ SlS h' h.size a' c' (varsL l []) ∧ Ext h h' := by
  rw [varsL_decls]
  refine c21 (by simp) ?_
  ((conv=>whnf);repeat((first|(with_reducible first|refine Z1 ?_|refine Z2 ?_|refine Z3 ?_|refine Z4 ?_|refine Z5 ?_|refine Z9 (by assumption) rfl ?_|refine ZA (by assumption) rfl ?_|refine ZB (by assumption) rfl ?_|refine Z6 ?_|refine Z7 ?_|refine Z8 ?_)|((with_reducible refine ZM ?_ ?_);(focus rfl)));(conv=>whnf)))
  refine HCall.mk ((decls_spec _ l rfl h a c xs s r hc).mono ?_)
  rintro e h1 ⟨a1, c1, rfl, w1, x1⟩
  have hdl := declsL_len l
  have w1lt := w1.lt
  generalize declsL l = ks at w1 hdl
  ((conv=>whnf);repeat((first|(with_reducible first|refine Z1 ?_|refine Z2 ?_|refine Z3 ?_|refine Z4 ?_|refine Z5 ?_|refine Z9 (by assumption) rfl ?_|refine ZA (by assumption) rfl ?_|refine ZB (by assumption) rfl ?_|refine Z6 ?_|refine Z7 ?_|refine Z8 ?_)|((with_reducible refine ZM ?_ ?_);(focus rfl)));(conv=>whnf)))
  refine loop_rule [3, 9] (fun vs h' => ∃ (j : Nat) (a' : Option Addr) (c' : Nat), vs = [.slice a' ((ks.take j).foldl addN []).length c', .int .i64 j] ∧ j ≤ ks.length ∧ SlS h' h1.size a' c' ((ks.take j).foldl addN []) ∧ Ext h1 h')
    (fun vs _ => match vs with | [_, .int _ i] => ks.length - i.toNat | _ => 0) rfl ?_ ?_
  · exact ⟨0, none, 0, rfl, by omega, Own.nil _ _ _ _, Ext.refl _⟩
  intro u6 h6 v3 v9
  rintro ⟨j, a6, c6, e, hj, w6, x6⟩
  cases e
  ((conv=>whnf);repeat((first|(with_reducible first|refine Z1 ?_|refine Z2 ?_|refine Z3 ?_|refine Z4 ?_|refine Z5 ?_|refine Z9 (by assumption) rfl ?_|refine ZA (by assumption) rfl ?_|refine ZB (by assumption) rfl ?_|refine Z6 ?_|refine Z7 ?_|refine Z8 ?_)|((with_reducible refine ZM ?_ ?_);(focus rfl)));(conv=>whnf)))
  refine HIf.mk (fun hlt2 => ?_) (fun hlt2 => ?_)
  · have hj1 : j < ks.length := by have := of_decide_eq_true hlt2; omega
    have hmu2 : ks.length - ((j : Int) + 1).toNat < ks.length - ((j : Int)).toNat := by omega
    have ft : (ks.take (j + 1)).foldl addN [] = addN ((ks.take j).foldl addN []) ks[j] := by rw [take_succ' hj1, List.foldl_append]; rfl
    have fl := fold_len (ks.take j) []
    rw [List.length_take] at fl
    simp only [List.length_nil] at fl
    generalize (ks.take j).foldl addN [] = out3 at w6 ft fl
    have hx6 := x6.1
    have w6lt := w6.lt
    ((conv=>whnf);repeat((first|(with_reducible first|refine Z1 ?_|refine Z2 ?_|refine Z3 ?_|refine Z4 ?_|refine Z5 ?_|refine Z9 (by assumption) rfl ?_|refine ZA (by assumption) rfl ?_|refine ZB (by assumption) rfl ?_|refine Z6 ?_|refine Z7 ?_|refine Z8 ?_)|((with_reducible refine ZM ?_ ?_);(focus rfl)));(conv=>whnf)))
    refine HIdx.mk j rfl hj1 ?_
    refine sl_some w1.sl hj1 fun p ep => ?_
    ((conv=>whnf);repeat((first|(with_reducible first|refine Z1 ?_|refine Z2 ?_|refine Z3 ?_|refine Z4 ?_|refine Z5 ?_|refine Z9 (by assumption) rfl ?_|refine ZA (by assumption) rfl ?_|refine ZB (by assumption) rfl ?_|refine Z6 ?_|refine Z7 ?_|refine Z8 ?_)|((with_reducible refine ZM ?_ ?_);(focus rfl)));(conv=>whnf)))
    refine (w1.sl.ext x6).load ep (by simpa using hj1) ?_
    rw [List.getElem_map]
    ((conv=>whnf);repeat((first|(with_reducible first|refine Z1 ?_|refine Z2 ?_|refine Z3 ?_|refine Z4 ?_|refine Z5 ?_|refine Z9 (by assumption) rfl ?_|refine ZA (by assumption) rfl ?_|refine ZB (by assumption) rfl ?_|refine Z6 ?_|refine Z7 ?_|refine Z8 ?_)|((with_reducible refine ZM ?_ ?_);(focus rfl)));(conv=>whnf)))
    refine HCall.mk ((rhas_spec w6.sl ks[j] (by omega)).mono ?_)
    rintro e h7 ⟨rfl, rfl⟩
    cases hin : strIn out3 ks[j]
    · rw [addN_no hin] at ft
      ((conv=>whnf);repeat((first|(with_reducible first|refine Z1 ?_|refine Z2 ?_|refine Z3 ?_|refine Z4 ?_|refine Z5 ?_|refine Z9 (by assumption) rfl ?_|refine ZA (by assumption) rfl ?_|refine ZB (by assumption) rfl ?_|refine Z6 ?_|refine Z7 ?_|refine Z8 ?_)|((with_reducible refine ZM ?_ ?_);(focus rfl)));(conv=>whnf)))
      refine new_own (e := 9) 1 1 [.string ks[j]] rfl rfl ?_
      intro h8 b8 w8 x8 z8 hb8
      have hx8 := x8.1
      ((conv=>whnf);repeat((first|(with_reducible first|refine Z1 ?_|refine Z2 ?_|refine Z3 ?_|refine Z4 ?_|refine Z5 ?_|refine Z9 (by assumption) rfl ?_|refine ZA (by assumption) rfl ?_|refine ZB (by assumption) rfl ?_|refine Z6 ?_|refine Z7 ?_|refine Z8 ?_)|((with_reducible refine ZM ?_ ?_);(focus rfl)));(conv=>whnf)))
      refine w8.sl.cells ?_
      refine Own.grow (w6.ext x8) (by omega) rfl rfl (by intro v hv; simp only [List.mem_singleton] at hv; subst hv; rfl) (by omega) ?_
      intro h9 a9 c9 w9 g9
      ((conv=>whnf);repeat((first|(with_reducible first|refine Z1 ?_|refine Z2 ?_|refine Z3 ?_|refine Z4 ?_|refine Z5 ?_|refine Z9 (by assumption) rfl ?_|refine ZA (by assumption) rfl ?_|refine ZB (by assumption) rfl ?_|refine Z6 ?_|refine Z7 ?_|refine Z8 ?_)|((with_reducible refine ZM ?_ ?_);(focus rfl)));(conv=>whnf)))
      exact ⟨⟨j + 1, a9, c9, by rw [ft, List.length_append]; rfl, by omega, by rw [ft, SlS, List.length_append, List.map_append]; exact w9, (x6.trans x8).keep (g9.kept (by omega) fun p ep => (w6lt p ep).1)⟩, hmu2⟩
    · rw [addN_yes hin] at ft
      ((conv=>whnf);repeat((first|(with_reducible first|refine Z1 ?_|refine Z2 ?_|refine Z3 ?_|refine Z4 ?_|refine Z5 ?_|refine Z9 (by assumption) rfl ?_|refine ZA (by assumption) rfl ?_|refine ZB (by assumption) rfl ?_|refine Z6 ?_|refine Z7 ?_|refine Z8 ?_)|((with_reducible refine ZM ?_ ?_);(focus rfl)));(conv=>whnf)))
      exact ⟨⟨j + 1, a6, c6, by rw [ft]; rfl, by omega, by rw [ft]; exact w6, x6⟩, hmu2⟩
  · have hge2 := of_decide_eq_false hlt2
    obtain rfl : j = ks.length := by omega
    rw [List.take_length] at w6 ⊢
    ((conv=>whnf);repeat((first|(with_reducible first|refine Z1 ?_|refine Z2 ?_|refine Z3 ?_|refine Z4 ?_|refine Z5 ?_|refine Z9 (by assumption) rfl ?_|refine ZA (by assumption) rfl ?_|refine ZB (by assumption) rfl ?_|refine Z6 ?_|refine Z7 ?_|refine Z8 ?_)|((with_reducible refine ZM ?_ ?_);(focus rfl)));(conv=>whnf)))
    exact ⟨a6, c6, rfl, w6.lower x1.1, x1.trans x6⟩
theorem same_self : ∀ (m : Nat) (d : NT) (_ : cnt d = m) (h : Heap) (cs cs' : List Value) (_ : TRep h d cs) (_ : TRep h d cs'),
    HCalls Try.prog 19 #[.agg cs.toArray, .agg cs'.toArray] h fun e h' => e = .returned (.bool true) ∧ Ext h h' := by
  intro m
  induction m using Nat.strongRecOn with
  | ind m ih =>
  intro d hm h cs cs' r r'
  cases d with
  | mk k nm n t ns l =>
  simp only [TRep] at r r'
  obtain ⟨b1, b2, b3, b4, b5, b6, b7, ka, kc, la, lc, ys, rfl, s1, s2, s3⟩ := r
  obtain ⟨_, _, _, _, _, _, _, ka', kc', la', lc', ys', rfl, s1', s2', s3'⟩ := r'
  refine c19 (by simp) ?_
  ((conv=>whnf);repeat((first|(with_reducible first|refine Z1 ?_|refine Z2 ?_|refine Z3 ?_|refine Z4 ?_|refine Z5 ?_|refine Z9 (by assumption) rfl ?_|refine ZA (by assumption) rfl ?_|refine ZB (by assumption) rfl ?_|refine Z6 ?_|refine Z7 ?_|refine Z8 ?_)|((with_reducible refine ZM ?_ ?_);(focus rfl)));(conv=>whnf)))
  refine new_var (e := 26) [.int .i64 k, .string nm, .int .i64 n, .string t, .slice ka ns.length kc, .slice la l.length lc] rfl ?_
  intro h1 p o1 x1 z1 hp
  ((conv=>whnf);repeat((first|(with_reducible first|refine Z1 ?_|refine Z2 ?_|refine Z3 ?_|refine Z4 ?_|refine Z5 ?_|refine Z9 (by assumption) rfl ?_|refine ZA (by assumption) rfl ?_|refine ZB (by assumption) rfl ?_|refine Z6 ?_|refine Z7 ?_|refine Z8 ?_)|((with_reducible refine ZM ?_ ?_);(focus rfl)));(conv=>whnf)))
  refine new_var (e := 26) [.int .i64 k, .string nm, .int .i64 n, .string t, .slice ka' ns.length kc', .slice la' l.length lc'] rfl ?_
  intro h2 p' o2 x2 z2 hp'
  have o1 := o1.ext x2
  have x02 := x1.trans x2
  have q1 : (k != k) = false := by simp
  have q2 : (!strEq nm nm) = false := by rw [(strEq_iff nm nm).2 rfl]; rfl
  have q3 : (n != n) = false := by simp
  have q4 : (!strEq t t) = false := by rw [(strEq_iff t t).2 rfl]; rfl
  have q5 : ((ns.length : Int) != (ns.length : Int)) = false := by simp
  have q6 : ((l.length : Int) != (l.length : Int)) = false := by simp
  ((conv=>whnf);repeat((first|(with_reducible first|refine Z1 ?_|refine Z2 ?_|refine Z3 ?_|refine Z4 ?_|refine Z5 ?_|refine Z9 (by assumption) rfl ?_|refine ZA (by assumption) rfl ?_|refine ZB (by assumption) rfl ?_|refine Z6 ?_|refine Z7 ?_|refine Z8 ?_)|((with_reducible refine ZM ?_ ?_);(focus rfl)));(conv=>whnf)))
  refine loop_rule [54] (fun vs h' => ∃ (i : Nat), vs = [.int .i64 i] ∧ i ≤ ns.length ∧ h' = h2)
    (fun vs _ => match vs with | [.int _ i] => ns.length - i.toNat | _ => 0) rfl ?_ ?_
  · exact ⟨0, rfl, by omega, rfl⟩
  intro u h3 v54
  rintro ⟨i, e, hi, rfl⟩
  cases e
  ((conv=>whnf);repeat((first|(with_reducible first|refine Z1 ?_|refine Z2 ?_|refine Z3 ?_|refine Z4 ?_|refine Z5 ?_|refine Z9 (by assumption) rfl ?_|refine ZA (by assumption) rfl ?_|refine ZB (by assumption) rfl ?_|refine Z6 ?_|refine Z7 ?_|refine Z8 ?_)|((with_reducible refine ZM ?_ ?_);(focus rfl)));(conv=>whnf)))
  refine HIf.mk (fun hlt => ?_) (fun hlt => ?_)
  · have hi1 : i < ns.length := by have := of_decide_eq_true hlt; omega
    have hmu : ns.length - ((i : Int) + 1).toNat < ns.length - ((i : Int)).toNat := by omega
    have q7 : (!strEq ns[i] ns[i]) = false := by rw [(strEq_iff ns[i] ns[i]).2 rfl]; rfl
    ((conv=>whnf);repeat((first|(with_reducible first|refine Z1 ?_|refine Z2 ?_|refine Z3 ?_|refine Z4 ?_|refine Z5 ?_|refine Z9 (by assumption) rfl ?_|refine ZA (by assumption) rfl ?_|refine ZB (by assumption) rfl ?_|refine Z6 ?_|refine Z7 ?_|refine Z8 ?_)|((with_reducible refine ZM ?_ ?_);(focus rfl)));(conv=>whnf)))
    refine HIdx.mk i rfl hi1 ?_
    refine sl_some s1 hi1 fun p ep => ?_
    ((conv=>whnf);repeat((first|(with_reducible first|refine Z1 ?_|refine Z2 ?_|refine Z3 ?_|refine Z4 ?_|refine Z5 ?_|refine Z9 (by assumption) rfl ?_|refine ZA (by assumption) rfl ?_|refine ZB (by assumption) rfl ?_|refine Z6 ?_|refine Z7 ?_|refine Z8 ?_)|((with_reducible refine ZM ?_ ?_);(focus rfl)));(conv=>whnf)))
    refine (s1.ext x02).load ep (by simpa using hi1) ?_
    rw [List.getElem_map]
    ((conv=>whnf);repeat((first|(with_reducible first|refine Z1 ?_|refine Z2 ?_|refine Z3 ?_|refine Z4 ?_|refine Z5 ?_|refine Z9 (by assumption) rfl ?_|refine ZA (by assumption) rfl ?_|refine ZB (by assumption) rfl ?_|refine Z6 ?_|refine Z7 ?_|refine Z8 ?_)|((with_reducible refine ZM ?_ ?_);(focus rfl)));(conv=>whnf)))
    refine HIdx.mk i rfl hi1 ?_
    refine sl_some s1' hi1 fun p ep => ?_
    ((conv=>whnf);repeat((first|(with_reducible first|refine Z1 ?_|refine Z2 ?_|refine Z3 ?_|refine Z4 ?_|refine Z5 ?_|refine Z9 (by assumption) rfl ?_|refine ZA (by assumption) rfl ?_|refine ZB (by assumption) rfl ?_|refine Z6 ?_|refine Z7 ?_|refine Z8 ?_)|((with_reducible refine ZM ?_ ?_);(focus rfl)));(conv=>whnf)))
    refine (s1'.ext x02).load ep (by simpa using hi1) ?_
    rw [List.getElem_map]
    ((conv=>whnf);repeat((first|(with_reducible first|refine Z1 ?_|refine Z2 ?_|refine Z3 ?_|refine Z4 ?_|refine Z5 ?_|refine Z9 (by assumption) rfl ?_|refine ZA (by assumption) rfl ?_|refine ZB (by assumption) rfl ?_|refine Z6 ?_|refine Z7 ?_|refine Z8 ?_)|((with_reducible refine ZM ?_ ?_);(focus rfl)));(conv=>whnf)))
    exact ⟨⟨i + 1, rfl, by omega, rfl⟩, hmu⟩
  · ((conv=>whnf);repeat((first|(with_reducible first|refine Z1 ?_|refine Z2 ?_|refine Z3 ?_|refine Z4 ?_|refine Z5 ?_|refine Z9 (by assumption) rfl ?_|refine ZA (by assumption) rfl ?_|refine ZB (by assumption) rfl ?_|refine Z6 ?_|refine Z7 ?_|refine Z8 ?_)|((with_reducible refine ZM ?_ ?_);(focus rfl)));(conv=>whnf)))
    refine loop_rule [72] (fun vs h' => ∃ (i : Nat), vs = [.int .i64 i] ∧ i ≤ l.length ∧ Ext h3 h')
      (fun vs _ => match vs with | [.int _ i] => l.length - i.toNat | _ => 0) rfl ?_ ?_
    · exact ⟨0, rfl, by omega, Ext.refl _⟩
    intro u h4 v72
    rintro ⟨i, e, hi, x4⟩
    cases e
    have o1 := o1.ext x4
    have o2 := o2.ext x4
    have x04 := x02.trans x4
    ((conv=>whnf);repeat((first|(with_reducible first|refine Z1 ?_|refine Z2 ?_|refine Z3 ?_|refine Z4 ?_|refine Z5 ?_|refine Z9 (by assumption) rfl ?_|refine ZA (by assumption) rfl ?_|refine ZB (by assumption) rfl ?_|refine Z6 ?_|refine Z7 ?_|refine Z8 ?_)|((with_reducible refine ZM ?_ ?_);(focus rfl)));(conv=>whnf)))
    refine HIf.mk (fun hlt2 => ?_) (fun hlt2 => ?_)
    · have hi1 : i < l.length := by have := of_decide_eq_true hlt2; omega
      have hmu : l.length - ((i : Int) + 1).toNat < l.length - ((i : Int)).toNat := by omega
      have hcg := cnts_get l i hi1
      simp only [cnt] at hm
      ((conv=>whnf);repeat((first|(with_reducible first|refine Z1 ?_|refine Z2 ?_|refine Z3 ?_|refine Z4 ?_|refine Z5 ?_|refine Z9 (by assumption) rfl ?_|refine ZA (by assumption) rfl ?_|refine ZB (by assumption) rfl ?_|refine Z6 ?_|refine Z7 ?_|refine Z8 ?_)|((with_reducible refine ZM ?_ ?_);(focus rfl)));(conv=>whnf)))
      refine HIdx.mk i rfl hi1 ?_
      refine sl_some s2 hi1 fun p ep => ?_
      ((conv=>whnf);repeat((first|(with_reducible first|refine Z1 ?_|refine Z2 ?_|refine Z3 ?_|refine Z4 ?_|refine Z5 ?_|refine Z9 (by assumption) rfl ?_|refine ZA (by assumption) rfl ?_|refine ZB (by assumption) rfl ?_|refine Z6 ?_|refine Z7 ?_|refine Z8 ?_)|((with_reducible refine ZM ?_ ?_);(focus rfl)));(conv=>whnf)))
      refine tloadK s2 s3 (.of_ext x04) ep hi1 fun cs rt => ?_
      ((conv=>whnf);repeat((first|(with_reducible first|refine Z1 ?_|refine Z2 ?_|refine Z3 ?_|refine Z4 ?_|refine Z5 ?_|refine Z9 (by assumption) rfl ?_|refine ZA (by assumption) rfl ?_|refine ZB (by assumption) rfl ?_|refine Z6 ?_|refine Z7 ?_|refine Z8 ?_)|((with_reducible refine ZM ?_ ?_);(focus rfl)));(conv=>whnf)))
      refine HIdx.mk i rfl hi1 ?_
      refine sl_some s2' hi1 fun p ep => ?_
      ((conv=>whnf);repeat((first|(with_reducible first|refine Z1 ?_|refine Z2 ?_|refine Z3 ?_|refine Z4 ?_|refine Z5 ?_|refine Z9 (by assumption) rfl ?_|refine ZA (by assumption) rfl ?_|refine ZB (by assumption) rfl ?_|refine Z6 ?_|refine Z7 ?_|refine Z8 ?_)|((with_reducible refine ZM ?_ ?_);(focus rfl)));(conv=>whnf)))
      refine tloadK s2' s3' (.of_ext x04) ep hi1 fun cs' rt' => ?_
      ((conv=>whnf);repeat((first|(with_reducible first|refine Z1 ?_|refine Z2 ?_|refine Z3 ?_|refine Z4 ?_|refine Z5 ?_|refine Z9 (by assumption) rfl ?_|refine ZA (by assumption) rfl ?_|refine ZB (by assumption) rfl ?_|refine Z6 ?_|refine Z7 ?_|refine Z8 ?_)|((with_reducible refine ZM ?_ ?_);(focus rfl)));(conv=>whnf)))
      refine HCall.mk ((ih (cnt l[i]) (by omega) l[i] rfl h4 cs cs' (rt.ext x04) (rt'.ext x04)).mono ?_)
      rintro e h5 ⟨rfl, x5⟩
      ((conv=>whnf);repeat((first|(with_reducible first|refine Z1 ?_|refine Z2 ?_|refine Z3 ?_|refine Z4 ?_|refine Z5 ?_|refine Z9 (by assumption) rfl ?_|refine ZA (by assumption) rfl ?_|refine ZB (by assumption) rfl ?_|refine Z6 ?_|refine Z7 ?_|refine Z8 ?_)|((with_reducible refine ZM ?_ ?_);(focus rfl)));(conv=>whnf)))
      exact ⟨⟨i + 1, rfl, by omega, x4.trans x5⟩, hmu⟩
    · ((conv=>whnf);repeat((first|(with_reducible first|refine Z1 ?_|refine Z2 ?_|refine Z3 ?_|refine Z4 ?_|refine Z5 ?_|refine Z9 (by assumption) rfl ?_|refine ZA (by assumption) rfl ?_|refine ZB (by assumption) rfl ?_|refine Z6 ?_|refine Z7 ?_|refine Z8 ?_)|((with_reducible refine ZM ?_ ?_);(focus rfl)));(conv=>whnf)))
      exact ⟨rfl, x04⟩
end Go.Proofs.Ytlogpojkkbcpjaa.Hc
