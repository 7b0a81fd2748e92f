/- Proof texts, laid together. -/
import Derived.Test.YtlogpojkkbcpjaaPb
import Derived.Test.YtlogpojkkbcpjaaPa
import Derived.ChangeArms
import Derived.JoinedCond
import Derived.Shelf.Vars
/- The reference's exprs, stmts, cases; r07.Check says what tree.Check says (printed by tools/mkZF.py). -/
set_option linter.unusedVariables false
set_option linter.unusedSimpArgs false
namespace Go.Proofs.Ytlogpojkkbcpjaa.Hc
open Go Go.H Go.Proofs
set_option maxRecDepth 100000
set_option maxHeartbeats 16000000
theorem exprs_ok {N : Nat} (K : ∀ d, cnt d ≤ N → NodeOk d) (L : ∀ l, cnts l < N → l.length ≤ 4194304 → ListOk l) (l : List NT) (hc : cnts l ≤ N) (hl : l.length ≤ 4194304) (h : Heap) (a : Option Addr) (c : Nat) (xs : List Value) (s2 : Sl h 6 a l.length c xs) (s3 : TReps h l xs) : HCalls Try.prog 63 #[.slice a l.length c] h fun e h' => e = .returned (.bool (l.all Ex)) ∧ Ext h h' := by
  obtain ⟨z, hz⟩ : ∃ z, z = (l.all Ex) := ⟨_, rfl⟩
  rw [← hz]
  refine c63 (by simp) ?_
  refine gA ?_
  refine loop_rule [7] (fun vs h' => ∃ (i : Nat), vs = [.int .i64 i] ∧ i ≤ l.length ∧ (l.take i).all (Ex) = true ∧ Ext h h')
    (fun vs _ => match vs with | [.int _ i] => l.length - i.toNat | _ => 0) rfl ?_ ?_
  · exact ⟨0, rfl, by omega, by simp, Ext.refl _⟩
  intro u h5 v7
  rintro ⟨i, e, hi, ha, X⟩
  cases e
  refine gA ?_
  refine HIf.mk (fun hlt => ?_) (fun hlt => ?_)
  · have hi1 : i < l.length := by have := of_decide_eq_true hlt; omega
    have hmu : l.length - ((i : Int) + 1).toNat < l.length - ((i : Int)).toNat := by omega
    have at1 := all_take' (q := Ex) hi1
    have hcg := cnts_get l i hi1
    have hno : Ex l[i] = false → z = false := fun e => by rw [hz, all_no hi1 e]
    have Kd := K l[i] (by omega)
    refine gA ?_
    refine HIdx.mk i rfl hi1 ?_
    refine sl_some s2 hi1 fun p ep => ?_
    refine gA ?_
    refine tloadK s2 s3 (.of_ext X) ep hi1 fun cs rk => ?_
    have rk0 := rk
    cases hd : l[i] with
    | mk k' nm' n' t' ns' l' =>
    rw [hd] at rk rk0 at1 hcg hno Kd
    simp only [TRep] at rk
    obtain ⟨_, _, _, _, _, c6, _, ka', kc', la', lc', ys', rfl, _, t2, t3⟩ := rk
    simp only [cnt] at hcg
    have X5 := X.1
    refine gA ?_
    refine new_var (e := 26) zeroT rfl ?_
    intro h6 bo o6 x6 z6 hbo
    refine gA ?_
    refine store_blk o6 (by simp) (by simp [isOne]) ?_
    intro h7 f7 z7 o7
    replace o7 : BlkW h7 bo 26 [.int .i64 k', .string nm', .int .i64 n', .string t', .slice ka' ns'.length kc', .slice la' l'.length lc'] := by simpa using o7
    have X7 : Ext h h7 := (X.trans x6).offNew f7 (by omega)
    clear o6 f7
    refine gN ?_
    refine HCall.mk ((Kd.ex _ _ (rk0.ext X7)).mono ?_)
    rintro e h8 ⟨rfl, x8⟩
    have X8 := X7.trans x8
    cases q8 : Ex (.mk k' nm' n' t' ns' l')
    · have := hno q8
      refine gA ?_
      subst this
      exact ⟨rfl, X8⟩
    · refine gA ?_
      exact ⟨⟨i + 1, rfl, by omega, by rw [at1, ha, q8]; rfl, X8⟩, hmu⟩
  · have hge := of_decide_eq_false hlt
    obtain rfl : i = l.length := by omega
    rw [List.take_length] at ha
    rw [ha] at hz
    refine gA ?_
    subst hz
    exact ⟨rfl, X⟩
theorem stmts_ok {N : Nat} (K : ∀ d, cnt d ≤ N → NodeOk d) (L : ∀ l, cnts l < N → l.length ≤ 4194304 → ListOk l) (l : List NT) (hc : cnts l ≤ N) (hl : l.length ≤ 4194304) (x : Bool) (h : Heap) (a : Option Addr) (c : Nat) (xs : List Value) (s2 : Sl h 6 a l.length c xs) (s3 : TReps h l xs) : HCalls Try.prog 26 #[.slice a l.length c, .bool x] h fun e h' => e = .returned (.bool (l.all (St x))) ∧ Ext h h' := by
  obtain ⟨z, hz⟩ : ∃ z, z = (l.all (St x)) := ⟨_, rfl⟩
  rw [← hz]
  refine c26 (by simp) ?_
  refine gA ?_
  refine loop_rule [9] (fun vs h' => ∃ (i : Nat), vs = [.int .i64 i] ∧ i ≤ l.length ∧ (l.take i).all (St x) = true ∧ Ext h h')
    (fun vs _ => match vs with | [.int _ i] => l.length - i.toNat | _ => 0) rfl ?_ ?_
  · exact ⟨0, rfl, by omega, by simp, Ext.refl _⟩
  intro u h5 v9
  rintro ⟨i, e, hi, ha, X⟩
  cases e
  refine gA ?_
  refine HIf.mk (fun hlt => ?_) (fun hlt => ?_)
  · have hi1 : i < l.length := by have := of_decide_eq_true hlt; omega
    have hmu : l.length - ((i : Int) + 1).toNat < l.length - ((i : Int)).toNat := by omega
    have at1 := all_take' (q := St x) hi1
    have hcg := cnts_get l i hi1
    have hno : St x l[i] = false → z = false := fun e => by rw [hz, all_no hi1 e]
    have Kd := K l[i] (by omega)
    refine gA ?_
    refine HIdx.mk i rfl hi1 ?_
    refine sl_some s2 hi1 fun p ep => ?_
    refine gA ?_
    refine tloadK s2 s3 (.of_ext X) ep hi1 fun cs rk => ?_
    have rk0 := rk
    cases hd : l[i] with
    | mk k' nm' n' t' ns' l' =>
    rw [hd] at rk rk0 at1 hcg hno Kd
    simp only [TRep] at rk
    obtain ⟨_, _, _, _, _, c6, _, ka', kc', la', lc', ys', rfl, _, t2, t3⟩ := rk
    simp only [cnt] at hcg
    have X5 := X.1
    refine gA ?_
    refine new_var (e := 26) zeroT rfl ?_
    intro h6 bo o6 x6 z6 hbo
    refine gA ?_
    refine store_blk o6 (by simp) (by simp [isOne]) ?_
    intro h7 f7 z7 o7
    replace o7 : BlkW h7 bo 26 [.int .i64 k', .string nm', .int .i64 n', .string t', .slice ka' ns'.length kc', .slice la' l'.length lc'] := by simpa using o7
    have X7 : Ext h h7 := (X.trans x6).offNew f7 (by omega)
    clear o6 f7
    by_cases hk' : k' = 39
    · subst hk'
      have q39 : ((39 : Int) == 39) = true := rfl
      have e39 : St x (.mk 39 nm' n' t' ns' l') = (x && mayT (.mk 39 nm' n' t' ns' l')) := by cases x <;> rfl
      rw [may_39] at e39
      rw [e39] at at1 hno
      cases x
      · have := hno rfl
        refine gA ?_
        subst this
        exact ⟨rfl, X7⟩
      · rw [Bool.true_and] at at1 hno
        refine gN ?_
        refine HCall.mk ((ownR_spec (rk0.ext X7)).mono ?_)
        rintro e h8 ⟨rfl, x8⟩
        have o7 := o7.ext x8
        have X8 := X7.trans x8
        cases q8 : ownR (.mk 39 nm' n' t' ns' l')
        · have := hno (by rw [q8]; rfl)
          refine gA ?_
          subst this
          exact ⟨rfl, X8⟩
        · rw [q8, Bool.true_and] at at1 hno
          refine gA ?_
          refine HCall.mk (((L l' (by omega) c6).stsT _ _ _ _ (t2.ext X8) (t3.ext X8)).mono ?_)
          rintro e h9 ⟨rfl, x9⟩
          cases q9 : l'.all (St true)
          · have := hno q9
            refine gA ?_
            subst this
            exact ⟨rfl, X8.trans x9⟩
          · refine gA ?_
            exact ⟨⟨i + 1, rfl, by omega, by rw [at1, ha, q9]; rfl, X8.trans x9⟩, hmu⟩
    · have q39 : (k' == 39) = false := beq_eq_false_iff_ne.2 hk'
      have q39' : (k' != 39) = true := bne_iff_ne.2 hk'
      have eS : St x (.mk k' nm' n' t' ns' l') = St false (.mk k' nm' n' t' ns' l') := by
        show (stB k' x && _) = (stB k' false && _)
        unfold stB
        rw [q39']; rfl
      rw [eS] at at1 hno
      refine gN ?_
      refine HCall.mk ((Kd.st _ _ (rk0.ext X7)).mono ?_)
      rintro e h8 ⟨rfl, x8⟩
      have X8 := X7.trans x8
      cases q8 : St false (.mk k' nm' n' t' ns' l')
      · have := hno q8
        refine gA ?_
        subst this
        exact ⟨rfl, X8⟩
      · refine gA ?_
        exact ⟨⟨i + 1, rfl, by omega, by rw [at1, ha, q8]; rfl, X8⟩, hmu⟩
  · have hge := of_decide_eq_false hlt
    obtain rfl : i = l.length := by omega
    rw [List.take_length] at ha
    rw [ha] at hz
    refine gA ?_
    subst hz
    exact ⟨rfl, X⟩
theorem emptC_take (l : List NT) (i : Nat) (hi : i < l.length) : emptC (l.take (i + 1)) = emptC (l.take i) + (if at_ (Kk 42) l[i].l 0 = true then 1 else 0) := by
  unfold emptC
  rw [take_succ' hi, List.filter_append, List.length_append]
  congr 1
  by_cases h : at_ (Kk 42) l[i].l 0 = true
  · rw [if_pos h]; simp [h]
  · rw [if_neg h]; simp [h]
theorem emptC_len (l : List NT) : emptC l ≤ l.length := List.length_filter_le _ _
theorem cases_ok {N : Nat} (K : ∀ d, cnt d ≤ N → NodeOk d) (L : ∀ l, cnts l < N → l.length ≤ 4194304 → ListOk l) (l : List NT) (hc : cnts l ≤ N) (hl : l.length ≤ 4194304) (h : Heap) (a : Option Addr) (c : Nat) (xs : List Value) (s2 : Sl h 6 a l.length c xs) (s3 : TReps h l xs) : HCalls Try.prog 65 #[.slice a l.length c] h fun e h' => e = .returned (.bool (l.all (Kk 37) && decide (emptC l ≤ 1))) ∧ Ext h h' := by
  obtain ⟨z, hz⟩ : ∃ z, z = (l.all (Kk 37) && decide (emptC l ≤ 1)) := ⟨_, rfl⟩
  rw [← hz]
  refine c65 (by simp) ?_
  refine gA ?_
  refine loop_rule [8, 3] (fun vs h' => ∃ (i : Nat), vs = [.int .i64 i, .int .i64 (emptC (l.take i) : Nat)] ∧ i ≤ l.length ∧ (l.take i).all (Kk 37) = true ∧ Ext h h')
    (fun vs _ => match vs with | [.int _ i, _] => l.length - i.toNat | _ => 0) rfl ?_ ?_
  · exact ⟨0, rfl, by omega, by simp, Ext.refl _⟩
  intro u h5 v8 v3
  rintro ⟨i, e, hi, ha, X⟩
  cases e
  refine gA ?_
  refine HIf.mk (fun hlt => ?_) (fun hlt => ?_)
  · have hi1 : i < l.length := by have := of_decide_eq_true hlt; omega
    have hmu : l.length - ((i : Int) + 1).toNat < l.length - ((i : Int)).toNat := by omega
    have at1 := all_take' (q := Kk 37) hi1
    have hcg := cnts_get l i hi1
    have hno : Kk 37 l[i] = false → z = false := fun e => by rw [hz, all_no hi1 e]; rfl
    have Kd := K l[i] (by omega)
    refine gA ?_
    refine HIdx.mk i rfl hi1 ?_
    refine sl_some s2 hi1 fun p ep => ?_
    refine gA ?_
    refine tloadK s2 s3 (.of_ext X) ep hi1 fun cs rk => ?_
    have rk0 := rk
    cases hd : l[i] with
    | mk k' nm' n' t' ns' l' =>
    rw [hd] at rk rk0 at1 hcg hno Kd
    simp only [TRep] at rk
    obtain ⟨_, _, _, _, _, c6, _, ka', kc', la', lc', ys', rfl, _, t2, t3⟩ := rk
    simp only [cnt] at hcg
    have X5 := X.1
    refine gA ?_
    refine new_var (e := 26) zeroT rfl ?_
    intro h6 bo o6 x6 z6 hbo
    refine gA ?_
    refine store_blk o6 (by simp) (by simp [isOne]) ?_
    intro h7 f7 z7 o7
    replace o7 : BlkW h7 bo 26 [.int .i64 k', .string nm', .int .i64 n', .string t', .slice ka' ns'.length kc', .slice la' l'.length lc'] := by simpa using o7
    have X7 : Ext h h7 := (X.trans x6).offNew f7 (by omega)
    clear o6 f7
    by_cases hk' : k' = 37
    · subst hk'
      have e37 : Kk 37 (.mk 37 nm' n' t' ns' l') = mayT (.mk 37 nm' n' t' ns' l') := rfl
      rw [may_37] at e37
      rw [e37] at at1 hno
      refine gN ?_
      refine HCall.mk ((ownR_spec (rk0.ext X7)).mono ?_)
      rintro e h8 ⟨rfl, x8⟩
      have o7 := o7.ext x8
      have X8 := X7.trans x8
      cases q8 : ownR (.mk 37 nm' n' t' ns' l')
      · have := hno (by rw [q8]; rfl)
        refine gA ?_
        subst this
        exact ⟨rfl, X8⟩
      rw [q8, Bool.true_and] at at1 hno
      by_cases hl1 : 1 ≤ l'.length
      · have ql : ((l'.length : Int) == 0) = false := beq_eq_false_iff_ne.2 (by omega)
        have hl0 : 0 < l'.length := hl1
        have K0 := K l'[0] (by have := cnts_get l' 0 hl0; omega)
        have e0 : emptC (l.take (i + 1)) = emptC (l.take i) + (if Kk 42 l'[0] = true then 1 else 0) := by
          rw [emptC_take l i hi1, hd]
          show _ + (if at_ (Kk 42) l' 0 = true then 1 else 0) = _
          rw [at_in hl0]
        have el := emptC_len (l.take i)
        rw [List.length_take] at el
        generalize emptC (l.take i) = ec at e0 el
        rw [decide_eq_true hl1, Bool.true_and, at_in hl0, at_in hl0] at at1 hno
        refine gA ?_
        refine HIdx.mk 0 rfl hl0 ?_
        refine sl_some t2 hl0 fun p ep => ?_
        refine gA ?_
        refine tloadK t2 t3 (.of_ext X8) ep hl0 fun cs rk => ?_
        refine gA ?_
        refine HCall.mk ((K0.em _ _ (rk.ext X8)).mono ?_)
        rintro e g1 ⟨rfl, y1⟩
        have o7 := o7.ext y1
        have X8 := X8.trans y1
        cases q1 : Kk 42 l'[0]
        · rw [q1, Bool.false_or] at at1 hno
          refine gA ?_
          refine HIdx.mk 0 rfl hl0 ?_
          refine sl_some t2 hl0 fun p ep => ?_
          refine gA ?_
          refine tloadK t2 t3 (.of_ext X8) ep hl0 fun cs rk => ?_
          refine gA ?_
          refine HCall.mk ((K0.ex _ _ (rk.ext X8)).mono ?_)
          rintro e g2 ⟨rfl, y2⟩
          have o7 := o7.ext y2
          have X8 := X8.trans y2
          cases q2 : Ex l'[0]
          · have := hno (by rw [q2]; rfl)
            refine gA ?_
            subst this
            exact ⟨rfl, X8⟩
          rw [q2, Bool.true_and] at at1 hno
          refine gA ?_
          refine HBound.mk 1 rfl (by omega) ?_
          refine gA ?_
          obtain ⟨sd, td⟩ := drop_sl6 t2 t3 hl1
          refine HCall.mk (((L (l'.drop 1) (by have := cnts_drop' l' 1; omega) (by rw [List.length_drop]; omega)).stsF' _ _ _ _ List.length_drop (sd.ext X8) (td.ext X8)).mono ?_)
          rintro e g3 ⟨rfl, y3⟩
          have o7 := o7.ext y3
          have X8 := X8.trans y3
          cases q3 : (l'.drop 1).all (St false)
          · have := hno q3
            refine gA ?_
            subst this
            exact ⟨rfl, X8⟩
          rw [q3, Bool.and_true] at at1
          refine gA ?_
          refine HIdx.mk 0 rfl hl0 ?_
          refine sl_some t2 hl0 fun p ep => ?_
          refine gA ?_
          refine tloadK t2 t3 (.of_ext X8) ep hl0 fun cs rk => ?_
          refine gA ?_
          refine HCall.mk ((K0.em _ _ (rk.ext X8)).mono ?_)
          rintro e g4 ⟨rfl, y4⟩
          have o7 := o7.ext y4
          have X8 := X8.trans y4
          rw [q1, if_neg (by simp)] at e0
          rw [q1]
          refine gA ?_
          exact ⟨⟨i + 1, by rw [e0]; rfl, by omega, by rw [at1, ha], X8⟩, hmu⟩
        · rw [q1, Bool.true_or, Bool.true_and] at at1 hno
          refine gA ?_
          refine HBound.mk 1 rfl (by omega) ?_
          refine gA ?_
          obtain ⟨sd, td⟩ := drop_sl6 t2 t3 hl1
          refine HCall.mk (((L (l'.drop 1) (by have := cnts_drop' l' 1; omega) (by rw [List.length_drop]; omega)).stsF' _ _ _ _ List.length_drop (sd.ext X8) (td.ext X8)).mono ?_)
          rintro e g3 ⟨rfl, y3⟩
          have o7 := o7.ext y3
          have X8 := X8.trans y3
          cases q3 : (l'.drop 1).all (St false)
          · have := hno q3
            refine gA ?_
            subst this
            exact ⟨rfl, X8⟩
          rw [q3, Bool.and_true] at at1
          refine gA ?_
          refine HIdx.mk 0 rfl hl0 ?_
          refine sl_some t2 hl0 fun p ep => ?_
          refine gA ?_
          refine tloadK t2 t3 (.of_ext X8) ep hl0 fun cs rk => ?_
          refine gA ?_
          refine HCall.mk ((K0.em _ _ (rk.ext X8)).mono ?_)
          rintro e g4 ⟨rfl, y4⟩
          have o7 := o7.ext y4
          have X8 := X8.trans y4
          rw [q1, if_pos rfl] at e0
          rw [q1]
          refine gA ?_
          exact ⟨⟨i + 1, by rw [e0]; rfl, by omega, by rw [at1, ha], X8⟩, hmu⟩
      · have ql : ((l'.length : Int) == 0) = true := beq_iff_eq.2 (by omega)
        have := hno (by rw [decide_eq_false hl1]; rfl)
        refine gA ?_
        subst this
        exact ⟨rfl, X8⟩
    · have qk : (k' != 37) = true := bne_iff_ne.2 hk'
      have := hno (by show ((k' == 37) && _) = false; rw [beq_eq_false_iff_ne.2 hk']; rfl)
      refine gA ?_
      subst this
      exact ⟨rfl, X7⟩
  · have hge := of_decide_eq_false hlt
    obtain rfl : i = l.length := by omega
    rw [List.take_length] at ha
    rw [ha, Bool.true_and] at hz
    refine gA ?_
    have q9 : decide ((emptC l : Int) ≤ 1) = z := by
      rw [hz, Bool.eq_iff_iff, decide_eq_true_iff, decide_eq_true_iff]; omega
    exact ⟨by rw [← q9, List.take_length]; rfl, X⟩
theorem all_ok : ∀ N : Nat, (∀ d, cnt d ≤ N → NodeOk d) ∧ (∀ l, cnts l ≤ N → l.length ≤ 4194304 → ListOk l) := by
  intro N
  induction N with
  | zero =>
    have K : ∀ d, cnt d ≤ 0 → NodeOk d := fun d hd => by cases d; simp only [cnt] at hd; omega
    refine ⟨K, fun l hl hn => ?_⟩
    have L : ∀ l : List NT, cnts l < 0 → l.length ≤ 4194304 → ListOk l := fun l h => by omega
    exact ⟨exprs_ok K L l hl hn, stmts_ok K L l hl hn, cases_ok K L l hl hn⟩
  | succ N ih =>
    have K1 : ∀ d, cnt d < N + 1 → NodeOk d := fun d hd => ih.1 d (by omega)
    have L1 : ∀ l, cnts l < N + 1 → l.length ≤ 4194304 → ListOk l := fun l hl hn => ih.2 l (by omega) hn
    have K : ∀ d, cnt d ≤ N + 1 → NodeOk d := fun d hd => ⟨expr_ok K1 L1 d hd, stmt_ok K1 L1 d hd, block_ok K1 L1 d hd, decls_ok K1 L1 d hd, empty_ok K1 L1 d hd⟩
    exact ⟨K, fun l hl hn => ⟨exprs_ok K L1 l hl hn, stmts_ok K L1 l hl hn, cases_ok K L1 l hl hn⟩⟩
theorem rdeep_spec : ∀ (m : Nat) (d : NT) (_ : cnt d = m) (h : Heap) (cs : List Value) (_ : TRep h d cs) (_ : cnt d ≤ 4194304),
    HCalls Try.prog 27 #[.agg cs.toArray] h fun e h' => e = .returned (.int .i64 (deepT d)) ∧ Ext h h' := by
  intro m
  induction m using Nat.strongRecOn with
  | ind m ih =>
  intro d hm h cs r hc
  cases d with
  | mk k nm n t ns l =>
  simp only [TRep] at r
  obtain ⟨b1, b2, b3, b4, b5, b6, b7, ka, kc, la, lc, ys, rfl, s1, s2, s3⟩ := r
  have hdc := deepL_cnt l
  simp only [cnt] at hm hc
  refine c27 (by simp) ?_
  refine gA ?_
  refine new_var (e := 26) [.int .i64 k, .string nm, .int .i64 n, .string t, .slice ka ns.length kc, .slice la l.length lc] rfl ?_
  intro h1 bn o1 x1 z1 hbn
  refine gA ?_
  refine loop_rule [3, 9] (fun vs h' => ∃ (i : Nat), vs = [.int .i64 (deepL (l.take i)), .int .i64 i] ∧ i ≤ l.length ∧ Ext h h')
    (fun vs _ => match vs with | [_, .int _ i] => l.length - i.toNat | _ => 0) rfl ?_ ?_
  · exact ⟨0, rfl, by omega, x1⟩
  intro u h2 v3 v9
  rintro ⟨i, e, hi, x2⟩
  cases e
  refine gA ?_
  refine HIf.mk (fun hlt => ?_) (fun hlt => ?_)
  · have hi1 : i < l.length := by have := of_decide_eq_true hlt; omega
    have hmu : l.length - ((i : Int) + 1).toNat < l.length - ((i : Int)).toNat := by omega
    have dt := deepL_take l i hi1
    have hcg := cnts_get l i hi1
    generalize deepL (l.take i) = q at dt
    refine gA ?_
    refine HIdx.mk i rfl hi1 ?_
    refine sl_some s2 hi1 fun p ep => ?_
    refine gA ?_
    refine tload' s2 s3 x2 ep hi1 fun cs rt => ?_
    refine gA ?_
    refine new_var (e := 26) zeroT rfl ?_
    intro h3 b3' o3 x3 z3 hb3
    refine gA ?_
    have hcl := rt.len
    refine HMust.mk (by simpa using hcl) ?_
    refine store_blk o3 (by simp [hcl]) (by simpa using rt.one) ?_
    intro h4 f4 z4 o4
    have o4' : BlkW h4 b3' 26 cs := by
      have e : (zeroT : List Value).drop (0 + cs.toArray.toList.length) = [] := by simp [hcl]
      rw [e] at o4
      simpa using o4
    have x24 : Ext h2 h4 := x3.offNew f4 (by omega)
    clear o3 o4
    refine gA ?_
    refine blk_ldN o4' hcl ?_
    refine gA ?_
    refine HCall.mk ((ih (cnt l[i]) (by omega) l[i] rfl h4 cs (rt.ext (x2.trans x24)) (by omega)).mono ?_)
    rintro e h5 ⟨rfl, x5⟩
    have em : (if (deepT l[i] : Int) > (q : Int) then (deepT l[i] : Int) else (q : Int)) = ((deepL (l.take (i + 1)) : Nat) : Int) := by rw [dt]; split <;> omega
    refine gA ?_
    exact ⟨⟨i + 1, by rw [← em]; rfl, by omega, x2.trans (x24.trans x5)⟩, hmu⟩
  · have hge := of_decide_eq_false hlt
    obtain rfl : i = l.length := by omega
    rw [List.take_length]
    refine gA ?_
    exact ⟨by simp only [deepT]; rfl, x2⟩
theorem rcheck_spec {d : NT} {h : Heap} {cs : List Value} (r : TRep h d cs) (hc : cnt d ≤ 4194304) : HCalls Try.prog 14 #[.agg cs.toArray] h fun e h' => e = .returned (.int .i64 (tcheck d)) ∧ Ext h h' := by
  cases d with
  | mk k nm n t ns l =>
  have rt := r
  simp only [TRep] at r
  obtain ⟨b1, b2, b3, b4, b5, b6, b7, ka, kc, la, lc, ys, rfl, s1, s2, s3⟩ := r
  have hz : tcheck (.mk k nm n t ns l) = (if k ≠ 41 ∨ mayT (.mk k nm n t ns l) = false then 70 else if deepT (.mk k nm n t ns l) > 64 then 31 else 0) := rfl
  generalize tcheck (.mk k nm n t ns l) = z at hz
  refine c14 (by simp) ?_
  refine gA ?_
  refine new_var (e := 26) [.int .i64 k, .string nm, .int .i64 n, .string t, .slice ka ns.length kc, .slice la l.length lc] rfl ?_
  intro h1 bn o1 X z1 hbn
  by_cases hk : k = 41
  · subst hk
    have hm := may_41 nm n t ns l
    refine gN ?_
    refine HCall.mk ((ownR_spec (rt.ext X)).mono ?_)
    rintro e h2 ⟨rfl, x2⟩
    have o1 := o1.ext x2
    have X := X.trans x2
    cases q : ownR (.mk 41 nm n t ns l)
    · rw [q, Bool.false_and] at hm
      rw [if_pos (.inr hm)] at hz
      refine gA ?_
      subst hz
      exact ⟨rfl, X⟩
    rw [q, Bool.true_and] at hm
    refine gA ?_
    refine HCall.mk ((((all_ok (cnts l)).2 l (Nat.le_refl _) b6).stsT _ _ _ _ (s2.ext X) (s3.ext X)).mono ?_)
    rintro e h3 ⟨rfl, x3⟩
    have o1 := o1.ext x3
    have X := X.trans x3
    cases q2 : l.all (St true)
    · rw [q2] at hm
      rw [if_pos (.inr hm)] at hz
      refine gA ?_
      subst hz
      exact ⟨rfl, X⟩
    rw [q2] at hm
    rw [if_neg (by rw [hm]; simp)] at hz
    refine gN ?_
    refine HCall.mk ((rdeep_spec _ (.mk 41 nm n t ns l) rfl h3 _ (rt.ext X) hc).mono ?_)
    rintro e h4 ⟨rfl, x4⟩
    by_cases hd : deepT (.mk 41 nm n t ns l) > 64
    · have q3 : decide ((deepT (.mk 41 nm n t ns l) : Int) > 64) = true := decide_eq_true (by omega)
      rw [if_pos hd] at hz
      refine gA ?_
      subst hz
      exact ⟨rfl, X.trans x4⟩
    · have q3 : decide ((deepT (.mk 41 nm n t ns l) : Int) > 64) = false := decide_eq_false (by omega)
      rw [if_neg hd] at hz
      refine gA ?_
      subst hz
      exact ⟨rfl, X.trans x4⟩
  · have q : (k != 41) = true := bne_iff_ne.2 hk
    rw [if_pos (.inl hk)] at hz
    refine gA ?_
    subst hz
    exact ⟨rfl, X⟩
end Go.Proofs.Ytlogpojkkbcpjaa.Hc
/- Funcs, r09's has, decls, Vars, Funcs; r07.Same of a tree with itself. -/
set_option linter.unusedVariables false
set_option linter.unusedSimpArgs false
namespace Go.Proofs.Ytlogpojkkbcpjaa.Hc
open Go Go.H Go.Proofs
set_option maxRecDepth 100000
set_option maxHeartbeats 8000000
def funcsL (l : List NT) : List NT := l.filter fun d => d.kind == 39
theorem funcsL_take (l : List NT) (i : Nat) (hi : i < l.length) : funcsL (l.take (i + 1)) = funcsL (l.take i) ++ (if l[i].kind = 39 then [l[i]] else []) := by
  unfold funcsL
  rw [take_succ' hi, List.filter_append]
  congr 1
  by_cases h : l[i].kind = 39
  · rw [if_pos h]; simp [h]
  · rw [if_neg h]; simp [h]
theorem funcsL_len (l : List NT) : (funcsL l).length ≤ l.length := List.length_filter_le _ _
theorem TReps.append {h : Heap} {l m : List NT} {xs ys : List Value} (r : TReps h l xs) (s : TReps h m ys) : TReps h (l ++ m) (xs ++ ys) := TReps.of_els (Els.append r.els s.els)
/-- Trees in a slice of one's own. -/
def FRes (h h' : Heap) (l : List NT) (e : Ending) : Prop := ∃ a c xs, e = .returned (.slice a l.length c) ∧ Own h' h.size 26 6 a l.length c xs ∧ TReps h l xs ∧ Ext h h'
theorem funcs_spec (l : List NT) (h : Heap) (a : Option Addr) (c : Nat) (xs : List Value) (s : Sl h 6 a l.length c xs) (r : TReps h l xs) (hc : l.length ≤ 4194304) : HCalls Try.prog 17 #[.slice a l.length c] h fun e h' => FRes h h' (funcsL l) e := by
  refine c17 (by simp) ?_
  refine gA ?_
  refine loop_rule [2, 7] (fun vs h' => ∃ (i : Nat) (a' : Option Addr) (c' : Nat) (ys : List Value), vs = [.slice a' (funcsL (l.take i)).length c', .int .i64 i] ∧ i ≤ l.length ∧ Own h' h.size 26 6 a' (funcsL (l.take i)).length c' ys ∧ TReps h (funcsL (l.take i)) ys ∧ Ext h h')
    (fun vs _ => match vs with | [_, .int _ i] => l.length - i.toNat | _ => 0) rfl ?_ ?_
  · exact ⟨0, none, 0, [], rfl, by omega, Own.nil _ _ _ _, by simp [funcsL, TReps], Ext.refl _⟩
  intro u h1 v2 v7
  rintro ⟨i, a1, c1, ys, e, hi, w1, r1, x1⟩
  cases e
  refine gA ?_
  refine HIf.mk (fun hlt => ?_) (fun hlt => ?_)
  · have hi1 : i < l.length := by have := of_decide_eq_true hlt; omega
    have hmu : l.length - ((i : Int) + 1).toNat < l.length - ((i : Int)).toNat := by omega
    have ft := funcsL_take l i hi1
    have fl := funcsL_len (l.take i)
    rw [List.length_take] at fl
    generalize funcsL (l.take i) = out at w1 r1 ft fl
    refine gA ?_
    refine HIdx.mk i rfl hi1 ?_
    refine sl_some s hi1 fun p ep => ?_
    refine gA ?_
    refine tloadK s r (.of_ext x1) ep hi1 fun cs rt => ?_
    have rt0 := rt
    have hx1 := x1.1
    have w1lt := w1.lt
    cases hd : l[i] with
    | mk k nm n t ns kl =>
    rw [hd] at rt ft
    have rt1 := rt
    simp only [TRep] at rt
    obtain ⟨_, _, _, _, _, _, _, ka, kc, la, lc, zs, rfl, _⟩ := rt
    refine gA ?_
    refine new_var (e := 26) zeroT rfl ?_
    intro h2 b2 o2 x2 z2 hb2
    refine gA ?_
    refine store_blk o2 (by simp) (by simp [isOne]) ?_
    intro h3 f3 z3 o3
    replace o3 : BlkW h3 b2 26 [.int .i64 k, .string nm, .int .i64 n, .string t, .slice ka ns.length kc, .slice la kl.length lc] := by simpa using o3
    have x13 : Ext h1 h3 := x2.offNew f3 (by omega)
    have w3 := w1.ext x13
    rw [show NT.kind (.mk k nm n t ns kl) = k from rfl] at ft
    by_cases hk : k = 39
    · have q : (k == 39) = true := beq_iff_eq.2 hk
      rw [if_pos hk] at ft
      refine gN ?_
      refine new_own (e := 26) 6 1 [.int .i64 k, .string nm, .int .i64 n, .string t, .slice ka ns.length kc, .slice la kl.length lc] rfl rfl ?_
      intro h4 b4 w4 x4 z4 hb4
      have hx13 := x13.1
      refine gA ?_
      refine w4.sl.cells ?_
      refine Own.grow (w3.ext x4) (by have := x4.1; omega) rfl rfl (by simp [isOne]) (by omega) ?_
      intro h5 a5 c5 w5 g5
      refine gA ?_
      exact ⟨⟨i + 1, a5, c5, _, by rw [ft, List.length_append]; rfl, by omega, by rw [ft, List.length_append]; exact w5, by rw [ft]; exact r1.append (treps1 rt1), ((x1.trans x13).trans x4).keep (g5.kept (by have := x4.1; omega) fun p ep => (w1lt p ep).1)⟩, hmu⟩
    · have q : (k == 39) = false := beq_eq_false_iff_ne.2 hk
      rw [if_neg hk, List.append_nil] at ft
      refine gA ?_
      exact ⟨⟨i + 1, a1, c1, ys, by rw [ft]; rfl, by omega, by rw [ft]; exact w3, by rw [ft]; exact r1, x1.trans x13⟩, hmu⟩
  · have hge := of_decide_eq_false hlt
    obtain rfl : i = l.length := by omega
    rw [List.take_length] at w1 r1 ⊢
    refine gA ?_
    exact ⟨a1, c1, ys, rfl, w1, r1, x1⟩
theorem rfuncs_spec (l : List NT) (h : Heap) (a : Option Addr) (c : Nat) (xs : List Value) (s : Sl h 6 a l.length c xs) (r : TReps h l xs) (hc : l.length ≤ 4194304) : HCalls Try.prog 18 #[.slice a l.length c] h fun e h' => FRes h h' (funcsL l) e := by
  refine c18 (by simp) ?_
  refine gA ?_
  refine loop_rule [3, 8] (fun vs h' => ∃ (i : Nat) (a' : Option Addr) (c' : Nat) (ys : List Value), vs = [.slice a' (funcsL (l.take i)).length c', .int .i64 i] ∧ i ≤ l.length ∧ Own h' h.size 26 6 a' (funcsL (l.take i)).length c' ys ∧ TReps h (funcsL (l.take i)) ys ∧ Ext h h')
    (fun vs _ => match vs with | [_, .int _ i] => l.length - i.toNat | _ => 0) rfl ?_ ?_
  · exact ⟨0, none, 0, [], rfl, by omega, Own.nil _ _ _ _, by simp [funcsL, TReps], Ext.refl _⟩
  intro u h1 v2 v7
  rintro ⟨i, a1, c1, ys, e, hi, w1, r1, x1⟩
  cases e
  refine gA ?_
  refine HIf.mk (fun hlt => ?_) (fun hlt => ?_)
  · have hi1 : i < l.length := by have := of_decide_eq_true hlt; omega
    have hmu : l.length - ((i : Int) + 1).toNat < l.length - ((i : Int)).toNat := by omega
    have ft := funcsL_take l i hi1
    have fl := funcsL_len (l.take i)
    rw [List.length_take] at fl
    generalize funcsL (l.take i) = out at w1 r1 ft fl
    refine gA ?_
    refine HIdx.mk i rfl hi1 ?_
    refine sl_some s hi1 fun p ep => ?_
    refine gA ?_
    refine tloadK s r (.of_ext x1) ep hi1 fun cs rt => ?_
    have rt0 := rt
    have hx1 := x1.1
    have w1lt := w1.lt
    cases hd : l[i] with
    | mk k nm n t ns kl =>
    rw [hd] at rt ft
    have rt1 := rt
    simp only [TRep] at rt
    obtain ⟨_, _, _, _, _, _, _, ka, kc, la, lc, zs, rfl, _⟩ := rt
    refine gA ?_
    refine new_var (e := 26) zeroT rfl ?_
    intro h2 b2 o2 x2 z2 hb2
    refine gA ?_
    refine store_blk o2 (by simp) (by simp [isOne]) ?_
    intro h3 f3 z3 o3
    replace o3 : BlkW h3 b2 26 [.int .i64 k, .string nm, .int .i64 n, .string t, .slice ka ns.length kc, .slice la kl.length lc] := by simpa using o3
    have x13 : Ext h1 h3 := x2.offNew f3 (by omega)
    have w3 := w1.ext x13
    rw [show NT.kind (.mk k nm n t ns kl) = k from rfl] at ft
    by_cases hk : k = 39
    · have q : (k == 39) = true := beq_iff_eq.2 hk
      rw [if_pos hk] at ft
      refine gN ?_
      refine new_own (e := 26) 6 1 [.int .i64 k, .string nm, .int .i64 n, .string t, .slice ka ns.length kc, .slice la kl.length lc] rfl rfl ?_
      intro h4 b4 w4 x4 z4 hb4
      have hx13 := x13.1
      refine gA ?_
      refine w4.sl.cells ?_
      refine Own.grow (w3.ext x4) (by have := x4.1; omega) rfl rfl (by simp [isOne]) (by omega) ?_
      intro h5 a5 c5 w5 g5
      refine gA ?_
      exact ⟨⟨i + 1, a5, c5, _, by rw [ft, List.length_append]; rfl, by omega, by rw [ft, List.length_append]; exact w5, by rw [ft]; exact r1.append (treps1 rt1), ((x1.trans x13).trans x4).keep (g5.kept (by have := x4.1; omega) fun p ep => (w1lt p ep).1)⟩, hmu⟩
    · have q : (k == 39) = false := beq_eq_false_iff_ne.2 hk
      rw [if_neg hk, List.append_nil] at ft
      refine gA ?_
      exact ⟨⟨i + 1, a1, c1, ys, by rw [ft]; rfl, by omega, by rw [ft]; exact w3, by rw [ft]; exact r1, x1.trans x13⟩, hmu⟩
  · have hge := of_decide_eq_false hlt
    obtain rfl : i = l.length := by omega
    rw [List.take_length] at w1 r1 ⊢
    refine gA ?_
    exact ⟨a1, c1, ys, rfl, w1, r1, x1⟩
theorem rhas_spec {h : Heap} {a : Option Addr} {c : Nat} {ks : List ByteArray} (x : Sl h 1 a ks.length c (ks.map .string)) (s : ByteArray) (hn : ks.length ≤ 17179869184) :
    HCalls Try.prog 30 #[.slice a ks.length c, .string s] h fun e h' => h' = h ∧ e = .returned (.bool (strIn ks s)) := by
  refine c30 (by simp) ?_
  refine gA ?_
  refine loop_rule [9] (fun vs h' => ∃ (i : Nat), vs = [.int .i64 i] ∧ i ≤ ks.length ∧ h' = h ∧ s ∉ ks.take i)
    (fun vs _ => match vs with | [.int _ i] => ks.length - i.toNat | _ => 0) rfl ?_ ?_
  · exact ⟨0, rfl, by omega, rfl, by simp⟩
  · intro u h v8
    rintro ⟨i, e, hi, rfl, hs⟩
    cases e
    refine gA ?_
    refine HIf.mk (fun hb => ?_) (fun hb => ?_)
    · have hi1 : i < ks.length := by have := of_decide_eq_true hb; omega
      have hmu : ks.length - ((i : Int) + 1).toNat < ks.length - ((i : Int)).toNat := by omega
      refine gA ?_
      refine HIdx.mk i rfl hi1 ?_
      refine sl_some x hi1 fun p ep => ?_
      refine gA ?_
      refine x.load ep (by simpa using hi1) ?_
      rw [List.getElem_map]
      cases q : strEq ks[i] s
      · have hne := (strEq_no _ _).1 q
        refine gA ?_
        refine ⟨⟨i + 1, rfl, by omega, rfl, ?_⟩, hmu⟩
        rw [take_succ' hi1, List.mem_append, List.mem_singleton]
        rintro (h | h)
        · exact hs h
        · exact hne h.symm
      · have heq := (strEq_iff _ _).1 q
        refine gA ?_
        have : strIn ks s = true := strIn_iff.2 (heq ▸ List.getElem_mem hi1)
        exact ⟨rfl, by rw [this]; rfl⟩
    · have hge := of_decide_eq_false hb
      rw [List.take_of_length_le (by omega)] at hs
      refine gA ?_
      have : strIn ks s = false := by rw [← Bool.not_eq_true, strIn_iff]; exact hs
      exact ⟨rfl, by rw [this]; rfl⟩
mutual
def declsT : NT → List ByteArray
  | .mk k nm _ _ _ l => if k = 39 ∨ k = 10 then [] else (if k = 23 then [nm] else []) ++ declsL l
def declsL : List NT → List ByteArray
  | [] => []
  | d :: r => declsT d ++ declsL r
end
theorem declsL_take (l : List NT) (i : Nat) (hi : i < l.length) : declsL (l.take (i + 1)) = declsL (l.take i) ++ declsT l[i] := by
  have key : ∀ (l m : List NT), declsL (l ++ m) = declsL l ++ declsL m := by
    intro l
    induction l with
    | nil => intro m; rfl
    | cons d r ih => intro m; simp only [List.cons_append, declsL, ih, List.append_assoc]
  rw [take_succ' hi, key]; simp [declsL]
mutual
theorem declsT_len : ∀ d : NT, (declsT d).length ≤ cnt d
  | .mk k nm n t ns l => by
    have h1 := declsL_len l
    simp only [declsT, cnt]
    split
    · simp
    · rw [List.length_append]
      split <;> simp <;> omega
theorem declsL_len : ∀ l : List NT, (declsL l).length ≤ cnts l
  | [] => by simp [declsL]
  | d :: r => by
    have h1 := declsT_len d
    have h2 := declsL_len r
    simp only [declsL, cnts, List.length_append]; omega
end
theorem addN_mem {out : List ByteArray} {s x : ByteArray} : x ∈ addN out s ↔ x ∈ out ∨ x = s := by
  unfold addN
  split
  · rename_i h
    have := strIn_iff.1 h
    constructor
    · intro hx; exact .inl hx
    · rintro (hx | rfl)
      · exact hx
      · exact this
  · simp
theorem fold_mem : ∀ {ks out : List ByteArray} {x : ByteArray}, x ∈ ks.foldl addN out ↔ x ∈ out ∨ x ∈ ks
  | [], out, x => by simp
  | s :: ks, out, x => by
    rw [List.foldl_cons, fold_mem, addN_mem, List.mem_cons]
    exact ⟨fun h => by rcases h with (h | h) | h <;> simp [h], fun h => by rcases h with h | h | h <;> simp [h]⟩
theorem fold_fold : ∀ (ds acc out : List ByteArray), (ds.foldl addN acc).foldl addN out = ds.foldl addN (acc.foldl addN out)
  | [], acc, out => rfl
  | s :: ds, acc, out => by
    rw [List.foldl_cons, List.foldl_cons, fold_fold ds (addN acc s) out]
    congr 1
    by_cases h : strIn acc s = true
    · rw [addN_yes h, addN_yes (strIn_iff.2 (fold_mem.2 (.inr (strIn_iff.1 h))))]
    · rw [addN_no (by simpa using h), List.foldl_append]; rfl
mutual
theorem varsT_decls : ∀ (d : NT) (out : List ByteArray), varsT d out = (declsT d).foldl addN out
  | .mk k nm n t ns l, out => by
    simp only [varsT, declsT]
    split
    · rfl
    · rw [varsL_decls l [], fold_fold, List.foldl_append]
      congr 1
      simp only [List.foldl_nil]
      split <;> rfl
theorem varsL_decls : ∀ (l : List NT) (out : List ByteArray), varsL l out = (declsL l).foldl addN out
  | [], out => by simp [varsL, declsL]
  | d :: r, out => by simp only [varsL, declsL, List.foldl_append]; rw [varsL_decls r, varsT_decls d]
end
theorem decls_spec : ∀ (m : Nat) (l : List NT) (_ : cnts l = m) (h : Heap) (a : Option Addr) (c : Nat) (xs : List Value) (_ : Sl h 6 a l.length c xs) (_ : TReps h l xs) (_ : cnts l ≤ 1048576),
    HCalls Try.prog 29 #[.slice a l.length c] h fun e h' => ∃ a' c', e = .returned (.slice a' (declsL l).length c') ∧ SlS h' h.size a' c' (declsL l) ∧ Ext h h' := by
  intro m
  induction m using Nat.strongRecOn with
  | ind m ih =>
  intro l hm h a c xs s r hc
  have hl := cnts_len l
  refine c29 (by simp) ?_
  refine gA ?_
  refine loop_rule [3, 8] (fun vs h' => ∃ (i : Nat) (a' : Option Addr) (c' : Nat), vs = [.slice a' (declsL (l.take i)).length c', .int .i64 i] ∧ i ≤ l.length ∧ SlS h' h.size a' c' (declsL (l.take i)) ∧ Ext h h')
    (fun vs _ => match vs with | [_, .int _ i] => l.length - i.toNat | _ => 0) rfl ?_ ?_
  · exact ⟨0, none, 0, rfl, by omega, Own.nil _ _ _ _, Ext.refl _⟩
  intro u h1 v3 v8
  rintro ⟨i, a1, c1, e, hi, w1, x1⟩
  cases e
  refine gA ?_
  refine HIf.mk (fun hlt => ?_) (fun hlt => ?_)
  · have hi1 : i < l.length := by have := of_decide_eq_true hlt; omega
    have hmu : l.length - ((i : Int) + 1).toNat < l.length - ((i : Int)).toNat := by omega
    have vt := declsL_take l i hi1
    have hvl := declsL_len (l.take i)
    have hct := cnts_take l i
    have hcg := cnts_get l i hi1
    have hkl := kids_lt l[i]
    generalize declsL (l.take i) = out at w1 vt hvl
    refine gA ?_
    refine HIdx.mk i rfl hi1 ?_
    refine sl_some s hi1 fun p ep => ?_
    refine gA ?_
    refine tloadK s r (.of_ext x1) ep hi1 fun cs rt => ?_
    cases hd : l[i] with
    | mk k nm n t ns kl =>
    rw [hd] at rt vt hcg hkl
    simp only [NT.l] at hkl
    simp only [TRep] at rt
    obtain ⟨_, _, _, _, _, _, _, ka, kc, la, lc, zs, rfl, t1, t2, t3⟩ := rt
    have hx1 := x1.1
    have w1lt := w1.lt
    refine gA ?_
    refine new_var (e := 26) zeroT rfl ?_
    intro h2 b2 o2 x2 z2 hb2
    refine gA ?_
    refine store_blk o2 (by simp) (by simp [isOne]) ?_
    intro h3 f3 z3 o3
    replace o3 : BlkW h3 b2 26 [.int .i64 k, .string nm, .int .i64 n, .string t, .slice ka ns.length kc, .slice la kl.length lc] := by simpa using o3
    have x13 : Ext h1 h3 := x2.offNew f3 (by omega)
    have w3 : SlS h3 h.size a1 c1 out := w1.ext x13
    have x03 := x1.trans x13
    have hx13 := x13.1
    have hx2 := x2.1
    simp only [declsT] at vt
    clear o2 f3
    by_cases hA : k = 39 ∨ k = 10
    · rw [if_pos hA, List.append_nil] at vt
      have qs : (k == 39) = true ∨ ((k == 39) = false ∧ (k == 10) = true) := by rcases hA with rfl | rfl <;> decide
      rcases qs with q | ⟨q, q2⟩
      all_goals
        refine gA ?_
        exact ⟨⟨i + 1, a1, c1, by rw [vt]; rfl, by omega, by rw [vt]; exact w3, x03⟩, hmu⟩
    rw [if_neg hA] at vt
    have qA1 : (k == 39) = false := beq_eq_false_iff_ne.2 fun e => hA (.inl e)
    have qA2 : (k == 10) = false := beq_eq_false_iff_ne.2 fun e => hA (.inr e)
    clear hA
    refine gB ?_
    refine HSeq.go ?_
    refine gB ?_
    refine cut_rule [3] (fun vs h' => ∃ (a' : Option Addr) (c' : Nat), vs = [.slice a' (out ++ if k = 23 then [nm] else []).length c'] ∧ SlS h' h.size a' c' (out ++ if k = 23 then [nm] else []) ∧ Ext h h' ∧ BlkW h' b2 26 [.int .i64 k, .string nm, .int .i64 n, .string t, .slice ka ns.length kc, .slice la kl.length lc]) rfl ?_ ?_
    · by_cases hk3 : k = 23
      · have q3 : (k == 23) = true := beq_iff_eq.2 hk3
        rw [if_pos hk3]
        refine gA ?_
        refine new_own (e := 9) 1 1 [.string nm] rfl rfl ?_
        intro h5 b5 w5 x5 z5 hb5
        have o5 := o3.ext x5
        have w35 := w3.ext x5
        have hx5 := x5.1
        have w3lt := w3.lt
        refine gA ?_
        refine w5.sl.cells ?_
        refine Own.grow w35 (by omega) rfl rfl (by intro v hv; simp only [List.mem_singleton] at hv; subst hv; rfl) (by omega) ?_
        intro h6 a6 c6 w6 g6
        have o6 := g6.blk o5 (fun p ep => by have := w1lt p ep; omega)
        refine gA ?_
        exact ⟨a6, c6, by rw [List.length_append]; rfl, by rw [SlS, List.length_append, List.map_append]; exact w6, (x03.trans x5).keep (g6.kept (by omega) fun p ep => (w1lt p ep).1), o6⟩
      · have q3 : (k == 23) = false := beq_eq_false_iff_ne.2 hk3
        rw [if_neg hk3, List.append_nil]
        refine gA ?_
        exact ⟨a1, c1, rfl, w3, x03, o3⟩
    · intro u4 h4 v3'
      rintro ⟨a4, c4, e, w4, x4, o4⟩
      cases e
      have ho2 : (out ++ if k = 23 then [nm] else []).length ≤ 1048577 := by rw [List.length_append]; split <;> simp <;> omega
      rw [← List.append_assoc] at vt
      generalize (out ++ if k = 23 then [nm] else []) = out2 at w4 vt ho2
      have hdl := declsL_len kl
      have hx4 := x4.1
      refine gA ?_
      refine HCall.mk ((ih (cnts kl) (by omega) kl rfl h4 la lc zs (t2.ext x4) (t3.ext x4) (by omega)).mono ?_)
      rintro e h5 ⟨a5, c5, rfl, w5, x5⟩
      have w45 := w4.ext x5
      have w4lt := w4.lt
      have hx5 := x5.1
      generalize declsL kl = ks at w5 vt hdl
      refine gA ?_
      refine w5.sl.cells ?_
      refine Own.grow w45 (by omega) rfl (by simp) (by intro v hv; obtain ⟨s, _, rfl⟩ := List.mem_map.1 hv; rfl) (by omega) ?_
      intro h6 a6 c6 w6 g6
      refine gA ?_
      exact ⟨⟨i + 1, a6, c6, by rw [vt, List.length_append]; rfl, by omega, by rw [vt, SlS, List.length_append, List.map_append]; exact w6, (x4.trans x5).keep (g6.kept (by omega) fun p ep => (w4lt p ep).1)⟩, hmu⟩
  · have hge := of_decide_eq_false hlt
    obtain rfl : i = l.length := by omega
    rw [List.take_length] at w1 ⊢
    refine gA ?_
    exact ⟨a1, c1, rfl, w1, x1⟩
theorem rvars_spec (l : List NT) (h : Heap) (a : Option Addr) (c : Nat) (xs : List Value) (s : Sl h 6 a l.length c xs) (r : TReps h l xs) (hc : cnts l ≤ 1048576) :
    HCalls Try.prog 21 #[.slice a l.length c] h fun e h' => ∃ a' c', e = .returned (.slice a' (varsL l []).length c') ∧ SlS h' h.size a' c' (varsL l []) ∧ Ext h h' := by
  rw [varsL_decls]
  refine c21 (by simp) ?_
  refine gA ?_
  refine HCall.mk ((decls_spec _ l rfl h a c xs s r hc).mono ?_)
  rintro e h1 ⟨a1, c1, rfl, w1, x1⟩
  have hdl := declsL_len l
  have w1lt := w1.lt
  generalize declsL l = ks at w1 hdl
  refine gA ?_
  refine loop_rule [3, 9] (fun vs h' => ∃ (j : Nat) (a' : Option Addr) (c' : Nat), vs = [.slice a' ((ks.take j).foldl addN []).length c', .int .i64 j] ∧ j ≤ ks.length ∧ SlS h' h1.size a' c' ((ks.take j).foldl addN []) ∧ Ext h1 h')
    (fun vs _ => match vs with | [_, .int _ i] => ks.length - i.toNat | _ => 0) rfl ?_ ?_
  · exact ⟨0, none, 0, rfl, by omega, Own.nil _ _ _ _, Ext.refl _⟩
  intro u6 h6 v3 v9
  rintro ⟨j, a6, c6, e, hj, w6, x6⟩
  cases e
  refine gA ?_
  refine HIf.mk (fun hlt2 => ?_) (fun hlt2 => ?_)
  · have hj1 : j < ks.length := by have := of_decide_eq_true hlt2; omega
    have hmu2 : ks.length - ((j : Int) + 1).toNat < ks.length - ((j : Int)).toNat := by omega
    have ft : (ks.take (j + 1)).foldl addN [] = addN ((ks.take j).foldl addN []) ks[j] := by rw [take_succ' hj1, List.foldl_append]; rfl
    have fl := fold_len (ks.take j) []
    rw [List.length_take] at fl
    simp only [List.length_nil] at fl
    generalize (ks.take j).foldl addN [] = out3 at w6 ft fl
    have hx6 := x6.1
    have w6lt := w6.lt
    refine gA ?_
    refine HIdx.mk j rfl hj1 ?_
    refine sl_some w1.sl hj1 fun p ep => ?_
    refine gA ?_
    refine (w1.sl.ext x6).load ep (by simpa using hj1) ?_
    rw [List.getElem_map]
    refine gA ?_
    refine HCall.mk ((rhas_spec w6.sl ks[j] (by omega)).mono ?_)
    rintro e h7 ⟨rfl, rfl⟩
    cases hin : strIn out3 ks[j]
    · rw [addN_no hin] at ft
      refine gA ?_
      refine new_own (e := 9) 1 1 [.string ks[j]] rfl rfl ?_
      intro h8 b8 w8 x8 z8 hb8
      have hx8 := x8.1
      refine gA ?_
      refine w8.sl.cells ?_
      refine Own.grow (w6.ext x8) (by omega) rfl rfl (by intro v hv; simp only [List.mem_singleton] at hv; subst hv; rfl) (by omega) ?_
      intro h9 a9 c9 w9 g9
      refine gA ?_
      exact ⟨⟨j + 1, a9, c9, by rw [ft, List.length_append]; rfl, by omega, by rw [ft, SlS, List.length_append, List.map_append]; exact w9, (x6.trans x8).keep (g9.kept (by omega) fun p ep => (w6lt p ep).1)⟩, hmu2⟩
    · rw [addN_yes hin] at ft
      refine gA ?_
      exact ⟨⟨j + 1, a6, c6, by rw [ft]; rfl, by omega, by rw [ft]; exact w6, x6⟩, hmu2⟩
  · have hge2 := of_decide_eq_false hlt2
    obtain rfl : j = ks.length := by omega
    rw [List.take_length] at w6 ⊢
    refine gA ?_
    exact ⟨a6, c6, rfl, w6.lower x1.1, x1.trans x6⟩
theorem same_self : ∀ (m : Nat) (d : NT) (_ : cnt d = m) (h : Heap) (cs cs' : List Value) (_ : TRep h d cs) (_ : TRep h d cs'),
    HCalls Try.prog 19 #[.agg cs.toArray, .agg cs'.toArray] h fun e h' => e = .returned (.bool true) ∧ Ext h h' := by
  intro m
  induction m using Nat.strongRecOn with
  | ind m ih =>
  intro d hm h cs cs' r r'
  cases d with
  | mk k nm n t ns l =>
  simp only [TRep] at r r'
  obtain ⟨b1, b2, b3, b4, b5, b6, b7, ka, kc, la, lc, ys, rfl, s1, s2, s3⟩ := r
  obtain ⟨_, _, _, _, _, _, _, ka', kc', la', lc', ys', rfl, s1', s2', s3'⟩ := r'
  refine c19 (by simp) ?_
  refine gA ?_
  refine new_var (e := 26) [.int .i64 k, .string nm, .int .i64 n, .string t, .slice ka ns.length kc, .slice la l.length lc] rfl ?_
  intro h1 p o1 x1 z1 hp
  refine gA ?_
  refine new_var (e := 26) [.int .i64 k, .string nm, .int .i64 n, .string t, .slice ka' ns.length kc', .slice la' l.length lc'] rfl ?_
  intro h2 p' o2 x2 z2 hp'
  have o1 := o1.ext x2
  have x02 := x1.trans x2
  have q1 : (k != k) = false := by simp
  have q2 : (!strEq nm nm) = false := by rw [(strEq_iff nm nm).2 rfl]; rfl
  have q3 : (n != n) = false := by simp
  have q4 : (!strEq t t) = false := by rw [(strEq_iff t t).2 rfl]; rfl
  have q5 : ((ns.length : Int) != (ns.length : Int)) = false := by simp
  have q6 : ((l.length : Int) != (l.length : Int)) = false := by simp
  refine gA ?_
  refine loop_rule [54] (fun vs h' => ∃ (i : Nat), vs = [.int .i64 i] ∧ i ≤ ns.length ∧ h' = h2)
    (fun vs _ => match vs with | [.int _ i] => ns.length - i.toNat | _ => 0) rfl ?_ ?_
  · exact ⟨0, rfl, by omega, rfl⟩
  intro u h3 v54
  rintro ⟨i, e, hi, rfl⟩
  cases e
  refine gA ?_
  refine HIf.mk (fun hlt => ?_) (fun hlt => ?_)
  · have hi1 : i < ns.length := by have := of_decide_eq_true hlt; omega
    have hmu : ns.length - ((i : Int) + 1).toNat < ns.length - ((i : Int)).toNat := by omega
    have q7 : (!strEq ns[i] ns[i]) = false := by rw [(strEq_iff ns[i] ns[i]).2 rfl]; rfl
    refine gA ?_
    refine HIdx.mk i rfl hi1 ?_
    refine sl_some s1 hi1 fun p ep => ?_
    refine gA ?_
    refine (s1.ext x02).load ep (by simpa using hi1) ?_
    rw [List.getElem_map]
    refine gA ?_
    refine HIdx.mk i rfl hi1 ?_
    refine sl_some s1' hi1 fun p ep => ?_
    refine gA ?_
    refine (s1'.ext x02).load ep (by simpa using hi1) ?_
    rw [List.getElem_map]
    refine gA ?_
    exact ⟨⟨i + 1, rfl, by omega, rfl⟩, hmu⟩
  · refine gA ?_
    refine loop_rule [72] (fun vs h' => ∃ (i : Nat), vs = [.int .i64 i] ∧ i ≤ l.length ∧ Ext h3 h')
      (fun vs _ => match vs with | [.int _ i] => l.length - i.toNat | _ => 0) rfl ?_ ?_
    · exact ⟨0, rfl, by omega, Ext.refl _⟩
    intro u h4 v72
    rintro ⟨i, e, hi, x4⟩
    cases e
    have o1 := o1.ext x4
    have o2 := o2.ext x4
    have x04 := x02.trans x4
    refine gA ?_
    refine HIf.mk (fun hlt2 => ?_) (fun hlt2 => ?_)
    · have hi1 : i < l.length := by have := of_decide_eq_true hlt2; omega
      have hmu : l.length - ((i : Int) + 1).toNat < l.length - ((i : Int)).toNat := by omega
      have hcg := cnts_get l i hi1
      simp only [cnt] at hm
      refine gA ?_
      refine HIdx.mk i rfl hi1 ?_
      refine sl_some s2 hi1 fun p ep => ?_
      refine gA ?_
      refine tloadK s2 s3 (.of_ext x04) ep hi1 fun cs rt => ?_
      refine gA ?_
      refine HIdx.mk i rfl hi1 ?_
      refine sl_some s2' hi1 fun p ep => ?_
      refine gA ?_
      refine tloadK s2' s3' (.of_ext x04) ep hi1 fun cs' rt' => ?_
      refine gA ?_
      refine HCall.mk ((ih (cnt l[i]) (by omega) l[i] rfl h4 cs cs' (rt.ext x04) (rt'.ext x04)).mono ?_)
      rintro e h5 ⟨rfl, x5⟩
      refine gA ?_
      exact ⟨⟨i + 1, rfl, by omega, x4.trans x5⟩, hmu⟩
    · refine gA ?_
      exact ⟨rfl, x04⟩
end Go.Proofs.Ytlogpojkkbcpjaa.Hc
/- The law ScopeBlock (printed by tools/mkZH.py). -/
set_option linter.unusedVariables false
set_option linter.unusedSimpArgs false
set_option linter.unusedSectionVars false
namespace Go.Proofs.Ytlogpojkkbcpjaa.Hc
open Go Go.H Go.Proofs
set_option maxRecDepth 100000
set_option maxHeartbeats 8000000
theorem any_prog' (nm : ByteArray) (n : Int) (t : ByteArray) (ns : List ByteArray) (l : List NT) (v : Env) : anyT earlyB (.mk 41 nm n t ns l) v = anyL earlyB l v := by
  simp only [anyT]
  rw [earlyB_mk, innerV_mk]; rfl
theorem any_block' (l : List NT) (v : Env) : anyL earlyB [nodeT 25 emp l] v = anyL earlyB l v := by
  simp only [anyL, anyT, Bool.or_false]
  rw [earlyB_mk, innerV_mk]; rfl
theorem vars_block (l : List NT) : varsL [nodeT 25 emp l] [] = varsL l [] := by
  rw [varsL_decls, varsL_decls]
  have : declsL [nodeT 25 emp l] = declsL l := by
    simp only [declsL, declsT, List.append_nil]
    rw [if_neg (by decide), if_neg (by decide), List.nil_append]
  rw [this]
theorem scopeBlock_spec {h : Heap} {d : NT} {cs : List Value} (r : TRep h d cs) (hc : cnt d ≤ 1048576) (g : Glb h) : HCalls Try.prog 6 #[.agg cs.toArray] h fun e h' => e = .returned (.bool true) ∧ Ext h h' := by
  cases d with
  | mk k nm n t ns l =>
  have rt := r
  have hc0 := hc
  simp only [TRep] at r
  obtain ⟨b1, b2, b3, b4, b5, b6, b7, ka, kc, la, lc, ys, rfl, s2', s2, s3⟩ := r
  simp only [cnt] at hc
  refine c6 (by simp) ?_
  refine gA ?_
  refine new_var (e := 26) [.int .i64 k, .string nm, .int .i64 n, .string t, .slice ka ns.length kc, .slice la l.length lc] rfl ?_
  intro h1 p1 o1 X z1 hp1
  refine gA ?_
  refine HCall.mk ((live_spec (g.ext X)).mono ?_)
  rintro e h2 ⟨rfl, x2⟩
  have o1 := o1.ext x2
  have X := X.trans x2
  refine gA ?_
  refine new_own (e := 26) 6 1 [.int .i64 25, .string emp, .int .i64 0, .string emp, .slice none 0 0, .slice la l.length lc] rfl rfl ?_
  intro h3 b3' w3 x3 z3 hb3
  have o1 := o1.ext x3
  have X := X.trans x3
  refine gA ?_
  refine new_var (e := 26) zeroT rfl ?_
  intro h4 p4 o4 x4 z4 hp4
  have l1 := o1.lt
  have l3 := (w3.lt _ rfl).2
  have o1 := o1.ext x4
  have w3 := w3.ext x4
  refine gA ?_
  refine store_blk o4 (by simp) (by simp [isOne]) ?_
  intro h5 f5 z5 o5
  have o4 : BlkW h5 p4 26 [.int .i64 41, .string emp, .int .i64 0, .string emp, .slice none 0 0, .slice (some ⟨b3', 0, none⟩) 1 1] := by simpa using o5
  clear o5
  have o1 := o1.offk f5 (by omega)
  have hX3 := X.1
  have X := (X.trans x4).offNew f5 (by omega)
  have sb := (w3.off f5 (fun p ep => by cases ep; show b3' ≠ p4; have l3' : b3' < h3.size := l3; omega)).sl
  have rb : TRep h5 (nodeT 25 emp l) [.int .i64 25, .string emp, .int .i64 0, .string emp, .slice none 0 0, .slice la l.length lc] := trep_mk (i64_small (by omega)) (i64_small (by omega)) (by decide) (by decide) b6 (s2.ext X) (s3.ext X)
  clear w3 f5 z5 x4 x3 x2
  have lenb : ([nodeT 25 emp l] : List NT).length = 1 := rfl
  by_cases hk : k = 41
  rotate_left
  · have q : (k != 41) = true := bne_iff_ne.2 hk
    refine gA ?_
    exact ⟨rfl, X⟩
  subst hk
  refine gA ?_
  refine HCall.mk ((funcs_spec l _ _ _ _ (s2.ext X) (s3.ext X) b6).mono ?_)
  rintro e h6 ⟨a6, c6, y6, rfl, w6, r6, x6⟩
  have o1 := o1.ext x6
  have o4 := o4.ext x6
  have sb := sb.ext x6
  have rb := rb.ext x6
  have X := X.trans x6
  have fl := funcsL_len l
  by_cases hf : (funcsL l).length = 0
  rotate_left
  · have q : decide (((funcsL l).length : Int) > 0) = true := decide_eq_true (by omega)
    refine gA ?_
    exact ⟨rfl, X⟩
  have qf : decide (((funcsL l).length : Int) > 0) = false := decide_eq_false (by omega)
  refine gN ?_
  refine HCall.mk ((rcheck_spec (rt.ext X) (by omega)).mono ?_)
  rintro e h7 ⟨rfl, x7⟩
  have o1 := o1.ext x7
  have o4 := o4.ext x7
  have sb := sb.ext x7
  have rb := rb.ext x7
  have X := X.trans x7
  by_cases h1' : tcheck (.mk 41 nm n t ns l) = 0
  rotate_left
  · have q : (tcheck (.mk 41 nm n t ns l) != 0) = true := bne_iff_ne.2 h1'
    refine gA ?_
    exact ⟨rfl, X⟩
  have q1 : (tcheck (.mk 41 nm n t ns l) != 0) = false := by rw [h1']; rfl
  refine gN ?_
  refine HCall.mk ((rcheck_spec (d := progT [nodeT 25 emp l]) (trep_mk (l := [nodeT 25 emp l]) (i64_small (by omega)) (i64_small (by omega)) (by decide) (by decide) (by simp) sb (treps1 rb)) (by simp only [cnt, cnts]; omega)).mono ?_)
  rintro e h8 ⟨rfl, x8⟩
  have o1 := o1.ext x8
  have o4 := o4.ext x8
  have sb := sb.ext x8
  have rb := rb.ext x8
  have X := X.trans x8
  by_cases h2' : tcheck (progT [nodeT 25 emp l]) = 0
  rotate_left
  · have q : (tcheck (progT [nodeT 25 emp l]) != 0) = true := bne_iff_ne.2 h2'
    refine gA ?_
    exact ⟨rfl, X⟩
  have q2 : (tcheck (progT [nodeT 25 emp l]) != 0) = false := by rw [h2']; rfl
  obtain ⟨cv, hb1⟩ : ∃ cv : Int, checkS (.mk 41 nm n t ns l) = cv := ⟨_, rfl⟩
  have hb2 : checkS (progT [nodeT 25 emp l]) = cv := by
    rw [← hb1]
    unfold checkS
    have z0 : ¬ ((0 : Int) ≠ 0) := fun z => z rfl
    rw [h1', h2', if_neg z0, if_neg z0, any_prog', any_prog', any_block']
  have hv := vars_block l
  refine gN ?_
  repeat' ((with_reducible refine HAlt.mk ?_ ?_) <;> refine gN ?_)
  all_goals ((refine HCall.mk ((check_spec (rt.ext X) (g.ext X) (by omega)).mono ?_)); (rintro e k1 ⟨rfl, x1'⟩); (have o1 := o1.ext x1'); (have o4 := o4.ext x1'); (have sb := sb.ext x1'); (have rb := rb.ext x1'); (have X := X.trans x1'); refine gN ?_)
  all_goals ((refine HCall.mk ((check_spec (d := progT [nodeT 25 emp l]) (trep_mk (l := [nodeT 25 emp l]) (i64_small (by omega)) (i64_small (by omega)) (by decide) (by decide) (by simp) sb (treps1 rb)) (g.ext X) (by simp only [cnt, cnts]; omega)).mono ?_)); (rintro e k2 ⟨rfl, x2'⟩); (have o1 := o1.ext x2'); (have o4 := o4.ext x2'); (have sb := sb.ext x2'); (have rb := rb.ext x2'); (have X := X.trans x2'); (rw [hb1, hb2]); (have q9 : ((cv : Int) == (cv : Int)) = true := beq_self_eq_true _); refine gA ?_; (repeat' ((with_reducible refine HAlt.mk ?_ ?_) <;> refine gA ?_)))
  all_goals ((refine HCall.mk ((vars_spec _ l rfl _ _ _ _ (s2.ext X) (s3.ext X) (by omega)).mono ?_)); (rintro e k3 ⟨a3, c3, rfl, w3, x3'⟩); (have o1 := o1.ext x3'); (have o4 := o4.ext x3'); (have sb := sb.ext x3'); (have rb := rb.ext x3'); (have X := X.trans x3'); refine gA ?_)
  all_goals ((have cw := vars_spec _ [nodeT 25 emp l] rfl k3 _ _ _ sb (treps1 rb) (by simp only [cnt, cnts]; omega)); (rw [hv] at cw); (refine HCall.mk (cw.mono ?_)); (rintro e k4 ⟨a4, c4, rfl, w4, x4'⟩); (have o1 := o1.ext x4'); (have o4 := o4.ext x4'); (have sb := sb.ext x4'); (have rb := rb.ext x4'); (have X := X.trans x4'); refine gA ?_)
  all_goals ((refine HCall.mk ((sameNames_spec (l := varsL l []) (k := varsL l []) (w3.sl.ext x4') w4.sl (by have := varsL_len l []; simp only [List.length_nil, Nat.zero_add] at this; omega)).mono ?_)); (rintro e k5 ⟨rfl, rfl⟩); (rw [decide_eq_true rfl]); refine gA ?_; exact ⟨rfl, X⟩)
end Go.Proofs.Ytlogpojkkbcpjaa.Hc
/- Trees of a program's text that came in; the wrap of the second form with the world's shape kept; what the library's own variable holds. -/
set_option linter.unusedVariables false
set_option linter.unusedSimpArgs false
namespace Go.Proofs.Ytlogpojkkbcpjaa.RU
open Go Go.H Go.Proofs Go.ChangeShapes Go.WideShapes Go.RowKit
set_option maxRecDepth 100000
theorem list_ex {α β : Type} : ∀ (l : List α) (R : Nat → α → β → Prop) (_ : ∀ i (hi : i < l.length), ∃ b, R i l[i] b), ∃ bs : List β, bs.length = l.length ∧ ∀ i (hi : i < l.length) (hb : i < bs.length), R i l[i] bs[i]
  | [], R, h => ⟨[], rfl, fun i hi => by simp at hi⟩
  | a :: l, R, h => by
    obtain ⟨b, hb⟩ := h 0 (by simp)
    obtain ⟨bs, h1, h2⟩ := list_ex l (fun i => R (i + 1)) fun i hi => h (i + 1) (by simpa using hi)
    refine ⟨b :: bs, by simp [h1], fun i hi hj => ?_⟩
    cases i with
    | zero => exact hb
    | succ i => exact h2 i (by simpa using hi) (by simpa using hj)
theorem sum_le {α β : Type} (f : β → Nat) (g : α → Nat) : ∀ (l : List α) (bs : List β), bs.length = l.length → (∀ i (hi : i < l.length) (hb : i < bs.length), f bs[i] ≤ g l[i]) → (bs.map f).sum ≤ (l.map g).sum
  | [], [], _, _ => by simp
  | a :: l, b :: bs, hl, h => by
    have h0 := h 0 (by simp) (by simp)
    have h1 := sum_le f g l bs (by simpa using hl) fun i hi hb => h (i + 1) (by simpa using hi) (by simpa using hb)
    simp only [List.map_cons, List.sum_cons, List.getElem_cons_zero] at h0 ⊢; omega
  | [], _ :: _, h, _ => by simp at h
  | _ :: _, [], h, _ => by simp at h
theorem bulk_sum {H : Type} : ∀ l : List (DataW H), Rows.uptoBulkAll l = (l.map Rows.uptoBulk).sum
  | [] => rfl
  | d :: r => by simp only [Rows.uptoBulkAll, List.map_cons, List.sum_cons, bulk_sum r]
theorem bulk_mem' {H : Type} : ∀ (l : List (DataW H)) (d : DataW H), d ∈ l → Rows.uptoBulk d ≤ Rows.uptoBulkAll l
  | [], d, h => by cases h
  | e :: r, d, h => by
    simp only [Rows.uptoBulkAll]
    rcases List.mem_cons.1 h with rfl | h
    · omega
    · have := bulk_mem' r d h; omega
theorem flat_get {α : Type} {n : Nat} : ∀ (l : List (List α)) (_ : ∀ x ∈ l, x.length = n) (i j : Nat) (hi : i < l.length) (_ : j < n), l.flatten[i * n + j]? = l[i][j]?
  | [], _, i, _, hi, _ => by simp at hi
  | a :: l, h, i, j, hi, hj => by
    have ha := h a (by simp)
    cases i with
    | zero => rw [List.flatten_cons, Nat.zero_mul, Nat.zero_add, List.getElem?_append_left (by omega)]; rfl
    | succ i =>
      rw [List.flatten_cons, List.getElem?_append_right (by rw [ha, Nat.add_mul]; omega), List.getElem_cons_succ, ← flat_get l (fun x hx => h x (by simp [hx])) i j (by simpa using hi) hj]
      congr 1; rw [ha, Nat.add_mul]; omega
theorem flat_len {α : Type} {n : Nat} : ∀ (l : List (List α)) (_ : ∀ x ∈ l, x.length = n), l.flatten.length = l.length * n
  | [], _ => by simp
  | a :: l, h => by rw [List.flatten_cons, List.length_append, h a (by simp), flat_len l (fun x hx => h x (by simp [hx])), List.length_cons, Nat.add_mul]; omega
end Go.Proofs.Ytlogpojkkbcpjaa.RU
namespace Go.Proofs.Ytlogpojkkbcpjaa.Hc
open Go Go.H Go.Proofs Go.ChangeShapes Go.WideShapes Go.RowKit
set_option maxRecDepth 100000
theorem treps_flat {h : Heap} : ∀ (l : List NT) (cs : List (List Value)), cs.length = l.length → (∀ i (hi : i < l.length) (hc : i < cs.length), TRep h l[i] cs[i]) → TReps h l cs.flatten
  | [], [], _, _ => by simp [TReps]
  | d :: l, c :: cs, hl, hr => by
    simp only [TReps]
    exact ⟨c, cs.flatten, by simp, hr 0 (by simp) (by simp), treps_flat l cs (by simpa using hl) fun i hi hc => hr (i + 1) (by simpa using hi) (by simpa using hc)⟩
  | [], _ :: _, h, _ => by simp at h
  | _ :: _, [], h, _ => by simp at h
theorem cnts_sum : ∀ l : List NT, cnts l = (l.map cnt).sum
  | [] => rfl
  | d :: r => by simp only [cnts, List.map_cons, List.sum_cons, cnts_sum r]
theorem ksum_len : ∀ ks : List ByteArray, ks.length ≤ (ks.map fun k => k.size + 1).sum
  | [] => by simp
  | k :: r => by have := ksum_len r; simp only [List.length_cons, List.map_cons, List.sum_cons]; omega
theorem ksum_mem : ∀ (ks : List ByteArray) (k : ByteArray), k ∈ ks → k.size ≤ (ks.map fun k => k.size + 1).sum
  | [], k, h => by cases h
  | e :: r, k, h => by
    simp only [List.map_cons, List.sum_cons]
    rcases List.mem_cons.1 h with rfl | h
    · omega
    · have := ksum_mem r k h; omega
section
variable {H : Type} {enc : TypeId × Value → H} {W : World} {base : Nat} {spare : Nat → Bool} {held : Bool}
theorem open_names {fuel : Nat} {cs : List Value} {x : DataW H × List MemPlace} (h : DataW.trod enc Try.prog W base spare held fuel 23 cs = some x) :
    ∃ (a : Option Addr) (ks : List ByteArray) (c : Nat), cs = [.slice a ks.length c] ∧ Sl W.heap 1 a ks.length c (ks.map .string) ∧ (ks.map fun k => k.size + 1).sum + 1 ≤ Rows.uptoBulk x.1 := by
  rcases DataW.trod_slice Try.underlying23 h with ⟨rfl, rfl⟩ | ⟨a, len, cap, elems, rest, n, _, rfl, rfl, hb, hl, hm, hlen, hel, _, _⟩
  · exact ⟨none, [], 0, rfl, Sl.nil _ _, by simp [Rows.uptoBulk]⟩
  have hc : Try.prog.cellsOf 9 = 1 := by kernel_rfl
  rw [hc] at hel
  have each : ∀ i (hi : i < elems.length), ∃ s : ByteArray, W.cell? (a.add i) = some (.string s) ∧ elems[i].1 = .lit (.string s.data.toList) ∧ s.size ≤ maxLen := by
    intro i hi
    have h1 := hel i (by omega)
    rw [List.getElem?_eq_getElem hi, Option.bind_eq_some_iff] at h1
    obtain ⟨cs, h2, h3⟩ := h1
    obtain ⟨s, rfl, h4, h5⟩ := DataW.trod_string Try.underlying9 h3
    have := cell_of_cells?_one h2
    rw [Nat.mul_one] at this
    exact ⟨s, this, by rw [h4], h5⟩
  obtain ⟨ks, k1, k2⟩ := RU.list_ex elems (fun i y s => W.cell? (a.add i) = some (.string s) ∧ y.1 = .lit (.string s.data.toList) ∧ s.size ≤ maxLen) each
  refine ⟨some a, ks, cap, by rw [k1, hlen], ⟨by simp, by omega, fun e => (by cases e), ?_⟩, ?_⟩
  · intro p ep i hi
    cases ep
    rw [Nat.mul_one] at hi
    have := (k2 i (by omega) hi).1
    rw [cell_eq] at this
    rw [this, List.getElem?_map, List.getElem?_eq_getElem hi]; rfl
  · have := RU.sum_le (fun k : ByteArray => k.size + 1) (fun y : DataW H × List MemPlace => Rows.uptoBulk y.1) elems ks k1 fun i hi hb => by
      rw [(k2 i hi hb).2.1]; simp only [Rows.uptoBulk]; exact Nat.le_refl _
    simp only [Rows.uptoBulk]
    rw [RU.bulk_sum, List.map_map]
    simp only [Function.comp_def]
    omega
theorem open_treesF {fuel : Nat} (ih : ∀ m, m < fuel → ∀ (cs : List Value) (x : DataW H × List MemPlace), DataW.trod enc Try.prog W base spare held m 26 cs = some x → Rows.uptoBulk x.1 ≤ 1048576 → ∃ t : NT, TRep W.heap t cs ∧ cnt t ≤ Rows.uptoBulk x.1)
    {cs : List Value} {x : DataW H × List MemPlace} (h : DataW.trod enc Try.prog W base spare held fuel 24 cs = some x) (hbk : Rows.uptoBulk x.1 ≤ 1048576) :
    ∃ (a : Option Addr) (l : List NT) (c : Nat) (xs : List Value), cs = [.slice a l.length c] ∧ Sl W.heap 6 a l.length c xs ∧ TReps W.heap l xs ∧ cnts l + 1 ≤ Rows.uptoBulk x.1 ∧ l.length ≤ 1048576 := by
  have hc : Try.prog.cellsOf 26 = 6 := by kernel_rfl
  rcases DataW.trod_slice Try.underlying24 h with ⟨rfl, rfl⟩ | ⟨a, len, cap, elems, rest, n', rfl, rfl, rfl, hb, hlc, hm, hlen, hel, _, _⟩
  · exact ⟨none, [], 0, [], rfl, Sl.nil _ _, by simp only [TReps], by simp [cnts, Rows.uptoBulk], by simp⟩
  rw [hc] at hel
  simp only [Rows.uptoBulk] at hbk
  have hle : len ≤ 1048576 := by have := RU.length_le (elems.map (·.1)); rw [List.length_map] at this; omega
  have each : ∀ i (hi : i < elems.length), ∃ y : NT × List Value, TRep W.heap y.1 y.2 ∧ (∀ j, j < 6 → hcell W.heap ((a.add (i * 6)).add j) = y.2[j]?) ∧ cnt y.1 ≤ Rows.uptoBulk elems[i].1 := by
    intro i hi
    have h1 := hel i (by omega)
    rw [List.getElem?_eq_getElem hi, Option.bind_eq_some_iff] at h1
    obtain ⟨cs, h2, h3⟩ := h1
    have hbi : Rows.uptoBulk elems[i].1 ≤ 1048576 := by
      have := RU.bulk_mem' (elems.map (·.1)) elems[i].1 (List.mem_map.2 ⟨_, List.getElem_mem hi, rfl⟩)
      omega
    obtain ⟨t, r, hv⟩ := ih n' (by omega) cs _ h3 hbi
    have h4 := World.cells?_some h2
    refine ⟨(t, cs), r, fun j hj => ?_, hv⟩
    have := h4.2.2 j hj
    rw [cell_eq] at this
    rw [this]
  obtain ⟨ys, k1, k2⟩ := RU.list_ex elems (fun i y (z : NT × List Value) => TRep W.heap z.1 z.2 ∧ (∀ j, j < 6 → hcell W.heap ((a.add (i * 6)).add j) = z.2[j]?) ∧ cnt z.1 ≤ Rows.uptoBulk y.1) each
  have hall : ∀ x ∈ ys.map (·.2), x.length = 6 := by
    intro x hx
    obtain ⟨z, hz, rfl⟩ := List.mem_map.1 hx
    obtain ⟨i, hi, rfl⟩ := List.getElem_of_mem hz
    exact (k2 i (by omega) hi).1.len
  have hyl : (ys.map (·.1)).length = len := by rw [List.length_map]; omega
  refine ⟨some a, ys.map (·.1), cap, (ys.map (·.2)).flatten, by rw [hyl], ⟨by rw [RU.flat_len _ hall]; simp, by omega, fun e => (by cases e), ?_⟩, treps_flat (ys.map (·.1)) (ys.map (·.2)) (by simp) ?_, ?_, by omega⟩
  · intro p ep i hi
    cases ep
    rw [hyl] at hi
    have hq : i / 6 < ys.length := by omega
    have h5 := (k2 (i / 6) (by omega) hq).2.1 (i % 6) (by omega)
    rw [add_add, show i / 6 * 6 + i % 6 = i by omega] at h5
    have h6 := RU.flat_get (ys.map (·.2)) hall (i / 6) (i % 6) (by simpa using hq) (by omega)
    rw [show i / 6 * 6 + i % 6 = i by omega, List.getElem_map] at h6
    rw [h5, h6]
  · intro i hi hc'
    rw [List.getElem_map, List.getElem_map]
    exact (k2 i (by simpa [k1] using hi) (by simpa using hi)).1
  · have := RU.sum_le (fun z : NT × List Value => cnt z.1) (fun y : DataW H × List MemPlace => Rows.uptoBulk y.1) elems ys k1 fun i hi hb => (k2 i hi hb).2.2
    rw [cnts_sum, List.map_map]
    simp only [Rows.uptoBulk]
    rw [RU.bulk_sum, List.map_map]
    simp only [Function.comp_def] at this ⊢
    omega
theorem open_tree : ∀ (fuel : Nat) (cs : List Value) (x : DataW H × List MemPlace), DataW.trod enc Try.prog W base spare held fuel 26 cs = some x → Rows.uptoBulk x.1 ≤ 1048576 → ∃ t : NT, TRep W.heap t cs ∧ cnt t ≤ Rows.uptoBulk x.1 := by
  intro fuel
  induction fuel using Nat.strongRecOn with
  | ind fuel ih =>
  intro cs x h hbk
  obtain ⟨xs, n, rfl, rfl, hl, hx, hf⟩ := DataW.trod_struct Try.underlying26 h
  have hc : Try.prog.cellsOf 26 = 6 := by kernel_rfl
  have c1 : Try.prog.cellsOf 3 = 1 := by kernel_rfl
  have c2 : Try.prog.cellsOf 2 = 1 := by kernel_rfl
  have c3 : Try.prog.cellsOf 9 = 1 := by kernel_rfl
  have c4 : Try.prog.cellsOf 23 = 1 := by kernel_rfl
  have c5 : Try.prog.cellsOf 24 = 1 := by kernel_rfl
  rw [hc] at hl
  have f0 := hf 0 _ rfl
  have f1 := hf 1 _ rfl
  have f2 := hf 2 _ rfl
  have f3 := hf 3 _ rfl
  have f4 := hf 4 _ rfl
  have f5 := hf 5 _ rfl
  match cs, hl with
  | [v0, v1, v2, v3, v4, v5], _ =>
  match xs, hx with
  | [x0, x1, x2, x3, x4, x5], _ =>
  simp only [c1, c2, c3, c4, c5, List.drop_zero, List.drop_succ_cons, List.take_succ_cons, List.take_zero, List.getElem?_cons_zero, List.getElem?_cons_succ] at f0 f1 f2 f3 f4 f5
  obtain ⟨k, e0, d0, w0⟩ := DataW.trod_int Try.underlying3 f0
  obtain ⟨nm, e1, d1, w1⟩ := DataW.trod_string Try.underlying9 f1
  obtain ⟨m, e2, d2, w2⟩ := DataW.trod_int Try.underlying2 f2
  obtain ⟨s, e3, d3, w3⟩ := DataW.trod_string Try.underlying9 f3
  obtain ⟨ka, ks, kc, e4, s4, b4⟩ := open_names f4
  cases e0; cases e1; cases e2; cases e3; cases e4
  have wb : ∀ {k : Int}, (Lit.int .i64 k).wf = true → i64 k := fun {k} h => by unfold i64; simpa [Lit.wf, IntKind.min, IntKind.max, IntKind.signed, IntKind.bits] using h
  have h1 : nm.size + 1 ≤ Rows.uptoBulk x1.1 := by rw [d1]; simp only [Rows.uptoBulk]; exact Nat.le_refl _
  have h3 : s.size + 1 ≤ Rows.uptoBulk x3.1 := by rw [d3]; simp only [Rows.uptoBulk]; exact Nat.le_refl _
  simp only [Rows.uptoBulk, List.map_cons, List.map_nil, Rows.uptoBulkAll] at hbk
  have l4 := ksum_len ks
  have m4 : ∀ x ∈ ks, x.size ≤ 4194304 := fun x hx => by have := ksum_mem ks x hx; omega
  obtain ⟨la, l, lc, ys, e5, s5, t5, b5, l5⟩ := open_treesF (fun m hm => ih m (by omega)) f5 (by omega)
  cases e5
  refine ⟨.mk k nm m s ks l, ?_, ?_⟩
  · simp only [TRep]
    exact ⟨wb w0, wb w2, by omega, by omega, by omega, by omega, m4, ka, kc, la, lc, ys, rfl, s4, s5, t5⟩
  · simp only [cnt, Rows.uptoBulk, List.map_cons, List.map_nil, Rows.uptoBulkAll]; omega
/-- One tree, some trees. -/
theorem open_trees {a : Option Addr} {len cap : Nat} {d : DataW H} {ps : List MemPlace} (h : DataW.Trod enc Try.prog W base spare held 24 (.slice a len cap) d ps) (hbk : Rows.uptoBulk d ≤ 1048576) :
    ∃ (l : List NT) (xs : List Value), len = l.length ∧ Sl W.heap 6 a l.length cap xs ∧ TReps W.heap l xs ∧ cnts l ≤ 1048576 := by
  obtain ⟨fuel, hf⟩ := h
  obtain ⟨a', l, c, xs, e, s, t, b, _⟩ := open_treesF (fun m _ => open_tree m) hf hbk
  simp only [Value.cells] at e
  cases e
  exact ⟨l, xs, rfl, s, t, by simp only at b; omega⟩
end
end Go.Proofs.Ytlogpojkkbcpjaa.Hc
namespace Go.Proofs.Ytlogpojkkbcpjaa.Hc
open Go Go.H Go.Proofs Go.ChangeShapes
set_option maxRecDepth 100000
theorem glob_of_shape {W : World} (h : W.ShapedOpen Try.prog) : Glb W.heap := by
  obtain ⟨m, e⟩ := cell_of_shapedOpen_int (P := Try.prog) (g := 0) (t := 3) (zero := #[.int .i64 0]) (k := .i64) h (of_decide_eq_true (by kernel_rfl)) (by kernel_rfl) rfl (by kernel_rfl) (by kernel_rfl) Try.underlying3
  exact ⟨m, e⟩
theorem handed_shaped {H : Type} {enc : TypeId × Value → H} {a : Assume} {C : Checked} {os : Os} {f : FuncId} {fn : Func} {s : OpenSpec} {k : (H : Type) → List (DataW H) → Bool} (hk : s.cond = some k) {F : Stop.Interp} {conds : List PathCond} {apart fresh handsOn again : Bool}
    (own : ownKnob C.prog.godebug = none) (started : os.Started) (noInit : C.prog.inits.idxOf? f = none) (hfn : C.prog.funcs[f]? = some fn)
    (witness : ∃ (w : World) (tape : Tape) (i : Input), w.os = os ∧ (w.forCall tape i).Shaped C.prog ∧ i.vars = [] ∧ Input.okWide C.prog (w.forCall tape i) .any w.heap.size f i ∧
      s.pre6 enc C.prog fn conds apart (w.forCall tape i).memory i.args ∧ a.holds C.prog (lone (Frame.enter C.prog f i.args .normal) [] (w.forCall tape i)))
    (contract : ∀ (W : World) (base : Nat) (args : Array Value) (ds gs : List (DataW H)) (before : List MemPlace), W.ShapedOpen C.prog →
      (∀ (j : Nat) t v, fn.params[j]? = some t → args[j]? = some v → Value.okWide C.prog W .any base t v) →
      DataW.Whole enc C.prog fn.params.toList s.vars apart W args.toList ds gs before →
      conds.all (PathCond.test C.prog ⟨fn.params.toList, ds, s.bare.plain.varTypes C.prog, gs⟩) = true → k H (ds ++ gs) = true →
      a.holds C.prog (lone (Frame.enter C.prog f args .normal) [] W) →
      Calls C.prog f args W fun e W' => ∃ v, e = .returned v ∧ (s.at F).post enc C.prog fn apart fresh handsOn again W args v W') :
    ReturnsInHanded a C os f .any (s.pre6 enc C.prog fn conds apart) ((s.at F).post enc C.prog fn apart fresh handsOn again) := by
  refine returnsInHanded_of_calls own started noInit witness ?_
  intro w tape i _ hsh _ hok hpre hholds
  obtain ⟨_, _, _, fn', hfn', _, _, _, _, hval⟩ := hok
  have e : fn' = fn := Option.some.inj (hfn'.symm.trans hfn)
  subst e
  obtain ⟨ds, gs, before, hw, hc, hkk⟩ := (OpenSpec.pre_some hk conds apart _ _).1 hpre.1
  have hw' := DataW.Whole.of_heap (w' := w.forCall tape i) (by rfl) hw
  refine (contract (w.forCall tape i) w.heap.size i.args ds gs before hsh hval hw' hc hkk hholds).mono fun e W' ⟨v, he, hp⟩ => ?_
  subst he
  exact ChangeSpec.post_blind hp
end Go.Proofs.Ytlogpojkkbcpjaa.Hc
