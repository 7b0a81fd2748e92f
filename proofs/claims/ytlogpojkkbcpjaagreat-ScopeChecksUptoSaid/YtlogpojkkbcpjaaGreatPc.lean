/- Proof texts, laid together. -/
import Derived.Test.YtlogpojkkbcpjaaGreatPb
import Derived.Test.YtlogpojkkbcpjaaGreatPa
import Derived.ChangeArms
import Derived.JoinedCond
import Derived.Shelf.Vars
/- The reference's exprs, stmts, cases; r07.Check says what tree.Check says (printed by tools/mkZF.py). -/
set_option linter.unusedVariables false
set_option linter.unusedSimpArgs false
namespace Go.Proofs.YtlogpojkkbcpjaaGreat.Hc
open Go Go.H Go.Proofs
set_option maxRecDepth 100000
set_option maxHeartbeats 16000000
theorem exprs_ok {N : Nat} (K : ∀ d, cnt d ≤ N → NodeOk d) (L : ∀ l, cnts l < N → l.length ≤ 4194304 → ListOk l) (l : List NT) (hc : cnts l ≤ N) (hl : l.length ≤ 4194304) (h : Heap) (a : Option Addr) (c : Nat) (xs : List Value) (s2 : Sl h 6 a l.length c xs) (s3 : TReps h l xs) : HCalls Tryz.prog 66 #[.slice a l.length c] h fun e h' => e = .returned (.bool (l.all Ex)) ∧ Ext h h' := by
  obtain ⟨z, hz⟩ : ∃ z, z = (l.all Ex) := ⟨_, rfl⟩
  rw [← hz]
  refine c66 (by simp) ?_
  refine gA ?_
  refine loop_rule [7] (fun vs h' => ∃ (i : Nat), vs = [.int .i64 i] ∧ i ≤ l.length ∧ (l.take i).all (Ex) = true ∧ Ext h h')
    (fun vs _ => match vs with | [.int _ i] => l.length - i.toNat | _ => 0) rfl ?_ ?_
  · exact ⟨0, rfl, by omega, by simp, Ext.refl _⟩
  intro u h5 v7
  rintro ⟨i, e, hi, ha, X⟩
  cases e
  refine gA ?_
  refine HIf.mk (fun hlt => ?_) (fun hlt => ?_)
  · have hi1 : i < l.length := by have := of_decide_eq_true hlt; omega
    have hmu : l.length - ((i : Int) + 1).toNat < l.length - ((i : Int)).toNat := by omega
    have at1 := all_take' (q := Ex) hi1
    have hcg := cnts_get l i hi1
    have hno : Ex l[i] = false → z = false := fun e => by rw [hz, all_no hi1 e]
    have Kd := K l[i] (by omega)
    refine gA ?_
    refine HIdx.mk i rfl hi1 ?_
    refine sl_some s2 hi1 fun p ep => ?_
    refine gA ?_
    refine tloadK s2 s3 (.of_ext X) ep hi1 fun cs rk => ?_
    have rk0 := rk
    cases hd : l[i] with
    | mk k' nm' n' t' ns' l' =>
    rw [hd] at rk rk0 at1 hcg hno Kd
    simp only [TRep] at rk
    obtain ⟨_, _, _, _, _, c6, _, ka', kc', la', lc', ys', rfl, _, t2, t3⟩ := rk
    simp only [cnt] at hcg
    have X5 := X.1
    refine gA ?_
    refine new_var (e := 25) zeroT rfl ?_
    intro h6 bo o6 x6 z6 hbo
    refine gA ?_
    refine store_blk o6 (by simp) (by simp [isOne]) ?_
    intro h7 f7 z7 o7
    replace o7 : BlkW h7 bo 25 [.int .i64 k', .string nm', .int .i64 n', .string t', .slice ka' ns'.length kc', .slice la' l'.length lc'] := by simpa using o7
    have X7 : Ext h h7 := (X.trans x6).offNew f7 (by omega)
    clear o6 f7
    refine gN ?_
    refine HCall.mk ((Kd.ex _ _ (rk0.ext X7)).mono ?_)
    rintro e h8 ⟨rfl, x8⟩
    have X8 := X7.trans x8
    cases q8 : Ex (.mk k' nm' n' t' ns' l')
    · have := hno q8
      refine gA ?_
      subst this
      exact ⟨rfl, X8⟩
    · refine gA ?_
      exact ⟨⟨i + 1, rfl, by omega, by rw [at1, ha, q8]; rfl, X8⟩, hmu⟩
  · have hge := of_decide_eq_false hlt
    obtain rfl : i = l.length := by omega
    rw [List.take_length] at ha
    rw [ha] at hz
    refine gA ?_
    subst hz
    exact ⟨rfl, X⟩
theorem stmts_ok {N : Nat} (K : ∀ d, cnt d ≤ N → NodeOk d) (L : ∀ l, cnts l < N → l.length ≤ 4194304 → ListOk l) (l : List NT) (hc : cnts l ≤ N) (hl : l.length ≤ 4194304) (x : Bool) (h : Heap) (a : Option Addr) (c : Nat) (xs : List Value) (s2 : Sl h 6 a l.length c xs) (s3 : TReps h l xs) : HCalls Tryz.prog 24 #[.slice a l.length c, .bool x] h fun e h' => e = .returned (.bool (l.all (St x))) ∧ Ext h h' := by
  obtain ⟨z, hz⟩ : ∃ z, z = (l.all (St x)) := ⟨_, rfl⟩
  rw [← hz]
  refine c24 (by simp) ?_
  refine gA ?_
  refine loop_rule [9] (fun vs h' => ∃ (i : Nat), vs = [.int .i64 i] ∧ i ≤ l.length ∧ (l.take i).all (St x) = true ∧ Ext h h')
    (fun vs _ => match vs with | [.int _ i] => l.length - i.toNat | _ => 0) rfl ?_ ?_
  · exact ⟨0, rfl, by omega, by simp, Ext.refl _⟩
  intro u h5 v9
  rintro ⟨i, e, hi, ha, X⟩
  cases e
  refine gA ?_
  refine HIf.mk (fun hlt => ?_) (fun hlt => ?_)
  · have hi1 : i < l.length := by have := of_decide_eq_true hlt; omega
    have hmu : l.length - ((i : Int) + 1).toNat < l.length - ((i : Int)).toNat := by omega
    have at1 := all_take' (q := St x) hi1
    have hcg := cnts_get l i hi1
    have hno : St x l[i] = false → z = false := fun e => by rw [hz, all_no hi1 e]
    have Kd := K l[i] (by omega)
    refine gA ?_
    refine HIdx.mk i rfl hi1 ?_
    refine sl_some s2 hi1 fun p ep => ?_
    refine gA ?_
    refine tloadK s2 s3 (.of_ext X) ep hi1 fun cs rk => ?_
    have rk0 := rk
    cases hd : l[i] with
    | mk k' nm' n' t' ns' l' =>
    rw [hd] at rk rk0 at1 hcg hno Kd
    simp only [TRep] at rk
    obtain ⟨_, _, _, _, _, c6, _, ka', kc', la', lc', ys', rfl, _, t2, t3⟩ := rk
    simp only [cnt] at hcg
    have X5 := X.1
    refine gA ?_
    refine new_var (e := 25) zeroT rfl ?_
    intro h6 bo o6 x6 z6 hbo
    refine gA ?_
    refine store_blk o6 (by simp) (by simp [isOne]) ?_
    intro h7 f7 z7 o7
    replace o7 : BlkW h7 bo 25 [.int .i64 k', .string nm', .int .i64 n', .string t', .slice ka' ns'.length kc', .slice la' l'.length lc'] := by simpa using o7
    have X7 : Ext h h7 := (X.trans x6).offNew f7 (by omega)
    clear o6 f7
    by_cases hk' : k' = 39
    · subst hk'
      have q39 : ((39 : Int) == 39) = true := rfl
      have e39 : St x (.mk 39 nm' n' t' ns' l') = (x && mayT (.mk 39 nm' n' t' ns' l')) := by cases x <;> rfl
      rw [may_39] at e39
      rw [e39] at at1 hno
      cases x
      · have := hno rfl
        refine gA ?_
        subst this
        exact ⟨rfl, X7⟩
      · rw [Bool.true_and] at at1 hno
        refine gN ?_
        refine HCall.mk ((ownR_spec (rk0.ext X7)).mono ?_)
        rintro e h8 ⟨rfl, x8⟩
        have o7 := o7.ext x8
        have X8 := X7.trans x8
        cases q8 : ownR (.mk 39 nm' n' t' ns' l')
        · have := hno (by rw [q8]; rfl)
          refine gA ?_
          subst this
          exact ⟨rfl, X8⟩
        · rw [q8, Bool.true_and] at at1 hno
          refine gA ?_
          refine HCall.mk (((L l' (by omega) c6).stsT _ _ _ _ (t2.ext X8) (t3.ext X8)).mono ?_)
          rintro e h9 ⟨rfl, x9⟩
          cases q9 : l'.all (St true)
          · have := hno q9
            refine gA ?_
            subst this
            exact ⟨rfl, X8.trans x9⟩
          · refine gA ?_
            exact ⟨⟨i + 1, rfl, by omega, by rw [at1, ha, q9]; rfl, X8.trans x9⟩, hmu⟩
    · have q39 : (k' == 39) = false := beq_eq_false_iff_ne.2 hk'
      have q39' : (k' != 39) = true := bne_iff_ne.2 hk'
      have eS : St x (.mk k' nm' n' t' ns' l') = St false (.mk k' nm' n' t' ns' l') := by
        show (stB k' x && _) = (stB k' false && _)
        unfold stB
        rw [q39']; rfl
      rw [eS] at at1 hno
      refine gN ?_
      refine HCall.mk ((Kd.st _ _ (rk0.ext X7)).mono ?_)
      rintro e h8 ⟨rfl, x8⟩
      have X8 := X7.trans x8
      cases q8 : St false (.mk k' nm' n' t' ns' l')
      · have := hno q8
        refine gA ?_
        subst this
        exact ⟨rfl, X8⟩
      · refine gA ?_
        exact ⟨⟨i + 1, rfl, by omega, by rw [at1, ha, q8]; rfl, X8⟩, hmu⟩
  · have hge := of_decide_eq_false hlt
    obtain rfl : i = l.length := by omega
    rw [List.take_length] at ha
    rw [ha] at hz
    refine gA ?_
    subst hz
    exact ⟨rfl, X⟩
theorem emptC_take (l : List NT) (i : Nat) (hi : i < l.length) : emptC (l.take (i + 1)) = emptC (l.take i) + (if at_ (Kk 42) l[i].l 0 = true then 1 else 0) := by
  unfold emptC
  rw [take_succ' hi, List.filter_append, List.length_append]
  congr 1
  by_cases h : at_ (Kk 42) l[i].l 0 = true
  · rw [if_pos h]; simp [h]
  · rw [if_neg h]; simp [h]
theorem emptC_len (l : List NT) : emptC l ≤ l.length := List.length_filter_le _ _
theorem cases_ok {N : Nat} (K : ∀ d, cnt d ≤ N → NodeOk d) (L : ∀ l, cnts l < N → l.length ≤ 4194304 → ListOk l) (l : List NT) (hc : cnts l ≤ N) (hl : l.length ≤ 4194304) (h : Heap) (a : Option Addr) (c : Nat) (xs : List Value) (s2 : Sl h 6 a l.length c xs) (s3 : TReps h l xs) : HCalls Tryz.prog 68 #[.slice a l.length c] h fun e h' => e = .returned (.bool (l.all (Kk 37) && decide (emptC l ≤ 1))) ∧ Ext h h' := by
  obtain ⟨z, hz⟩ : ∃ z, z = (l.all (Kk 37) && decide (emptC l ≤ 1)) := ⟨_, rfl⟩
  rw [← hz]
  refine c68 (by simp) ?_
  refine gA ?_
  refine loop_rule [8, 3] (fun vs h' => ∃ (i : Nat), vs = [.int .i64 i, .int .i64 (emptC (l.take i) : Nat)] ∧ i ≤ l.length ∧ (l.take i).all (Kk 37) = true ∧ Ext h h')
    (fun vs _ => match vs with | [.int _ i, _] => l.length - i.toNat | _ => 0) rfl ?_ ?_
  · exact ⟨0, rfl, by omega, by simp, Ext.refl _⟩
  intro u h5 v8 v3
  rintro ⟨i, e, hi, ha, X⟩
  cases e
  refine gA ?_
  refine HIf.mk (fun hlt => ?_) (fun hlt => ?_)
  · have hi1 : i < l.length := by have := of_decide_eq_true hlt; omega
    have hmu : l.length - ((i : Int) + 1).toNat < l.length - ((i : Int)).toNat := by omega
    have at1 := all_take' (q := Kk 37) hi1
    have hcg := cnts_get l i hi1
    have hno : Kk 37 l[i] = false → z = false := fun e => by rw [hz, all_no hi1 e]; rfl
    have Kd := K l[i] (by omega)
    refine gA ?_
    refine HIdx.mk i rfl hi1 ?_
    refine sl_some s2 hi1 fun p ep => ?_
    refine gA ?_
    refine tloadK s2 s3 (.of_ext X) ep hi1 fun cs rk => ?_
    have rk0 := rk
    cases hd : l[i] with
    | mk k' nm' n' t' ns' l' =>
    rw [hd] at rk rk0 at1 hcg hno Kd
    simp only [TRep] at rk
    obtain ⟨_, _, _, _, _, c6, _, ka', kc', la', lc', ys', rfl, _, t2, t3⟩ := rk
    simp only [cnt] at hcg
    have X5 := X.1
    refine gA ?_
    refine new_var (e := 25) zeroT rfl ?_
    intro h6 bo o6 x6 z6 hbo
    refine gA ?_
    refine store_blk o6 (by simp) (by simp [isOne]) ?_
    intro h7 f7 z7 o7
    replace o7 : BlkW h7 bo 25 [.int .i64 k', .string nm', .int .i64 n', .string t', .slice ka' ns'.length kc', .slice la' l'.length lc'] := by simpa using o7
    have X7 : Ext h h7 := (X.trans x6).offNew f7 (by omega)
    clear o6 f7
    by_cases hk' : k' = 37
    · subst hk'
      have e37 : Kk 37 (.mk 37 nm' n' t' ns' l') = mayT (.mk 37 nm' n' t' ns' l') := rfl
      rw [may_37] at e37
      rw [e37] at at1 hno
      refine gN ?_
      refine HCall.mk ((ownR_spec (rk0.ext X7)).mono ?_)
      rintro e h8 ⟨rfl, x8⟩
      have o7 := o7.ext x8
      have X8 := X7.trans x8
      cases q8 : ownR (.mk 37 nm' n' t' ns' l')
      · have := hno (by rw [q8]; rfl)
        refine gA ?_
        subst this
        exact ⟨rfl, X8⟩
      rw [q8, Bool.true_and] at at1 hno
      by_cases hl1 : 1 ≤ l'.length
      · have ql : ((l'.length : Int) == 0) = false := beq_eq_false_iff_ne.2 (by omega)
        have hl0 : 0 < l'.length := hl1
        have K0 := K l'[0] (by have := cnts_get l' 0 hl0; omega)
        have e0 : emptC (l.take (i + 1)) = emptC (l.take i) + (if Kk 42 l'[0] = true then 1 else 0) := by
          rw [emptC_take l i hi1, hd]
          show _ + (if at_ (Kk 42) l' 0 = true then 1 else 0) = _
          rw [at_in hl0]
        have el := emptC_len (l.take i)
        rw [List.length_take] at el
        generalize emptC (l.take i) = ec at e0 el
        rw [decide_eq_true hl1, Bool.true_and, at_in hl0, at_in hl0] at at1 hno
        refine gA ?_
        refine HIdx.mk 0 rfl hl0 ?_
        refine sl_some t2 hl0 fun p ep => ?_
        refine gA ?_
        refine tloadK t2 t3 (.of_ext X8) ep hl0 fun cs rk => ?_
        refine gA ?_
        refine HCall.mk ((K0.em _ _ (rk.ext X8)).mono ?_)
        rintro e g1 ⟨rfl, y1⟩
        have o7 := o7.ext y1
        have X8 := X8.trans y1
        cases q1 : Kk 42 l'[0]
        · rw [q1, Bool.false_or] at at1 hno
          refine gA ?_
          refine HIdx.mk 0 rfl hl0 ?_
          refine sl_some t2 hl0 fun p ep => ?_
          refine gA ?_
          refine tloadK t2 t3 (.of_ext X8) ep hl0 fun cs rk => ?_
          refine gA ?_
          refine HCall.mk ((K0.ex _ _ (rk.ext X8)).mono ?_)
          rintro e g2 ⟨rfl, y2⟩
          have o7 := o7.ext y2
          have X8 := X8.trans y2
          cases q2 : Ex l'[0]
          · have := hno (by rw [q2]; rfl)
            refine gA ?_
            subst this
            exact ⟨rfl, X8⟩
          rw [q2, Bool.true_and] at at1 hno
          refine gA ?_
          refine HBound.mk 1 rfl (by omega) ?_
          refine gA ?_
          obtain ⟨sd, td⟩ := drop_sl6 t2 t3 hl1
          refine HCall.mk (((L (l'.drop 1) (by have := cnts_drop' l' 1; omega) (by rw [List.length_drop]; omega)).stsF' _ _ _ _ List.length_drop (sd.ext X8) (td.ext X8)).mono ?_)
          rintro e g3 ⟨rfl, y3⟩
          have o7 := o7.ext y3
          have X8 := X8.trans y3
          cases q3 : (l'.drop 1).all (St false)
          · have := hno q3
            refine gA ?_
            subst this
            exact ⟨rfl, X8⟩
          rw [q3, Bool.and_true] at at1
          refine gA ?_
          refine HIdx.mk 0 rfl hl0 ?_
          refine sl_some t2 hl0 fun p ep => ?_
          refine gA ?_
          refine tloadK t2 t3 (.of_ext X8) ep hl0 fun cs rk => ?_
          refine gA ?_
          refine HCall.mk ((K0.em _ _ (rk.ext X8)).mono ?_)
          rintro e g4 ⟨rfl, y4⟩
          have o7 := o7.ext y4
          have X8 := X8.trans y4
          rw [q1, if_neg (by simp)] at e0
          rw [q1]
          refine gA ?_
          exact ⟨⟨i + 1, by rw [e0]; rfl, by omega, by rw [at1, ha], X8⟩, hmu⟩
        · rw [q1, Bool.true_or, Bool.true_and] at at1 hno
          refine gA ?_
          refine HBound.mk 1 rfl (by omega) ?_
          refine gA ?_
          obtain ⟨sd, td⟩ := drop_sl6 t2 t3 hl1
          refine HCall.mk (((L (l'.drop 1) (by have := cnts_drop' l' 1; omega) (by rw [List.length_drop]; omega)).stsF' _ _ _ _ List.length_drop (sd.ext X8) (td.ext X8)).mono ?_)
          rintro e g3 ⟨rfl, y3⟩
          have o7 := o7.ext y3
          have X8 := X8.trans y3
          cases q3 : (l'.drop 1).all (St false)
          · have := hno q3
            refine gA ?_
            subst this
            exact ⟨rfl, X8⟩
          rw [q3, Bool.and_true] at at1
          refine gA ?_
          refine HIdx.mk 0 rfl hl0 ?_
          refine sl_some t2 hl0 fun p ep => ?_
          refine gA ?_
          refine tloadK t2 t3 (.of_ext X8) ep hl0 fun cs rk => ?_
          refine gA ?_
          refine HCall.mk ((K0.em _ _ (rk.ext X8)).mono ?_)
          rintro e g4 ⟨rfl, y4⟩
          have o7 := o7.ext y4
          have X8 := X8.trans y4
          rw [q1, if_pos rfl] at e0
          rw [q1]
          refine gA ?_
          exact ⟨⟨i + 1, by rw [e0]; rfl, by omega, by rw [at1, ha], X8⟩, hmu⟩
      · have ql : ((l'.length : Int) == 0) = true := beq_iff_eq.2 (by omega)
        have := hno (by rw [decide_eq_false hl1]; rfl)
        refine gA ?_
        subst this
        exact ⟨rfl, X8⟩
    · have qk : (k' != 37) = true := bne_iff_ne.2 hk'
      have := hno (by show ((k' == 37) && _) = false; rw [beq_eq_false_iff_ne.2 hk']; rfl)
      refine gA ?_
      subst this
      exact ⟨rfl, X7⟩
  · have hge := of_decide_eq_false hlt
    obtain rfl : i = l.length := by omega
    rw [List.take_length] at ha
    rw [ha, Bool.true_and] at hz
    refine gA ?_
    have q9 : decide ((emptC l : Int) ≤ 1) = z := by
      rw [hz, Bool.eq_iff_iff, decide_eq_true_iff, decide_eq_true_iff]; omega
    exact ⟨by rw [← q9, List.take_length]; rfl, X⟩
theorem all_ok : ∀ N : Nat, (∀ d, cnt d ≤ N → NodeOk d) ∧ (∀ l, cnts l ≤ N → l.length ≤ 4194304 → ListOk l) := by
  intro N
  induction N with
  | zero =>
    have K : ∀ d, cnt d ≤ 0 → NodeOk d := fun d hd => by cases d; simp only [cnt] at hd; omega
    refine ⟨K, fun l hl hn => ?_⟩
    have L : ∀ l : List NT, cnts l < 0 → l.length ≤ 4194304 → ListOk l := fun l h => by omega
    exact ⟨exprs_ok K L l hl hn, stmts_ok K L l hl hn, cases_ok K L l hl hn⟩
  | succ N ih =>
    have K1 : ∀ d, cnt d < N + 1 → NodeOk d := fun d hd => ih.1 d (by omega)
    have L1 : ∀ l, cnts l < N + 1 → l.length ≤ 4194304 → ListOk l := fun l hl hn => ih.2 l (by omega) hn
    have K : ∀ d, cnt d ≤ N + 1 → NodeOk d := fun d hd => ⟨expr_ok K1 L1 d hd, stmt_ok K1 L1 d hd, block_ok K1 L1 d hd, decls_ok K1 L1 d hd, empty_ok K1 L1 d hd⟩
    exact ⟨K, fun l hl hn => ⟨exprs_ok K L1 l hl hn, stmts_ok K L1 l hl hn, cases_ok K L1 l hl hn⟩⟩
theorem rdeep_spec : ∀ (m : Nat) (d : NT) (_ : cnt d = m) (h : Heap) (cs : List Value) (_ : TRep h d cs) (_ : cnt d ≤ 4194304),
    HCalls Tryz.prog 25 #[.agg cs.toArray] h fun e h' => e = .returned (.int .i64 (deepT d)) ∧ Ext h h' := by
  intro m
  induction m using Nat.strongRecOn with
  | ind m ih =>
  intro d hm h cs r hc
  cases d with
  | mk k nm n t ns l =>
  simp only [TRep] at r
  obtain ⟨b1, b2, b3, b4, b5, b6, b7, ka, kc, la, lc, ys, rfl, s1, s2, s3⟩ := r
  have hdc := deepL_cnt l
  simp only [cnt] at hm hc
  refine c25 (by simp) ?_
  refine gA ?_
  refine new_var (e := 25) [.int .i64 k, .string nm, .int .i64 n, .string t, .slice ka ns.length kc, .slice la l.length lc] rfl ?_
  intro h1 bn o1 x1 z1 hbn
  refine gA ?_
  refine loop_rule [3, 9] (fun vs h' => ∃ (i : Nat), vs = [.int .i64 (deepL (l.take i)), .int .i64 i] ∧ i ≤ l.length ∧ Ext h h')
    (fun vs _ => match vs with | [_, .int _ i] => l.length - i.toNat | _ => 0) rfl ?_ ?_
  · exact ⟨0, rfl, by omega, x1⟩
  intro u h2 v3 v9
  rintro ⟨i, e, hi, x2⟩
  cases e
  refine gA ?_
  refine HIf.mk (fun hlt => ?_) (fun hlt => ?_)
  · have hi1 : i < l.length := by have := of_decide_eq_true hlt; omega
    have hmu : l.length - ((i : Int) + 1).toNat < l.length - ((i : Int)).toNat := by omega
    have dt := deepL_take l i hi1
    have hcg := cnts_get l i hi1
    generalize deepL (l.take i) = q at dt
    refine gA ?_
    refine HIdx.mk i rfl hi1 ?_
    refine sl_some s2 hi1 fun p ep => ?_
    refine gA ?_
    refine tload' s2 s3 x2 ep hi1 fun cs rt => ?_
    refine gA ?_
    refine new_var (e := 25) zeroT rfl ?_
    intro h3 b3' o3 x3 z3 hb3
    refine gA ?_
    have hcl := rt.len
    refine HMust.mk (by simpa using hcl) ?_
    refine store_blk o3 (by simp [hcl]) (by simpa using rt.one) ?_
    intro h4 f4 z4 o4
    have o4' : BlkW h4 b3' 25 cs := by
      have e : (zeroT : List Value).drop (0 + cs.toArray.toList.length) = [] := by simp [hcl]
      rw [e] at o4
      simpa using o4
    have x24 : Ext h2 h4 := x3.offNew f4 (by omega)
    clear o3 o4
    refine gA ?_
    refine blk_ldN o4' hcl ?_
    refine gA ?_
    refine HCall.mk ((ih (cnt l[i]) (by omega) l[i] rfl h4 cs (rt.ext (x2.trans x24)) (by omega)).mono ?_)
    rintro e h5 ⟨rfl, x5⟩
    have em : (if (deepT l[i] : Int) > (q : Int) then (deepT l[i] : Int) else (q : Int)) = ((deepL (l.take (i + 1)) : Nat) : Int) := by rw [dt]; split <;> omega
    refine gA ?_
    exact ⟨⟨i + 1, by rw [← em]; rfl, by omega, x2.trans (x24.trans x5)⟩, hmu⟩
  · have hge := of_decide_eq_false hlt
    obtain rfl : i = l.length := by omega
    rw [List.take_length]
    refine gA ?_
    exact ⟨by simp only [deepT]; rfl, x2⟩
theorem rcheck_spec {d : NT} {h : Heap} {cs : List Value} (r : TRep h d cs) (hc : cnt d ≤ 4194304) : HCalls Tryz.prog 12 #[.agg cs.toArray] h fun e h' => e = .returned (.int .i64 (tcheck d)) ∧ Ext h h' := by
  cases d with
  | mk k nm n t ns l =>
  have rt := r
  simp only [TRep] at r
  obtain ⟨b1, b2, b3, b4, b5, b6, b7, ka, kc, la, lc, ys, rfl, s1, s2, s3⟩ := r
  have hz : tcheck (.mk k nm n t ns l) = (if k ≠ 41 ∨ mayT (.mk k nm n t ns l) = false then 70 else if deepT (.mk k nm n t ns l) > 64 then 31 else 0) := rfl
  generalize tcheck (.mk k nm n t ns l) = z at hz
  refine c12 (by simp) ?_
  refine gA ?_
  refine new_var (e := 25) [.int .i64 k, .string nm, .int .i64 n, .string t, .slice ka ns.length kc, .slice la l.length lc] rfl ?_
  intro h1 bn o1 X z1 hbn
  by_cases hk : k = 41
  · subst hk
    have hm := may_41 nm n t ns l
    refine gN ?_
    refine HCall.mk ((ownR_spec (rt.ext X)).mono ?_)
    rintro e h2 ⟨rfl, x2⟩
    have o1 := o1.ext x2
    have X := X.trans x2
    cases q : ownR (.mk 41 nm n t ns l)
    · rw [q, Bool.false_and] at hm
      rw [if_pos (.inr hm)] at hz
      refine gA ?_
      subst hz
      exact ⟨rfl, X⟩
    rw [q, Bool.true_and] at hm
    refine gA ?_
    refine HCall.mk ((((all_ok (cnts l)).2 l (Nat.le_refl _) b6).stsT _ _ _ _ (s2.ext X) (s3.ext X)).mono ?_)
    rintro e h3 ⟨rfl, x3⟩
    have o1 := o1.ext x3
    have X := X.trans x3
    cases q2 : l.all (St true)
    · rw [q2] at hm
      rw [if_pos (.inr hm)] at hz
      refine gA ?_
      subst hz
      exact ⟨rfl, X⟩
    rw [q2] at hm
    rw [if_neg (by rw [hm]; simp)] at hz
    refine gN ?_
    refine HCall.mk ((rdeep_spec _ (.mk 41 nm n t ns l) rfl h3 _ (rt.ext X) hc).mono ?_)
    rintro e h4 ⟨rfl, x4⟩
    by_cases hd : deepT (.mk 41 nm n t ns l) > 64
    · have q3 : decide ((deepT (.mk 41 nm n t ns l) : Int) > 64) = true := decide_eq_true (by omega)
      rw [if_pos hd] at hz
      refine gA ?_
      subst hz
      exact ⟨rfl, X.trans x4⟩
    · have q3 : decide ((deepT (.mk 41 nm n t ns l) : Int) > 64) = false := decide_eq_false (by omega)
      rw [if_neg hd] at hz
      refine gA ?_
      subst hz
      exact ⟨rfl, X.trans x4⟩
  · have q : (k != 41) = true := bne_iff_ne.2 hk
    rw [if_pos (.inl hk)] at hz
    refine gA ?_
    subst hz
    exact ⟨rfl, X⟩
end Go.Proofs.YtlogpojkkbcpjaaGreat.Hc
/- r09's own, within, may, Check; the law ScopeChecks (printed by tools/mkZI.py). -/
set_option linter.unusedVariables false
set_option linter.unusedSimpArgs false
namespace Go.Proofs.YtlogpojkkbcpjaaGreat.Hc
open Go Go.H Go.Proofs
set_option maxRecDepth 100000
set_option maxHeartbeats 16000000
theorem rbad_spec (s : ByteArray) (h : Heap) : HCalls Tryz.prog 45 #[.string s] h fun e h' => e = .returned (.bool (bannedB s)) ∧ h' = h := by
  refine c45 (by simp) ?_
  unfold bannedB
  cases q1 : strEq s ⟨#[101, 118, 97, 108]⟩
  · refine gA ?_
    exact ⟨rfl, rfl⟩
  · refine gA ?_
    exact ⟨rfl, rfl⟩
theorem rhas9_spec {h : Heap} {a : Option Addr} {n c : Nat} {ks : List ByteArray} (hk : ks.length = n) (x : Sl h 1 a n c (ks.map .string)) (s : ByteArray) (hn : n ≤ 17179869184) :
    HCalls Tryz.prog 48 #[.slice a n c, .string s] h fun e h' => h' = h ∧ e = .returned (.bool (strIn ks s)) := by
  subst hk
  refine c48 (by simp) ?_
  refine gA ?_
  refine loop_rule [9] (fun vs h' => ∃ (i : Nat), vs = [.int .i64 i] ∧ i ≤ ks.length ∧ h' = h ∧ s ∉ ks.take i)
    (fun vs _ => match vs with | [.int _ i] => ks.length - i.toNat | _ => 0) rfl ?_ ?_
  · exact ⟨0, rfl, by omega, rfl, by simp⟩
  · intro u h v8
    rintro ⟨i, e, hi, rfl, hs⟩
    cases e
    refine gA ?_
    refine HIf.mk (fun hb => ?_) (fun hb => ?_)
    · have hi1 : i < ks.length := by have := of_decide_eq_true hb; omega
      have hmu : ks.length - ((i : Int) + 1).toNat < ks.length - ((i : Int)).toNat := by omega
      refine gA ?_
      refine HIdx.mk i rfl hi1 ?_
      refine sl_some x hi1 fun p ep => ?_
      refine gA ?_
      refine x.load ep (by simpa using hi1) ?_
      rw [List.getElem_map]
      cases q : strEq ks[i] s
      · have hne := (strEq_no _ _).1 q
        refine gA ?_
        refine ⟨⟨i + 1, rfl, by omega, rfl, ?_⟩, hmu⟩
        rw [take_succ' hi1, List.mem_append, List.mem_singleton]
        rintro (h | h)
        · exact hs h
        · exact hne h.symm
      · have heq := (strEq_iff _ _).1 q
        refine gA ?_
        have : strIn ks s = true := strIn_iff.2 (heq ▸ List.getElem_mem hi1)
        exact ⟨rfl, by rw [this]; rfl⟩
    · have hge := of_decide_eq_false hb
      rw [List.take_of_length_le (by omega)] at hs
      refine gA ?_
      have : strIn ks s = false := by rw [← Bool.not_eq_true, strIn_iff]; exact hs
      exact ⟨rfl, by rw [this]; rfl⟩
theorem nodup_take {l : List ByteArray} {i : Nat} (hi : i < l.length) (h : (l.take i).Nodup) : (l.take (i + 1)).Nodup ↔ strIn (l.take i) l[i] = false := by
  rw [take_succ' hi, List.nodup_append]
  constructor
  · intro ⟨_, _, h3⟩
    cases e : strIn (l.take i) l[i]
    · rfl
    · exact absurd rfl (h3 _ (strIn_iff.1 e) _ (List.mem_singleton.2 rfl))
  · intro e
    refine ⟨h, by simp, ?_⟩
    intro a ha b hb
    simp only [List.mem_singleton] at hb
    subst hb
    rintro rfl
    rw [strIn_iff.2 ha] at e; cases e
theorem rtwice_spec {ks : List ByteArray} {a : Option Addr} {n c : Nat} {h : Heap} (hk : ks.length = n) (hn : n ≤ 4194304) (x : Sl h 1 a n c (ks.map .string)) : HCalls Tryz.prog 46 #[.slice a n c] h fun e h' => e = .returned (.bool (!distinctB ks)) ∧ h' = h := by
  subst hk
  have hcap := x.2.1
  refine c46 (by simp) ?_
  refine gA ?_
  refine loop_rule [7] (fun vs h' => ∃ (i : Nat), vs = [.int .i64 i] ∧ i ≤ ks.length ∧ (ks.take i).Nodup ∧ h' = h)
    (fun vs _ => match vs with | [.int _ i] => ks.length - i.toNat | _ => 0) rfl ?_ ?_
  · exact ⟨0, rfl, by omega, by simp, rfl⟩
  intro u h1 v7
  rintro ⟨i, e, hi, hnd, rfl⟩
  cases e
  refine gA ?_
  refine HIf.mk (fun hlt => ?_) (fun hlt => ?_)
  · have hi1 : i < ks.length := by have := of_decide_eq_true hlt; omega
    have hmu : ks.length - ((i : Int) + 1).toNat < ks.length - ((i : Int)).toNat := by omega
    have nt := nodup_take hi1 hnd
    have sl := x.slice (i := 0) (j := i) (by omega) (by omega)
    rw [Nat.zero_mul, List.drop_zero, Nat.mul_one, ← List.map_take] at sl
    refine gA ?_
    refine HIdx.mk i rfl hi1 ?_
    refine sl_some x hi1 fun p ep => ?_
    refine gA ?_
    refine x.load ep (by simpa using hi1) ?_
    rw [List.getElem_map]
    refine gA ?_
    refine HBound.mk i rfl (by omega) ?_
    refine gA ?_
    refine HCall.mk ((rhas9_spec (ks := ks.take i) (by rw [List.length_take]; omega) sl ks[i] (by omega)).mono ?_)
    rintro e h2 ⟨rfl, rfl⟩
    cases q : strIn (ks.take i) ks[i]
    · refine gA ?_
      exact ⟨⟨i + 1, rfl, by omega, nt.2 q, rfl⟩, hmu⟩
    · have hno : distinctB ks = false := by
        refine decide_eq_false fun hh => ?_
        have : (ks.take (i + 1)).Nodup := hh.sublist (List.take_sublist _ _)
        rw [nt, q] at this; cases this
      refine gA ?_
      exact ⟨by rw [hno]; rfl, rfl⟩
  · have hge := of_decide_eq_false hlt
    rw [List.take_of_length_le (by omega)] at hnd
    have : distinctB ks = true := decide_eq_true hnd
    refine gA ?_
    exact ⟨by rw [this]; rfl, rfl⟩
theorem rloop_spec {h : Heap} {d : NT} {cs : List Value} (r : TRep h d cs) : HCalls Tryz.prog 49 #[.agg cs.toArray] h fun e h' => e = .returned (.bool (loopK d.kind)) ∧ Ext h h' := by
  cases d with
  | mk k nm n t ns l =>
  simp only [TRep] at r
  obtain ⟨b1, b2, b3, b4, b5, b6, b7, ka, kc, la, lc, ys, rfl, s1, s2, s3⟩ := r
  show HCalls Tryz.prog 49 _ h fun e h' => e = .returned (.bool (loopK k)) ∧ Ext h h'
  have hz : loopK k = ((k == 27) || (k == 28) || (k == 29) || (k == 30)) := by
    unfold loopK
    rw [Bool.eq_iff_iff]
    simp only [Bool.and_eq_true, decide_eq_true_eq, Bool.or_eq_true, beq_iff_eq]
    omega
  rw [hz]
  refine c49 (by simp) ?_
  refine gA ?_
  refine new_var (e := 25) [.int .i64 k, .string nm, .int .i64 n, .string t, .slice ka ns.length kc, .slice la l.length lc] rfl ?_
  intro h1 bn o1 x1 z1 hbn
  cases q1 : (k == 27) <;> cases q2 : (k == 28) <;> cases q3 : (k == 29) <;> cases q4 : (k == 30) <;> refine gA ?_ <;> exact ⟨rfl, x1⟩
theorem rtgt_spec {h : Heap} {d : NT} {cs : List Value} (r : TRep h d cs) : HCalls Tryz.prog 47 #[.agg cs.toArray] h fun e h' => e = .returned (.bool ((d.kind == 3) && bannedB d.name)) ∧ Ext h h' := by
  cases d with
  | mk k nm n t ns l =>
  simp only [TRep] at r
  obtain ⟨b1, b2, b3, b4, b5, b6, b7, ka, kc, la, lc, ys, rfl, s1, s2, s3⟩ := r
  show HCalls Tryz.prog 47 _ h fun e h' => e = .returned (.bool ((k == 3) && bannedB nm)) ∧ Ext h h'
  refine c47 (by simp) ?_
  refine gA ?_
  refine new_var (e := 25) [.int .i64 k, .string nm, .int .i64 n, .string t, .slice ka ns.length kc, .slice la l.length lc] rfl ?_
  intro h1 bn o1 x1 z1 hbn
  cases q1 : (k == 3)
  · refine gA ?_
    exact ⟨rfl, x1⟩
  · refine gA ?_
    refine HCall.mk ((rbad_spec nm h1).mono ?_)
    rintro e h2 ⟨rfl, rfl⟩
    refine gA ?_
    exact ⟨rfl, x1⟩
/-- What is around, as the reference holds it: labels, those of loops, from the outermost one on. -/
def namesV (l : List (ByteArray × Bool)) : List ByteArray := (l.map (·.1)).reverse
def loopsV (l : List (ByteArray × Bool)) : List ByteArray := ((l.filter (·.2)).map (·.1)).reverse
def ARep (h : Heap) (v : Env) (cs : List Value) : Prop := ∃ ka kc la lc, cs = [.slice ka (namesV v.labels).length kc, .slice la (loopsV v.labels).length lc, .bool v.goes, .bool v.breaks, .bool v.inside] ∧
  Sl h 1 ka (namesV v.labels).length kc ((namesV v.labels).map .string) ∧ Sl h 1 la (loopsV v.labels).length lc ((loopsV v.labels).map .string)
theorem ARep.ext {h h' : Heap} (k : Ext h h') {v : Env} {cs : List Value} (r : ARep h v cs) : ARep h' v cs := by
  obtain ⟨ka, kc, la, lc, e, s1, s2⟩ := r; exact ⟨ka, kc, la, lc, e, s1.ext k, s2.ext k⟩
theorem namesV_len (l : List (ByteArray × Bool)) : (namesV l).length = l.length := by unfold namesV; simp
theorem loopsV_len (l : List (ByteArray × Bool)) : (loopsV l).length ≤ l.length := by
  unfold loopsV
  rw [List.length_reverse, List.length_map]
  exact List.length_filter_le _ _
theorem find_empty (s : ByteArray) : ∀ l : List (ByteArray × Bool), (findL s l).isEmpty = !strIn (namesV l) s
  | [] => rfl
  | x :: r => by
    have ih := find_empty s r
    have e : strIn (namesV (x :: r)) s = (strEq x.1 s || strIn (namesV r) s) := by
      rw [Bool.eq_iff_iff, strIn_iff, Bool.or_eq_true, strIn_iff, strEq_iff]
      unfold namesV
      simp only [List.map_cons, List.reverse_cons, List.mem_append, List.mem_reverse, List.mem_map, List.mem_singleton]
      constructor
      · rintro (h | h)
        · exact .inr h
        · exact .inl h.symm
      · rintro (h | h)
        · exact .inr h.symm
        · exact .inl h
    rw [e]
    simp only [findL]
    cases q : strEq x.1 s
    · rw [if_neg (by simp), ih]; rfl
    · rw [if_pos rfl]; rfl
theorem find_loop (s : ByteArray) : ∀ l : List (ByteArray × Bool), (l.map (·.1)).Nodup → (match findL s l with | [] => true | x :: _ => !x.2) = !strIn (loopsV l) s
  | [], _ => rfl
  | x :: r, hn => by
    simp only [List.map_cons, List.nodup_cons] at hn
    have ih := find_loop s r hn.2
    simp only [findL]
    cases q : strEq x.1 s
    · have hne := (strEq_no _ _).1 q
      rw [if_neg (by simp), ih]
      congr 1
      rw [Bool.eq_iff_iff, strIn_iff, strIn_iff]
      unfold loopsV
      simp only [List.mem_reverse, List.mem_map, List.mem_filter, List.mem_cons]
      constructor
      · rintro ⟨y, ⟨h1, h2⟩, h3⟩; exact ⟨y, ⟨.inr h1, h2⟩, h3⟩
      · rintro ⟨y, ⟨h1, h2⟩, h3⟩
        rcases h1 with rfl | h1
        · exact absurd h3 hne
        · exact ⟨y, ⟨h1, h2⟩, h3⟩
    · have heq := (strEq_iff _ _).1 q
      rw [if_pos rfl]
      show (!x.2) = _
      congr 1
      rw [Bool.eq_iff_iff, strIn_iff]
      unfold loopsV
      simp only [List.mem_reverse, List.mem_map, List.mem_filter, List.mem_cons]
      constructor
      · intro h; exact ⟨x, ⟨.inl rfl, h⟩, heq⟩
      · rintro ⟨y, ⟨h1, h2⟩, h3⟩
        rcases h1 with rfl | h1
        · exact h2
        · exact absurd (List.mem_map.2 ⟨y, h1, h3.trans heq.symm⟩) hn.1
theorem rown_spec {h : Heap} {d : NT} {v : Env} {cs vs : List Value} (r : TRep h d cs) (ra : ARep h v vs) (hk : okT d = true) (hnd : (v.labels.map (·.1)).Nodup) (hlb : v.labels.length ≤ 8388608) : HCalls Tryz.prog 26 #[.agg cs.toArray, .agg vs.toArray] h fun e h' => e = .returned (.bool (!earlyB d v)) ∧ Ext h h' := by
  cases d with
  | mk k nm n t ns l =>
  simp only [TRep] at r
  obtain ⟨b1, b2, b3, b4, b5, b6, b7, ka, kc, la, lc, ys, rfl, s1, s2, s3⟩ := r
  obtain ⟨na, nc, oa, oc, rfl, v1, v2⟩ := ra
  have nl := namesV_len v.labels
  have ol := loopsV_len v.labels
  generalize hz : earlyB (.mk k nm n t ns l) v = z
  rw [earlyB_mk] at hz
  simp only [okT, Bool.and_eq_true] at hk
  have hneed : needs k = true → 0 < l.length := by
    intro e
    have := hk.1
    rw [e, Bool.not_true, Bool.false_or] at this
    have := of_decide_eq_true this
    omega
  refine c26 (by simp) ?_
  refine gA ?_
  refine new_var (e := 25) [.int .i64 k, .string nm, .int .i64 n, .string t, .slice ka ns.length kc, .slice la l.length lc] rfl ?_
  intro h1 bn o1 x1 z1 hbn
  refine gA ?_
  refine new_var (e := 41) [.slice na (namesV v.labels).length nc, .slice oa (loopsV v.labels).length oc, .bool v.goes, .bool v.breaks, .bool v.inside] rfl ?_
  intro h3 ba o3 x2 z2 hba
  have o1 := o1.ext x2
  have x3 := x1.trans x2
  have s1 := s1.ext x3
  have s2 := s2.ext x3
  have s3 := s3.ext x3
  have v1 := v1.ext x3
  have v2 := v2.ext x3
  by_cases hA : k = 23 ∨ k = 35
  · rw [if_pos hA] at hz
    subst hz
    have qs : (k == 23) = true ∨ ((k == 23) = false ∧ (k == 35) = true) := by rcases hA with rfl | rfl <;> decide
    rcases qs with q | ⟨q, q2⟩
    all_goals
      refine gA ?_
      refine HCall.mk ((rbad_spec nm h3).mono ?_)
      rintro e h4 ⟨rfl, rfl⟩
      refine gA ?_
      exact ⟨rfl, x3⟩
  rw [if_neg hA] at hz
  have qA1 : (k == 23) = false := beq_eq_false_iff_ne.2 fun e => hA (.inl e)
  have qA2 : (k == 35) = false := beq_eq_false_iff_ne.2 fun e => hA (.inr e)
  clear hA
  by_cases hB : k = 39 ∨ k = 10
  · rw [if_pos hB] at hz
    have qs : (k == 39) = true ∨ ((k == 39) = false ∧ (k == 10) = true) := by rcases hB with rfl | rfl <;> decide
    rcases qs with q | ⟨q, q2⟩
    all_goals
      refine gA ?_
      refine loop_rule [25] (fun vs h' => ∃ (i : Nat), vs = [.int .i64 i] ∧ i ≤ ns.length ∧ (ns.take i).any bannedB = false ∧ h' = h3)
        (fun vs _ => match vs with | [.int _ i] => ns.length - i.toNat | _ => 0) rfl ?_ ?_
      · exact ⟨0, rfl, by omega, by simp, rfl⟩
      intro u h4 v25
      rintro ⟨i, e, hi, ha, rfl⟩
      cases e
      refine gA ?_
      refine HIf.mk (fun hlt => ?_) (fun hlt => ?_)
      · have hi1 : i < ns.length := by have := of_decide_eq_true hlt; omega
        have hmu : ns.length - ((i : Int) + 1).toNat < ns.length - ((i : Int)).toNat := by omega
        have at1 := any_take (q := bannedB) hi1
        refine gA ?_
        refine HIdx.mk i rfl hi1 ?_
        refine sl_some s1 hi1 fun p ep => ?_
        refine gA ?_
        refine s1.load ep (by simpa using hi1) ?_
        rw [List.getElem_map]
        refine gA ?_
        refine HCall.mk ((rbad_spec ns[i] h4).mono ?_)
        rintro e h5 ⟨rfl, rfl⟩
        cases q5 : bannedB ns[i]
        · refine gA ?_
          exact ⟨⟨i + 1, rfl, by omega, by rw [at1, ha, q5]; rfl, rfl⟩, hmu⟩
        · have : ns.any bannedB = true := by rw [List.any_eq_true]; exact ⟨ns[i], List.getElem_mem hi1, q5⟩
          rw [this, Bool.or_true, Bool.true_or] at hz
          refine gA ?_
          subst hz
          exact ⟨rfl, x3⟩
      · have hge := of_decide_eq_false hlt
        rw [List.take_of_length_le (by omega)] at ha
        rw [ha, Bool.or_false] at hz
        refine gA ?_
        refine HCall.mk ((rbad_spec nm h4).mono ?_)
        rintro e h5 ⟨rfl, rfl⟩
        cases q5 : bannedB nm
        · rw [q5, Bool.false_or] at hz
          refine gA ?_
          refine HCall.mk ((rtwice_spec rfl b5 s1).mono ?_)
          rintro e h6 ⟨rfl, rfl⟩
          refine gA ?_
          subst hz
          exact ⟨by cases distinctB ns <;> rfl, x3⟩
        · rw [q5, Bool.true_or] at hz
          refine gA ?_
          subst hz
          exact ⟨rfl, x3⟩
  rw [if_neg hB] at hz
  have qB1 : (k == 39) = false := beq_eq_false_iff_ne.2 fun e => hB (.inl e)
  have qB2 : (k == 10) = false := beq_eq_false_iff_ne.2 fun e => hB (.inr e)
  clear hB
  by_cases hC : k = 20 ∨ k = 16 ∨ k = 30
  · rw [if_pos hC] at hz
    have hl : 0 < l.length := hneed (by rcases hC with rfl | rfl | rfl <;> rfl)
    have hkn : kidName l 0 = l[0].name := by unfold kidName; rw [List.getElem?_eq_getElem hl]
    rw [kidKind_in hl, hkn] at hz
    cases q1 : (k == 20) <;> cases q2 : (k == 16) <;> cases q3 : (k == 30)
    · rw [beq_eq_false_iff_ne] at q1 q2 q3
      exact absurd hC (by rintro (h | h | h) <;> contradiction)
    all_goals
      refine gA ?_
      refine HIdx.mk 0 rfl hl ?_
      refine sl_some s2 hl fun p ep => ?_
      refine gA ?_
      refine tloadK s2 s3 (.refl _) ep hl fun cs rk => ?_
      refine gA ?_
      refine HCall.mk ((rtgt_spec rk).mono ?_)
      rintro e h4 ⟨rfl, x4⟩
      refine gA ?_
      subst hz
      exact ⟨rfl, x3.trans x4⟩
  rw [if_neg hC] at hz
  have qC1 : (k == 20) = false := beq_eq_false_iff_ne.2 fun e => hC (.inl e)
  have qC2 : (k == 16) = false := beq_eq_false_iff_ne.2 fun e => hC (.inr (.inl e))
  have qC3 : (k == 30) = false := beq_eq_false_iff_ne.2 fun e => hC (.inr (.inr e))
  clear hC
  by_cases hD : k = 15
  · rw [if_pos hD] at hz
    have hl : 0 < l.length := hneed (by rw [hD]; rfl)
    rw [kidKind_in hl] at hz
    have q : (k == 15) = true := beq_iff_eq.2 hD
    cases e1 : strEq nm ⟨#[100, 101, 108, 101, 116, 101]⟩
    · have e2 : (!strEq nm ⟨#[100, 101, 108, 101, 116, 101]⟩) = true := by rw [e1]; rfl
      rw [e1, Bool.false_and] at hz
      refine gA ?_
      subst hz
      exact ⟨rfl, x3⟩
    · have e2 : (!strEq nm ⟨#[100, 101, 108, 101, 116, 101]⟩) = false := by rw [e1]; rfl
      rw [e1, Bool.true_and] at hz
      refine gA ?_
      refine HIdx.mk 0 rfl hl ?_
      refine sl_some s2 hl fun p ep => ?_
      refine gA ?_
      refine tkind s2 s3 ep hl ?_
      refine gA ?_
      subst hz
      exact ⟨rfl, x3⟩
  rw [if_neg hD] at hz
  have qD : (k == 15) = false := beq_eq_false_iff_ne.2 hD
  clear hD
  by_cases hE : k = 8
  · rw [if_pos hE] at hz
    have q : (k == 8) = true := beq_iff_eq.2 hE
    refine gA ?_
    refine loop_rule [7, 70] (fun vs h' => ∃ (i : Nat) (a' : Option Addr) (c' : Nat), vs = [.slice a' i c', .int .i64 i] ∧ i ≤ l.length ∧ Own h' h3.size 9 1 a' i c' (((l.take i).map NT.text).map .string) ∧ Ext h3 h')
      (fun vs _ => match vs with | [_, .int _ i] => l.length - i.toNat | _ => 0) rfl ?_ ?_
    · exact ⟨0, none, 0, rfl, by omega, Own.nil _ _ _ _, Ext.refl _⟩
    intro u h4 v4 v71
    rintro ⟨i, a4, c4, e, hi, w4, x4⟩
    cases e
    refine gA ?_
    refine HIf.mk (fun hlt => ?_) (fun hlt => ?_)
    · have hi1 : i < l.length := by have := of_decide_eq_true hlt; omega
      have hmu : l.length - ((i : Int) + 1).toNat < l.length - ((i : Int)).toNat := by omega
      have vt : ((l.take (i + 1)).map NT.text).map Value.string = ((l.take i).map NT.text).map Value.string ++ [.string l[i].text] := by rw [take_succ' hi1, List.map_append, List.map_append]; rfl
      generalize ((l.take i).map NT.text).map Value.string = out at w4 vt
      refine gA ?_
      refine HIdx.mk i rfl hi1 ?_
      refine sl_some s2 hi1 fun p ep => ?_
      refine gA ?_
      refine tload' s2 s3 x4 ep hi1 fun cs rt => ?_
      cases hd : l[i] with
      | mk k' nm' n' t' ns' kl =>
      rw [hd] at rt vt
      simp only [TRep] at rt
      obtain ⟨_, _, _, _, _, _, _, ka', kc', la', lc', ys', rfl, _⟩ := rt
      refine gA ?_
      refine new_var (e := 25) zeroT rfl ?_
      intro h5 b5 o5 x5 z5 hb5
      have w5 := w4.ext x5
      have hs5 := x5.1
      have hs4 := x4.1
      have w4lt := w4.lt
      refine gA ?_
      refine store_blk o5 (by simp) (by simp [isOne]) ?_
      intro h6 f6 z6 o6
      replace o6 : BlkW h6 b5 25 [.int .i64 k', .string nm', .int .i64 n', .string t', .slice ka' ns'.length kc', .slice la' kl.length lc'] := by simpa using o6
      have w6 := w5.off f6 (fun p ep => by have := w4lt p ep; omega)
      have x6 : Ext h3 h6 := (x4.trans x5).offNew f6 (by omega)
      clear o5
      refine gA ?_
      refine new_own (e := 9) 1 1 [.string t'] rfl rfl ?_
      intro h7 b7 w7 x7 z7 hb7
      have w67 := w6.ext x7
      have hs7 := x7.1
      refine gA ?_
      refine w7.sl.cells ?_
      refine Own.grow w67 (by omega) rfl rfl (by intro v hv; simp only [List.mem_singleton] at hv; subst hv; rfl) (by omega) ?_
      intro h8 a8 c8 w8 g8
      refine gA ?_
      exact ⟨⟨i + 1, a8, c8, rfl, by omega, by rw [vt]; exact w8, (x6.trans x7).keep (g8.kept (by omega) fun p ep => (w4lt p ep).1)⟩, hmu⟩
    · have hge := of_decide_eq_false hlt
      obtain rfl : i = l.length := by omega
      rw [List.take_length] at w4
      refine gA ?_
      refine HCall.mk ((rtwice_spec (ks := l.map NT.text) (by simp) b6 w4.sl).mono ?_)
      rintro e h6 ⟨rfl, rfl⟩
      refine gA ?_
      subst hz
      exact ⟨rfl, x3.trans x4⟩
  rw [if_neg hE] at hz
  have qE : (k == 8) = false := beq_eq_false_iff_ne.2 hE
  clear hE
  by_cases hF : k = 33
  · rw [if_pos hF] at hz
    have q : (k == 33) = true := beq_iff_eq.2 hF
    refine gA ?_
    subst hz
    exact ⟨by cases v.inside <;> rfl, x3⟩
  rw [if_neg hF] at hz
  have qF : (k == 33) = false := beq_eq_false_iff_ne.2 hF
  clear hF
  by_cases hG : k = 31
  · rw [if_pos hG] at hz
    have q : (k == 31) = true := beq_iff_eq.2 hG
    cases e1 : strEq nm ⟨#[]⟩
    · have e2 : (!strEq nm ⟨#[]⟩) = true := by rw [e1]; rfl
      rw [e1, find_empty, Bool.false_and, Bool.false_or, Bool.not_false, Bool.true_and] at hz
      refine gA ?_
      refine HCall.mk ((rhas9_spec rfl v1 nm (by omega)).mono ?_)
      rintro e h4 ⟨rfl, rfl⟩
      refine gA ?_
      subst hz
      exact ⟨by cases strIn (namesV v.labels) nm <;> rfl, x3⟩
    · have e2 : (!strEq nm ⟨#[]⟩) = false := by rw [e1]; rfl
      rw [e1, Bool.true_and, Bool.not_true, Bool.false_and, Bool.or_false] at hz
      cases e3 : v.breaks
      · rw [e3] at hz
        refine gA ?_
        subst hz
        exact ⟨rfl, x3⟩
      · rw [e3] at hz
        refine gA ?_
        subst hz
        exact ⟨rfl, x3⟩
  rw [if_neg hG] at hz
  have qG : (k == 31) = false := beq_eq_false_iff_ne.2 hG
  clear hG
  by_cases hH : k = 32
  · rw [if_pos hH] at hz
    have q : (k == 32) = true := beq_iff_eq.2 hH
    cases e1 : strEq nm ⟨#[]⟩
    · have e2 : (!strEq nm ⟨#[]⟩) = true := by rw [e1]; rfl
      rw [e1, if_neg (by simp)] at hz
      replace hz := (find_loop nm v.labels hnd).symm.trans hz
      refine gA ?_
      refine HCall.mk ((rhas9_spec rfl v2 nm (by omega)).mono ?_)
      rintro e h4 ⟨rfl, rfl⟩
      refine gA ?_
      subst hz
      exact ⟨by cases strIn (loopsV v.labels) nm <;> rfl, x3⟩
    · have e2 : (!strEq nm ⟨#[]⟩) = false := by rw [e1]; rfl
      rw [e1, if_pos rfl] at hz
      cases e3 : v.goes
      · rw [e3] at hz
        refine gA ?_
        subst hz
        exact ⟨rfl, x3⟩
      · rw [e3] at hz
        refine gA ?_
        subst hz
        exact ⟨rfl, x3⟩
  rw [if_neg hH] at hz
  have qH : (k == 32) = false := beq_eq_false_iff_ne.2 hH
  clear hH
  by_cases hI : k = 38
  · rw [if_pos hI, find_empty, Bool.not_not] at hz
    have q : (k == 38) = true := beq_iff_eq.2 hI
    refine gA ?_
    refine HCall.mk ((rhas9_spec rfl v1 nm (by omega)).mono ?_)
    rintro e h4 ⟨rfl, rfl⟩
    refine gA ?_
    subst hz
    exact ⟨rfl, x3⟩
  rw [if_neg hI] at hz
  have qI : (k == 38) = false := beq_eq_false_iff_ne.2 hI
  refine gA ?_
  subst hz
  exact ⟨rfl, x3⟩
end Go.Proofs.YtlogpojkkbcpjaaGreat.Hc
/- r09's within (ScopeChecks). -/
set_option linter.unusedVariables false
set_option linter.unusedSimpArgs false
namespace Go.Proofs.YtlogpojkkbcpjaaGreat.Hc
open Go Go.H Go.Proofs
set_option maxRecDepth 100000
set_option maxHeartbeats 16000000
theorem namesV_cons (x : ByteArray × Bool) (l : List (ByteArray × Bool)) : namesV (x :: l) = namesV l ++ [x.1] := by unfold namesV; simp
theorem loopsV_yes (s : ByteArray) (l : List (ByteArray × Bool)) : loopsV ((s, true) :: l) = loopsV l ++ [s] := by unfold loopsV; simp
theorem loopsV_no (s : ByteArray) (l : List (ByteArray × Bool)) : loopsV ((s, false) :: l) = loopsV l := by unfold loopsV; simp
abbrev zeroA : List Value := [.slice none 0 0, .slice none 0 0, .bool false, .bool false, .bool false]
/-- One text behind others, in an array of one's own. -/
theorem one_more {h : Heap} {a : Option Addr} {c : Nat} {ks : List ByteArray} {K : Value → Heap → Prop} (x : Sl h 1 a ks.length c (ks.map .string)) (hn : ks.length ≤ 8388608)
    (k : ∀ h1 a1 c1, Own h1 h.size 9 1 a1 ks.length c1 (ks.map .string) → Ext h h1 → K (.slice a1 ks.length c1) h1) : HAppend h 9 1 16 [.string ⟨#[]⟩] none 0 0 (ks.map .string) ks.length K := by
  refine Own.grow (Own.nil h h.size 9 1) (Nat.le_refl _) rfl (by simp) (by intro v hv; obtain ⟨s, _, rfl⟩ := List.mem_map.1 hv; rfl) (by omega) ?_
  intro h1 a1 c1 w1 g1
  rw [Nat.zero_add] at w1 ⊢
  rw [List.nil_append] at w1
  exact k h1 a1 c1 w1 (g1.kept (Nat.le_refl _) fun p ep => by cases ep)
theorem within_spec {h : Heap} {d : NT} {v : Env} {cs vs : List Value} (r : TRep h d cs) (ra : ARep h v vs) (hk : okT d = true) (hlb : v.labels.length ≤ 8388600) : HCalls Tryz.prog 27 #[.agg cs.toArray, .agg vs.toArray] h fun e h' => ∃ us : List Value, e = .returned (.agg us.toArray) ∧ ARep h' (innerV d v) us ∧ Ext h h' := by
  cases d with
  | mk k nm n t ns l =>
  have rt := r
  simp only [TRep] at r
  obtain ⟨b1, b2, b3, b4, b5, b6, b7, ka, kc, la, lc, ys, rfl, s1, s2, s3⟩ := r
  obtain ⟨na, nc, oa, oc, rfl, v1, v2⟩ := ra
  have nl := namesV_len v.labels
  have ol := loopsV_len v.labels
  generalize hw : innerV (.mk k nm n t ns l) v = w
  rw [innerV_mk] at hw
  refine c27 (by simp) ?_
  refine gA ?_
  refine new_var (e := 25) [.int .i64 k, .string nm, .int .i64 n, .string t, .slice ka ns.length kc, .slice la l.length lc] rfl ?_
  intro h1 bn o1 x1 z1 hbn
  refine gA ?_
  refine new_var (e := 41) [.slice na (namesV v.labels).length nc, .slice oa (loopsV v.labels).length oc, .bool v.goes, .bool v.breaks, .bool v.inside] rfl ?_
  intro h2 ba o2 x2 z2 hba
  have o1 := o1.ext x2
  refine gA ?_
  refine new_var (e := 41) zeroA rfl ?_
  intro h3 br o3 x3 z3 hbr
  have o1 := o1.ext x3
  have o2 := o2.ext x3
  have X := (x1.trans x2).trans x3
  have hx1 := x1.1
  have hx2 := x2.1
  have hx3 := x3.1
  clear x1 x2 x3
  by_cases hA : k = 39 ∨ k = 10
  · rw [if_pos hA] at hw
    subst hw
    have qs : (k == 39) = true ∨ ((k == 39) = false ∧ (k == 10) = true) := by rcases hA with rfl | rfl <;> decide
    rcases qs with q | ⟨q, q2⟩
    all_goals
      refine gA ?_
      refine store_blk o3 (by simp) (by simp [isOne]) ?_
      intro h4 f4 z4 o4
      replace o4 : BlkW h4 br 41 [.slice none 0 0, .slice none 0 0, .bool false, .bool false, .bool true] := by simpa using o4
      refine gN ?_
      exact ⟨_, rfl, ⟨none, 0, none, 0, rfl, Sl.nil _ _, Sl.nil _ _⟩, X.offNew f4 (by omega)⟩
  rw [if_neg hA] at hw
  have qA1 : (k == 39) = false := beq_eq_false_iff_ne.2 fun e => hA (.inl e)
  have qA2 : (k == 10) = false := beq_eq_false_iff_ne.2 fun e => hA (.inr e)
  clear hA
  refine gM ?_
  refine cut_rule [] (fun vs h' => ∃ us : List Value, us.length = 5 ∧ (∀ x ∈ us, isOne x = true) ∧ BlkW h' ba 41 us ∧ (∀ h'', Off br h' h'' → ARep h'' w us) ∧ Ext h h' ∧ BlkW h' br 41 zeroA ∧ br < h'.size) rfl ?_ ?_
  · refine gN ?_
    refine HCall.mk ((rloop_spec (rt.ext X)).mono ?_)
    rintro e h5 ⟨rfl, x5⟩
    rw [show NT.kind (.mk k nm n t ns l) = k from rfl]
    have o1 := o1.ext x5
    have o2 := o2.ext x5
    have o3 := o3.ext x5
    have X5 := X.trans x5
    have hx5 := x5.1
    cases qL : loopK k
    · rw [qL, if_neg (by simp)] at hw
      by_cases hC : k = 36
      · rw [if_pos hC] at hw
        subst hw
        have q : (k == 36) = true := beq_iff_eq.2 hC
        refine gA ?_
        refine blk_st (o := 3) o2 (by simp) rfl ?_
        intro h6 f6 z6 o6
        have X6 := X5.offNew f6 (by omega)
        refine gA ?_
        exact ⟨[.slice na (namesV v.labels).length nc, .slice oa (loopsV v.labels).length oc, .bool v.goes, .bool true, .bool v.inside], rfl, by simp [isOne], o6, fun h'' f => ⟨na, nc, oa, oc, rfl, v1.ext (X6.offNew f (by omega)), v2.ext (X6.offNew f (by omega))⟩, X6, o3.offk f6 (by omega), by have := f6.1; omega⟩
      · rw [if_neg hC] at hw
        have q : (k == 36) = false := beq_eq_false_iff_ne.2 hC
        clear hC
        by_cases hD : k = 38
        · rw [if_pos hD] at hw
          have q : (k == 38) = true := beq_iff_eq.2 hD
          refine gM ?_
          refine cut_rule [] (fun vs h' => ∃ a1 c1, BlkW h' ba 41 [.slice a1 (namesV v.labels ++ [nm]).length c1, .slice oa (loopsV v.labels).length oc, .bool v.goes, .bool v.breaks, .bool v.inside] ∧ Own h' h5.size 9 1 a1 (namesV v.labels ++ [nm]).length c1 ((namesV v.labels ++ [nm]).map .string) ∧ Ext h h' ∧ h5.size ≤ h'.size ∧
            BlkW h' bn 25 [.int .i64 k, .string nm, .int .i64 n, .string t, .slice ka ns.length kc, .slice la l.length lc] ∧ BlkW h' br 41 zeroA) rfl ?_ ?_
          · refine gA ?_
            refine HAlt.mk ?_ ?_
            · refine gA ?_
              refine (v1.ext X5).cells ?_
              refine one_more (v1.ext X5) (by omega) ?_
              intro h6 a6 c6 w6 x6
              refine gA ?_
              refine new_own (e := 9) 1 1 [.string nm] rfl rfl ?_
              intro h7 b7 w7 x7 z7 hb7
              have hx6 := x6.1
              have hx7 := x7.1
              have w67 := w6.ext x7
              have wl := w67.lt
              refine gA ?_
              refine w7.sl.cells ?_
              refine Own.grow w67 (by omega) rfl rfl (by simp [isOne]) (by omega) ?_
              intro h8 a8 c8 w8 g8
              have k58 : Ext h5 h8 := (x6.trans x7).keep (g8.kept (by omega) fun p ep => (wl p ep).1)
              have o2 := o2.ext k58
              have o1 := o1.ext k58
              have o3 := o3.ext k58
              have hk58 := k58.1
              have wl8 := w8.lt
              refine gA ?_
              refine blk_st (o := 0) o2 (by simp) rfl ?_
              intro h9 f9 z9 o9
              refine gA ?_
              refine ⟨a8, c8, ?_, ?_, (X5.trans k58).offNew f9 (by omega), by have := f9.1; omega, o1.offk f9 (by omega), o3.offk f9 (by omega)⟩
              · rw [List.length_append]; exact o9
              · rw [List.length_append, List.map_append]
                exact w8.off f9 (fun p ep => by have := wl8 p ep; omega)
            · refine gA ?_
              refine new_own (e := 9) 1 1 [.string nm] rfl rfl ?_
              intro h7 b7 w7 x7 z7 hb7
              have hx7 := x7.1
              refine gA ?_
              refine ((v1.ext X5).ext x7).cells ?_
              refine one_more ((v1.ext X5).ext x7) (by omega) ?_
              intro h6 a6 c6 w6 x6
              have hx6 := x6.1
              have wl := w6.lt
              refine gA ?_
              refine (w7.ext x6).sl.cells ?_
              refine Own.grow w6 (by omega) rfl rfl (by simp [isOne]) (by omega) ?_
              intro h8 a8 c8 w8 g8
              have k58 : Ext h5 h8 := (x7.trans x6).keep (g8.kept (by omega) fun p ep => by have := (wl p ep).1; omega)
              have o2 := o2.ext k58
              have o1 := o1.ext k58
              have o3 := o3.ext k58
              have hk58 := k58.1
              have wl8 := w8.lt
              refine gA ?_
              refine blk_st (o := 0) o2 (by simp) rfl ?_
              intro h9 f9 z9 o9
              refine gA ?_
              refine ⟨a8, c8, ?_, ?_, (X5.trans k58).offNew f9 (by omega), by have := f9.1; omega, o1.offk f9 (by omega), o3.offk f9 (by omega)⟩
              · rw [List.length_append]; exact o9
              · rw [List.length_append, List.map_append]
                exact (w8.off f9 (fun p ep => by have := wl8 p ep; omega)).lower (by omega)
          intro u6 h6
          rintro ⟨a6, c6, o2, w6, X6, hs6, o1, o3⟩
          have nml : (namesV v.labels ++ [nm]).length = v.labels.length + 1 := by rw [List.length_append, nl]; rfl
          have hl0 : 0 < l.length := by
            simp only [okT, Bool.and_eq_true] at hk
            have := hk.1
            rw [hD, show needs 38 = true from rfl, Bool.not_true, Bool.false_or] at this
            have := of_decide_eq_true this
            omega
          have hkl : okT l[0] = true := okL_get (by simp only [okT, Bool.and_eq_true] at hk; exact hk.2) 0 hl0
          have hbot : bottomK (.mk k nm n t ns l) = bottomK l[0] := by simp only [bottomK]; rw [if_pos hD, bottomL_0 hl0]
          rw [hbot] at hw
          refine gA ?_
          refine HIdx.mk 0 rfl hl0 ?_
          refine sl_some s2 hl0 fun p ep => ?_
          refine gA ?_
          refine tloadK s2 s3 (.of_ext X6) ep hl0 fun cs0 r0 => ?_
          have hcl := r0.len
          have r06 := r0.ext X6
          refine gA ?_
          refine new_var (e := 25) zeroT rfl ?_
          intro h7 b7 o7 x7 z7 hb7
          have hx7 := x7.1
          have w6lt := w6.lt
          have o1 := o1.ext x7
          have o2 := o2.ext x7
          have o3 := o3.ext x7
          have w7 := w6.ext x7
          have lba := o2.lt
          refine gA ?_
          refine HMust.mk (by simpa using hcl) ?_
          refine store_blk o7 (by simp [hcl]) (by simpa using r0.one) ?_
          intro h8 f8 z8 o8
          have o8' : BlkW h8 b7 25 cs0 := by simpa [hcl] using o8
          have l2a : ba < h6.size := by omega
          have o1 := o1.offk f8 (by omega)
          have o2 := o2.offk f8 (by omega)
          have o3 := o3.offk f8 (by omega)
          have w8 := w7.off f8 (fun p ep => by have := w6lt p ep; omega)
          have X8 : Ext h h8 := (X6.trans x7).offNew f8 (by omega)
          have K68 : KeepC h6 h8 := (KeepC.of_ext x7).offNew f8 (by omega)
          clear o7 o8
          refine gA ?_
          refine loop_ghost [] (fun (d' : NT) vs h' => ∃ cs', TRep h6 d' cs' ∧ BlkW h' b7 25 cs' ∧ okT d' = true ∧ bottomK d' = bottomK l[0] ∧ Off b7 h8 h' ∧ h'.size = h8.size) cnt rfl ?_ ?_
          · exact ⟨l[0], _, r06, o8', hkl, rfl, ⟨Nat.le_refl _, fun _ _ _ => rfl⟩, rfl⟩
          intro d' u9 h9
          rintro ⟨cs', r9, o9, hk9, hbk, f9, z9⟩
          have K69 : KeepC h6 h9 := K68.offNew f9 (by omega)
          have o1 := o1.offk f9 (by omega)
          have o2 := o2.offk f9 (by omega)
          have o3 := o3.offk f9 (by omega)
          have w9 := w8.off f9 (fun p ep => by have := w6lt p ep; omega)
          have X9 : Ext h h9 := X8.offNew f9 (by omega)
          cases d' with
          | mk k' nm' n' t' ns' l' =>
          have rr0 := r9
          simp only [TRep] at r9
          obtain ⟨_, _, _, _, _, _, _, ka', kc', la', lc', ys', rfl, t1, t2, t3⟩ := r9
          by_cases hk' : k' = 38
          · have qk : (k' == 38) = true := beq_iff_eq.2 hk'
            have hl' : 0 < l'.length := by
              simp only [okT, Bool.and_eq_true] at hk9
              have := hk9.1
              rw [hk', show needs 38 = true from rfl, Bool.not_true, Bool.false_or] at this
              have := of_decide_eq_true this
              omega
            have hbot' : bottomK (.mk k' nm' n' t' ns' l') = bottomK l'[0] := by simp only [bottomK]; rw [if_pos hk', bottomL_0 hl']
            have hcg := cnts_get l' 0 hl'
            refine gA ?_
            refine HIdx.mk 0 rfl hl' ?_
            refine sl_some t2 hl' fun p ep => ?_
            refine gA ?_
            refine tloadK t2 t3 K69 ep hl' fun cs rt8 => ?_
            have hcl := rt8.len
            refine gA ?_
            refine HMust.mk (by simpa using hcl) ?_
            refine store_blk o9 (by simp [hcl]) (by simpa using rt8.one) ?_
            intro h10 f10 z10 o10
            have o10' : BlkW h10 b7 25 cs := by simpa [hcl] using o10
            refine gA ?_
            exact ⟨l'[0], ⟨cs, rt8, o10', okL_get (by simp only [okT, Bool.and_eq_true] at hk9; exact hk9.2) 0 hl', by rw [← hbk, hbot'], f9.trans f10, by rw [z10, z9]⟩, by show cnt l'[0] < cnt (.mk k' nm' n' t' ns' l'); simp only [cnt]; omega⟩
          have qk : (k' == 38) = false := beq_eq_false_iff_ne.2 hk'
          have hbot' : bottomK (.mk k' nm' n' t' ns' l') = k' := by simp only [bottomK]; rw [if_neg hk']
          rw [← hbk, hbot'] at hw
          have rr9 := TRep.keepC K69 _ _ rr0
          refine gN ?_
          refine HCall.mk ((rloop_spec rr9).mono ?_)
          rintro e h10 ⟨rfl, x10⟩
          rw [show NT.kind (.mk k' nm' n' t' ns' l') = k' from rfl]
          have o1 := o1.ext x10
          have o2 := o2.ext x10
          have o3 := o3.ext x10
          have w10 := w9.ext x10
          have X10 := X9.trans x10
          have hx10 := x10.1
          have hz9 := f9.1
          cases qB : loopK k'
          · rw [qB] at hw
            subst hw
            refine gA ?_
            refine ⟨[.slice a6 (namesV v.labels ++ [nm]).length c6, .slice oa (loopsV v.labels).length oc, .bool v.goes, .bool v.breaks, .bool v.inside], rfl, by simp [isOne], o2, fun h'' f => ⟨a6, c6, oa, oc, ?_, ?_, ?_⟩, X10, o3, by omega⟩
            · show _ = [Value.slice a6 (namesV ((nm, false) :: v.labels)).length c6, .slice oa (loopsV ((nm, false) :: v.labels)).length oc, _, _, _]
              rw [namesV_cons, loopsV_no]
            · show Sl h'' 1 a6 (namesV ((nm, false) :: v.labels)).length c6 ((namesV ((nm, false) :: v.labels)).map .string)
              rw [namesV_cons]
              exact (w10.off f (fun p ep => by have := w6lt p ep; omega)).sl
            · show Sl h'' 1 oa (loopsV ((nm, false) :: v.labels)).length oc ((loopsV ((nm, false) :: v.labels)).map .string)
              rw [loopsV_no]
              exact v2.ext (X10.offNew f (by omega))
          · rw [qB] at hw
            subst hw
            refine gA ?_
            have fin : ∀ (h12 : Heap) (a12 : Option Addr) (c12 : Nat), BlkW h12 ba 41 [.slice a6 (namesV v.labels ++ [nm]).length c6, .slice a12 ((loopsV v.labels).length + 1) c12, .bool v.goes, .bool v.breaks, .bool v.inside] → Own h12 h5.size 9 1 a6 (namesV v.labels ++ [nm]).length c6 ((namesV v.labels ++ [nm]).map .string) →
                Own h12 h10.size 9 1 a12 ((loopsV v.labels).length + 1) c12 ((loopsV v.labels).map .string ++ [.string nm]) → Ext h h12 → BlkW h12 br 41 zeroA → br < h12.size →
                ∃ us : List Value, us.length = 5 ∧ (∀ x ∈ us, isOne x = true) ∧ BlkW h12 ba 41 us ∧ (∀ h'', Off br h12 h'' → ARep h'' ⟨(nm, true) :: v.labels, v.breaks, v.goes, v.inside⟩ us) ∧ Ext h h12 ∧ BlkW h12 br 41 zeroA ∧ br < h12.size := by
              intro h12 a12 c12 p1 p2 p3 p4 p5 p6
              refine ⟨_, rfl, by simp [isOne], p1, fun h'' f => ⟨a6, c6, a12, c12, ?_, ?_, ?_⟩, p4, p5, p6⟩
              · show _ = [Value.slice a6 (namesV ((nm, true) :: v.labels)).length c6, .slice a12 (loopsV ((nm, true) :: v.labels)).length c12, _, _, _]
                rw [namesV_cons, loopsV_yes, (by rw [List.length_append]; rfl : (loopsV v.labels ++ [nm]).length = (loopsV v.labels).length + 1)]
              · show Sl h'' 1 a6 (namesV ((nm, true) :: v.labels)).length c6 ((namesV ((nm, true) :: v.labels)).map .string)
                rw [namesV_cons]
                exact (p2.off f (fun p ep => by have := w6lt p ep; omega)).sl
              · show Sl h'' 1 a12 (loopsV ((nm, true) :: v.labels)).length c12 ((loopsV ((nm, true) :: v.labels)).map .string)
                rw [loopsV_yes, List.length_append, List.map_append]
                exact (p3.off f (fun p ep => by have := p3.lt p ep; omega)).sl
            refine HAlt.mk ?_ ?_
            · refine gA ?_
              refine (v2.ext X10).cells ?_
              refine one_more (v2.ext X10) (by omega) ?_
              intro h11 a11 c11 w11 x11
              refine gA ?_
              refine new_own (e := 9) 1 1 [.string nm] rfl rfl ?_
              intro h12 b12 w12 x12 z12 hb12
              have hx11 := x11.1
              have hx12 := x12.1
              have w112 := w11.ext x12
              have wl := w112.lt
              refine gA ?_
              refine w12.sl.cells ?_
              refine Own.grow w112 (by omega) rfl rfl (by simp [isOne]) (by omega) ?_
              intro h13 a13 c13 w13 g13
              have k13 : Ext h10 h13 := (x11.trans x12).keep (g13.kept (by omega) fun p ep => (wl p ep).1)
              have wl13 := w13.lt
              have hk13 := k13.1
              have wl10 := w10.lt
              refine gA ?_
              refine blk_st (o := 1) (o2.ext k13) (by simp) rfl ?_
              intro h14 f14 z14 o14
              refine gA ?_
              exact fin h14 a13 c13 o14 ((w10.ext k13).off f14 (fun p ep => by have := w6lt p ep; omega)) (w13.off f14 (fun p ep => by have := wl13 p ep; omega)) ((X10.trans k13).offNew f14 (by omega)) ((o3.ext k13).offk f14 (by omega)) (by have := f14.1; omega)
            · refine gA ?_
              refine new_own (e := 9) 1 1 [.string nm] rfl rfl ?_
              intro h12 b12 w12 x12 z12 hb12
              have hx12 := x12.1
              refine gA ?_
              refine ((v2.ext X10).ext x12).cells ?_
              refine one_more ((v2.ext X10).ext x12) (by omega) ?_
              intro h11 a11 c11 w11 x11
              have hx11 := x11.1
              have wl := w11.lt
              refine gA ?_
              refine (w12.ext x11).sl.cells ?_
              refine Own.grow w11 (by omega) rfl rfl (by simp [isOne]) (by omega) ?_
              intro h13 a13 c13 w13 g13
              have k13 : Ext h10 h13 := (x12.trans x11).keep (g13.kept (by omega) fun p ep => by have := (wl p ep).1; omega)
              have wl13 := w13.lt
              have hk13 := k13.1
              refine gA ?_
              refine blk_st (o := 1) (o2.ext k13) (by simp) rfl ?_
              intro h14 f14 z14 o14
              refine gA ?_
              exact fin h14 a13 c13 o14 ((w10.ext k13).off f14 (fun p ep => by have := w6lt p ep; omega)) ((w13.off f14 (fun p ep => by have := wl13 p ep; omega)).lower (by omega)) ((X10.trans k13).offNew f14 (by omega)) ((o3.ext k13).offk f14 (by omega)) (by have := f14.1; omega)
        · rw [if_neg hD] at hw
          subst hw
          have q : (k == 38) = false := beq_eq_false_iff_ne.2 hD
          refine gA ?_
          exact ⟨_, rfl, by simp [isOne], o2, fun h'' f => ⟨na, nc, oa, oc, rfl, v1.ext (X5.offNew f (by omega)), v2.ext (X5.offNew f (by omega))⟩, X5, o3, by omega⟩
    · rw [qL, if_pos rfl] at hw
      subst hw
      refine gA ?_
      refine blk_st (o := 2) o2 (by simp) rfl ?_
      intro h6 f6 z6 o6
      replace o6 : BlkW h6 ba 41 [.slice na (namesV v.labels).length nc, .slice oa (loopsV v.labels).length oc, .bool true, .bool v.breaks, .bool v.inside] := o6
      have X6 := X5.offNew f6 (by omega)
      have o3 := o3.offk f6 (by omega)
      have hf6 := f6.1
      refine gA ?_
      refine blk_st (o := 3) o6 (by simp) rfl ?_
      intro h7 f7 z7 o7
      have X7 := X6.offNew f7 (by omega)
      refine gA ?_
      exact ⟨[.slice na (namesV v.labels).length nc, .slice oa (loopsV v.labels).length oc, .bool true, .bool true, .bool v.inside], rfl, by simp [isOne], o7, fun h'' f => ⟨na, nc, oa, oc, rfl, v1.ext (X7.offNew f (by omega)), v2.ext (X7.offNew f (by omega))⟩, X7, o3.offk f7 (by omega), by have := f7.1; omega⟩
  · intro u h5
    rintro ⟨us, hu5, hu1, o2, ar, X5, o3, hb5⟩
    refine gA ?_
    refine blk_ldN o2 hu5 ?_
    refine gA ?_
    refine HMust.mk (by simpa using hu5) ?_
    refine store_blk o3 (by simp [hu5]) (by simpa using hu1) ?_
    intro h6 f6 z6 o6
    have o6' : BlkW h6 br 41 us := by simpa [hu5] using o6
    refine gA ?_
    refine blk_ldN o6' hu5 ?_
    exact ⟨us, rfl, ar h6 f6, X5.offNew f6 (by omega)⟩
end Go.Proofs.YtlogpojkkbcpjaaGreat.Hc
/- r09's may, Check; the law ScopeChecks. -/
set_option linter.unusedVariables false
set_option linter.unusedSimpArgs false
namespace Go.Proofs.YtlogpojkkbcpjaaGreat.Hc
open Go Go.H Go.Proofs
set_option maxRecDepth 100000
set_option maxHeartbeats 8000000
theorem early_label (nm : ByteArray) (n : Int) (t : ByteArray) (ns : List ByteArray) (l : List NT) (v : Env) : earlyB (.mk 38 nm n t ns l) v = !(findL nm v.labels).isEmpty := by rw [earlyB_mk]; rfl
theorem inner_nodup {d : NT} {v : Env} (h : (v.labels.map (·.1)).Nodup) (he : earlyB d v = false) : ((innerV d v).labels.map (·.1)).Nodup ∧ (innerV d v).labels.length ≤ v.labels.length + 1 := by
  cases d with
  | mk k nm n t ns l =>
  rw [innerV_mk]
  by_cases hA : k = 39 ∨ k = 10
  · rw [if_pos hA]; exact ⟨List.nodup_nil, Nat.zero_le _⟩
  rw [if_neg hA]
  by_cases hB : loopK k = true
  · rw [if_pos hB]; exact ⟨h, Nat.le_succ _⟩
  rw [if_neg hB]
  by_cases hC : k = 36
  · rw [if_pos hC]; exact ⟨h, Nat.le_succ _⟩
  rw [if_neg hC]
  by_cases hD : k = 38
  · rw [if_pos hD]
    subst hD
    rw [early_label, find_empty, Bool.not_not] at he
    have hn : nm ∉ v.labels.map (·.1) := fun hm => by
      have := strIn_iff.2 (show nm ∈ namesV v.labels from List.mem_reverse.2 hm)
      rw [he] at this; cases this
    exact ⟨List.nodup_cons.2 ⟨hn, h⟩, Nat.le_refl _⟩
  rw [if_neg hD]
  exact ⟨h, Nat.le_succ _⟩
theorem rmay_spec : ∀ (m : Nat) (d : NT) (_ : cnt d = m) (h : Heap) (v : Env) (cs vs : List Value) (_ : TRep h d cs) (_ : ARep h v vs) (_ : okT d = true) (_ : (v.labels.map (·.1)).Nodup) (_ : v.labels.length + cnt d ≤ 8388600),
    HCalls Tryz.prog 13 #[.agg cs.toArray, .agg vs.toArray] h fun e h' => e = .returned (.bool (!anyT earlyB d v)) ∧ Ext h h' := by
  intro m
  induction m using Nat.strongRecOn with
  | ind m ih =>
  intro d hm h v cs vs r ra hk hnd hlb
  cases d with
  | mk k nm n t ns l =>
  have rt := r
  simp only [TRep] at r
  obtain ⟨b1, b2, b3, b4, b5, b6, b7, ka, kc, la, lc, ys, rfl, s1, s2, s3⟩ := r
  have ra0 := ra
  obtain ⟨na, nc, oa, oc, rfl, v1, v2⟩ := ra
  have hz : anyT earlyB (.mk k nm n t ns l) v = (earlyB (.mk k nm n t ns l) v || anyL earlyB l (innerV (.mk k nm n t ns l) v)) := rfl
  generalize anyT earlyB (.mk k nm n t ns l) v = z at hz
  refine c13 (by simp) ?_
  refine gA ?_
  refine new_var (e := 25) [.int .i64 k, .string nm, .int .i64 n, .string t, .slice ka ns.length kc, .slice la l.length lc] rfl ?_
  intro h1 bn o1 x1 z1 hbn
  refine gA ?_
  refine new_var (e := 41) [.slice na (namesV v.labels).length nc, .slice oa (loopsV v.labels).length oc, .bool v.goes, .bool v.breaks, .bool v.inside] rfl ?_
  intro h2 ba o2 x2 z2 hba
  have o1 := o1.ext x2
  have X := x1.trans x2
  refine gA ?_
  refine HCall.mk ((rown_spec (rt.ext X) (ra0.ext X) hk hnd (by omega)).mono ?_)
  rintro e h3 ⟨rfl, x3⟩
  have o1 := o1.ext x3
  have o2 := o2.ext x3
  have X := X.trans x3
  cases qe : earlyB (.mk k nm n t ns l) v
  · rw [qe, Bool.false_or] at hz
    refine gA ?_
    refine HCall.mk ((within_spec (rt.ext X) (ra0.ext X) hk (by omega)).mono ?_)
    rintro e h4 ⟨us, rfl, ru, x4⟩
    have o1 := o1.ext x4
    have X := X.trans x4
    obtain ⟨qn, ql⟩ := inner_nodup hnd qe
    generalize innerV (.mk k nm n t ns l) v = w at hz ru qn ql
    obtain ⟨na', nc', oa', oc', rfl, w1, w2⟩ := ru
    refine gA ?_
    refine new_var (e := 41) zeroA rfl ?_
    intro h5 bb o5 x5 z5 hbb
    have lt1 := o1.lt
    have o1 := o1.ext x5
    have hX := X.1
    have hx5 := x5.1
    refine gA ?_
    refine store_blk o5 (by simp) (by simp [isOne]) ?_
    intro h6 f6 z6 o6
    replace o6 : BlkW h6 bb 41 [.slice na' (namesV w.labels).length nc', .slice oa' (loopsV w.labels).length oc', .bool w.goes, .bool w.breaks, .bool w.inside] := by simpa using o6
    have X6 : Ext h h6 := (X.trans x5).offNew f6 (by omega)
    have X46 : Ext h4 h6 := x5.offNew f6 (by omega)
    have o1 := (o1.offk f6 (by omega))
    refine gA ?_
    refine loop_rule [18] (fun vs h' => ∃ (i : Nat), vs = [.int .i64 i] ∧ i ≤ l.length ∧ Ext h4 h' ∧ BlkW h' bb 41 [.slice na' (namesV w.labels).length nc', .slice oa' (loopsV w.labels).length oc', .bool w.goes, .bool w.breaks, .bool w.inside] ∧ anyL earlyB (l.take i) w = false)
      (fun vs _ => match vs with | [.int _ i] => l.length - i.toNat | _ => 0) rfl ?_ ?_
    · exact ⟨0, rfl, by omega, X46, o6, rfl⟩
    intro u h7 v18
    rintro ⟨i, e, hi, X47, o7, a7⟩
    have X7 := X.trans X47
    cases e
    refine gA ?_
    refine HIf.mk (fun hlt => ?_) (fun hlt => ?_)
    · have hi1 : i < l.length := by have := of_decide_eq_true hlt; omega
      have hmu : l.length - ((i : Int) + 1).toNat < l.length - ((i : Int)).toNat := by omega
      have at1 := anyL_take earlyB w l i hi1
      have hcg := cnts_get l i hi1
      simp only [cnt] at hm hlb
      have hokl : okT l[i] = true := okL_get (by simp only [okT, Bool.and_eq_true] at hk; exact hk.2) i hi1
      refine gA ?_
      refine HIdx.mk i rfl hi1 ?_
      refine sl_some s2 hi1 fun p ep => ?_
      refine gA ?_
      refine tloadK s2 s3 (.of_ext X7) ep hi1 fun cs rt7 => ?_
      have hcl := rt7.len
      refine gA ?_
      refine new_var (e := 25) zeroT rfl ?_
      intro h8 b8 o8 x8 z8 hb8
      have l7 := o7.lt
      have hX7 := X7.1
      have hX47 := X47.1
      refine gA ?_
      refine HMust.mk (by simpa using hcl) ?_
      refine store_blk o8 (by simp [hcl]) (by simpa using rt7.one) ?_
      intro h9 f9 z9 o9
      have o9' : BlkW h9 b8 25 cs := by simpa [hcl] using o9
      have X9 : Ext h4 h9 := (X47.trans x8).offNew f9 (by omega)
      have o7 := (o7.ext x8).offk f9 (by omega)
      clear o9 o8
      refine gA ?_
      refine blk_ldN o9' hcl ?_
      refine gA ?_
      refine HCall.mk ((ih (cnt l[i]) (by omega) l[i] rfl h9 w _ _ (rt7.ext (X.trans X9)) ⟨na', nc', oa', oc', rfl, w1.ext X9, w2.ext X9⟩ hokl qn (by omega)).mono ?_)
      rintro e h10 ⟨rfl, x10⟩
      cases qa : anyT earlyB l[i] w
      · refine gA ?_
        exact ⟨⟨i + 1, rfl, by omega, X9.trans x10, o7.ext x10, by rw [at1, a7, qa]; rfl⟩, hmu⟩
      · refine gA ?_
        exact ⟨by rw [hz, anyL_yes (i := i + 1) (by rw [at1, qa]; simp)]; rfl, (X.trans X9).trans x10⟩
    · have hge := of_decide_eq_false hlt
      obtain rfl : i = l.length := by omega
      rw [List.take_length] at a7
      refine gA ?_
      exact ⟨by rw [hz, a7]; rfl, X7⟩
  · rw [qe, Bool.true_or] at hz
    refine gA ?_
    exact ⟨by rw [hz]; rfl, X⟩
theorem r9check_spec {d : NT} {h : Heap} {cs : List Value} (r : TRep h d cs) (hc : cnt d ≤ 4194304) : HCalls Tryz.prog 6 #[.agg cs.toArray] h fun e h' => e = .returned (.int .i64 (checkS d)) ∧ Ext h h' := by
  have rt := r
  cases d with
  | mk k nm n t ns l =>
  simp only [TRep] at r
  obtain ⟨b1, b2, b3, b4, b5, b6, b7, ka, kc, la, lc, ys, rfl, s1, s2, s3⟩ := r
  refine c6 (by simp) ?_
  refine gA ?_
  refine new_var (e := 25) [.int .i64 k, .string nm, .int .i64 n, .string t, .slice ka ns.length kc, .slice la l.length lc] rfl ?_
  intro h1 bn o1 x1 z1 hbn
  refine gA ?_
  refine HCall.mk ((rcheck_spec (rt.ext x1) hc).mono ?_)
  rintro e h3 ⟨rfl, x3⟩
  have o1 := o1.ext x3
  have X := x1.trans x3
  by_cases ht : tcheck (.mk k nm n t ns l) = 0
  · have q : (tcheck (.mk k nm n t ns l) != 0) = false := by rw [ht]; rfl
    have hz : checkS (.mk k nm n t ns l) = if anyT earlyB (.mk k nm n t ns l) env0 = true then 90 else 0 := by unfold checkS; rw [ht, if_neg (by simp)]
    generalize checkS (.mk k nm n t ns l) = z at hz
    have hk : okT (.mk k nm n t ns l) = true := by
      refine mayT_ok _ ?_
      unfold tcheck at ht
      cases hm : mayT (.mk k nm n t ns l)
      · rw [if_pos (.inr hm)] at ht; cases ht
      · rfl
    refine gA ?_
    refine HCall.mk ((rmay_spec _ _ rfl _ env0 _ [.slice none 0 0, .slice none 0 0, .bool false, .bool false, .bool false] (rt.ext X) ⟨none, 0, none, 0, rfl, Sl.nil _ _, Sl.nil _ _⟩ hk List.nodup_nil (by have : env0.labels.length = 0 := rfl; omega)).mono ?_)
    rintro e h4 ⟨rfl, x4⟩
    cases qa : anyT earlyB (.mk k nm n t ns l) env0
    · rw [qa, if_neg (by simp)] at hz
      subst hz
      refine gA ?_
      exact ⟨rfl, X.trans x4⟩
    · rw [qa, if_pos rfl] at hz
      subst hz
      refine gA ?_
      exact ⟨rfl, X.trans x4⟩
  · have q : (tcheck (.mk k nm n t ns l) != 0) = true := bne_iff_ne.2 ht
    have hz : checkS (.mk k nm n t ns l) = tcheck (.mk k nm n t ns l) := by unfold checkS; rw [if_pos ht]
    rw [hz]
    refine gA ?_
    exact ⟨rfl, X⟩
theorem scopeChecks_spec {h : Heap} {d : NT} {cs : List Value} (r : TRep h d cs) (hc0 : cnt d ≤ 1048576) (g : Glb h) : HCalls Tryz.prog 3 #[.agg cs.toArray] h fun e h' => e = .returned (.bool true) ∧ Ext h h' := by
  have hc : cnt d ≤ 4194304 := by omega
  clear hc0
  cases d with
  | mk k nm n t ns l =>
  have rt := r
  simp only [TRep] at r
  obtain ⟨b1, b2, b3, b4, b5, b6, b7, ka, kc, la, lc, ys, rfl, s1, s2, s3⟩ := r
  refine c3 (by simp) ?_
  refine gA ?_
  refine new_var (e := 25) [.int .i64 k, .string nm, .int .i64 n, .string t, .slice ka ns.length kc, .slice la l.length lc] rfl ?_
  intro h1 bn o1 X z1 hbn
  obtain ⟨cv, hb1⟩ : ∃ cv : Int, checkS (.mk k nm n t ns l) = cv := ⟨_, rfl⟩
  have q9 : ((cv : Int) == (cv : Int)) = true := beq_self_eq_true _
  refine gA ?_
  refine HCall.mk ((live_spec (g.ext X)).mono ?_)
  rintro e h2 ⟨rfl, x2⟩
  have o1 := o1.ext x2
  have X := X.trans x2
  refine gA ?_
  repeat' ((with_reducible refine HAlt.mk ?_ ?_) <;> refine gA ?_)
  all_goals ((refine HCall.mk ((check_spec (rt.ext X) (g.ext X) hc).mono ?_)); (rintro e k1 ⟨rfl, x1'⟩); (have o1 := o1.ext x1'); (have X := X.trans x1'); refine gA ?_)
  all_goals ((refine HCall.mk ((r9check_spec (rt.ext X) hc).mono ?_)); (rintro e k2 ⟨rfl, x2'⟩); (have o1 := o1.ext x2'); (have X := X.trans x2'); (rw [hb1]); refine gA ?_)
  all_goals exact ⟨by show Ending.returned (.bool ((cv : Int) == cv)) = _; rw [q9], X⟩
end Go.Proofs.YtlogpojkkbcpjaaGreat.Hc
/- Trees of a program's text that came in; the wrap of the second form with the world's shape kept; what the library's own variable holds. -/
set_option linter.unusedVariables false
set_option linter.unusedSimpArgs false
namespace Go.Proofs.YtlogpojkkbcpjaaGreat.RU
open Go Go.H Go.Proofs Go.ChangeShapes Go.WideShapes Go.RowKit
set_option maxRecDepth 100000
theorem list_ex {α β : Type} : ∀ (l : List α) (R : Nat → α → β → Prop) (_ : ∀ i (hi : i < l.length), ∃ b, R i l[i] b), ∃ bs : List β, bs.length = l.length ∧ ∀ i (hi : i < l.length) (hb : i < bs.length), R i l[i] bs[i]
  | [], R, h => ⟨[], rfl, fun i hi => by simp at hi⟩
  | a :: l, R, h => by
    obtain ⟨b, hb⟩ := h 0 (by simp)
    obtain ⟨bs, h1, h2⟩ := list_ex l (fun i => R (i + 1)) fun i hi => h (i + 1) (by simpa using hi)
    refine ⟨b :: bs, by simp [h1], fun i hi hj => ?_⟩
    cases i with
    | zero => exact hb
    | succ i => exact h2 i (by simpa using hi) (by simpa using hj)
theorem sum_le {α β : Type} (f : β → Nat) (g : α → Nat) : ∀ (l : List α) (bs : List β), bs.length = l.length → (∀ i (hi : i < l.length) (hb : i < bs.length), f bs[i] ≤ g l[i]) → (bs.map f).sum ≤ (l.map g).sum
  | [], [], _, _ => by simp
  | a :: l, b :: bs, hl, h => by
    have h0 := h 0 (by simp) (by simp)
    have h1 := sum_le f g l bs (by simpa using hl) fun i hi hb => h (i + 1) (by simpa using hi) (by simpa using hb)
    simp only [List.map_cons, List.sum_cons, List.getElem_cons_zero] at h0 ⊢; omega
  | [], _ :: _, h, _ => by simp at h
  | _ :: _, [], h, _ => by simp at h
theorem bulk_sum {H : Type} : ∀ l : List (DataW H), Rows.uptoBulkAll l = (l.map Rows.uptoBulk).sum
  | [] => rfl
  | d :: r => by simp only [Rows.uptoBulkAll, List.map_cons, List.sum_cons, bulk_sum r]
theorem bulk_mem' {H : Type} : ∀ (l : List (DataW H)) (d : DataW H), d ∈ l → Rows.uptoBulk d ≤ Rows.uptoBulkAll l
  | [], d, h => by cases h
  | e :: r, d, h => by
    simp only [Rows.uptoBulkAll]
    rcases List.mem_cons.1 h with rfl | h
    · omega
    · have := bulk_mem' r d h; omega
theorem flat_get {α : Type} {n : Nat} : ∀ (l : List (List α)) (_ : ∀ x ∈ l, x.length = n) (i j : Nat) (hi : i < l.length) (_ : j < n), l.flatten[i * n + j]? = l[i][j]?
  | [], _, i, _, hi, _ => by simp at hi
  | a :: l, h, i, j, hi, hj => by
    have ha := h a (by simp)
    cases i with
    | zero => rw [List.flatten_cons, Nat.zero_mul, Nat.zero_add, List.getElem?_append_left (by omega)]; rfl
    | succ i =>
      rw [List.flatten_cons, List.getElem?_append_right (by rw [ha, Nat.add_mul]; omega), List.getElem_cons_succ, ← flat_get l (fun x hx => h x (by simp [hx])) i j (by simpa using hi) hj]
      congr 1; rw [ha, Nat.add_mul]; omega
theorem flat_len {α : Type} {n : Nat} : ∀ (l : List (List α)) (_ : ∀ x ∈ l, x.length = n), l.flatten.length = l.length * n
  | [], _ => by simp
  | a :: l, h => by rw [List.flatten_cons, List.length_append, h a (by simp), flat_len l (fun x hx => h x (by simp [hx])), List.length_cons, Nat.add_mul]; omega
end Go.Proofs.YtlogpojkkbcpjaaGreat.RU
namespace Go.Proofs.YtlogpojkkbcpjaaGreat.Hc
open Go Go.H Go.Proofs Go.ChangeShapes Go.WideShapes Go.RowKit
set_option maxRecDepth 100000
theorem treps_flat {h : Heap} : ∀ (l : List NT) (cs : List (List Value)), cs.length = l.length → (∀ i (hi : i < l.length) (hc : i < cs.length), TRep h l[i] cs[i]) → TReps h l cs.flatten
  | [], [], _, _ => by simp [TReps]
  | d :: l, c :: cs, hl, hr => by
    simp only [TReps]
    exact ⟨c, cs.flatten, by simp, hr 0 (by simp) (by simp), treps_flat l cs (by simpa using hl) fun i hi hc => hr (i + 1) (by simpa using hi) (by simpa using hc)⟩
  | [], _ :: _, h, _ => by simp at h
  | _ :: _, [], h, _ => by simp at h
theorem cnts_sum : ∀ l : List NT, cnts l = (l.map cnt).sum
  | [] => rfl
  | d :: r => by simp only [cnts, List.map_cons, List.sum_cons, cnts_sum r]
theorem ksum_len : ∀ ks : List ByteArray, ks.length ≤ (ks.map fun k => k.size + 1).sum
  | [] => by simp
  | k :: r => by have := ksum_len r; simp only [List.length_cons, List.map_cons, List.sum_cons]; omega
theorem ksum_mem : ∀ (ks : List ByteArray) (k : ByteArray), k ∈ ks → k.size ≤ (ks.map fun k => k.size + 1).sum
  | [], k, h => by cases h
  | e :: r, k, h => by
    simp only [List.map_cons, List.sum_cons]
    rcases List.mem_cons.1 h with rfl | h
    · omega
    · have := ksum_mem r k h; omega
section
variable {H : Type} {enc : TypeId × Value → H} {W : World} {base : Nat} {spare : Nat → Bool} {held : Bool}
theorem open_names {fuel : Nat} {cs : List Value} {x : DataW H × List MemPlace} (h : DataW.trod enc Tryz.prog W base spare held fuel 22 cs = some x) :
    ∃ (a : Option Addr) (ks : List ByteArray) (c : Nat), cs = [.slice a ks.length c] ∧ Sl W.heap 1 a ks.length c (ks.map .string) ∧ (ks.map fun k => k.size + 1).sum + 1 ≤ Rows.uptoBulk x.1 := by
  rcases DataW.trod_slice Tryz.underlying22 h with ⟨rfl, rfl⟩ | ⟨a, len, cap, elems, rest, n, _, rfl, rfl, hb, hl, hm, hlen, hel, _, _⟩
  · exact ⟨none, [], 0, rfl, Sl.nil _ _, by simp [Rows.uptoBulk]⟩
  have hc : Tryz.prog.cellsOf 9 = 1 := by kernel_rfl
  rw [hc] at hel
  have each : ∀ i (hi : i < elems.length), ∃ s : ByteArray, W.cell? (a.add i) = some (.string s) ∧ elems[i].1 = .lit (.string s.data.toList) ∧ s.size ≤ maxLen := by
    intro i hi
    have h1 := hel i (by omega)
    rw [List.getElem?_eq_getElem hi, Option.bind_eq_some_iff] at h1
    obtain ⟨cs, h2, h3⟩ := h1
    obtain ⟨s, rfl, h4, h5⟩ := DataW.trod_string Tryz.underlying9 h3
    have := cell_of_cells?_one h2
    rw [Nat.mul_one] at this
    exact ⟨s, this, by rw [h4], h5⟩
  obtain ⟨ks, k1, k2⟩ := RU.list_ex elems (fun i y s => W.cell? (a.add i) = some (.string s) ∧ y.1 = .lit (.string s.data.toList) ∧ s.size ≤ maxLen) each
  refine ⟨some a, ks, cap, by rw [k1, hlen], ⟨by simp, by omega, fun e => (by cases e), ?_⟩, ?_⟩
  · intro p ep i hi
    cases ep
    rw [Nat.mul_one] at hi
    have := (k2 i (by omega) hi).1
    rw [cell_eq] at this
    rw [this, List.getElem?_map, List.getElem?_eq_getElem hi]; rfl
  · have := RU.sum_le (fun k : ByteArray => k.size + 1) (fun y : DataW H × List MemPlace => Rows.uptoBulk y.1) elems ks k1 fun i hi hb => by
      rw [(k2 i hi hb).2.1]; simp only [Rows.uptoBulk]; exact Nat.le_refl _
    simp only [Rows.uptoBulk]
    rw [RU.bulk_sum, List.map_map]
    simp only [Function.comp_def]
    omega
theorem open_treesF {fuel : Nat} (ih : ∀ m, m < fuel → ∀ (cs : List Value) (x : DataW H × List MemPlace), DataW.trod enc Tryz.prog W base spare held m 25 cs = some x → Rows.uptoBulk x.1 ≤ 1048576 → ∃ t : NT, TRep W.heap t cs ∧ cnt t ≤ Rows.uptoBulk x.1)
    {cs : List Value} {x : DataW H × List MemPlace} (h : DataW.trod enc Tryz.prog W base spare held fuel 23 cs = some x) (hbk : Rows.uptoBulk x.1 ≤ 1048576) :
    ∃ (a : Option Addr) (l : List NT) (c : Nat) (xs : List Value), cs = [.slice a l.length c] ∧ Sl W.heap 6 a l.length c xs ∧ TReps W.heap l xs ∧ cnts l + 1 ≤ Rows.uptoBulk x.1 ∧ l.length ≤ 1048576 := by
  have hc : Tryz.prog.cellsOf 25 = 6 := by kernel_rfl
  rcases DataW.trod_slice Tryz.underlying23 h with ⟨rfl, rfl⟩ | ⟨a, len, cap, elems, rest, n', rfl, rfl, rfl, hb, hlc, hm, hlen, hel, _, _⟩
  · exact ⟨none, [], 0, [], rfl, Sl.nil _ _, by simp only [TReps], by simp [cnts, Rows.uptoBulk], by simp⟩
  rw [hc] at hel
  simp only [Rows.uptoBulk] at hbk
  have hle : len ≤ 1048576 := by have := RU.length_le (elems.map (·.1)); rw [List.length_map] at this; omega
  have each : ∀ i (hi : i < elems.length), ∃ y : NT × List Value, TRep W.heap y.1 y.2 ∧ (∀ j, j < 6 → hcell W.heap ((a.add (i * 6)).add j) = y.2[j]?) ∧ cnt y.1 ≤ Rows.uptoBulk elems[i].1 := by
    intro i hi
    have h1 := hel i (by omega)
    rw [List.getElem?_eq_getElem hi, Option.bind_eq_some_iff] at h1
    obtain ⟨cs, h2, h3⟩ := h1
    have hbi : Rows.uptoBulk elems[i].1 ≤ 1048576 := by
      have := RU.bulk_mem' (elems.map (·.1)) elems[i].1 (List.mem_map.2 ⟨_, List.getElem_mem hi, rfl⟩)
      omega
    obtain ⟨t, r, hv⟩ := ih n' (by omega) cs _ h3 hbi
    have h4 := World.cells?_some h2
    refine ⟨(t, cs), r, fun j hj => ?_, hv⟩
    have := h4.2.2 j hj
    rw [cell_eq] at this
    rw [this]
  obtain ⟨ys, k1, k2⟩ := RU.list_ex elems (fun i y (z : NT × List Value) => TRep W.heap z.1 z.2 ∧ (∀ j, j < 6 → hcell W.heap ((a.add (i * 6)).add j) = z.2[j]?) ∧ cnt z.1 ≤ Rows.uptoBulk y.1) each
  have hall : ∀ x ∈ ys.map (·.2), x.length = 6 := by
    intro x hx
    obtain ⟨z, hz, rfl⟩ := List.mem_map.1 hx
    obtain ⟨i, hi, rfl⟩ := List.getElem_of_mem hz
    exact (k2 i (by omega) hi).1.len
  have hyl : (ys.map (·.1)).length = len := by rw [List.length_map]; omega
  refine ⟨some a, ys.map (·.1), cap, (ys.map (·.2)).flatten, by rw [hyl], ⟨by rw [RU.flat_len _ hall]; simp, by omega, fun e => (by cases e), ?_⟩, treps_flat (ys.map (·.1)) (ys.map (·.2)) (by simp) ?_, ?_, by omega⟩
  · intro p ep i hi
    cases ep
    rw [hyl] at hi
    have hq : i / 6 < ys.length := by omega
    have h5 := (k2 (i / 6) (by omega) hq).2.1 (i % 6) (by omega)
    rw [add_add, show i / 6 * 6 + i % 6 = i by omega] at h5
    have h6 := RU.flat_get (ys.map (·.2)) hall (i / 6) (i % 6) (by simpa using hq) (by omega)
    rw [show i / 6 * 6 + i % 6 = i by omega, List.getElem_map] at h6
    rw [h5, h6]
  · intro i hi hc'
    rw [List.getElem_map, List.getElem_map]
    exact (k2 i (by simpa [k1] using hi) (by simpa using hi)).1
  · have := RU.sum_le (fun z : NT × List Value => cnt z.1) (fun y : DataW H × List MemPlace => Rows.uptoBulk y.1) elems ys k1 fun i hi hb => (k2 i hi hb).2.2
    rw [cnts_sum, List.map_map]
    simp only [Rows.uptoBulk]
    rw [RU.bulk_sum, List.map_map]
    simp only [Function.comp_def] at this ⊢
    omega
theorem open_tree : ∀ (fuel : Nat) (cs : List Value) (x : DataW H × List MemPlace), DataW.trod enc Tryz.prog W base spare held fuel 25 cs = some x → Rows.uptoBulk x.1 ≤ 1048576 → ∃ t : NT, TRep W.heap t cs ∧ cnt t ≤ Rows.uptoBulk x.1 := by
  intro fuel
  induction fuel using Nat.strongRecOn with
  | ind fuel ih =>
  intro cs x h hbk
  obtain ⟨xs, n, rfl, rfl, hl, hx, hf⟩ := DataW.trod_struct Tryz.underlying25 h
  have hc : Tryz.prog.cellsOf 25 = 6 := by kernel_rfl
  have c1 : Tryz.prog.cellsOf 3 = 1 := by kernel_rfl
  have c2 : Tryz.prog.cellsOf 2 = 1 := by kernel_rfl
  have c3 : Tryz.prog.cellsOf 9 = 1 := by kernel_rfl
  have c4 : Tryz.prog.cellsOf 22 = 1 := by kernel_rfl
  have c5 : Tryz.prog.cellsOf 23 = 1 := by kernel_rfl
  rw [hc] at hl
  have f0 := hf 0 _ rfl
  have f1 := hf 1 _ rfl
  have f2 := hf 2 _ rfl
  have f3 := hf 3 _ rfl
  have f4 := hf 4 _ rfl
  have f5 := hf 5 _ rfl
  match cs, hl with
  | [v0, v1, v2, v3, v4, v5], _ =>
  match xs, hx with
  | [x0, x1, x2, x3, x4, x5], _ =>
  simp only [c1, c2, c3, c4, c5, List.drop_zero, List.drop_succ_cons, List.take_succ_cons, List.take_zero, List.getElem?_cons_zero, List.getElem?_cons_succ] at f0 f1 f2 f3 f4 f5
  obtain ⟨k, e0, d0, w0⟩ := DataW.trod_int Tryz.underlying3 f0
  obtain ⟨nm, e1, d1, w1⟩ := DataW.trod_string Tryz.underlying9 f1
  obtain ⟨m, e2, d2, w2⟩ := DataW.trod_int Tryz.underlying2 f2
  obtain ⟨s, e3, d3, w3⟩ := DataW.trod_string Tryz.underlying9 f3
  obtain ⟨ka, ks, kc, e4, s4, b4⟩ := open_names f4
  cases e0; cases e1; cases e2; cases e3; cases e4
  have wb : ∀ {k : Int}, (Lit.int .i64 k).wf = true → i64 k := fun {k} h => by unfold i64; simpa [Lit.wf, IntKind.min, IntKind.max, IntKind.signed, IntKind.bits] using h
  have h1 : nm.size + 1 ≤ Rows.uptoBulk x1.1 := by rw [d1]; simp only [Rows.uptoBulk]; exact Nat.le_refl _
  have h3 : s.size + 1 ≤ Rows.uptoBulk x3.1 := by rw [d3]; simp only [Rows.uptoBulk]; exact Nat.le_refl _
  simp only [Rows.uptoBulk, List.map_cons, List.map_nil, Rows.uptoBulkAll] at hbk
  have l4 := ksum_len ks
  have m4 : ∀ x ∈ ks, x.size ≤ 4194304 := fun x hx => by have := ksum_mem ks x hx; omega
  obtain ⟨la, l, lc, ys, e5, s5, t5, b5, l5⟩ := open_treesF (fun m hm => ih m (by omega)) f5 (by omega)
  cases e5
  refine ⟨.mk k nm m s ks l, ?_, ?_⟩
  · simp only [TRep]
    exact ⟨wb w0, wb w2, by omega, by omega, by omega, by omega, m4, ka, kc, la, lc, ys, rfl, s4, s5, t5⟩
  · simp only [cnt, Rows.uptoBulk, List.map_cons, List.map_nil, Rows.uptoBulkAll]; omega
/-- One tree, some trees. -/
theorem open_trees {a : Option Addr} {len cap : Nat} {d : DataW H} {ps : List MemPlace} (h : DataW.Trod enc Tryz.prog W base spare held 23 (.slice a len cap) d ps) (hbk : Rows.uptoBulk d ≤ 1048576) :
    ∃ (l : List NT) (xs : List Value), len = l.length ∧ Sl W.heap 6 a l.length cap xs ∧ TReps W.heap l xs ∧ cnts l ≤ 1048576 := by
  obtain ⟨fuel, hf⟩ := h
  obtain ⟨a', l, c, xs, e, s, t, b, _⟩ := open_treesF (fun m _ => open_tree m) hf hbk
  simp only [Value.cells] at e
  cases e
  exact ⟨l, xs, rfl, s, t, by simp only at b; omega⟩
end
end Go.Proofs.YtlogpojkkbcpjaaGreat.Hc
namespace Go.Proofs.YtlogpojkkbcpjaaGreat.Hc
open Go Go.H Go.Proofs Go.ChangeShapes
set_option maxRecDepth 100000
theorem glob_of_shape {W : World} (h : W.ShapedOpen Tryz.prog) : Glb W.heap := by
  obtain ⟨m, e⟩ := cell_of_shapedOpen_int (P := Tryz.prog) (g := 0) (t := 3) (zero := #[.int .i64 0]) (k := .i64) h (of_decide_eq_true (by kernel_rfl)) (by kernel_rfl) rfl (by kernel_rfl) (by kernel_rfl) Tryz.underlying3
  exact ⟨m, e⟩
theorem handed_shaped {H : Type} {enc : TypeId × Value → H} {a : Assume} {C : Checked} {os : Os} {f : FuncId} {fn : Func} {s : OpenSpec} {k : (H : Type) → List (DataW H) → Bool} (hk : s.cond = some k) {F : Stop.Interp} {conds : List PathCond} {apart fresh handsOn again : Bool}
    (own : ownKnob C.prog.godebug = none) (started : os.Started) (noInit : C.prog.inits.idxOf? f = none) (hfn : C.prog.funcs[f]? = some fn)
    (witness : ∃ (w : World) (tape : Tape) (i : Input), w.os = os ∧ (w.forCall tape i).Shaped C.prog ∧ i.vars = [] ∧ Input.okWide C.prog (w.forCall tape i) .any w.heap.size f i ∧
      s.pre6 enc C.prog fn conds apart (w.forCall tape i).memory i.args ∧ a.holds C.prog (lone (Frame.enter C.prog f i.args .normal) [] (w.forCall tape i)))
    (contract : ∀ (W : World) (base : Nat) (args : Array Value) (ds gs : List (DataW H)) (before : List MemPlace), W.ShapedOpen C.prog →
      (∀ (j : Nat) t v, fn.params[j]? = some t → args[j]? = some v → Value.okWide C.prog W .any base t v) →
      DataW.Whole enc C.prog fn.params.toList s.vars apart W args.toList ds gs before →
      conds.all (PathCond.test C.prog ⟨fn.params.toList, ds, s.bare.plain.varTypes C.prog, gs⟩) = true → k H (ds ++ gs) = true →
      a.holds C.prog (lone (Frame.enter C.prog f args .normal) [] W) →
      Calls C.prog f args W fun e W' => ∃ v, e = .returned v ∧ (s.at F).post enc C.prog fn apart fresh handsOn again W args v W') :
    ReturnsInHanded a C os f .any (s.pre6 enc C.prog fn conds apart) ((s.at F).post enc C.prog fn apart fresh handsOn again) := by
  refine returnsInHanded_of_calls own started noInit witness ?_
  intro w tape i _ hsh _ hok hpre hholds
  obtain ⟨_, _, _, fn', hfn', _, _, _, _, hval⟩ := hok
  have e : fn' = fn := Option.some.inj (hfn'.symm.trans hfn)
  subst e
  obtain ⟨ds, gs, before, hw, hc, hkk⟩ := (OpenSpec.pre_some hk conds apart _ _).1 hpre.1
  have hw' := DataW.Whole.of_heap (w' := w.forCall tape i) (by rfl) hw
  refine (contract (w.forCall tape i) w.heap.size i.args ds gs before hsh hval hw' hc hkk hholds).mono fun e W' ⟨v, he, hp⟩ => ?_
  subst he
  exact ChangeSpec.post_blind hp
end Go.Proofs.YtlogpojkkbcpjaaGreat.Hc
