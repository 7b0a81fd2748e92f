/- Proof texts, laid together. -/
import Derived.Test.YtlogpojkkbcpjaaPb
import Derived.Test.YtlogpojkkbcpjaaPa
import Derived.ChangeArms
import Derived.JoinedCond
import Derived.Shelf.Vars
/- The reference's exprs, stmts, cases; r07.Check says what tree.Check says (printed by tools/mkZF.py). -/
set_option linter.unusedVariables false
set_option linter.unusedSimpArgs false
namespace Go.Proofs.Ytlogpojkkbcpjaa.Hc
open Go Go.H Go.Proofs
set_option maxRecDepth 100000
set_option maxHeartbeats 16000000
theorem exprs_ok {N : Nat} (K : ∀ d, cnt d ≤ N → NodeOk d) (L : ∀ l, cnts l < N → l.length ≤ 4194304 → ListOk l) (l : List NT) (hc : cnts l ≤ N) (hl : l.length ≤ 4194304) (h : Heap) (a : Option Addr) (c : Nat) (xs : List Value) (s2 : Sl h 6 a l.length c xs) (s3 : TReps h l xs) : HCalls Try.prog 63 #[.slice a l.length c] h fun e h' => e = .returned (.bool (l.all Ex)) ∧ Ext h h' := by
  obtain ⟨z, hz⟩ : ∃ z, z = (l.all Ex) := ⟨_, rfl⟩
  rw [← hz]
  refine c63 (by simp) ?_
  refine gA ?_
  refine loop_rule [7] (fun vs h' => ∃ (i : Nat), vs = [.int .i64 i] ∧ i ≤ l.length ∧ (l.take i).all (Ex) = true ∧ Ext h h')
    (fun vs _ => match vs with | [.int _ i] => l.length - i.toNat | _ => 0) rfl ?_ ?_
  · exact ⟨0, rfl, by omega, by simp, Ext.refl _⟩
  intro u h5 v7
  rintro ⟨i, e, hi, ha, X⟩
  cases e
  refine gA ?_
  refine HIf.mk (fun hlt => ?_) (fun hlt => ?_)
  · have hi1 : i < l.length := by have := of_decide_eq_true hlt; omega
    have hmu : l.length - ((i : Int) + 1).toNat < l.length - ((i : Int)).toNat := by omega
    have at1 := all_take' (q := Ex) hi1
    have hcg := cnts_get l i hi1
    have hno : Ex l[i] = false → z = false := fun e => by rw [hz, all_no hi1 e]
    have Kd := K l[i] (by omega)
    refine gA ?_
    refine HIdx.mk i rfl hi1 ?_
    refine sl_some s2 hi1 fun p ep => ?_
    refine gA ?_
    refine tloadK s2 s3 (.of_ext X) ep hi1 fun cs rk => ?_
    have rk0 := rk
    cases hd : l[i] with
    | mk k' nm' n' t' ns' l' =>
    rw [hd] at rk rk0 at1 hcg hno Kd
    simp only [TRep] at rk
    obtain ⟨_, _, _, _, _, c6, _, ka', kc', la', lc', ys', rfl, _, t2, t3⟩ := rk
    simp only [cnt] at hcg
    have X5 := X.1
    refine gA ?_
    refine new_var (e := 26) zeroT rfl ?_
    intro h6 bo o6 x6 z6 hbo
    refine gA ?_
    refine store_blk o6 (by simp) (by simp [isOne]) ?_
    intro h7 f7 z7 o7
    replace o7 : BlkW h7 bo 26 [.int .i64 k', .string nm', .int .i64 n', .string t', .slice ka' ns'.length kc', .slice la' l'.length lc'] := by simpa using o7
    have X7 : Ext h h7 := (X.trans x6).offNew f7 (by omega)
    clear o6 f7
    refine gN ?_
    refine HCall.mk ((Kd.ex _ _ (rk0.ext X7)).mono ?_)
    rintro e h8 ⟨rfl, x8⟩
    have X8 := X7.trans x8
    cases q8 : Ex (.mk k' nm' n' t' ns' l')
    · have := hno q8
      refine gA ?_
      subst this
      exact ⟨rfl, X8⟩
    · refine gA ?_
      exact ⟨⟨i + 1, rfl, by omega, by rw [at1, ha, q8]; rfl, X8⟩, hmu⟩
  · have hge := of_decide_eq_false hlt
    obtain rfl : i = l.length := by omega
    rw [List.take_length] at ha
    rw [ha] at hz
    refine gA ?_
    subst hz
    exact ⟨rfl, X⟩
theorem stmts_ok {N : Nat} (K : ∀ d, cnt d ≤ N → NodeOk d) (L : ∀ l, cnts l < N → l.length ≤ 4194304 → ListOk l) (l : List NT) (hc : cnts l ≤ N) (hl : l.length ≤ 4194304) (x : Bool) (h : Heap) (a : Option Addr) (c : Nat) (xs : List Value) (s2 : Sl h 6 a l.length c xs) (s3 : TReps h l xs) : HCalls Try.prog 26 #[.slice a l.length c, .bool x] h fun e h' => e = .returned (.bool (l.all (St x))) ∧ Ext h h' := by
  obtain ⟨z, hz⟩ : ∃ z, z = (l.all (St x)) := ⟨_, rfl⟩
  rw [← hz]
  refine c26 (by simp) ?_
  refine gA ?_
  refine loop_rule [9] (fun vs h' => ∃ (i : Nat), vs = [.int .i64 i] ∧ i ≤ l.length ∧ (l.take i).all (St x) = true ∧ Ext h h')
    (fun vs _ => match vs with | [.int _ i] => l.length - i.toNat | _ => 0) rfl ?_ ?_
  · exact ⟨0, rfl, by omega, by simp, Ext.refl _⟩
  intro u h5 v9
  rintro ⟨i, e, hi, ha, X⟩
  cases e
  refine gA ?_
  refine HIf.mk (fun hlt => ?_) (fun hlt => ?_)
  · have hi1 : i < l.length := by have := of_decide_eq_true hlt; omega
    have hmu : l.length - ((i : Int) + 1).toNat < l.length - ((i : Int)).toNat := by omega
    have at1 := all_take' (q := St x) hi1
    have hcg := cnts_get l i hi1
    have hno : St x l[i] = false → z = false := fun e => by rw [hz, all_no hi1 e]
    have Kd := K l[i] (by omega)
    refine gA ?_
    refine HIdx.mk i rfl hi1 ?_
    refine sl_some s2 hi1 fun p ep => ?_
    refine gA ?_
    refine tloadK s2 s3 (.of_ext X) ep hi1 fun cs rk => ?_
    have rk0 := rk
    cases hd : l[i] with
    | mk k' nm' n' t' ns' l' =>
    rw [hd] at rk rk0 at1 hcg hno Kd
    simp only [TRep] at rk
    obtain ⟨_, _, _, _, _, c6, _, ka', kc', la', lc', ys', rfl, _, t2, t3⟩ := rk
    simp only [cnt] at hcg
    have X5 := X.1
    refine gA ?_
    refine new_var (e := 26) zeroT rfl ?_
    intro h6 bo o6 x6 z6 hbo
    refine gA ?_
    refine store_blk o6 (by simp) (by simp [isOne]) ?_
    intro h7 f7 z7 o7
    replace o7 : BlkW h7 bo 26 [.int .i64 k', .string nm', .int .i64 n', .string t', .slice ka' ns'.length kc', .slice la' l'.length lc'] := by simpa using o7
    have X7 : Ext h h7 := (X.trans x6).offNew f7 (by omega)
    clear o6 f7
    by_cases hk' : k' = 39
    · subst hk'
      have q39 : ((39 : Int) == 39) = true := rfl
      have e39 : St x (.mk 39 nm' n' t' ns' l') = (x && mayT (.mk 39 nm' n' t' ns' l')) := by cases x <;> rfl
      rw [may_39] at e39
      rw [e39] at at1 hno
      cases x
      · have := hno rfl
        refine gA ?_
        subst this
        exact ⟨rfl, X7⟩
      · rw [Bool.true_and] at at1 hno
        refine gN ?_
        refine HCall.mk ((ownR_spec (rk0.ext X7)).mono ?_)
        rintro e h8 ⟨rfl, x8⟩
        have o7 := o7.ext x8
        have X8 := X7.trans x8
        cases q8 : ownR (.mk 39 nm' n' t' ns' l')
        · have := hno (by rw [q8]; rfl)
          refine gA ?_
          subst this
          exact ⟨rfl, X8⟩
        · rw [q8, Bool.true_and] at at1 hno
          refine gA ?_
          refine HCall.mk (((L l' (by omega) c6).stsT _ _ _ _ (t2.ext X8) (t3.ext X8)).mono ?_)
          rintro e h9 ⟨rfl, x9⟩
          cases q9 : l'.all (St true)
          · have := hno q9
            refine gA ?_
            subst this
            exact ⟨rfl, X8.trans x9⟩
          · refine gA ?_
            exact ⟨⟨i + 1, rfl, by omega, by rw [at1, ha, q9]; rfl, X8.trans x9⟩, hmu⟩
    · have q39 : (k' == 39) = false := beq_eq_false_iff_ne.2 hk'
      have q39' : (k' != 39) = true := bne_iff_ne.2 hk'
      have eS : St x (.mk k' nm' n' t' ns' l') = St false (.mk k' nm' n' t' ns' l') := by
        show (stB k' x && _) = (stB k' false && _)
        unfold stB
        rw [q39']; rfl
      rw [eS] at at1 hno
      refine gN ?_
      refine HCall.mk ((Kd.st _ _ (rk0.ext X7)).mono ?_)
      rintro e h8 ⟨rfl, x8⟩
      have X8 := X7.trans x8
      cases q8 : St false (.mk k' nm' n' t' ns' l')
      · have := hno q8
        refine gA ?_
        subst this
        exact ⟨rfl, X8⟩
      · refine gA ?_
        exact ⟨⟨i + 1, rfl, by omega, by rw [at1, ha, q8]; rfl, X8⟩, hmu⟩
  · have hge := of_decide_eq_false hlt
    obtain rfl : i = l.length := by omega
    rw [List.take_length] at ha
    rw [ha] at hz
    refine gA ?_
    subst hz
    exact ⟨rfl, X⟩
theorem emptC_take (l : List NT) (i : Nat) (hi : i < l.length) : emptC (l.take (i + 1)) = emptC (l.take i) + (if at_ (Kk 42) l[i].l 0 = true then 1 else 0) := by
  unfold emptC
  rw [take_succ' hi, List.filter_append, List.length_append]
  congr 1
  by_cases h : at_ (Kk 42) l[i].l 0 = true
  · rw [if_pos h]; simp [h]
  · rw [if_neg h]; simp [h]
theorem emptC_len (l : List NT) : emptC l ≤ l.length := List.length_filter_le _ _
theorem cases_ok {N : Nat} (K : ∀ d, cnt d ≤ N → NodeOk d) (L : ∀ l, cnts l < N → l.length ≤ 4194304 → ListOk l) (l : List NT) (hc : cnts l ≤ N) (hl : l.length ≤ 4194304) (h : Heap) (a : Option Addr) (c : Nat) (xs : List Value) (s2 : Sl h 6 a l.length c xs) (s3 : TReps h l xs) : HCalls Try.prog 65 #[.slice a l.length c] h fun e h' => e = .returned (.bool (l.all (Kk 37) && decide (emptC l ≤ 1))) ∧ Ext h h' := by
  obtain ⟨z, hz⟩ : ∃ z, z = (l.all (Kk 37) && decide (emptC l ≤ 1)) := ⟨_, rfl⟩
  rw [← hz]
  refine c65 (by simp) ?_
  refine gA ?_
  refine loop_rule [8, 3] (fun vs h' => ∃ (i : Nat), vs = [.int .i64 i, .int .i64 (emptC (l.take i) : Nat)] ∧ i ≤ l.length ∧ (l.take i).all (Kk 37) = true ∧ Ext h h')
    (fun vs _ => match vs with | [.int _ i, _] => l.length - i.toNat | _ => 0) rfl ?_ ?_
  · exact ⟨0, rfl, by omega, by simp, Ext.refl _⟩
  intro u h5 v8 v3
  rintro ⟨i, e, hi, ha, X⟩
  cases e
  refine gA ?_
  refine HIf.mk (fun hlt => ?_) (fun hlt => ?_)
  · have hi1 : i < l.length := by have := of_decide_eq_true hlt; omega
    have hmu : l.length - ((i : Int) + 1).toNat < l.length - ((i : Int)).toNat := by omega
    have at1 := all_take' (q := Kk 37) hi1
    have hcg := cnts_get l i hi1
    have hno : Kk 37 l[i] = false → z = false := fun e => by rw [hz, all_no hi1 e]; rfl
    have Kd := K l[i] (by omega)
    refine gA ?_
    refine HIdx.mk i rfl hi1 ?_
    refine sl_some s2 hi1 fun p ep => ?_
    refine gA ?_
    refine tloadK s2 s3 (.of_ext X) ep hi1 fun cs rk => ?_
    have rk0 := rk
    cases hd : l[i] with
    | mk k' nm' n' t' ns' l' =>
    rw [hd] at rk rk0 at1 hcg hno Kd
    simp only [TRep] at rk
    obtain ⟨_, _, _, _, _, c6, _, ka', kc', la', lc', ys', rfl, _, t2, t3⟩ := rk
    simp only [cnt] at hcg
    have X5 := X.1
    refine gA ?_
    refine new_var (e := 26) zeroT rfl ?_
    intro h6 bo o6 x6 z6 hbo
    refine gA ?_
    refine store_blk o6 (by simp) (by simp [isOne]) ?_
    intro h7 f7 z7 o7
    replace o7 : BlkW h7 bo 26 [.int .i64 k', .string nm', .int .i64 n', .string t', .slice ka' ns'.length kc', .slice la' l'.length lc'] := by simpa using o7
    have X7 : Ext h h7 := (X.trans x6).offNew f7 (by omega)
    clear o6 f7
    by_cases hk' : k' = 37
    · subst hk'
      have e37 : Kk 37 (.mk 37 nm' n' t' ns' l') = mayT (.mk 37 nm' n' t' ns' l') := rfl
      rw [may_37] at e37
      rw [e37] at at1 hno
      refine gN ?_
      refine HCall.mk ((ownR_spec (rk0.ext X7)).mono ?_)
      rintro e h8 ⟨rfl, x8⟩
      have o7 := o7.ext x8
      have X8 := X7.trans x8
      cases q8 : ownR (.mk 37 nm' n' t' ns' l')
      · have := hno (by rw [q8]; rfl)
        refine gA ?_
        subst this
        exact ⟨rfl, X8⟩
      rw [q8, Bool.true_and] at at1 hno
      by_cases hl1 : 1 ≤ l'.length
      · have ql : ((l'.length : Int) == 0) = false := beq_eq_false_iff_ne.2 (by omega)
        have hl0 : 0 < l'.length := hl1
        have K0 := K l'[0] (by have := cnts_get l' 0 hl0; omega)
        have e0 : emptC (l.take (i + 1)) = emptC (l.take i) + (if Kk 42 l'[0] = true then 1 else 0) := by
          rw [emptC_take l i hi1, hd]
          show _ + (if at_ (Kk 42) l' 0 = true then 1 else 0) = _
          rw [at_in hl0]
        have el := emptC_len (l.take i)
        rw [List.length_take] at el
        generalize emptC (l.take i) = ec at e0 el
        rw [decide_eq_true hl1, Bool.true_and, at_in hl0, at_in hl0] at at1 hno
        refine gA ?_
        refine HIdx.mk 0 rfl hl0 ?_
        refine sl_some t2 hl0 fun p ep => ?_
        refine gA ?_
        refine tloadK t2 t3 (.of_ext X8) ep hl0 fun cs rk => ?_
        refine gA ?_
        refine HCall.mk ((K0.em _ _ (rk.ext X8)).mono ?_)
        rintro e g1 ⟨rfl, y1⟩
        have o7 := o7.ext y1
        have X8 := X8.trans y1
        cases q1 : Kk 42 l'[0]
        · rw [q1, Bool.false_or] at at1 hno
          refine gA ?_
          refine HIdx.mk 0 rfl hl0 ?_
          refine sl_some t2 hl0 fun p ep => ?_
          refine gA ?_
          refine tloadK t2 t3 (.of_ext X8) ep hl0 fun cs rk => ?_
          refine gA ?_
          refine HCall.mk ((K0.ex _ _ (rk.ext X8)).mono ?_)
          rintro e g2 ⟨rfl, y2⟩
          have o7 := o7.ext y2
          have X8 := X8.trans y2
          cases q2 : Ex l'[0]
          · have := hno (by rw [q2]; rfl)
            refine gA ?_
            subst this
            exact ⟨rfl, X8⟩
          rw [q2, Bool.true_and] at at1 hno
          refine gA ?_
          refine HBound.mk 1 rfl (by omega) ?_
          refine gA ?_
          obtain ⟨sd, td⟩ := drop_sl6 t2 t3 hl1
          refine HCall.mk (((L (l'.drop 1) (by have := cnts_drop' l' 1; omega) (by rw [List.length_drop]; omega)).stsF' _ _ _ _ List.length_drop (sd.ext X8) (td.ext X8)).mono ?_)
          rintro e g3 ⟨rfl, y3⟩
          have o7 := o7.ext y3
          have X8 := X8.trans y3
          cases q3 : (l'.drop 1).all (St false)
          · have := hno q3
            refine gA ?_
            subst this
            exact ⟨rfl, X8⟩
          rw [q3, Bool.and_true] at at1
          refine gA ?_
          refine HIdx.mk 0 rfl hl0 ?_
          refine sl_some t2 hl0 fun p ep => ?_
          refine gA ?_
          refine tloadK t2 t3 (.of_ext X8) ep hl0 fun cs rk => ?_
          refine gA ?_
          refine HCall.mk ((K0.em _ _ (rk.ext X8)).mono ?_)
          rintro e g4 ⟨rfl, y4⟩
          have o7 := o7.ext y4
          have X8 := X8.trans y4
          rw [q1, if_neg (by simp)] at e0
          rw [q1]
          refine gA ?_
          exact ⟨⟨i + 1, by rw [e0]; rfl, by omega, by rw [at1, ha], X8⟩, hmu⟩
        · rw [q1, Bool.true_or, Bool.true_and] at at1 hno
          refine gA ?_
          refine HBound.mk 1 rfl (by omega) ?_
          refine gA ?_
          obtain ⟨sd, td⟩ := drop_sl6 t2 t3 hl1
          refine HCall.mk (((L (l'.drop 1) (by have := cnts_drop' l' 1; omega) (by rw [List.length_drop]; omega)).stsF' _ _ _ _ List.length_drop (sd.ext X8) (td.ext X8)).mono ?_)
          rintro e g3 ⟨rfl, y3⟩
          have o7 := o7.ext y3
          have X8 := X8.trans y3
          cases q3 : (l'.drop 1).all (St false)
          · have := hno q3
            refine gA ?_
            subst this
            exact ⟨rfl, X8⟩
          rw [q3, Bool.and_true] at at1
          refine gA ?_
          refine HIdx.mk 0 rfl hl0 ?_
          refine sl_some t2 hl0 fun p ep => ?_
          refine gA ?_
          refine tloadK t2 t3 (.of_ext X8) ep hl0 fun cs rk => ?_
          refine gA ?_
          refine HCall.mk ((K0.em _ _ (rk.ext X8)).mono ?_)
          rintro e g4 ⟨rfl, y4⟩
          have o7 := o7.ext y4
          have X8 := X8.trans y4
          rw [q1, if_pos rfl] at e0
          rw [q1]
          refine gA ?_
          exact ⟨⟨i + 1, by rw [e0]; rfl, by omega, by rw [at1, ha], X8⟩, hmu⟩
      · have ql : ((l'.length : Int) == 0) = true := beq_iff_eq.2 (by omega)
        have := hno (by rw [decide_eq_false hl1]; rfl)
        refine gA ?_
        subst this
        exact ⟨rfl, X8⟩
    · have qk : (k' != 37) = true := bne_iff_ne.2 hk'
      have := hno (by show ((k' == 37) && _) = false; rw [beq_eq_false_iff_ne.2 hk']; rfl)
      refine gA ?_
      subst this
      exact ⟨rfl, X7⟩
  · have hge := of_decide_eq_false hlt
    obtain rfl : i = l.length := by omega
    rw [List.take_length] at ha
    rw [ha, Bool.true_and] at hz
    refine gA ?_
    have q9 : decide ((emptC l : Int) ≤ 1) = z := by
      rw [hz, Bool.eq_iff_iff, decide_eq_true_iff, decide_eq_true_iff]; omega
    exact ⟨by rw [← q9, List.take_length]; rfl, X⟩
theorem all_ok : ∀ N : Nat, (∀ d, cnt d ≤ N → NodeOk d) ∧ (∀ l, cnts l ≤ N → l.length ≤ 4194304 → ListOk l) := by
  intro N
  induction N with
  | zero =>
    have K : ∀ d, cnt d ≤ 0 → NodeOk d := fun d hd => by cases d; simp only [cnt] at hd; omega
    refine ⟨K, fun l hl hn => ?_⟩
    have L : ∀ l : List NT, cnts l < 0 → l.length ≤ 4194304 → ListOk l := fun l h => by omega
    exact ⟨exprs_ok K L l hl hn, stmts_ok K L l hl hn, cases_ok K L l hl hn⟩
  | succ N ih =>
    have K1 : ∀ d, cnt d < N + 1 → NodeOk d := fun d hd => ih.1 d (by omega)
    have L1 : ∀ l, cnts l < N + 1 → l.length ≤ 4194304 → ListOk l := fun l hl hn => ih.2 l (by omega) hn
    have K : ∀ d, cnt d ≤ N + 1 → NodeOk d := fun d hd => ⟨expr_ok K1 L1 d hd, stmt_ok K1 L1 d hd, block_ok K1 L1 d hd, decls_ok K1 L1 d hd, empty_ok K1 L1 d hd⟩
    exact ⟨K, fun l hl hn => ⟨exprs_ok K L1 l hl hn, stmts_ok K L1 l hl hn, cases_ok K L1 l hl hn⟩⟩
theorem rdeep_spec : ∀ (m : Nat) (d : NT) (_ : cnt d = m) (h : Heap) (cs : List Value) (_ : TRep h d cs) (_ : cnt d ≤ 4194304),
    HCalls Try.prog 27 #[.agg cs.toArray] h fun e h' => e = .returned (.int .i64 (deepT d)) ∧ Ext h h' := by
  intro m
  induction m using Nat.strongRecOn with
  | ind m ih =>
  intro d hm h cs r hc
  cases d with
  | mk k nm n t ns l =>
  simp only [TRep] at r
  obtain ⟨b1, b2, b3, b4, b5, b6, b7, ka, kc, la, lc, ys, rfl, s1, s2, s3⟩ := r
  have hdc := deepL_cnt l
  simp only [cnt] at hm hc
  refine c27 (by simp) ?_
  refine gA ?_
  refine new_var (e := 26) [.int .i64 k, .string nm, .int .i64 n, .string t, .slice ka ns.length kc, .slice la l.length lc] rfl ?_
  intro h1 bn o1 x1 z1 hbn
  refine gA ?_
  refine loop_rule [3, 9] (fun vs h' => ∃ (i : Nat), vs = [.int .i64 (deepL (l.take i)), .int .i64 i] ∧ i ≤ l.length ∧ Ext h h')
    (fun vs _ => match vs with | [_, .int _ i] => l.length - i.toNat | _ => 0) rfl ?_ ?_
  · exact ⟨0, rfl, by omega, x1⟩
  intro u h2 v3 v9
  rintro ⟨i, e, hi, x2⟩
  cases e
  refine gA ?_
  refine HIf.mk (fun hlt => ?_) (fun hlt => ?_)
  · have hi1 : i < l.length := by have := of_decide_eq_true hlt; omega
    have hmu : l.length - ((i : Int) + 1).toNat < l.length - ((i : Int)).toNat := by omega
    have dt := deepL_take l i hi1
    have hcg := cnts_get l i hi1
    generalize deepL (l.take i) = q at dt
    refine gA ?_
    refine HIdx.mk i rfl hi1 ?_
    refine sl_some s2 hi1 fun p ep => ?_
    refine gA ?_
    refine tload' s2 s3 x2 ep hi1 fun cs rt => ?_
    refine gA ?_
    refine new_var (e := 26) zeroT rfl ?_
    intro h3 b3' o3 x3 z3 hb3
    refine gA ?_
    have hcl := rt.len
    refine HMust.mk (by simpa using hcl) ?_
    refine store_blk o3 (by simp [hcl]) (by simpa using rt.one) ?_
    intro h4 f4 z4 o4
    have o4' : BlkW h4 b3' 26 cs := by
      have e : (zeroT : List Value).drop (0 + cs.toArray.toList.length) = [] := by simp [hcl]
      rw [e] at o4
      simpa using o4
    have x24 : Ext h2 h4 := x3.offNew f4 (by omega)
    clear o3 o4
    refine gA ?_
    refine blk_ldN o4' hcl ?_
    refine gA ?_
    refine HCall.mk ((ih (cnt l[i]) (by omega) l[i] rfl h4 cs (rt.ext (x2.trans x24)) (by omega)).mono ?_)
    rintro e h5 ⟨rfl, x5⟩
    have em : (if (deepT l[i] : Int) > (q : Int) then (deepT l[i] : Int) else (q : Int)) = ((deepL (l.take (i + 1)) : Nat) : Int) := by rw [dt]; split <;> omega
    refine gA ?_
    exact ⟨⟨i + 1, by rw [← em]; rfl, by omega, x2.trans (x24.trans x5)⟩, hmu⟩
  · have hge := of_decide_eq_false hlt
    obtain rfl : i = l.length := by omega
    rw [List.take_length]
    refine gA ?_
    exact ⟨by simp only [deepT]; rfl, x2⟩
theorem rcheck_spec {d : NT} {h : Heap} {cs : List Value} (r : TRep h d cs) (hc : cnt d ≤ 4194304) : HCalls Try.prog 14 #[.agg cs.toArray] h fun e h' => e = .returned (.int .i64 (tcheck d)) ∧ Ext h h' := by
  cases d with
  | mk k nm n t ns l =>
  have rt := r
  simp only [TRep] at r
  obtain ⟨b1, b2, b3, b4, b5, b6, b7, ka, kc, la, lc, ys, rfl, s1, s2, s3⟩ := r
  have hz : tcheck (.mk k nm n t ns l) = (if k ≠ 41 ∨ mayT (.mk k nm n t ns l) = false then 70 else if deepT (.mk k nm n t ns l) > 64 then 31 else 0) := rfl
  generalize tcheck (.mk k nm n t ns l) = z at hz
  refine c14 (by simp) ?_
  refine gA ?_
  refine new_var (e := 26) [.int .i64 k, .string nm, .int .i64 n, .string t, .slice ka ns.length kc, .slice la l.length lc] rfl ?_
  intro h1 bn o1 X z1 hbn
  by_cases hk : k = 41
  · subst hk
    have hm := may_41 nm n t ns l
    refine gN ?_
    refine HCall.mk ((ownR_spec (rt.ext X)).mono ?_)
    rintro e h2 ⟨rfl, x2⟩
    have o1 := o1.ext x2
    have X := X.trans x2
    cases q : ownR (.mk 41 nm n t ns l)
    · rw [q, Bool.false_and] at hm
      rw [if_pos (.inr hm)] at hz
      refine gA ?_
      subst hz
      exact ⟨rfl, X⟩
    rw [q, Bool.true_and] at hm
    refine gA ?_
    refine HCall.mk ((((all_ok (cnts l)).2 l (Nat.le_refl _) b6).stsT _ _ _ _ (s2.ext X) (s3.ext X)).mono ?_)
    rintro e h3 ⟨rfl, x3⟩
    have o1 := o1.ext x3
    have X := X.trans x3
    cases q2 : l.all (St true)
    · rw [q2] at hm
      rw [if_pos (.inr hm)] at hz
      refine gA ?_
      subst hz
      exact ⟨rfl, X⟩
    rw [q2] at hm
    rw [if_neg (by rw [hm]; simp)] at hz
    refine gN ?_
    refine HCall.mk ((rdeep_spec _ (.mk 41 nm n t ns l) rfl h3 _ (rt.ext X) hc).mono ?_)
    rintro e h4 ⟨rfl, x4⟩
    by_cases hd : deepT (.mk 41 nm n t ns l) > 64
    · have q3 : decide ((deepT (.mk 41 nm n t ns l) : Int) > 64) = true := decide_eq_true (by omega)
      rw [if_pos hd] at hz
      refine gA ?_
      subst hz
      exact ⟨rfl, X.trans x4⟩
    · have q3 : decide ((deepT (.mk 41 nm n t ns l) : Int) > 64) = false := decide_eq_false (by omega)
      rw [if_neg hd] at hz
      refine gA ?_
      subst hz
      exact ⟨rfl, X.trans x4⟩
  · have q : (k != 41) = true := bne_iff_ne.2 hk
    rw [if_pos (.inl hk)] at hz
    refine gA ?_
    subst hz
    exact ⟨rfl, X⟩
end Go.Proofs.Ytlogpojkkbcpjaa.Hc
/- The law ScopeWraps (printed by tools/mkZG.py). -/
set_option linter.unusedVariables false
set_option linter.unusedSimpArgs false
set_option linter.unusedSectionVars false
namespace Go.Proofs.Ytlogpojkkbcpjaa.Hc
open Go Go.H Go.Proofs
set_option maxRecDepth 100000
set_option maxHeartbeats 16000000
def tBlock (d : NT) : NT := nodeT 25 emp [d]
def tLoop (d : NT) : NT := nodeT 27 emp [leafT 5 emp, tBlock d]
def tFun (d : NT) : NT := nodeT 24 emp [nodeT 10 emp [d]]
def tLabel (nm : ByteArray) (d : NT) : NT := nodeT 38 nm [d]
abbrev Gives (h : Heap) (d : NT) (e : Ending) (h' : Heap) : Prop := ∃ cs : List Value, e = .returned (.agg cs.toArray) ∧ TRep h' d cs ∧ Ext h h'
theorem wblock_spec {h : Heap} {d : NT} {cs : List Value} (r : TRep h d cs) : HCalls Try.prog 9 #[.agg cs.toArray] h fun e h' =>
    ∃ b, e = .returned (.agg #[.int .i64 25, .string emp, .int .i64 0, .string emp, .slice none 0 0, .slice (some ⟨b, 0, none⟩) 1 1]) ∧ Own h' h.size 26 6 (some ⟨b, 0, none⟩) 1 1 cs ∧ Ext h h' := by
  cases d with
  | mk k nm n t ns l =>
  simp only [TRep] at r
  obtain ⟨b1, b2, b3, b4, b5, b6, b7, ka, kc, la, lc, ys, rfl, s1, s2, s3⟩ := r
  refine c9 (by simp) ?_
  refine gA ?_
  refine new_var (e := 26) [.int .i64 k, .string nm, .int .i64 n, .string t, .slice ka ns.length kc, .slice la l.length lc] rfl ?_
  intro h1 b1' o1 x1 z1 hb1
  refine gA ?_
  refine new_var (e := 26) zeroT rfl ?_
  intro h2 b2' o2 x2 z2 hb2
  have o1 := o1.ext x2
  refine gN ?_
  refine new_own (e := 26) 6 1 [.int .i64 k, .string nm, .int .i64 n, .string t, .slice ka ns.length kc, .slice la l.length lc] rfl rfl ?_
  intro h3 b3' w3 x3 z3 hb3
  have o2 := o2.ext x3
  have lt2 := o2.lt
  have hx1 := x1.1
  have hx2 := x2.1
  refine gA ?_
  refine store_blk o2 (by simp) (by simp [isOne]) ?_
  intro h4 f4 z4 o4
  replace o4 : BlkW h4 b2' 26 [.int .i64 25, .string emp, .int .i64 0, .string emp, .slice none 0 0, .slice (some ⟨b3', 0, none⟩) 1 1] := by simpa using o4
  have X : Ext h h4 := ((x1.trans x2).trans x3).offNew f4 (by omega)
  have w4 := w3.off f4 (fun p ep => by cases ep; show b3' ≠ b2'; omega)
  refine gN ?_
  exact ⟨b3', rfl, w4.lower (by omega), X⟩
theorem block_rep {h : Heap} {B b : Nat} {d : NT} {cs : List Value} (w : Own h B 26 6 (some ⟨b, 0, none⟩) 1 1 cs) (r : TRep h d cs) : TRep h (tBlock d) [.int .i64 25, .string emp, .int .i64 0, .string emp, .slice none 0 0, .slice (some ⟨b, 0, none⟩) 1 1] :=
  trep_mk (l := [d]) (i64_small (by omega)) (i64_small (by omega)) (by decide) (by decide) (by simp) w.sl (treps1 r)
theorem wloop_spec {h : Heap} {d : NT} {cs : List Value} {b : Nat} (r : TRep h d cs) (o : BlkW h b 27 [.func (.func 9) #[] #[]]) : HCalls Try.prog 10 #[.agg cs.toArray, .pointer (some ⟨b, 0, none⟩)] h fun e h' => Gives h (tLoop d) e h' := by
  cases d with
  | mk k nm n t ns l =>
  have rt := r
  simp only [TRep] at r
  obtain ⟨b1, b2, b3, b4, b5, b6, b7, ka, kc, la, lc, ys, rfl, s1, s2, s3⟩ := r
  refine c10 (by simp) ?_
  refine gA ?_
  refine new_var (e := 26) [.int .i64 k, .string nm, .int .i64 n, .string t, .slice ka ns.length kc, .slice la l.length lc] rfl ?_
  intro h1 b1' o1 x1 z1 hb1
  have o := o.ext x1
  refine gA ?_
  refine new_var (e := 26) zeroT rfl ?_
  intro h2 b2' o2 x2 z2 hb2
  have o1 := o1.ext x2
  have o := o.ext x2
  have x02 := x1.trans x2
  have hx1 := x1.1
  have hx2 := x2.1
  refine gN ?_
  (try refine HMust.mk (by kernel_rfl) ?_)
  (try refine gN ?_)
  refine HCall.mk ((wblock_spec (rt.ext x02)).mono ?_)
  rintro e h3 ⟨b3', rfl, w3, x3⟩
  have o2 := o2.ext x3
  have hx3 := x3.1
  have w3lt := w3.lt _ rfl
  refine gA ?_
  refine new_own (e := 26) 6 2 [.int .i64 5, .string emp, .int .i64 0, .string emp, .slice none 0 0, .slice none 0 0, .int .i64 25, .string emp, .int .i64 0, .string emp, .slice none 0 0, .slice (some ⟨b3', 0, none⟩) 1 1] rfl rfl ?_
  intro h4 b4' w4 x4 z4 hb4
  have o2 := o2.ext x4
  have lt2 := o2.lt
  refine gA ?_
  refine store_blk o2 (by simp) (by simp [isOne]) ?_
  intro h5 f5 z5 o5
  replace o5 : BlkW h5 b2' 26 [.int .i64 27, .string emp, .int .i64 0, .string emp, .slice none 0 0, .slice (some ⟨b4', 0, none⟩) 2 2] := by simpa using o5
  have X34 : Ext h h4 := (x02.trans x3).trans x4
  have X : Ext h h5 := X34.offNew f5 (by omega)
  have w5 := w4.off f5 (fun p ep => by cases ep; show b4' ≠ b2'; omega)
  have w35 := (w3.ext x4).off f5 (fun p ep => by cases ep; have := w3lt.1; show b3' ≠ b2'; have h2' : h2.size ≤ b3' := this; omega)
  refine gN ?_
  exact ⟨_, rfl, trep_mk (l := [leafT 5 emp, tBlock (.mk k nm n t ns l)]) (i64_small (by omega)) (i64_small (by omega)) (by decide) (by decide) (by simp) w5.sl (treps2 (trep_leaf (i64_small (by omega)) (i64_small (by omega)) (by decide) (by decide)) (block_rep w35 (rt.ext X))), X⟩
theorem wfun_spec {h : Heap} {d : NT} {cs : List Value} (r : TRep h d cs) : HCalls Try.prog 11 #[.agg cs.toArray] h fun e h' => Gives h (tFun d) e h' := by
  cases d with
  | mk k nm n t ns l =>
  have rt := r
  simp only [TRep] at r
  obtain ⟨b1, b2, b3, b4, b5, b6, b7, ka, kc, la, lc, ys, rfl, s1, s2, s3⟩ := r
  refine c11 (by simp) ?_
  refine gA ?_
  refine new_var (e := 26) [.int .i64 k, .string nm, .int .i64 n, .string t, .slice ka ns.length kc, .slice la l.length lc] rfl ?_
  intro h1 b1' o1 x1 z1 hb1
  refine gA ?_
  refine new_var (e := 26) zeroT rfl ?_
  intro h2 b2' o2 x2 z2 hb2
  have o1 := o1.ext x2
  have hx1 := x1.1
  have hx2 := x2.1
  refine gN ?_
  refine new_own (e := 26) 6 1 [.int .i64 k, .string nm, .int .i64 n, .string t, .slice ka ns.length kc, .slice la l.length lc] rfl rfl ?_
  intro h3 b3' w3 x3 z3 hb3
  have o2 := o2.ext x3
  refine gA ?_
  refine new_own (e := 26) 6 1 [.int .i64 10, .string emp, .int .i64 0, .string emp, .slice none 0 0, .slice (some ⟨b3', 0, none⟩) 1 1] rfl rfl ?_
  intro h4 b4' w4 x4 z4 hb4
  have o2 := o2.ext x4
  have lt2 := o2.lt
  refine gA ?_
  refine store_blk o2 (by simp) (by simp [isOne]) ?_
  intro h5 f5 z5 o5
  replace o5 : BlkW h5 b2' 26 [.int .i64 24, .string emp, .int .i64 0, .string emp, .slice none 0 0, .slice (some ⟨b4', 0, none⟩) 1 1] := by simpa using o5
  have X : Ext h h5 := (((x1.trans x2).trans x3).trans x4).offNew f5 (by omega)
  have w35 := (w3.ext x4).off f5 (fun p ep => by cases ep; show b3' ≠ b2'; omega)
  have w45 := w4.off f5 (fun p ep => by cases ep; show b4' ≠ b2'; omega)
  refine gN ?_
  exact ⟨_, rfl, trep_mk (l := [nodeT 10 emp [.mk k nm n t ns l]]) (i64_small (by omega)) (i64_small (by omega)) (by decide) (by decide) (by simp) w45.sl (treps1 (trep_mk (l := [.mk k nm n t ns l]) (i64_small (by omega)) (i64_small (by omega)) (by decide) (by decide) (by simp) w35.sl (treps1 (rt.ext X)))), X⟩
theorem wlabel_spec {h : Heap} {d : NT} {cs : List Value} {b : Nat} {name : ByteArray} (hs : name.size ≤ 4194304) (r : TRep h d cs) (o : BlkW h b 9 [.string name]) : HCalls Try.prog 15 #[.agg cs.toArray, .pointer (some ⟨b, 0, none⟩)] h fun e h' => Gives h (tLabel name d) e h' := by
  cases d with
  | mk k nm n t ns l =>
  have rt := r
  simp only [TRep] at r
  obtain ⟨b1, b2, b3, b4, b5, b6, b7, ka, kc, la, lc, ys, rfl, s1, s2, s3⟩ := r
  refine c15 (by simp) ?_
  refine gA ?_
  refine new_var (e := 26) [.int .i64 k, .string nm, .int .i64 n, .string t, .slice ka ns.length kc, .slice la l.length lc] rfl ?_
  intro h1 b1' o1 x1 z1 hb1
  have o := o.ext x1
  refine gA ?_
  refine new_var (e := 26) zeroT rfl ?_
  intro h2 b2' o2 x2 z2 hb2
  have o1 := o1.ext x2
  have o := o.ext x2
  have hx1 := x1.1
  have hx2 := x2.1
  refine gN ?_
  refine new_own (e := 26) 6 1 [.int .i64 k, .string nm, .int .i64 n, .string t, .slice ka ns.length kc, .slice la l.length lc] rfl rfl ?_
  intro h3 b3' w3 x3 z3 hb3
  have o2 := o2.ext x3
  have lt2 := o2.lt
  refine gA ?_
  refine store_blk o2 (by simp) (by simp [isOne]) ?_
  intro h4 f4 z4 o4
  replace o4 : BlkW h4 b2' 26 [.int .i64 38, .string name, .int .i64 0, .string emp, .slice none 0 0, .slice (some ⟨b3', 0, none⟩) 1 1] := by simpa using o4
  have X : Ext h h4 := ((x1.trans x2).trans x3).offNew f4 (by omega)
  have w34 := w3.off f4 (fun p ep => by cases ep; show b3' ≠ b2'; omega)
  refine gN ?_
  exact ⟨_, rfl, trep_mk (l := [.mk k nm n t ns l]) (i64_small (by omega)) (i64_small (by omega)) hs (by decide) (by simp) w34.sl (treps1 (rt.ext X)), X⟩
theorem wcheck_spec {h : Heap} {d : NT} {cs : List Value} (r : TRep h d cs) (g : Glb h) (hc : cnt d ≤ 4000000) : HCalls Try.prog 12 #[.agg cs.toArray] h fun e h' => e = .returned (.int .i64 (checkS (progT [d]))) ∧ Ext h h' := by
  cases d with
  | mk k nm n t ns l =>
  have rt := r
  simp only [TRep] at r
  obtain ⟨b1, b2, b3, b4, b5, b6, b7, ka, kc, la, lc, ys, rfl, s1, s2, s3⟩ := r
  refine c12 (by simp) ?_
  refine gA ?_
  refine new_var (e := 26) [.int .i64 k, .string nm, .int .i64 n, .string t, .slice ka ns.length kc, .slice la l.length lc] rfl ?_
  intro h1 b1' o1 x1 z1 hb1
  refine gN ?_
  refine new_own (e := 26) 6 1 [.int .i64 k, .string nm, .int .i64 n, .string t, .slice ka ns.length kc, .slice la l.length lc] rfl rfl ?_
  intro h3 b3' w3 x3 z3 hb3
  have X := x1.trans x3
  refine gA ?_
  refine HCall.mk ((check_spec (d := progT [.mk k nm n t ns l]) (trep_mk (l := [.mk k nm n t ns l]) (i64_small (by omega)) (i64_small (by omega)) (by decide) (by decide) (by simp) w3.sl (treps1 (rt.ext X))) (g.ext X) (by simp only [cnt, cnts] at hc ⊢; omega)).mono ?_)
  rintro e h4 ⟨rfl, x4⟩
  refine gA ?_
  exact ⟨rfl, X.trans x4⟩
/-! ### What they come to -/
theorem wr1 : checkS (progT [tLoop (leafT 31 emp)]) = 0 := by decide +kernel
theorem wr2 : checkS (progT [tLoop (leafT 32 emp)]) = 0 := by decide +kernel
theorem wr3 : checkS (progT [leafT 31 emp]) = 90 := by decide +kernel
theorem wr4 : checkS (progT [leafT 32 emp]) = 90 := by decide +kernel
theorem wr5 : checkS (progT [tFun (leafT 33 emp)]) = 0 := by decide +kernel
theorem wr6 : checkS (progT [tLoop (leafT 33 emp)]) = 90 := by decide +kernel
theorem wr7 : checkS (progT [tLoop (tFun (leafT 31 emp))]) = 90 := by decide +kernel
theorem own_plain (k : Int) (nm : ByteArray) (l : List NT) : ownR (.mk k nm 0 emp [] l) = namedR k nm l := by
  have e2 : ownR (.mk k nm 0 emp [] l) = (namedR k nm l && (!(!strEq emp ⟨#[]⟩ && (k != 2) && (k != 9)) && (evenB emp && (numR k 0 && (!(decide ((([] : List ByteArray).length : Int) > 0) && (k != 10) && (k != 39)) && !(([] : List ByteArray).any fun s => !isNameB s)))))) := rfl
  have h1 : strEq emp ⟨#[]⟩ = true := (strEq_iff _ _).2 rfl
  have h2 : evenB emp = true := by decide +kernel
  have h3 : numR k 0 = true := by unfold numR; split; rfl; split <;> rfl
  rw [e2, h1, h2, h3]; simp
section
variable {nm : ByteArray} (hn : isNameB nm = true) (h0 : strEq nm ⟨#[]⟩ = false)
include hn h0
theorem may_leafN {k : Int} (hk : k = 31 ∨ k = 32) : mayT (leafT k nm) = true := by
  rcases hk with rfl | rfl
  · rw [may_31, own_plain]; show ((strEq nm ⟨#[]⟩ || isNameB nm) && _) = true; rw [hn, h0]; rfl
  · rw [may_32, own_plain]; show ((strEq nm ⟨#[]⟩ || isNameB nm) && _) = true; rw [hn, h0]; rfl
theorem st_leafN {k : Int} (hk : k = 31 ∨ k = 32) : St false (leafT k nm) = true := by
  have := may_leafN hn h0 hk
  rcases hk with rfl | rfl
  · show (true && _) = true; exact this
  · show (true && _) = true; exact this
theorem may_blockN {d : NT} (hd : St false d = true) : mayT (tBlock d) = true := by
  unfold tBlock
  rw [may_25, own_plain, List.all_cons, hd]
  show (strEq emp ⟨#[]⟩ && _) = true
  rw [(strEq_iff emp ⟨#[]⟩).2 rfl]; rfl
theorem may_labelN {d : NT} (hd : St false d = true) : mayT (tLabel nm d) = true := by
  unfold tLabel
  rw [may_38, own_plain]
  show (isNameB nm && (true && St false d)) = true
  rw [hn, hd]; rfl
theorem may_loopN {d : NT} (hd : St false d = true) : mayT (tLoop d) = true := by
  have hb := may_blockN hn h0 hd
  unfold tLoop
  rw [may_27, own_plain]
  show (strEq emp ⟨#[]⟩ && (true && Ex (leafT 5 emp) && ((25 : Int) == 25 && mayT (tBlock d)))) = true
  rw [(strEq_iff emp ⟨#[]⟩).2 rfl, hb]; decide +kernel
theorem may_funN {d : NT} (hd : St true d = true) : mayT (tFun d) = true := by
  have hf : mayT (nodeT 10 emp [d]) = true := by
    rw [may_10, own_plain, List.all_cons, hd]
    show ((strEq emp ⟨#[]⟩ || _) && _) = true
    rw [(strEq_iff emp ⟨#[]⟩).2 rfl]; rfl
  unfold tFun
  rw [may_24, own_plain]
  show (strEq emp ⟨#[]⟩ && (true && (true && mayT (nodeT 10 emp [d])))) = true
  rw [(strEq_iff emp ⟨#[]⟩).2 rfl, hf]; rfl
end
theorem st_of {d : NT} (k : stB d.kind false = true) (h : mayT d = true) : St false d = true := by unfold St; rw [k, h]; rfl
theorem stt_of {d : NT} (k : stB d.kind true = true) (h : mayT d = true) : St true d = true := by unfold St; rw [k, h]; rfl
/-- What a program of one statement comes to. -/
theorem check_one {d : NT} (h1 : St true d = true) (h2 : deepT d ≤ 60) : checkS (progT [d]) = if anyT earlyB d env0 = true then 90 else 0 := by
  have hm : mayT (progT [d]) = true := by
    rw [may_41, own_plain, List.all_cons, h1]
    show (strEq emp ⟨#[]⟩ && _) = true
    rw [(strEq_iff emp ⟨#[]⟩).2 rfl]; rfl
  have ht : tcheck (progT [d]) = 0 := by
    unfold tcheck
    rw [if_neg (by rintro (h | h); exact h rfl; rw [hm] at h; cases h), if_neg (by simp only [deepT, deepL]; omega)]
  have ha : anyT earlyB (progT [d]) env0 = anyT earlyB d env0 := by
    simp only [anyT, anyL, Bool.or_false]
    rw [earlyB_mk, innerV_mk]; rfl
  unfold checkS
  rw [ht, if_neg (by simp), ha]
section
variable {nm : ByteArray} (hn : isNameB nm = true) (h0 : strEq nm ⟨#[]⟩ = false)
include hn h0
theorem wn1 : checkS (progT [tLabel nm (tBlock (leafT 31 nm))]) = 0 := by
  have e : strEq nm nm = true := (strEq_iff _ _).2 rfl
  rw [check_one (stt_of rfl (may_labelN hn h0 (st_of rfl (may_blockN hn h0 (st_leafN hn h0 (.inl rfl)))))) (by simp [tLabel, tBlock, deepT, deepL])]
  simp only [tLabel, tBlock, anyT, anyL, earlyB_mk, innerV_mk, Bool.or_false]
  simp [loopK, findL, e, h0, bannedB, kidKind, env0, bottomK, bottomL]
theorem wn2 : checkS (progT [tLabel nm (tBlock (leafT 32 nm))]) = 90 := by
  have e : strEq nm nm = true := (strEq_iff _ _).2 rfl
  rw [check_one (stt_of rfl (may_labelN hn h0 (st_of rfl (may_blockN hn h0 (st_leafN hn h0 (.inr rfl)))))) (by simp [tLabel, tBlock, deepT, deepL])]
  simp only [tLabel, tBlock, anyT, anyL, earlyB_mk, innerV_mk, Bool.or_false]
  simp [loopK, findL, e, h0, bannedB, kidKind, env0, bottomK, bottomL]
theorem wn3 : checkS (progT [tLabel nm (tLoop (leafT 32 nm))]) = 0 := by
  have e : strEq nm nm = true := (strEq_iff _ _).2 rfl
  rw [check_one (stt_of rfl (may_labelN hn h0 (st_of rfl (may_loopN hn h0 (st_leafN hn h0 (.inr rfl)))))) (by simp [tLabel, tLoop, tBlock, deepT, deepL])]
  simp only [tLabel, tLoop, tBlock, anyT, anyL, earlyB_mk, innerV_mk, Bool.or_false]
  simp [loopK, findL, e, h0, bannedB, kidKind, env0, bottomK, bottomL]
theorem wn4 : checkS (progT [tLoop (leafT 31 nm)]) = 90 := by
  rw [check_one (stt_of rfl (may_loopN hn h0 (st_leafN hn h0 (.inl rfl)))) (by simp [tLoop, tBlock, deepT, deepL])]
  simp only [tLabel, tLoop, tBlock, anyT, anyL, earlyB_mk, innerV_mk, Bool.or_false]
  simp [loopK, findL, h0, bannedB, kidKind, env0, bottomK, bottomL]
theorem wn5 : checkS (progT [tLabel nm (tLabel nm (leafT 31 emp))]) = 90 := by
  have e : strEq nm nm = true := (strEq_iff _ _).2 rfl
  have hb : St false (leafT 31 emp) = true := by decide +kernel
  rw [check_one (stt_of rfl (may_labelN hn h0 (st_of rfl (may_labelN hn h0 hb)))) (by simp [tLabel, deepT, deepL])]
  simp only [tLabel, tLoop, tBlock, anyT, anyL, earlyB_mk, innerV_mk, Bool.or_false]
  simp [loopK, findL, e, h0, bannedB, kidKind, env0, bottomK, bottomL]
theorem wn6 : checkS (progT [tLabel nm (tFun (leafT 31 nm))]) = 90 := by
  have e : strEq nm nm = true := (strEq_iff _ _).2 rfl
  rw [check_one (stt_of rfl (may_labelN hn h0 (st_of rfl (may_funN hn h0 (stt_of rfl (may_leafN hn h0 (.inl rfl))))))) (by simp [tLabel, tFun, deepT, deepL])]
  simp only [tLabel, tFun, tBlock, anyT, anyL, earlyB_mk, innerV_mk, Bool.or_false]
  simp [loopK, findL, e, h0, bannedB, kidKind, env0, bottomK, bottomL]
end
theorem prog_only' {d : NT} (h : tcheck d = 0) : mayT d = true ∧ d.kind = 41 ∧ deepT d ≤ 64 := by
  unfold tcheck at h
  split at h
  · cases h
  · rename_i hh
    split at h
    · cases h
    · rename_i hd
      refine ⟨?_, ?_, by omega⟩
      · cases e : mayT d
        · exact absurd (Or.inr e) hh
        · rfl
      · by_cases e : d.kind = 41
        · exact e
        · exact absurd (Or.inl e) hh
theorem name_of {nm : ByteArray} (h0 : strEq nm ⟨#[]⟩ = false) (h : tcheck (progT [leafT 31 nm]) = 0) : isNameB nm = true := by
  obtain ⟨h1, _, _⟩ := prog_only' h
  rw [may_41, Bool.and_eq_true, List.all_cons, Bool.and_eq_true] at h1
  have h2 := h1.2.1
  unfold St at h2
  rw [Bool.and_eq_true] at h2
  have h3 := h2.2
  rw [may_31, own_plain, Bool.and_eq_true] at h3
  have h4 : (strEq nm ⟨#[]⟩ || isNameB nm) = true := h3.1
  rw [h0, Bool.false_or] at h4
  exact h4
theorem ne_new {a b m : Nat} (h : a < m) (e : b = m) : a ≠ b := by omega
theorem scopeWraps_spec {h : Heap} (name : ByteArray) (hs0 : name.size ≤ 1048576) (g : Glb h) : HCalls Try.prog 3 #[.string name] h fun e h' => e = .returned (.bool true) ∧ Ext h h' := by
  have hs : name.size ≤ 4194304 := by omega
  refine c3 (by simp) ?_
  refine gA ?_
  refine new_var (e := 9) [.string name] rfl ?_
  intro h1 pn on X z1 hpn
  refine gA ?_
  refine HCall.mk ((live_spec (g.ext X)).mono ?_)
  rintro e h2 ⟨rfl, x2⟩
  have on := on.ext x2
  have X := X.trans x2
  refine gA ?_
  refine new_var (e := 27) [.nilFunc] rfl ?_
  intro h3 pf of x3 z3 hpf
  have on := on.ext x3
  have X := X.trans x3
  have hX := X.1
  have l3 := on.lt
  have xs := x3.1
  refine gA ?_
  refine store1_blk of (by simp) rfl ?_
  intro h4 f4 z4 of
  replace of : BlkW h4 pf 27 [.func (.func 9) #[] #[]] := of
  have on := on.offk f4 (by have := x2.1; have hpn' := hpn; omega)
  have X := X.offNew f4 (by have := X.1; have := x2.1; omega)
  clear f4 z4 l3 xs
  refine gA ?_
  refine new_var (e := 26) zeroT rfl ?_
  intro hvb pb ob xvb zvb hpb
  have on0b := on.lt
  have of0b := of.lt
  have on := on.ext xvb
  have of := of.ext xvb
  refine gA ?_
  refine store_blk ob (by simp) (by simp [isOne]) ?_
  intro hwb fwb zwb ob
  replace ob : BlkW hwb pb 26 [.int .i64 31, .string emp, .int .i64 0, .string emp, .slice none 0 0, .slice none 0 0] := by simpa using ob
  have on := on.offk fwb (ne_new on0b hpb)
  have of := of.offk fwb (ne_new of0b hpb)
  have X := (X.trans xvb).offNew fwb (by have := X.1; omega)
  refine gA ?_
  refine new_var (e := 26) zeroT rfl ?_
  intro hvc pc oc xvc zvc hpc
  have on0c := on.lt
  have of0c := of.lt
  have ob0c := ob.lt
  have on := on.ext xvc
  have of := of.ext xvc
  have ob := ob.ext xvc
  refine gA ?_
  refine store_blk oc (by simp) (by simp [isOne]) ?_
  intro hwc fwc zwc oc
  replace oc : BlkW hwc pc 26 [.int .i64 32, .string emp, .int .i64 0, .string emp, .slice none 0 0, .slice none 0 0] := by simpa using oc
  have on := on.offk fwc (ne_new on0c hpc)
  have of := of.offk fwc (ne_new of0c hpc)
  have ob := ob.offk fwc (ne_new ob0c hpc)
  have X := (X.trans xvc).offNew fwc (by have := X.1; omega)
  refine gA ?_
  refine new_var (e := 26) zeroT rfl ?_
  intro hvr pr og xvr zvr hpr
  have on0r := on.lt
  have of0r := of.lt
  have ob0r := ob.lt
  have oc0r := oc.lt
  have on := on.ext xvr
  have of := of.ext xvr
  have ob := ob.ext xvr
  have oc := oc.ext xvr
  refine gA ?_
  refine store_blk og (by simp) (by simp [isOne]) ?_
  intro hwr fwr zwr og
  replace og : BlkW hwr pr 26 [.int .i64 33, .string emp, .int .i64 0, .string emp, .slice none 0 0, .slice none 0 0] := by simpa using og
  have on := on.offk fwr (ne_new on0r hpr)
  have of := of.offk fwr (ne_new of0r hpr)
  have ob := ob.offk fwr (ne_new ob0r hpr)
  have oc := oc.offk fwr (ne_new oc0r hpr)
  have X := (X.trans xvr).offNew fwr (by have := X.1; omega)
  refine gN ?_
  (try refine HMust.mk (by kernel_rfl) ?_)
  (try refine gN ?_)
  refine HCall.mk ((wloop_spec (trep_leaf (k := 31) (n := 0) (nm := emp) (t := emp) (i64_small (by omega)) (i64_small (by omega)) (by decide) (by decide)) of).mono ?_)
  rintro e k1 ⟨cs1, rfl, r1, x1⟩
  have on := on.ext x1
  have of := of.ext x1
  have ob := ob.ext x1
  have oc := oc.ext x1
  have og := og.ext x1
  have X := X.trans x1
  refine gN ?_
  (try refine HMust.mk (by kernel_rfl) ?_)
  (try refine gN ?_)
  refine HCall.mk ((wcheck_spec r1 (g.ext X) (by simp [tLabel, tLoop, tFun, tBlock, cnt, cnts])).mono ?_)
  rintro e k2 ⟨rfl, x2⟩
  have on := on.ext x2
  have of := of.ext x2
  have ob := ob.ext x2
  have oc := oc.ext x2
  have og := og.ext x2
  have X := X.trans x2
  rw [wr1]
  refine gN ?_
  (try refine HMust.mk (by kernel_rfl) ?_)
  (try refine gN ?_)
  refine HCall.mk ((wloop_spec (trep_leaf (k := 32) (n := 0) (nm := emp) (t := emp) (i64_small (by omega)) (i64_small (by omega)) (by decide) (by decide)) of).mono ?_)
  rintro e k3 ⟨cs3, rfl, r3, x3⟩
  have on := on.ext x3
  have of := of.ext x3
  have ob := ob.ext x3
  have oc := oc.ext x3
  have og := og.ext x3
  have X := X.trans x3
  refine gN ?_
  (try refine HMust.mk (by kernel_rfl) ?_)
  (try refine gN ?_)
  refine HCall.mk ((wcheck_spec r3 (g.ext X) (by simp [tLabel, tLoop, tFun, tBlock, cnt, cnts])).mono ?_)
  rintro e k4 ⟨rfl, x4⟩
  have on := on.ext x4
  have of := of.ext x4
  have ob := ob.ext x4
  have oc := oc.ext x4
  have og := og.ext x4
  have X := X.trans x4
  rw [wr2]
  refine gN ?_
  (try refine HMust.mk (by kernel_rfl) ?_)
  (try refine gN ?_)
  refine HCall.mk ((wcheck_spec (trep_leaf (k := 31) (n := 0) (nm := emp) (t := emp) (i64_small (by omega)) (i64_small (by omega)) (by decide) (by decide)) (g.ext X) (by simp [tLabel, tLoop, tFun, tBlock, cnt, cnts])).mono ?_)
  rintro e k5 ⟨rfl, x5⟩
  have on := on.ext x5
  have of := of.ext x5
  have ob := ob.ext x5
  have oc := oc.ext x5
  have og := og.ext x5
  have X := X.trans x5
  rw [wr3]
  refine gN ?_
  (try refine HMust.mk (by kernel_rfl) ?_)
  (try refine gN ?_)
  refine HCall.mk ((wcheck_spec (trep_leaf (k := 32) (n := 0) (nm := emp) (t := emp) (i64_small (by omega)) (i64_small (by omega)) (by decide) (by decide)) (g.ext X) (by simp [tLabel, tLoop, tFun, tBlock, cnt, cnts])).mono ?_)
  rintro e k6 ⟨rfl, x6⟩
  have on := on.ext x6
  have of := of.ext x6
  have ob := ob.ext x6
  have oc := oc.ext x6
  have og := og.ext x6
  have X := X.trans x6
  rw [wr4]
  refine gN ?_
  (try refine HMust.mk (by kernel_rfl) ?_)
  (try refine gN ?_)
  refine HCall.mk ((wfun_spec (trep_leaf (k := 33) (n := 0) (nm := emp) (t := emp) (i64_small (by omega)) (i64_small (by omega)) (by decide) (by decide))).mono ?_)
  rintro e k7 ⟨cs7, rfl, r7, x7⟩
  have on := on.ext x7
  have of := of.ext x7
  have ob := ob.ext x7
  have oc := oc.ext x7
  have og := og.ext x7
  have X := X.trans x7
  refine gN ?_
  (try refine HMust.mk (by kernel_rfl) ?_)
  (try refine gN ?_)
  refine HCall.mk ((wcheck_spec r7 (g.ext X) (by simp [tLabel, tLoop, tFun, tBlock, cnt, cnts])).mono ?_)
  rintro e k8 ⟨rfl, x8⟩
  have on := on.ext x8
  have of := of.ext x8
  have ob := ob.ext x8
  have oc := oc.ext x8
  have og := og.ext x8
  have X := X.trans x8
  rw [wr5]
  refine gN ?_
  (try refine HMust.mk (by kernel_rfl) ?_)
  (try refine gN ?_)
  refine HCall.mk ((wloop_spec (trep_leaf (k := 33) (n := 0) (nm := emp) (t := emp) (i64_small (by omega)) (i64_small (by omega)) (by decide) (by decide)) of).mono ?_)
  rintro e k9 ⟨cs9, rfl, r9, x9⟩
  have on := on.ext x9
  have of := of.ext x9
  have ob := ob.ext x9
  have oc := oc.ext x9
  have og := og.ext x9
  have X := X.trans x9
  refine gN ?_
  (try refine HMust.mk (by kernel_rfl) ?_)
  (try refine gN ?_)
  refine HCall.mk ((wcheck_spec r9 (g.ext X) (by simp [tLabel, tLoop, tFun, tBlock, cnt, cnts])).mono ?_)
  rintro e k10 ⟨rfl, x10⟩
  have on := on.ext x10
  have of := of.ext x10
  have ob := ob.ext x10
  have oc := oc.ext x10
  have og := og.ext x10
  have X := X.trans x10
  rw [wr6]
  refine gN ?_
  (try refine HMust.mk (by kernel_rfl) ?_)
  (try refine gN ?_)
  refine HCall.mk ((wfun_spec (trep_leaf (k := 31) (n := 0) (nm := emp) (t := emp) (i64_small (by omega)) (i64_small (by omega)) (by decide) (by decide))).mono ?_)
  rintro e k11 ⟨cs11, rfl, r11, x11⟩
  have on := on.ext x11
  have of := of.ext x11
  have ob := ob.ext x11
  have oc := oc.ext x11
  have og := og.ext x11
  have X := X.trans x11
  refine gN ?_
  (try refine HMust.mk (by kernel_rfl) ?_)
  (try refine gN ?_)
  refine HCall.mk ((wloop_spec r11 of).mono ?_)
  rintro e k12 ⟨cs12, rfl, r12, x12⟩
  have on := on.ext x12
  have of := of.ext x12
  have ob := ob.ext x12
  have oc := oc.ext x12
  have og := og.ext x12
  have X := X.trans x12
  refine gN ?_
  (try refine HMust.mk (by kernel_rfl) ?_)
  (try refine gN ?_)
  refine HCall.mk ((wcheck_spec r12 (g.ext X) (by simp [tLabel, tLoop, tFun, tBlock, cnt, cnts])).mono ?_)
  rintro e k13 ⟨rfl, x13⟩
  have on := on.ext x13
  have of := of.ext x13
  have ob := ob.ext x13
  have oc := oc.ext x13
  have og := og.ext x13
  have X := X.trans x13
  rw [wr7]
  cases h0 : strEq name ⟨#[]⟩
  rotate_left
  · refine gA ?_
    exact ⟨rfl, X⟩
  refine gA ?_
  refine new_own (e := 26) 6 1 [.int .i64 31, .string name, .int .i64 0, .string emp, .slice none 0 0, .slice none 0 0] rfl rfl ?_
  intro hq bq wq xq zq hbq
  have on := on.ext xq
  have of := of.ext xq
  have ob := ob.ext xq
  have oc := oc.ext xq
  have og := og.ext xq
  have X := X.trans xq
  refine gA ?_
  refine HCall.mk ((rcheck_spec (d := progT [leafT 31 name]) (trep_mk (l := [leafT 31 name]) (i64_small (by omega)) (i64_small (by omega)) (by decide) (by decide) (by simp) wq.sl (treps1 (trep_leaf (k := 31) (n := 0) (nm := name) (t := emp) (i64_small (by omega)) (i64_small (by omega)) hs (by decide)))) (by simp [cnt, cnts])).mono ?_)
  rintro e k14 ⟨rfl, x14⟩
  have on := on.ext x14
  have of := of.ext x14
  have ob := ob.ext x14
  have oc := oc.ext x14
  have og := og.ext x14
  have X := X.trans x14
  by_cases ht : tcheck (progT [leafT 31 name]) = 0
  rotate_left
  · have qt : (tcheck (progT [leafT 31 name]) != 0) = true := bne_iff_ne.2 ht
    refine gA ?_
    exact ⟨rfl, X⟩
  have qt : (tcheck (progT [leafT 31 name]) != 0) = false := by rw [ht]; rfl
  have hn := name_of h0 ht
  refine gA ?_
  refine new_var (e := 26) zeroT rfl ?_
  intro hvt pt ot xvt zvt hpt
  have on0t := on.lt
  have of0t := of.lt
  have ob0t := ob.lt
  have oc0t := oc.lt
  have og0t := og.lt
  have on := on.ext xvt
  have of := of.ext xvt
  have ob := ob.ext xvt
  have oc := oc.ext xvt
  have og := og.ext xvt
  refine gA ?_
  refine store_blk ot (by simp) (by simp [isOne]) ?_
  intro hwt fwt zwt ot
  replace ot : BlkW hwt pt 26 [.int .i64 31, .string name, .int .i64 0, .string emp, .slice none 0 0, .slice none 0 0] := by simpa using ot
  have on := on.offk fwt (ne_new on0t hpt)
  have of := of.offk fwt (ne_new of0t hpt)
  have ob := ob.offk fwt (ne_new ob0t hpt)
  have oc := oc.offk fwt (ne_new oc0t hpt)
  have og := og.offk fwt (ne_new og0t hpt)
  have X := (X.trans xvt).offNew fwt (by have := X.1; omega)
  refine gA ?_
  refine new_var (e := 26) zeroT rfl ?_
  intro hvu pu ou xvu zvu hpu
  have on0u := on.lt
  have of0u := of.lt
  have ob0u := ob.lt
  have oc0u := oc.lt
  have og0u := og.lt
  have ot0u := ot.lt
  have on := on.ext xvu
  have of := of.ext xvu
  have ob := ob.ext xvu
  have oc := oc.ext xvu
  have og := og.ext xvu
  have ot := ot.ext xvu
  refine gA ?_
  refine store_blk ou (by simp) (by simp [isOne]) ?_
  intro hwu fwu zwu ou
  replace ou : BlkW hwu pu 26 [.int .i64 32, .string name, .int .i64 0, .string emp, .slice none 0 0, .slice none 0 0] := by simpa using ou
  have on := on.offk fwu (ne_new on0u hpu)
  have of := of.offk fwu (ne_new of0u hpu)
  have ob := ob.offk fwu (ne_new ob0u hpu)
  have oc := oc.offk fwu (ne_new oc0u hpu)
  have og := og.offk fwu (ne_new og0u hpu)
  have ot := ot.offk fwu (ne_new ot0u hpu)
  have X := (X.trans xvu).offNew fwu (by have := X.1; omega)
  refine gN ?_
  (try refine HMust.mk (by kernel_rfl) ?_)
  (try refine gN ?_)
  refine HCall.mk ((wblock_spec (trep_leaf (k := 31) (n := 0) (nm := name) (t := emp) (i64_small (by omega)) (i64_small (by omega)) hs (by decide))).mono ?_)
  rintro e k15 ⟨b15, rfl, w15, x15⟩
  have on := on.ext x15
  have of := of.ext x15
  have ob := ob.ext x15
  have oc := oc.ext x15
  have og := og.ext x15
  have ot := ot.ext x15
  have ou := ou.ext x15
  have X := X.trans x15
  refine gN ?_
  (try refine HMust.mk (by kernel_rfl) ?_)
  (try refine gN ?_)
  refine HCall.mk ((wlabel_spec hs (block_rep w15 (trep_leaf (k := 31) (n := 0) (nm := name) (t := emp) (i64_small (by omega)) (i64_small (by omega)) hs (by decide))) on).mono ?_)
  rintro e k16 ⟨cs16, rfl, r16, x16⟩
  have on := on.ext x16
  have of := of.ext x16
  have ob := ob.ext x16
  have oc := oc.ext x16
  have og := og.ext x16
  have ot := ot.ext x16
  have ou := ou.ext x16
  have X := X.trans x16
  refine gN ?_
  (try refine HMust.mk (by kernel_rfl) ?_)
  (try refine gN ?_)
  refine HCall.mk ((wcheck_spec r16 (g.ext X) (by simp [tLabel, tLoop, tFun, tBlock, cnt, cnts])).mono ?_)
  rintro e k17 ⟨rfl, x17⟩
  have on := on.ext x17
  have of := of.ext x17
  have ob := ob.ext x17
  have oc := oc.ext x17
  have og := og.ext x17
  have ot := ot.ext x17
  have ou := ou.ext x17
  have X := X.trans x17
  rw [wn1 hn h0]
  refine gN ?_
  (try refine HMust.mk (by kernel_rfl) ?_)
  (try refine gN ?_)
  refine HCall.mk ((wblock_spec (trep_leaf (k := 32) (n := 0) (nm := name) (t := emp) (i64_small (by omega)) (i64_small (by omega)) hs (by decide))).mono ?_)
  rintro e k18 ⟨b18, rfl, w18, x18⟩
  have on := on.ext x18
  have of := of.ext x18
  have ob := ob.ext x18
  have oc := oc.ext x18
  have og := og.ext x18
  have ot := ot.ext x18
  have ou := ou.ext x18
  have X := X.trans x18
  refine gN ?_
  (try refine HMust.mk (by kernel_rfl) ?_)
  (try refine gN ?_)
  refine HCall.mk ((wlabel_spec hs (block_rep w18 (trep_leaf (k := 32) (n := 0) (nm := name) (t := emp) (i64_small (by omega)) (i64_small (by omega)) hs (by decide))) on).mono ?_)
  rintro e k19 ⟨cs19, rfl, r19, x19⟩
  have on := on.ext x19
  have of := of.ext x19
  have ob := ob.ext x19
  have oc := oc.ext x19
  have og := og.ext x19
  have ot := ot.ext x19
  have ou := ou.ext x19
  have X := X.trans x19
  refine gN ?_
  (try refine HMust.mk (by kernel_rfl) ?_)
  (try refine gN ?_)
  refine HCall.mk ((wcheck_spec r19 (g.ext X) (by simp [tLabel, tLoop, tFun, tBlock, cnt, cnts])).mono ?_)
  rintro e k20 ⟨rfl, x20⟩
  have on := on.ext x20
  have of := of.ext x20
  have ob := ob.ext x20
  have oc := oc.ext x20
  have og := og.ext x20
  have ot := ot.ext x20
  have ou := ou.ext x20
  have X := X.trans x20
  rw [wn2 hn h0]
  refine gN ?_
  (try refine HMust.mk (by kernel_rfl) ?_)
  (try refine gN ?_)
  refine HCall.mk ((wloop_spec (trep_leaf (k := 32) (n := 0) (nm := name) (t := emp) (i64_small (by omega)) (i64_small (by omega)) hs (by decide)) of).mono ?_)
  rintro e k21 ⟨cs21, rfl, r21, x21⟩
  have on := on.ext x21
  have of := of.ext x21
  have ob := ob.ext x21
  have oc := oc.ext x21
  have og := og.ext x21
  have ot := ot.ext x21
  have ou := ou.ext x21
  have X := X.trans x21
  refine gN ?_
  (try refine HMust.mk (by kernel_rfl) ?_)
  (try refine gN ?_)
  refine HCall.mk ((wlabel_spec hs r21 on).mono ?_)
  rintro e k22 ⟨cs22, rfl, r22, x22⟩
  have on := on.ext x22
  have of := of.ext x22
  have ob := ob.ext x22
  have oc := oc.ext x22
  have og := og.ext x22
  have ot := ot.ext x22
  have ou := ou.ext x22
  have X := X.trans x22
  refine gN ?_
  (try refine HMust.mk (by kernel_rfl) ?_)
  (try refine gN ?_)
  refine HCall.mk ((wcheck_spec r22 (g.ext X) (by simp [tLabel, tLoop, tFun, tBlock, cnt, cnts])).mono ?_)
  rintro e k23 ⟨rfl, x23⟩
  have on := on.ext x23
  have of := of.ext x23
  have ob := ob.ext x23
  have oc := oc.ext x23
  have og := og.ext x23
  have ot := ot.ext x23
  have ou := ou.ext x23
  have X := X.trans x23
  rw [wn3 hn h0]
  refine gN ?_
  (try refine HMust.mk (by kernel_rfl) ?_)
  (try refine gN ?_)
  refine HCall.mk ((wloop_spec (trep_leaf (k := 31) (n := 0) (nm := name) (t := emp) (i64_small (by omega)) (i64_small (by omega)) hs (by decide)) of).mono ?_)
  rintro e k24 ⟨cs24, rfl, r24, x24⟩
  have on := on.ext x24
  have of := of.ext x24
  have ob := ob.ext x24
  have oc := oc.ext x24
  have og := og.ext x24
  have ot := ot.ext x24
  have ou := ou.ext x24
  have X := X.trans x24
  refine gN ?_
  (try refine HMust.mk (by kernel_rfl) ?_)
  (try refine gN ?_)
  refine HCall.mk ((wcheck_spec r24 (g.ext X) (by simp [tLabel, tLoop, tFun, tBlock, cnt, cnts])).mono ?_)
  rintro e k25 ⟨rfl, x25⟩
  have on := on.ext x25
  have of := of.ext x25
  have ob := ob.ext x25
  have oc := oc.ext x25
  have og := og.ext x25
  have ot := ot.ext x25
  have ou := ou.ext x25
  have X := X.trans x25
  rw [wn4 hn h0]
  refine gN ?_
  (try refine HMust.mk (by kernel_rfl) ?_)
  (try refine gN ?_)
  refine HCall.mk ((wlabel_spec hs (trep_leaf (k := 31) (n := 0) (nm := emp) (t := emp) (i64_small (by omega)) (i64_small (by omega)) (by decide) (by decide)) on).mono ?_)
  rintro e k26 ⟨cs26, rfl, r26, x26⟩
  have on := on.ext x26
  have of := of.ext x26
  have ob := ob.ext x26
  have oc := oc.ext x26
  have og := og.ext x26
  have ot := ot.ext x26
  have ou := ou.ext x26
  have X := X.trans x26
  refine gN ?_
  (try refine HMust.mk (by kernel_rfl) ?_)
  (try refine gN ?_)
  refine HCall.mk ((wlabel_spec hs r26 on).mono ?_)
  rintro e k27 ⟨cs27, rfl, r27, x27⟩
  have on := on.ext x27
  have of := of.ext x27
  have ob := ob.ext x27
  have oc := oc.ext x27
  have og := og.ext x27
  have ot := ot.ext x27
  have ou := ou.ext x27
  have X := X.trans x27
  refine gN ?_
  (try refine HMust.mk (by kernel_rfl) ?_)
  (try refine gN ?_)
  refine HCall.mk ((wcheck_spec r27 (g.ext X) (by simp [tLabel, tLoop, tFun, tBlock, cnt, cnts])).mono ?_)
  rintro e k28 ⟨rfl, x28⟩
  have on := on.ext x28
  have of := of.ext x28
  have ob := ob.ext x28
  have oc := oc.ext x28
  have og := og.ext x28
  have ot := ot.ext x28
  have ou := ou.ext x28
  have X := X.trans x28
  rw [wn5 hn h0]
  refine gN ?_
  (try refine HMust.mk (by kernel_rfl) ?_)
  (try refine gN ?_)
  refine HCall.mk ((wfun_spec (trep_leaf (k := 31) (n := 0) (nm := name) (t := emp) (i64_small (by omega)) (i64_small (by omega)) hs (by decide))).mono ?_)
  rintro e k29 ⟨cs29, rfl, r29, x29⟩
  have on := on.ext x29
  have of := of.ext x29
  have ob := ob.ext x29
  have oc := oc.ext x29
  have og := og.ext x29
  have ot := ot.ext x29
  have ou := ou.ext x29
  have X := X.trans x29
  refine gN ?_
  (try refine HMust.mk (by kernel_rfl) ?_)
  (try refine gN ?_)
  refine HCall.mk ((wlabel_spec hs r29 on).mono ?_)
  rintro e k30 ⟨cs30, rfl, r30, x30⟩
  have on := on.ext x30
  have of := of.ext x30
  have ob := ob.ext x30
  have oc := oc.ext x30
  have og := og.ext x30
  have ot := ot.ext x30
  have ou := ou.ext x30
  have X := X.trans x30
  refine gN ?_
  (try refine HMust.mk (by kernel_rfl) ?_)
  (try refine gN ?_)
  refine HCall.mk ((wcheck_spec r30 (g.ext X) (by simp [tLabel, tLoop, tFun, tBlock, cnt, cnts])).mono ?_)
  rintro e k31 ⟨rfl, x31⟩
  have on := on.ext x31
  have of := of.ext x31
  have ob := ob.ext x31
  have oc := oc.ext x31
  have og := og.ext x31
  have ot := ot.ext x31
  have ou := ou.ext x31
  have X := X.trans x31
  rw [wn6 hn h0]
  refine gA ?_
  exact ⟨rfl, X⟩
end Go.Proofs.Ytlogpojkkbcpjaa.Hc
/- Trees of a program's text that came in; the wrap of the second form with the world's shape kept; what the library's own variable holds. -/
set_option linter.unusedVariables false
set_option linter.unusedSimpArgs false
namespace Go.Proofs.Ytlogpojkkbcpjaa.RU
open Go Go.H Go.Proofs Go.ChangeShapes Go.WideShapes Go.RowKit
set_option maxRecDepth 100000
theorem list_ex {α β : Type} : ∀ (l : List α) (R : Nat → α → β → Prop) (_ : ∀ i (hi : i < l.length), ∃ b, R i l[i] b), ∃ bs : List β, bs.length = l.length ∧ ∀ i (hi : i < l.length) (hb : i < bs.length), R i l[i] bs[i]
  | [], R, h => ⟨[], rfl, fun i hi => by simp at hi⟩
  | a :: l, R, h => by
    obtain ⟨b, hb⟩ := h 0 (by simp)
    obtain ⟨bs, h1, h2⟩ := list_ex l (fun i => R (i + 1)) fun i hi => h (i + 1) (by simpa using hi)
    refine ⟨b :: bs, by simp [h1], fun i hi hj => ?_⟩
    cases i with
    | zero => exact hb
    | succ i => exact h2 i (by simpa using hi) (by simpa using hj)
theorem sum_le {α β : Type} (f : β → Nat) (g : α → Nat) : ∀ (l : List α) (bs : List β), bs.length = l.length → (∀ i (hi : i < l.length) (hb : i < bs.length), f bs[i] ≤ g l[i]) → (bs.map f).sum ≤ (l.map g).sum
  | [], [], _, _ => by simp
  | a :: l, b :: bs, hl, h => by
    have h0 := h 0 (by simp) (by simp)
    have h1 := sum_le f g l bs (by simpa using hl) fun i hi hb => h (i + 1) (by simpa using hi) (by simpa using hb)
    simp only [List.map_cons, List.sum_cons, List.getElem_cons_zero] at h0 ⊢; omega
  | [], _ :: _, h, _ => by simp at h
  | _ :: _, [], h, _ => by simp at h
theorem bulk_sum {H : Type} : ∀ l : List (DataW H), Rows.uptoBulkAll l = (l.map Rows.uptoBulk).sum
  | [] => rfl
  | d :: r => by simp only [Rows.uptoBulkAll, List.map_cons, List.sum_cons, bulk_sum r]
theorem bulk_mem' {H : Type} : ∀ (l : List (DataW H)) (d : DataW H), d ∈ l → Rows.uptoBulk d ≤ Rows.uptoBulkAll l
  | [], d, h => by cases h
  | e :: r, d, h => by
    simp only [Rows.uptoBulkAll]
    rcases List.mem_cons.1 h with rfl | h
    · omega
    · have := bulk_mem' r d h; omega
theorem flat_get {α : Type} {n : Nat} : ∀ (l : List (List α)) (_ : ∀ x ∈ l, x.length = n) (i j : Nat) (hi : i < l.length) (_ : j < n), l.flatten[i * n + j]? = l[i][j]?
  | [], _, i, _, hi, _ => by simp at hi
  | a :: l, h, i, j, hi, hj => by
    have ha := h a (by simp)
    cases i with
    | zero => rw [List.flatten_cons, Nat.zero_mul, Nat.zero_add, List.getElem?_append_left (by omega)]; rfl
    | succ i =>
      rw [List.flatten_cons, List.getElem?_append_right (by rw [ha, Nat.add_mul]; omega), List.getElem_cons_succ, ← flat_get l (fun x hx => h x (by simp [hx])) i j (by simpa using hi) hj]
      congr 1; rw [ha, Nat.add_mul]; omega
theorem flat_len {α : Type} {n : Nat} : ∀ (l : List (List α)) (_ : ∀ x ∈ l, x.length = n), l.flatten.length = l.length * n
  | [], _ => by simp
  | a :: l, h => by rw [List.flatten_cons, List.length_append, h a (by simp), flat_len l (fun x hx => h x (by simp [hx])), List.length_cons, Nat.add_mul]; omega
end Go.Proofs.Ytlogpojkkbcpjaa.RU
namespace Go.Proofs.Ytlogpojkkbcpjaa.Hc
open Go Go.H Go.Proofs Go.ChangeShapes Go.WideShapes Go.RowKit
set_option maxRecDepth 100000
theorem treps_flat {h : Heap} : ∀ (l : List NT) (cs : List (List Value)), cs.length = l.length → (∀ i (hi : i < l.length) (hc : i < cs.length), TRep h l[i] cs[i]) → TReps h l cs.flatten
  | [], [], _, _ => by simp [TReps]
  | d :: l, c :: cs, hl, hr => by
    simp only [TReps]
    exact ⟨c, cs.flatten, by simp, hr 0 (by simp) (by simp), treps_flat l cs (by simpa using hl) fun i hi hc => hr (i + 1) (by simpa using hi) (by simpa using hc)⟩
  | [], _ :: _, h, _ => by simp at h
  | _ :: _, [], h, _ => by simp at h
theorem cnts_sum : ∀ l : List NT, cnts l = (l.map cnt).sum
  | [] => rfl
  | d :: r => by simp only [cnts, List.map_cons, List.sum_cons, cnts_sum r]
theorem ksum_len : ∀ ks : List ByteArray, ks.length ≤ (ks.map fun k => k.size + 1).sum
  | [] => by simp
  | k :: r => by have := ksum_len r; simp only [List.length_cons, List.map_cons, List.sum_cons]; omega
theorem ksum_mem : ∀ (ks : List ByteArray) (k : ByteArray), k ∈ ks → k.size ≤ (ks.map fun k => k.size + 1).sum
  | [], k, h => by cases h
  | e :: r, k, h => by
    simp only [List.map_cons, List.sum_cons]
    rcases List.mem_cons.1 h with rfl | h
    · omega
    · have := ksum_mem r k h; omega
section
variable {H : Type} {enc : TypeId × Value → H} {W : World} {base : Nat} {spare : Nat → Bool} {held : Bool}
theorem open_names {fuel : Nat} {cs : List Value} {x : DataW H × List MemPlace} (h : DataW.trod enc Try.prog W base spare held fuel 23 cs = some x) :
    ∃ (a : Option Addr) (ks : List ByteArray) (c : Nat), cs = [.slice a ks.length c] ∧ Sl W.heap 1 a ks.length c (ks.map .string) ∧ (ks.map fun k => k.size + 1).sum + 1 ≤ Rows.uptoBulk x.1 := by
  rcases DataW.trod_slice Try.underlying23 h with ⟨rfl, rfl⟩ | ⟨a, len, cap, elems, rest, n, _, rfl, rfl, hb, hl, hm, hlen, hel, _, _⟩
  · exact ⟨none, [], 0, rfl, Sl.nil _ _, by simp [Rows.uptoBulk]⟩
  have hc : Try.prog.cellsOf 9 = 1 := by kernel_rfl
  rw [hc] at hel
  have each : ∀ i (hi : i < elems.length), ∃ s : ByteArray, W.cell? (a.add i) = some (.string s) ∧ elems[i].1 = .lit (.string s.data.toList) ∧ s.size ≤ maxLen := by
    intro i hi
    have h1 := hel i (by omega)
    rw [List.getElem?_eq_getElem hi, Option.bind_eq_some_iff] at h1
    obtain ⟨cs, h2, h3⟩ := h1
    obtain ⟨s, rfl, h4, h5⟩ := DataW.trod_string Try.underlying9 h3
    have := cell_of_cells?_one h2
    rw [Nat.mul_one] at this
    exact ⟨s, this, by rw [h4], h5⟩
  obtain ⟨ks, k1, k2⟩ := RU.list_ex elems (fun i y s => W.cell? (a.add i) = some (.string s) ∧ y.1 = .lit (.string s.data.toList) ∧ s.size ≤ maxLen) each
  refine ⟨some a, ks, cap, by rw [k1, hlen], ⟨by simp, by omega, fun e => (by cases e), ?_⟩, ?_⟩
  · intro p ep i hi
    cases ep
    rw [Nat.mul_one] at hi
    have := (k2 i (by omega) hi).1
    rw [cell_eq] at this
    rw [this, List.getElem?_map, List.getElem?_eq_getElem hi]; rfl
  · have := RU.sum_le (fun k : ByteArray => k.size + 1) (fun y : DataW H × List MemPlace => Rows.uptoBulk y.1) elems ks k1 fun i hi hb => by
      rw [(k2 i hi hb).2.1]; simp only [Rows.uptoBulk]; exact Nat.le_refl _
    simp only [Rows.uptoBulk]
    rw [RU.bulk_sum, List.map_map]
    simp only [Function.comp_def]
    omega
theorem open_treesF {fuel : Nat} (ih : ∀ m, m < fuel → ∀ (cs : List Value) (x : DataW H × List MemPlace), DataW.trod enc Try.prog W base spare held m 26 cs = some x → Rows.uptoBulk x.1 ≤ 1048576 → ∃ t : NT, TRep W.heap t cs ∧ cnt t ≤ Rows.uptoBulk x.1)
    {cs : List Value} {x : DataW H × List MemPlace} (h : DataW.trod enc Try.prog W base spare held fuel 24 cs = some x) (hbk : Rows.uptoBulk x.1 ≤ 1048576) :
    ∃ (a : Option Addr) (l : List NT) (c : Nat) (xs : List Value), cs = [.slice a l.length c] ∧ Sl W.heap 6 a l.length c xs ∧ TReps W.heap l xs ∧ cnts l + 1 ≤ Rows.uptoBulk x.1 ∧ l.length ≤ 1048576 := by
  have hc : Try.prog.cellsOf 26 = 6 := by kernel_rfl
  rcases DataW.trod_slice Try.underlying24 h with ⟨rfl, rfl⟩ | ⟨a, len, cap, elems, rest, n', rfl, rfl, rfl, hb, hlc, hm, hlen, hel, _, _⟩
  · exact ⟨none, [], 0, [], rfl, Sl.nil _ _, by simp only [TReps], by simp [cnts, Rows.uptoBulk], by simp⟩
  rw [hc] at hel
  simp only [Rows.uptoBulk] at hbk
  have hle : len ≤ 1048576 := by have := RU.length_le (elems.map (·.1)); rw [List.length_map] at this; omega
  have each : ∀ i (hi : i < elems.length), ∃ y : NT × List Value, TRep W.heap y.1 y.2 ∧ (∀ j, j < 6 → hcell W.heap ((a.add (i * 6)).add j) = y.2[j]?) ∧ cnt y.1 ≤ Rows.uptoBulk elems[i].1 := by
    intro i hi
    have h1 := hel i (by omega)
    rw [List.getElem?_eq_getElem hi, Option.bind_eq_some_iff] at h1
    obtain ⟨cs, h2, h3⟩ := h1
    have hbi : Rows.uptoBulk elems[i].1 ≤ 1048576 := by
      have := RU.bulk_mem' (elems.map (·.1)) elems[i].1 (List.mem_map.2 ⟨_, List.getElem_mem hi, rfl⟩)
      omega
    obtain ⟨t, r, hv⟩ := ih n' (by omega) cs _ h3 hbi
    have h4 := World.cells?_some h2
    refine ⟨(t, cs), r, fun j hj => ?_, hv⟩
    have := h4.2.2 j hj
    rw [cell_eq] at this
    rw [this]
  obtain ⟨ys, k1, k2⟩ := RU.list_ex elems (fun i y (z : NT × List Value) => TRep W.heap z.1 z.2 ∧ (∀ j, j < 6 → hcell W.heap ((a.add (i * 6)).add j) = z.2[j]?) ∧ cnt z.1 ≤ Rows.uptoBulk y.1) each
  have hall : ∀ x ∈ ys.map (·.2), x.length = 6 := by
    intro x hx
    obtain ⟨z, hz, rfl⟩ := List.mem_map.1 hx
    obtain ⟨i, hi, rfl⟩ := List.getElem_of_mem hz
    exact (k2 i (by omega) hi).1.len
  have hyl : (ys.map (·.1)).length = len := by rw [List.length_map]; omega
  refine ⟨some a, ys.map (·.1), cap, (ys.map (·.2)).flatten, by rw [hyl], ⟨by rw [RU.flat_len _ hall]; simp, by omega, fun e => (by cases e), ?_⟩, treps_flat (ys.map (·.1)) (ys.map (·.2)) (by simp) ?_, ?_, by omega⟩
  · intro p ep i hi
    cases ep
    rw [hyl] at hi
    have hq : i / 6 < ys.length := by omega
    have h5 := (k2 (i / 6) (by omega) hq).2.1 (i % 6) (by omega)
    rw [add_add, show i / 6 * 6 + i % 6 = i by omega] at h5
    have h6 := RU.flat_get (ys.map (·.2)) hall (i / 6) (i % 6) (by simpa using hq) (by omega)
    rw [show i / 6 * 6 + i % 6 = i by omega, List.getElem_map] at h6
    rw [h5, h6]
  · intro i hi hc'
    rw [List.getElem_map, List.getElem_map]
    exact (k2 i (by simpa [k1] using hi) (by simpa using hi)).1
  · have := RU.sum_le (fun z : NT × List Value => cnt z.1) (fun y : DataW H × List MemPlace => Rows.uptoBulk y.1) elems ys k1 fun i hi hb => (k2 i hi hb).2.2
    rw [cnts_sum, List.map_map]
    simp only [Rows.uptoBulk]
    rw [RU.bulk_sum, List.map_map]
    simp only [Function.comp_def] at this ⊢
    omega
theorem open_tree : ∀ (fuel : Nat) (cs : List Value) (x : DataW H × List MemPlace), DataW.trod enc Try.prog W base spare held fuel 26 cs = some x → Rows.uptoBulk x.1 ≤ 1048576 → ∃ t : NT, TRep W.heap t cs ∧ cnt t ≤ Rows.uptoBulk x.1 := by
  intro fuel
  induction fuel using Nat.strongRecOn with
  | ind fuel ih =>
  intro cs x h hbk
  obtain ⟨xs, n, rfl, rfl, hl, hx, hf⟩ := DataW.trod_struct Try.underlying26 h
  have hc : Try.prog.cellsOf 26 = 6 := by kernel_rfl
  have c1 : Try.prog.cellsOf 3 = 1 := by kernel_rfl
  have c2 : Try.prog.cellsOf 2 = 1 := by kernel_rfl
  have c3 : Try.prog.cellsOf 9 = 1 := by kernel_rfl
  have c4 : Try.prog.cellsOf 23 = 1 := by kernel_rfl
  have c5 : Try.prog.cellsOf 24 = 1 := by kernel_rfl
  rw [hc] at hl
  have f0 := hf 0 _ rfl
  have f1 := hf 1 _ rfl
  have f2 := hf 2 _ rfl
  have f3 := hf 3 _ rfl
  have f4 := hf 4 _ rfl
  have f5 := hf 5 _ rfl
  match cs, hl with
  | [v0, v1, v2, v3, v4, v5], _ =>
  match xs, hx with
  | [x0, x1, x2, x3, x4, x5], _ =>
  simp only [c1, c2, c3, c4, c5, List.drop_zero, List.drop_succ_cons, List.take_succ_cons, List.take_zero, List.getElem?_cons_zero, List.getElem?_cons_succ] at f0 f1 f2 f3 f4 f5
  obtain ⟨k, e0, d0, w0⟩ := DataW.trod_int Try.underlying3 f0
  obtain ⟨nm, e1, d1, w1⟩ := DataW.trod_string Try.underlying9 f1
  obtain ⟨m, e2, d2, w2⟩ := DataW.trod_int Try.underlying2 f2
  obtain ⟨s, e3, d3, w3⟩ := DataW.trod_string Try.underlying9 f3
  obtain ⟨ka, ks, kc, e4, s4, b4⟩ := open_names f4
  cases e0; cases e1; cases e2; cases e3; cases e4
  have wb : ∀ {k : Int}, (Lit.int .i64 k).wf = true → i64 k := fun {k} h => by unfold i64; simpa [Lit.wf, IntKind.min, IntKind.max, IntKind.signed, IntKind.bits] using h
  have h1 : nm.size + 1 ≤ Rows.uptoBulk x1.1 := by rw [d1]; simp only [Rows.uptoBulk]; exact Nat.le_refl _
  have h3 : s.size + 1 ≤ Rows.uptoBulk x3.1 := by rw [d3]; simp only [Rows.uptoBulk]; exact Nat.le_refl _
  simp only [Rows.uptoBulk, List.map_cons, List.map_nil, Rows.uptoBulkAll] at hbk
  have l4 := ksum_len ks
  have m4 : ∀ x ∈ ks, x.size ≤ 4194304 := fun x hx => by have := ksum_mem ks x hx; omega
  obtain ⟨la, l, lc, ys, e5, s5, t5, b5, l5⟩ := open_treesF (fun m hm => ih m (by omega)) f5 (by omega)
  cases e5
  refine ⟨.mk k nm m s ks l, ?_, ?_⟩
  · simp only [TRep]
    exact ⟨wb w0, wb w2, by omega, by omega, by omega, by omega, m4, ka, kc, la, lc, ys, rfl, s4, s5, t5⟩
  · simp only [cnt, Rows.uptoBulk, List.map_cons, List.map_nil, Rows.uptoBulkAll]; omega
/-- One tree, some trees. -/
theorem open_trees {a : Option Addr} {len cap : Nat} {d : DataW H} {ps : List MemPlace} (h : DataW.Trod enc Try.prog W base spare held 24 (.slice a len cap) d ps) (hbk : Rows.uptoBulk d ≤ 1048576) :
    ∃ (l : List NT) (xs : List Value), len = l.length ∧ Sl W.heap 6 a l.length cap xs ∧ TReps W.heap l xs ∧ cnts l ≤ 1048576 := by
  obtain ⟨fuel, hf⟩ := h
  obtain ⟨a', l, c, xs, e, s, t, b, _⟩ := open_treesF (fun m _ => open_tree m) hf hbk
  simp only [Value.cells] at e
  cases e
  exact ⟨l, xs, rfl, s, t, by simp only at b; omega⟩
end
end Go.Proofs.Ytlogpojkkbcpjaa.Hc
namespace Go.Proofs.Ytlogpojkkbcpjaa.Hc
open Go Go.H Go.Proofs Go.ChangeShapes
set_option maxRecDepth 100000
theorem glob_of_shape {W : World} (h : W.ShapedOpen Try.prog) : Glb W.heap := by
  obtain ⟨m, e⟩ := cell_of_shapedOpen_int (P := Try.prog) (g := 0) (t := 3) (zero := #[.int .i64 0]) (k := .i64) h (of_decide_eq_true (by kernel_rfl)) (by kernel_rfl) rfl (by kernel_rfl) (by kernel_rfl) Try.underlying3
  exact ⟨m, e⟩
theorem handed_shaped {H : Type} {enc : TypeId × Value → H} {a : Assume} {C : Checked} {os : Os} {f : FuncId} {fn : Func} {s : OpenSpec} {k : (H : Type) → List (DataW H) → Bool} (hk : s.cond = some k) {F : Stop.Interp} {conds : List PathCond} {apart fresh handsOn again : Bool}
    (own : ownKnob C.prog.godebug = none) (started : os.Started) (noInit : C.prog.inits.idxOf? f = none) (hfn : C.prog.funcs[f]? = some fn)
    (witness : ∃ (w : World) (tape : Tape) (i : Input), w.os = os ∧ (w.forCall tape i).Shaped C.prog ∧ i.vars = [] ∧ Input.okWide C.prog (w.forCall tape i) .any w.heap.size f i ∧
      s.pre6 enc C.prog fn conds apart (w.forCall tape i).memory i.args ∧ a.holds C.prog (lone (Frame.enter C.prog f i.args .normal) [] (w.forCall tape i)))
    (contract : ∀ (W : World) (base : Nat) (args : Array Value) (ds gs : List (DataW H)) (before : List MemPlace), W.ShapedOpen C.prog →
      (∀ (j : Nat) t v, fn.params[j]? = some t → args[j]? = some v → Value.okWide C.prog W .any base t v) →
      DataW.Whole enc C.prog fn.params.toList s.vars apart W args.toList ds gs before →
      conds.all (PathCond.test C.prog ⟨fn.params.toList, ds, s.bare.plain.varTypes C.prog, gs⟩) = true → k H (ds ++ gs) = true →
      a.holds C.prog (lone (Frame.enter C.prog f args .normal) [] W) →
      Calls C.prog f args W fun e W' => ∃ v, e = .returned v ∧ (s.at F).post enc C.prog fn apart fresh handsOn again W args v W') :
    ReturnsInHanded a C os f .any (s.pre6 enc C.prog fn conds apart) ((s.at F).post enc C.prog fn apart fresh handsOn again) := by
  refine returnsInHanded_of_calls own started noInit witness ?_
  intro w tape i _ hsh _ hok hpre hholds
  obtain ⟨_, _, _, fn', hfn', _, _, _, _, hval⟩ := hok
  have e : fn' = fn := Option.some.inj (hfn'.symm.trans hfn)
  subst e
  obtain ⟨ds, gs, before, hw, hc, hkk⟩ := (OpenSpec.pre_some hk conds apart _ _).1 hpre.1
  have hw' := DataW.Whole.of_heap (w' := w.forCall tape i) (by rfl) hw
  refine (contract (w.forCall tape i) w.heap.size i.args ds gs before hsh hval hw' hc hkk hholds).mono fun e W' ⟨v, he, hp⟩ => ?_
  subst he
  exact ChangeSpec.post_blind hp
end Go.Proofs.Ytlogpojkkbcpjaa.Hc
