/- Size, Same. -/
import Derived.Test.YtmibnfjjlibpgaaDoorAB
set_option linter.unusedVariables false
set_option linter.unusedSimpArgs false
namespace Go.Proofs.YtmibnfjjlibpgaaDoor.Hc
open Go Go.H Go.Proofs
set_option maxRecDepth 100000
set_option maxHeartbeats 8000000

mutual
/-- How many there are in one. -/
def sz : DT → Nat
  | .mk _ _ _ _ l => 1 + szs l
def szs : List DT → Nat
  | [] => 0
  | d :: r => sz d + szs r
end
mutual
theorem sz_vol : ∀ d, sz d ≤ vol d
  | .mk k n s ks l => by have := szs_vols l; simp only [sz, vol]; omega
theorem szs_vols : ∀ l, szs l ≤ vols l
  | [] => by simp [szs, vols]
  | d :: r => by have := sz_vol d; have := szs_vols r; simp only [szs, vols]; omega
end
theorem szs_append : ∀ (l r : List DT), szs (l ++ r) = szs l + szs r
  | [], r => by simp [szs]
  | d :: l, r => by simp only [List.cons_append, szs, szs_append l r]; omega

theorem size_spec : ∀ (a : DT) (h : Heap) (cs : List Value), Rep h a cs → vol a ≤ 4611686018427387904 →
    HCalls Tryd.prog 17 #[.agg cs.toArray] h fun e h' => e = .returned (.int .i64 (sz a : Nat)) ∧ Ext h h' := by
  intro a
  induction a using (measure (fun d : DT => SizeOf.sizeOf d)).wf.induction with
  | _ a ih =>
  intro h cs ra hv
  have hsv := sz_vol a
  obtain ⟨k1, n1, s1, ks1, l1⟩ := a
  simp only [Rep] at ra
  obtain ⟨a1, a2, a3, a4, a5, a6, ka, kc, la, lc, xs, rfl, a7, a8, a9⟩ := ra
  refine c17 (by simp) ?_
  ((conv=>whnf);repeat((first|(with_reducible first|refine Z1 ?_|refine Z2 ?_|refine Z3 ?_|refine Z4 ?_|refine Z5 ?_|refine Z9 (by assumption) rfl ?_|refine ZA (by assumption) rfl ?_|refine ZB (by assumption) rfl ?_|refine Z6 ?_|refine Z7 ?_|refine Z8 ?_)|((with_reducible refine ZM ?_ ?_);(focus rfl)));(conv=>whnf)))
  refine new_var (e := 25) [.int .i64 k1, .int .i64 n1, .string s1, .slice ka ks1.length kc, .slice la l1.length lc] rfl ?_
  intro h1 bx ox x1 z1 _
  ((conv=>whnf);repeat((first|(with_reducible first|refine Z1 ?_|refine Z2 ?_|refine Z3 ?_|refine Z4 ?_|refine Z5 ?_|refine Z9 (by assumption) rfl ?_|refine ZA (by assumption) rfl ?_|refine ZB (by assumption) rfl ?_|refine Z6 ?_|refine Z7 ?_|refine Z8 ?_)|((with_reducible refine ZM ?_ ?_);(focus rfl)));(conv=>whnf)))
  simp only [vol] at hv
  simp only [sz, vol] at hsv
  refine loop_rule [3, 9] (fun vs h' => ∃ (i : Nat), vs = [.int .i64 ((1 + szs (l1.take i) : Nat) : Int), .int .i64 i] ∧ i ≤ l1.length ∧ Ext h1 h')
    (fun vs _ => match vs with | [_, .int _ i] => l1.length - i.toNat | _ => 0) rfl ?_ ?_
  · exact ⟨0, rfl, by omega, Ext.refl _⟩
  intro u h3 v8 v68
  rintro ⟨i, e, hi, x3⟩
  cases e
  have x13 := x1.trans x3
  ((conv=>whnf);repeat((first|(with_reducible first|refine Z1 ?_|refine Z2 ?_|refine Z3 ?_|refine Z4 ?_|refine Z5 ?_|refine Z9 (by assumption) rfl ?_|refine ZA (by assumption) rfl ?_|refine ZB (by assumption) rfl ?_|refine Z6 ?_|refine Z7 ?_|refine Z8 ?_)|((with_reducible refine ZM ?_ ?_);(focus rfl)));(conv=>whnf)))
  refine HIf.mk (fun hb => ?_) (fun hb => ?_)
  · have hi1 : i < l1.length := by have := of_decide_eq_true hb; omega
    have hvi := vols_mem l1 l1[i] (List.getElem_mem hi1)
    have hst : szs (l1.take (i + 1)) = szs (l1.take i) + sz l1[i] := by rw [take_succ' hi1, szs_append]; simp [szs]
    have hsle : szs (l1.take (i + 1)) ≤ szs l1 := by
      have := szs_append (l1.take (i + 1)) (l1.drop (i + 1))
      rw [List.take_append_drop] at this; omega
    have hmu : l1.length - ((i : Int) + 1).toNat < l1.length - ((i : Int)).toNat := by omega
    ((conv=>whnf);repeat((first|(with_reducible first|refine Z1 ?_|refine Z2 ?_|refine Z3 ?_|refine Z4 ?_|refine Z5 ?_|refine Z9 (by assumption) rfl ?_|refine ZA (by assumption) rfl ?_|refine ZB (by assumption) rfl ?_|refine Z6 ?_|refine Z7 ?_|refine Z8 ?_)|((with_reducible refine ZM ?_ ?_);(focus rfl)));(conv=>whnf)))
    refine HIdx.mk i rfl hi1 ?_
    refine sl_some a8 hi1 fun p ep => ?_
    ((conv=>whnf);repeat((first|(with_reducible first|refine Z1 ?_|refine Z2 ?_|refine Z3 ?_|refine Z4 ?_|refine Z5 ?_|refine Z9 (by assumption) rfl ?_|refine ZA (by assumption) rfl ?_|refine ZB (by assumption) rfl ?_|refine Z6 ?_|refine Z7 ?_|refine Z8 ?_)|((with_reducible refine ZM ?_ ?_);(focus rfl)));(conv=>whnf)))
    refine (a8.ext x13).loadRep (Reps.ext x13 _ _ a9) ep hi1 fun as' ra1 => ?_
    ((conv=>whnf);repeat((first|(with_reducible first|refine Z1 ?_|refine Z2 ?_|refine Z3 ?_|refine Z4 ?_|refine Z5 ?_|refine Z9 (by assumption) rfl ?_|refine ZA (by assumption) rfl ?_|refine ZB (by assumption) rfl ?_|refine Z6 ?_|refine Z7 ?_|refine Z8 ?_)|((with_reducible refine ZM ?_ ?_);(focus rfl)));(conv=>whnf)))
    refine new_var (e := 25) zeroD rfl ?_
    intro h4 b4 o4 x4 z4 hb4
    ((conv=>whnf);repeat((first|(with_reducible first|refine Z1 ?_|refine Z2 ?_|refine Z3 ?_|refine Z4 ?_|refine Z5 ?_|refine Z9 (by assumption) rfl ?_|refine ZA (by assumption) rfl ?_|refine ZB (by assumption) rfl ?_|refine Z6 ?_|refine Z7 ?_|refine Z8 ?_)|((with_reducible refine ZM ?_ ?_);(focus rfl)));(conv=>whnf)))
    have hal := ra1.len
    refine HMust.mk (by simpa using hal) ?_
    refine store_new o4 (by simp [hal]) (by simpa using ra1.one) ?_
    intro h5 f5 z5 o5
    have x45 : Ext h3 h5 := x4.offNew f5 (by omega)
    ((conv=>whnf);repeat((first|(with_reducible first|refine Z1 ?_|refine Z2 ?_|refine Z3 ?_|refine Z4 ?_|refine Z5 ?_|refine Z9 (by assumption) rfl ?_|refine ZA (by assumption) rfl ?_|refine ZB (by assumption) rfl ?_|refine Z6 ?_|refine Z7 ?_|refine Z8 ?_)|((with_reducible refine ZM ?_ ?_);(focus rfl)));(conv=>whnf)))
    refine blk_ldN o5 (by simpa using hal) ?_
    ((conv=>whnf);repeat((first|(with_reducible first|refine Z1 ?_|refine Z2 ?_|refine Z3 ?_|refine Z4 ?_|refine Z5 ?_|refine Z9 (by assumption) rfl ?_|refine ZA (by assumption) rfl ?_|refine ZB (by assumption) rfl ?_|refine Z6 ?_|refine Z7 ?_|refine Z8 ?_)|((with_reducible refine ZM ?_ ?_);(focus rfl)));(conv=>whnf)))
    refine HCall.mk ((ih l1[i] (dt_lt hi1) h5 as' (Rep.ext x45 _ _ ra1) (by omega)).mono ?_)
    rintro e h6 ⟨rfl, x6⟩
    ((conv=>whnf);repeat((first|(with_reducible first|refine Z1 ?_|refine Z2 ?_|refine Z3 ?_|refine Z4 ?_|refine Z5 ?_|refine Z9 (by assumption) rfl ?_|refine ZA (by assumption) rfl ?_|refine ZB (by assumption) rfl ?_|refine Z6 ?_|refine Z7 ?_|refine Z8 ?_)|((with_reducible refine ZM ?_ ?_);(focus rfl)));(conv=>whnf)))
    refine ⟨⟨i + 1, ?_, by omega, x3.trans (x45.trans x6)⟩, hmu⟩
    have e1 : ((1 + szs (l1.take (i + 1)) : Nat) : Int) = ((1 + szs (l1.take i) : Nat) : Int) + (sz l1[i] : Nat) := by omega
    rw [e1]; rfl
  · have hge := of_decide_eq_false hb
    have hik : l1.take i = l1 := List.take_of_length_le (by omega)
    rw [hik]
    ((conv=>whnf);repeat((first|(with_reducible first|refine Z1 ?_|refine Z2 ?_|refine Z3 ?_|refine Z4 ?_|refine Z5 ?_|refine Z9 (by assumption) rfl ?_|refine ZA (by assumption) rfl ?_|refine ZB (by assumption) rfl ?_|refine Z6 ?_|refine Z7 ?_|refine Z8 ?_)|((with_reducible refine ZM ?_ ?_);(focus rfl)));(conv=>whnf)))
    exact ⟨by simp only [sz]; rfl, x13⟩

theorem rsize_spec : ∀ (a : DT) (h : Heap) (cs : List Value), Rep h a cs → vol a ≤ 4611686018427387904 →
    HCalls Tryd.prog 18 #[.agg cs.toArray] h fun e h' => e = .returned (.int .i64 (sz a : Nat)) ∧ Ext h h' := by
  intro a
  induction a using (measure (fun d : DT => SizeOf.sizeOf d)).wf.induction with
  | _ a ih =>
  intro h cs ra hv
  have hsv := sz_vol a
  obtain ⟨k1, n1, s1, ks1, l1⟩ := a
  simp only [Rep] at ra
  obtain ⟨a1, a2, a3, a4, a5, a6, ka, kc, la, lc, xs, rfl, a7, a8, a9⟩ := ra
  refine c18 (by simp) ?_
  ((conv=>whnf);repeat((first|(with_reducible first|refine Z1 ?_|refine Z2 ?_|refine Z3 ?_|refine Z4 ?_|refine Z5 ?_|refine Z9 (by assumption) rfl ?_|refine ZA (by assumption) rfl ?_|refine ZB (by assumption) rfl ?_|refine Z6 ?_|refine Z7 ?_|refine Z8 ?_)|((with_reducible refine ZM ?_ ?_);(focus rfl)));(conv=>whnf)))
  refine new_var (e := 25) [.int .i64 k1, .int .i64 n1, .string s1, .slice ka ks1.length kc, .slice la l1.length lc] rfl ?_
  intro h1 bx ox x1 z1 _
  ((conv=>whnf);repeat((first|(with_reducible first|refine Z1 ?_|refine Z2 ?_|refine Z3 ?_|refine Z4 ?_|refine Z5 ?_|refine Z9 (by assumption) rfl ?_|refine ZA (by assumption) rfl ?_|refine ZB (by assumption) rfl ?_|refine Z6 ?_|refine Z7 ?_|refine Z8 ?_)|((with_reducible refine ZM ?_ ?_);(focus rfl)));(conv=>whnf)))
  simp only [vol] at hv
  simp only [sz, vol] at hsv
  refine loop_rule [3, 9] (fun vs h' => ∃ (i : Nat), vs = [.int .i64 ((1 + szs (l1.take i) : Nat) : Int), .int .i64 i] ∧ i ≤ l1.length ∧ Ext h1 h')
    (fun vs _ => match vs with | [_, .int _ i] => l1.length - i.toNat | _ => 0) rfl ?_ ?_
  · exact ⟨0, rfl, by omega, Ext.refl _⟩
  intro u h3 v8 v68
  rintro ⟨i, e, hi, x3⟩
  cases e
  have x13 := x1.trans x3
  ((conv=>whnf);repeat((first|(with_reducible first|refine Z1 ?_|refine Z2 ?_|refine Z3 ?_|refine Z4 ?_|refine Z5 ?_|refine Z9 (by assumption) rfl ?_|refine ZA (by assumption) rfl ?_|refine ZB (by assumption) rfl ?_|refine Z6 ?_|refine Z7 ?_|refine Z8 ?_)|((with_reducible refine ZM ?_ ?_);(focus rfl)));(conv=>whnf)))
  refine HIf.mk (fun hb => ?_) (fun hb => ?_)
  · have hi1 : i < l1.length := by have := of_decide_eq_true hb; omega
    have hvi := vols_mem l1 l1[i] (List.getElem_mem hi1)
    have hst : szs (l1.take (i + 1)) = szs (l1.take i) + sz l1[i] := by rw [take_succ' hi1, szs_append]; simp [szs]
    have hsle : szs (l1.take (i + 1)) ≤ szs l1 := by
      have := szs_append (l1.take (i + 1)) (l1.drop (i + 1))
      rw [List.take_append_drop] at this; omega
    have hmu : l1.length - ((i : Int) + 1).toNat < l1.length - ((i : Int)).toNat := by omega
    ((conv=>whnf);repeat((first|(with_reducible first|refine Z1 ?_|refine Z2 ?_|refine Z3 ?_|refine Z4 ?_|refine Z5 ?_|refine Z9 (by assumption) rfl ?_|refine ZA (by assumption) rfl ?_|refine ZB (by assumption) rfl ?_|refine Z6 ?_|refine Z7 ?_|refine Z8 ?_)|((with_reducible refine ZM ?_ ?_);(focus rfl)));(conv=>whnf)))
    refine HIdx.mk i rfl hi1 ?_
    refine sl_some a8 hi1 fun p ep => ?_
    ((conv=>whnf);repeat((first|(with_reducible first|refine Z1 ?_|refine Z2 ?_|refine Z3 ?_|refine Z4 ?_|refine Z5 ?_|refine Z9 (by assumption) rfl ?_|refine ZA (by assumption) rfl ?_|refine ZB (by assumption) rfl ?_|refine Z6 ?_|refine Z7 ?_|refine Z8 ?_)|((with_reducible refine ZM ?_ ?_);(focus rfl)));(conv=>whnf)))
    refine (a8.ext x13).loadRep (Reps.ext x13 _ _ a9) ep hi1 fun as' ra1 => ?_
    ((conv=>whnf);repeat((first|(with_reducible first|refine Z1 ?_|refine Z2 ?_|refine Z3 ?_|refine Z4 ?_|refine Z5 ?_|refine Z9 (by assumption) rfl ?_|refine ZA (by assumption) rfl ?_|refine ZB (by assumption) rfl ?_|refine Z6 ?_|refine Z7 ?_|refine Z8 ?_)|((with_reducible refine ZM ?_ ?_);(focus rfl)));(conv=>whnf)))
    refine new_var (e := 25) zeroD rfl ?_
    intro h4 b4 o4 x4 z4 hb4
    ((conv=>whnf);repeat((first|(with_reducible first|refine Z1 ?_|refine Z2 ?_|refine Z3 ?_|refine Z4 ?_|refine Z5 ?_|refine Z9 (by assumption) rfl ?_|refine ZA (by assumption) rfl ?_|refine ZB (by assumption) rfl ?_|refine Z6 ?_|refine Z7 ?_|refine Z8 ?_)|((with_reducible refine ZM ?_ ?_);(focus rfl)));(conv=>whnf)))
    have hal := ra1.len
    refine HMust.mk (by simpa using hal) ?_
    refine store_new o4 (by simp [hal]) (by simpa using ra1.one) ?_
    intro h5 f5 z5 o5
    have x45 : Ext h3 h5 := x4.offNew f5 (by omega)
    ((conv=>whnf);repeat((first|(with_reducible first|refine Z1 ?_|refine Z2 ?_|refine Z3 ?_|refine Z4 ?_|refine Z5 ?_|refine Z9 (by assumption) rfl ?_|refine ZA (by assumption) rfl ?_|refine ZB (by assumption) rfl ?_|refine Z6 ?_|refine Z7 ?_|refine Z8 ?_)|((with_reducible refine ZM ?_ ?_);(focus rfl)));(conv=>whnf)))
    refine blk_ldN o5 (by simpa using hal) ?_
    ((conv=>whnf);repeat((first|(with_reducible first|refine Z1 ?_|refine Z2 ?_|refine Z3 ?_|refine Z4 ?_|refine Z5 ?_|refine Z9 (by assumption) rfl ?_|refine ZA (by assumption) rfl ?_|refine ZB (by assumption) rfl ?_|refine Z6 ?_|refine Z7 ?_|refine Z8 ?_)|((with_reducible refine ZM ?_ ?_);(focus rfl)));(conv=>whnf)))
    refine HCall.mk ((ih l1[i] (dt_lt hi1) h5 as' (Rep.ext x45 _ _ ra1) (by omega)).mono ?_)
    rintro e h6 ⟨rfl, x6⟩
    ((conv=>whnf);repeat((first|(with_reducible first|refine Z1 ?_|refine Z2 ?_|refine Z3 ?_|refine Z4 ?_|refine Z5 ?_|refine Z9 (by assumption) rfl ?_|refine ZA (by assumption) rfl ?_|refine ZB (by assumption) rfl ?_|refine Z6 ?_|refine Z7 ?_|refine Z8 ?_)|((with_reducible refine ZM ?_ ?_);(focus rfl)));(conv=>whnf)))
    refine ⟨⟨i + 1, ?_, by omega, x3.trans (x45.trans x6)⟩, hmu⟩
    have e1 : ((1 + szs (l1.take (i + 1)) : Nat) : Int) = ((1 + szs (l1.take i) : Nat) : Int) + (sz l1[i] : Nat) := by omega
    rw [e1]; rfl
  · have hge := of_decide_eq_false hb
    have hik : l1.take i = l1 := List.take_of_length_le (by omega)
    rw [hik]
    ((conv=>whnf);repeat((first|(with_reducible first|refine Z1 ?_|refine Z2 ?_|refine Z3 ?_|refine Z4 ?_|refine Z5 ?_|refine Z9 (by assumption) rfl ?_|refine ZA (by assumption) rfl ?_|refine ZB (by assumption) rfl ?_|refine Z6 ?_|refine Z7 ?_|refine Z8 ?_)|((with_reducible refine ZM ?_ ?_);(focus rfl)));(conv=>whnf)))
    exact ⟨by simp only [sz]; rfl, x13⟩

theorem eqs_spec {h : Heap} {ka kb : Option Addr} {kc kd : Nat} {ks js : List ByteArray} (sa : Sl h 1 ka ks.length kc (ks.map .string)) (sb : Sl h 1 kb js.length kd (js.map .string)) (hl : ks.length ≤ 140737488351232) :
    HCalls Tryd.prog 29 #[.slice ka ks.length kc, .slice kb js.length kd] h fun e h' => ∃ r, e = .returned (.bool r) ∧ (r = true ↔ ks = js) ∧ h' = h := by
  refine c29 (by simp) ?_
  by_cases hle : ks.length = js.length
  · have q : ((ks.length : Int) != (js.length : Int)) = false := by rw [hle]; simp
    ((conv=>whnf);repeat((first|(with_reducible first|refine Z1 ?_|refine Z2 ?_|refine Z3 ?_|refine Z4 ?_|refine Z5 ?_|refine Z9 (by assumption) rfl ?_|refine ZA (by assumption) rfl ?_|refine ZB (by assumption) rfl ?_|refine Z6 ?_|refine Z7 ?_|refine Z8 ?_)|((with_reducible refine ZM ?_ ?_);(focus rfl)));(conv=>whnf)))
    refine loop_rule [13] (fun vs h' => ∃ (i : Nat), vs = [.int .i64 i] ∧ i ≤ ks.length ∧ ks.take i = js.take i ∧ h' = h)
      (fun vs _ => match vs with | [.int _ i] => ks.length - i.toNat | _ => 0) rfl ?_ ?_
    · exact ⟨0, rfl, by omega, rfl, rfl⟩
    intro u h2 v13
    rintro ⟨i, e, hi, ht, rfl⟩
    cases e
    ((conv=>whnf);repeat((first|(with_reducible first|refine Z1 ?_|refine Z2 ?_|refine Z3 ?_|refine Z4 ?_|refine Z5 ?_|refine Z9 (by assumption) rfl ?_|refine ZA (by assumption) rfl ?_|refine ZB (by assumption) rfl ?_|refine Z6 ?_|refine Z7 ?_|refine Z8 ?_)|((with_reducible refine ZM ?_ ?_);(focus rfl)));(conv=>whnf)))
    refine HIf.mk (fun hb => ?_) (fun hb => ?_)
    · have hi1 : i < ks.length := by have := of_decide_eq_true hb; omega
      have hi2 : i < js.length := by omega
      have hmu : ks.length - ((i : Int) + 1).toNat < ks.length - ((i : Int)).toNat := by omega
      ((conv=>whnf);repeat((first|(with_reducible first|refine Z1 ?_|refine Z2 ?_|refine Z3 ?_|refine Z4 ?_|refine Z5 ?_|refine Z9 (by assumption) rfl ?_|refine ZA (by assumption) rfl ?_|refine ZB (by assumption) rfl ?_|refine Z6 ?_|refine Z7 ?_|refine Z8 ?_)|((with_reducible refine ZM ?_ ?_);(focus rfl)));(conv=>whnf)))
      refine HIdx.mk i rfl hi1 ?_
      refine sl_some sa hi1 fun p ep => ?_
      ((conv=>whnf);repeat((first|(with_reducible first|refine Z1 ?_|refine Z2 ?_|refine Z3 ?_|refine Z4 ?_|refine Z5 ?_|refine Z9 (by assumption) rfl ?_|refine ZA (by assumption) rfl ?_|refine ZB (by assumption) rfl ?_|refine Z6 ?_|refine Z7 ?_|refine Z8 ?_)|((with_reducible refine ZM ?_ ?_);(focus rfl)));(conv=>whnf)))
      refine sa.load ep (by simpa using hi1) ?_
      rw [List.getElem_map]
      ((conv=>whnf);repeat((first|(with_reducible first|refine Z1 ?_|refine Z2 ?_|refine Z3 ?_|refine Z4 ?_|refine Z5 ?_|refine Z9 (by assumption) rfl ?_|refine ZA (by assumption) rfl ?_|refine ZB (by assumption) rfl ?_|refine Z6 ?_|refine Z7 ?_|refine Z8 ?_)|((with_reducible refine ZM ?_ ?_);(focus rfl)));(conv=>whnf)))
      refine HIdx.mk i rfl hi2 ?_
      refine sl_some sb hi2 fun p2 ep2 => ?_
      ((conv=>whnf);repeat((first|(with_reducible first|refine Z1 ?_|refine Z2 ?_|refine Z3 ?_|refine Z4 ?_|refine Z5 ?_|refine Z9 (by assumption) rfl ?_|refine ZA (by assumption) rfl ?_|refine ZB (by assumption) rfl ?_|refine Z6 ?_|refine Z7 ?_|refine Z8 ?_)|((with_reducible refine ZM ?_ ?_);(focus rfl)));(conv=>whnf)))
      refine sb.load ep2 (by simpa using hi2) ?_
      rw [List.getElem_map]
      by_cases hk : ks[i] = js[i]
      · have q2 : (!strEq ks[i] js[i]) = false := by rw [(strEq_iff _ _).2 hk]; rfl
        ((conv=>whnf);repeat((first|(with_reducible first|refine Z1 ?_|refine Z2 ?_|refine Z3 ?_|refine Z4 ?_|refine Z5 ?_|refine Z9 (by assumption) rfl ?_|refine ZA (by assumption) rfl ?_|refine ZB (by assumption) rfl ?_|refine Z6 ?_|refine Z7 ?_|refine Z8 ?_)|((with_reducible refine ZM ?_ ?_);(focus rfl)));(conv=>whnf)))
        refine ⟨⟨i + 1, rfl, by omega, ?_, rfl⟩, hmu⟩
        rw [take_succ' hi1, take_succ' hi2, ht, hk]
      · have q2 : (!strEq ks[i] js[i]) = true := by rw [(strEq_no _ _).2 hk]; rfl
        ((conv=>whnf);repeat((first|(with_reducible first|refine Z1 ?_|refine Z2 ?_|refine Z3 ?_|refine Z4 ?_|refine Z5 ?_|refine Z9 (by assumption) rfl ?_|refine ZA (by assumption) rfl ?_|refine ZB (by assumption) rfl ?_|refine Z6 ?_|refine Z7 ?_|refine Z8 ?_)|((with_reducible refine ZM ?_ ?_);(focus rfl)));(conv=>whnf)))
        refine ⟨false, rfl, ?_, rfl⟩
        simp only [Bool.false_eq_true, false_iff]
        rintro rfl
        exact hk rfl
    · have hge := of_decide_eq_false hb
      rw [List.take_of_length_le (by omega), List.take_of_length_le (by omega)] at ht
      ((conv=>whnf);repeat((first|(with_reducible first|refine Z1 ?_|refine Z2 ?_|refine Z3 ?_|refine Z4 ?_|refine Z5 ?_|refine Z9 (by assumption) rfl ?_|refine ZA (by assumption) rfl ?_|refine ZB (by assumption) rfl ?_|refine Z6 ?_|refine Z7 ?_|refine Z8 ?_)|((with_reducible refine ZM ?_ ?_);(focus rfl)));(conv=>whnf)))
      exact ⟨true, rfl, by simp [ht], rfl⟩
  · have q : ((ks.length : Int) != (js.length : Int)) = true := bne_iff_ne.2 (by omega)
    ((conv=>whnf);repeat((first|(with_reducible first|refine Z1 ?_|refine Z2 ?_|refine Z3 ?_|refine Z4 ?_|refine Z5 ?_|refine Z9 (by assumption) rfl ?_|refine ZA (by assumption) rfl ?_|refine ZB (by assumption) rfl ?_|refine Z6 ?_|refine Z7 ?_|refine Z8 ?_)|((with_reducible refine ZM ?_ ?_);(focus rfl)));(conv=>whnf)))
    refine ⟨false, rfl, ?_, rfl⟩
    simp only [Bool.false_eq_true, false_iff]
    rintro rfl
    exact hle rfl

theorem same15_spec : ∀ (a b : DT) (h : Heap) (cs ds : List Value), Rep h a cs → Rep h b ds →
    HCalls Tryd.prog 15 #[.agg cs.toArray, .agg ds.toArray] h fun e h' => ∃ r, e = .returned (.bool r) ∧ (r = true ↔ a = b) ∧ Ext h h' := by
  intro a
  induction a using (measure (fun d : DT => SizeOf.sizeOf d)).wf.induction with
  | _ a ih =>
  intro b h cs ds ra rb
  obtain ⟨k1, n1, s1, ks1, l1⟩ := a
  obtain ⟨k2, n2, s2, ks2, l2⟩ := b
  simp only [Rep] at ra rb
  obtain ⟨a1, a2, a3, a4, a5, a6, ka, kc, la, lc, xs, rfl, a7, a8, a9⟩ := ra
  obtain ⟨b1, b2, b3, b4, b5, b6, kb, kd, lb, ld, ys, rfl, b7, b8, b9⟩ := rb
  refine c15 (by simp) ?_
  ((conv=>whnf);repeat((first|(with_reducible first|refine Z1 ?_|refine Z2 ?_|refine Z3 ?_|refine Z4 ?_|refine Z5 ?_|refine Z9 (by assumption) rfl ?_|refine ZA (by assumption) rfl ?_|refine ZB (by assumption) rfl ?_|refine Z6 ?_|refine Z7 ?_|refine Z8 ?_)|((with_reducible refine ZM ?_ ?_);(focus rfl)));(conv=>whnf)))
  refine new_var (e := 25) [.int .i64 k1, .int .i64 n1, .string s1, .slice ka ks1.length kc, .slice la l1.length lc] rfl ?_
  intro h1 bx ox x1 z1 _
  ((conv=>whnf);repeat((first|(with_reducible first|refine Z1 ?_|refine Z2 ?_|refine Z3 ?_|refine Z4 ?_|refine Z5 ?_|refine Z9 (by assumption) rfl ?_|refine ZA (by assumption) rfl ?_|refine ZB (by assumption) rfl ?_|refine Z6 ?_|refine Z7 ?_|refine Z8 ?_)|((with_reducible refine ZM ?_ ?_);(focus rfl)));(conv=>whnf)))
  refine new_var (e := 25) [.int .i64 k2, .int .i64 n2, .string s2, .slice kb ks2.length kd, .slice lb l2.length ld] rfl ?_
  intro h2 b2' oy x2 z2 _
  have ox2 := ox.ext x2
  have x12 := x1.trans x2
  clear ox
  by_cases e1 : k1 = k2
  rotate_left
  · have q : ((k1 : Int) == k2) = false := beq_eq_false_iff_ne.2 e1
    ((conv=>whnf);repeat((first|(with_reducible first|refine Z1 ?_|refine Z2 ?_|refine Z3 ?_|refine Z4 ?_|refine Z5 ?_|refine Z9 (by assumption) rfl ?_|refine ZA (by assumption) rfl ?_|refine ZB (by assumption) rfl ?_|refine Z6 ?_|refine Z7 ?_|refine Z8 ?_)|((with_reducible refine ZM ?_ ?_);(focus rfl)));(conv=>whnf)))
    exact ⟨false, rfl, by simp [e1], x12⟩
  have q1 : ((k1 : Int) == k2) = true := beq_iff_eq.2 e1
  by_cases e2 : n1 = n2
  rotate_left
  · have q : ((n1 : Int) == n2) = false := beq_eq_false_iff_ne.2 e2
    ((conv=>whnf);repeat((first|(with_reducible first|refine Z1 ?_|refine Z2 ?_|refine Z3 ?_|refine Z4 ?_|refine Z5 ?_|refine Z9 (by assumption) rfl ?_|refine ZA (by assumption) rfl ?_|refine ZB (by assumption) rfl ?_|refine Z6 ?_|refine Z7 ?_|refine Z8 ?_)|((with_reducible refine ZM ?_ ?_);(focus rfl)));(conv=>whnf)))
    exact ⟨false, rfl, by simp [e2], x12⟩
  have q2 : ((n1 : Int) == n2) = true := beq_iff_eq.2 e2
  by_cases e3 : s1 = s2
  rotate_left
  · have q : strEq s1 s2 = false := (strEq_no _ _).2 e3
    ((conv=>whnf);repeat((first|(with_reducible first|refine Z1 ?_|refine Z2 ?_|refine Z3 ?_|refine Z4 ?_|refine Z5 ?_|refine Z9 (by assumption) rfl ?_|refine ZA (by assumption) rfl ?_|refine ZB (by assumption) rfl ?_|refine Z6 ?_|refine Z7 ?_|refine Z8 ?_)|((with_reducible refine ZM ?_ ?_);(focus rfl)));(conv=>whnf)))
    exact ⟨false, rfl, by simp [e3], x12⟩
  have q3 : strEq s1 s2 = true := (strEq_iff _ _).2 e3
  ((conv=>whnf);repeat((first|(with_reducible first|refine Z1 ?_|refine Z2 ?_|refine Z3 ?_|refine Z4 ?_|refine Z5 ?_|refine Z9 (by assumption) rfl ?_|refine ZA (by assumption) rfl ?_|refine ZB (by assumption) rfl ?_|refine Z6 ?_|refine Z7 ?_|refine Z8 ?_)|((with_reducible refine ZM ?_ ?_);(focus rfl)));(conv=>whnf)))
  refine HCall.mk ((eqs_spec (a7.ext x12) (b7.ext x12) a4).mono ?_)
  rintro e h2 ⟨r4, rfl, hr4, rfl⟩
  by_cases e4 : ks1 = ks2
  rotate_left
  · have q : r4 = false := by cases r4 with
      | false => rfl
      | true => exact absurd (hr4.1 rfl) e4
    subst q
    ((conv=>whnf);repeat((first|(with_reducible first|refine Z1 ?_|refine Z2 ?_|refine Z3 ?_|refine Z4 ?_|refine Z5 ?_|refine Z9 (by assumption) rfl ?_|refine ZA (by assumption) rfl ?_|refine ZB (by assumption) rfl ?_|refine Z6 ?_|refine Z7 ?_|refine Z8 ?_)|((with_reducible refine ZM ?_ ?_);(focus rfl)));(conv=>whnf)))
    exact ⟨false, rfl, by simp [e4], x12⟩
  have q4 : r4 = true := hr4.2 e4
  subst q4
  ((conv=>whnf);repeat((first|(with_reducible first|refine Z1 ?_|refine Z2 ?_|refine Z3 ?_|refine Z4 ?_|refine Z5 ?_|refine Z9 (by assumption) rfl ?_|refine ZA (by assumption) rfl ?_|refine ZB (by assumption) rfl ?_|refine Z6 ?_|refine Z7 ?_|refine Z8 ?_)|((with_reducible refine ZM ?_ ?_);(focus rfl)));(conv=>whnf)))
  have fin : ∀ (r : Bool) (h' : Heap), (r = true ↔ l1 = l2) → Ext h2 h' → ∃ r', Ending.returned (.bool r) = .returned (.bool r') ∧ (r' = true ↔ DT.mk k1 n1 s1 ks1 l1 = DT.mk k2 n2 s2 ks2 l2) ∧ Ext h h' :=
    fun r h' hr x => ⟨r, rfl, by rw [hr]; simp [e1, e2, e3, e4], x12.trans x⟩
  refine HCall.mk (HCalls.mono (R := fun e h' => ∃ r, e = .returned (.bool r) ∧ (r = true ↔ l1 = l2) ∧ Ext h2 h') ?_ ?_)
  rotate_left
  · rintro e h3 ⟨r, rfl, hr, x3⟩
    ((conv=>whnf);repeat((first|(with_reducible first|refine Z1 ?_|refine Z2 ?_|refine Z3 ?_|refine Z4 ?_|refine Z5 ?_|refine Z9 (by assumption) rfl ?_|refine ZA (by assumption) rfl ?_|refine ZB (by assumption) rfl ?_|refine Z6 ?_|refine Z7 ?_|refine Z8 ?_)|((with_reducible refine ZM ?_ ?_);(focus rfl)));(conv=>whnf)))
    exact fin r h3 hr x3
  refine c30 (by simp) ?_
  by_cases hle : l1.length = l2.length
  rotate_left
  · have q : ((l1.length : Int) != (l2.length : Int)) = true := bne_iff_ne.2 (by omega)
    ((conv=>whnf);repeat((first|(with_reducible first|refine Z1 ?_|refine Z2 ?_|refine Z3 ?_|refine Z4 ?_|refine Z5 ?_|refine Z9 (by assumption) rfl ?_|refine ZA (by assumption) rfl ?_|refine ZB (by assumption) rfl ?_|refine Z6 ?_|refine Z7 ?_|refine Z8 ?_)|((with_reducible refine ZM ?_ ?_);(focus rfl)));(conv=>whnf)))
    refine ⟨false, rfl, ?_, Ext.refl _⟩
    simp only [Bool.false_eq_true, false_iff]
    rintro rfl
    exact hle rfl
  have q5 : ((l1.length : Int) != (l2.length : Int)) = false := by rw [hle]; simp
  ((conv=>whnf);repeat((first|(with_reducible first|refine Z1 ?_|refine Z2 ?_|refine Z3 ?_|refine Z4 ?_|refine Z5 ?_|refine Z9 (by assumption) rfl ?_|refine ZA (by assumption) rfl ?_|refine ZB (by assumption) rfl ?_|refine Z6 ?_|refine Z7 ?_|refine Z8 ?_)|((with_reducible refine ZM ?_ ?_);(focus rfl)));(conv=>whnf)))
  refine loop_rule [17] (fun vs h' => ∃ (i : Nat), vs = [.int .i64 i] ∧ i ≤ l1.length ∧ l1.take i = l2.take i ∧ Ext h2 h')
    (fun vs _ => match vs with | [.int _ i] => l1.length - i.toNat | _ => 0) rfl ?_ ?_
  · exact ⟨0, rfl, by omega, rfl, Ext.refl _⟩
  intro u h3 v17
  rintro ⟨i, e, hi, ht, x3⟩
  cases e
  have x13 := x12.trans x3
  ((conv=>whnf);repeat((first|(with_reducible first|refine Z1 ?_|refine Z2 ?_|refine Z3 ?_|refine Z4 ?_|refine Z5 ?_|refine Z9 (by assumption) rfl ?_|refine ZA (by assumption) rfl ?_|refine ZB (by assumption) rfl ?_|refine Z6 ?_|refine Z7 ?_|refine Z8 ?_)|((with_reducible refine ZM ?_ ?_);(focus rfl)));(conv=>whnf)))
  refine HIf.mk (fun hb => ?_) (fun hb => ?_)
  · have hi1 : i < l1.length := by have := of_decide_eq_true hb; omega
    have hi2 : i < l2.length := by omega
    have hmu : l1.length - ((i : Int) + 1).toNat < l1.length - ((i : Int)).toNat := by omega
    ((conv=>whnf);repeat((first|(with_reducible first|refine Z1 ?_|refine Z2 ?_|refine Z3 ?_|refine Z4 ?_|refine Z5 ?_|refine Z9 (by assumption) rfl ?_|refine ZA (by assumption) rfl ?_|refine ZB (by assumption) rfl ?_|refine Z6 ?_|refine Z7 ?_|refine Z8 ?_)|((with_reducible refine ZM ?_ ?_);(focus rfl)));(conv=>whnf)))
    refine HIdx.mk i rfl hi1 ?_
    refine sl_some a8 hi1 fun p ep => ?_
    ((conv=>whnf);repeat((first|(with_reducible first|refine Z1 ?_|refine Z2 ?_|refine Z3 ?_|refine Z4 ?_|refine Z5 ?_|refine Z9 (by assumption) rfl ?_|refine ZA (by assumption) rfl ?_|refine ZB (by assumption) rfl ?_|refine Z6 ?_|refine Z7 ?_|refine Z8 ?_)|((with_reducible refine ZM ?_ ?_);(focus rfl)));(conv=>whnf)))
    refine (a8.ext x13).loadRep (Reps.ext x13 _ _ a9) ep hi1 fun as' ra1 => ?_
    ((conv=>whnf);repeat((first|(with_reducible first|refine Z1 ?_|refine Z2 ?_|refine Z3 ?_|refine Z4 ?_|refine Z5 ?_|refine Z9 (by assumption) rfl ?_|refine ZA (by assumption) rfl ?_|refine ZB (by assumption) rfl ?_|refine Z6 ?_|refine Z7 ?_|refine Z8 ?_)|((with_reducible refine ZM ?_ ?_);(focus rfl)));(conv=>whnf)))
    refine new_var (e := 25) zeroD rfl ?_
    intro h4 c4 o4 x4 z4 hc4
    ((conv=>whnf);repeat((first|(with_reducible first|refine Z1 ?_|refine Z2 ?_|refine Z3 ?_|refine Z4 ?_|refine Z5 ?_|refine Z9 (by assumption) rfl ?_|refine ZA (by assumption) rfl ?_|refine ZB (by assumption) rfl ?_|refine Z6 ?_|refine Z7 ?_|refine Z8 ?_)|((with_reducible refine ZM ?_ ?_);(focus rfl)));(conv=>whnf)))
    have hal := ra1.len
    refine HMust.mk (by simpa using hal) ?_
    refine store_new o4 (by simp [hal]) (by simpa using ra1.one) ?_
    intro h5 f5 z5 o5
    have x35 : Ext h3 h5 := x4.offNew f5 (by omega)
    have x15 := x13.trans x35
    ((conv=>whnf);repeat((first|(with_reducible first|refine Z1 ?_|refine Z2 ?_|refine Z3 ?_|refine Z4 ?_|refine Z5 ?_|refine Z9 (by assumption) rfl ?_|refine ZA (by assumption) rfl ?_|refine ZB (by assumption) rfl ?_|refine Z6 ?_|refine Z7 ?_|refine Z8 ?_)|((with_reducible refine ZM ?_ ?_);(focus rfl)));(conv=>whnf)))
    refine HIdx.mk i rfl hi2 ?_
    refine sl_some b8 hi2 fun p2 ep2 => ?_
    ((conv=>whnf);repeat((first|(with_reducible first|refine Z1 ?_|refine Z2 ?_|refine Z3 ?_|refine Z4 ?_|refine Z5 ?_|refine Z9 (by assumption) rfl ?_|refine ZA (by assumption) rfl ?_|refine ZB (by assumption) rfl ?_|refine Z6 ?_|refine Z7 ?_|refine Z8 ?_)|((with_reducible refine ZM ?_ ?_);(focus rfl)));(conv=>whnf)))
    refine (b8.ext x15).loadRep (Reps.ext x15 _ _ b9) ep2 hi2 fun bs' rb1 => ?_
    ((conv=>whnf);repeat((first|(with_reducible first|refine Z1 ?_|refine Z2 ?_|refine Z3 ?_|refine Z4 ?_|refine Z5 ?_|refine Z9 (by assumption) rfl ?_|refine ZA (by assumption) rfl ?_|refine ZB (by assumption) rfl ?_|refine Z6 ?_|refine Z7 ?_|refine Z8 ?_)|((with_reducible refine ZM ?_ ?_);(focus rfl)));(conv=>whnf)))
    refine new_var (e := 25) zeroD rfl ?_
    intro h6 c6 o6 x6 z6 hc6
    ((conv=>whnf);repeat((first|(with_reducible first|refine Z1 ?_|refine Z2 ?_|refine Z3 ?_|refine Z4 ?_|refine Z5 ?_|refine Z9 (by assumption) rfl ?_|refine ZA (by assumption) rfl ?_|refine ZB (by assumption) rfl ?_|refine Z6 ?_|refine Z7 ?_|refine Z8 ?_)|((with_reducible refine ZM ?_ ?_);(focus rfl)));(conv=>whnf)))
    have hbl := rb1.len
    refine HMust.mk (by simpa using hbl) ?_
    refine store_new o6 (by simp [hbl]) (by simpa using rb1.one) ?_
    intro h7 f7 z7 o7
    have x57 : Ext h5 h7 := x6.offNew f7 (by omega)
    have o57 := o5.ext x57
    ((conv=>whnf);repeat((first|(with_reducible first|refine Z1 ?_|refine Z2 ?_|refine Z3 ?_|refine Z4 ?_|refine Z5 ?_|refine Z9 (by assumption) rfl ?_|refine ZA (by assumption) rfl ?_|refine ZB (by assumption) rfl ?_|refine Z6 ?_|refine Z7 ?_|refine Z8 ?_)|((with_reducible refine ZM ?_ ?_);(focus rfl)));(conv=>whnf)))
    refine blk_ldN o57 (by simpa using hal) ?_
    ((conv=>whnf);repeat((first|(with_reducible first|refine Z1 ?_|refine Z2 ?_|refine Z3 ?_|refine Z4 ?_|refine Z5 ?_|refine Z9 (by assumption) rfl ?_|refine ZA (by assumption) rfl ?_|refine ZB (by assumption) rfl ?_|refine Z6 ?_|refine Z7 ?_|refine Z8 ?_)|((with_reducible refine ZM ?_ ?_);(focus rfl)));(conv=>whnf)))
    refine blk_ldN o7 (by simpa using hbl) ?_
    ((conv=>whnf);repeat((first|(with_reducible first|refine Z1 ?_|refine Z2 ?_|refine Z3 ?_|refine Z4 ?_|refine Z5 ?_|refine Z9 (by assumption) rfl ?_|refine ZA (by assumption) rfl ?_|refine ZB (by assumption) rfl ?_|refine Z6 ?_|refine Z7 ?_|refine Z8 ?_)|((with_reducible refine ZM ?_ ?_);(focus rfl)));(conv=>whnf)))
    refine HCall.mk ((ih l1[i] (dt_lt hi1) l2[i] h7 as' bs' (Rep.ext (x35.trans x57) _ _ ra1) (Rep.ext x57 _ _ rb1)).mono ?_)
    rintro e h8 ⟨r, rfl, hr, x8⟩
    have x38 := x35.trans (x57.trans x8)
    by_cases hk : l1[i] = l2[i]
    · have q : r = true := hr.2 hk
      subst q
      ((conv=>whnf);repeat((first|(with_reducible first|refine Z1 ?_|refine Z2 ?_|refine Z3 ?_|refine Z4 ?_|refine Z5 ?_|refine Z9 (by assumption) rfl ?_|refine ZA (by assumption) rfl ?_|refine ZB (by assumption) rfl ?_|refine Z6 ?_|refine Z7 ?_|refine Z8 ?_)|((with_reducible refine ZM ?_ ?_);(focus rfl)));(conv=>whnf)))
      refine ⟨⟨i + 1, rfl, by omega, ?_, x3.trans x38⟩, hmu⟩
      rw [take_succ' hi1, take_succ' hi2, ht, hk]
    · have q : r = false := by cases r with
        | false => rfl
        | true => exact absurd (hr.1 rfl) hk
      subst q
      ((conv=>whnf);repeat((first|(with_reducible first|refine Z1 ?_|refine Z2 ?_|refine Z3 ?_|refine Z4 ?_|refine Z5 ?_|refine Z9 (by assumption) rfl ?_|refine ZA (by assumption) rfl ?_|refine ZB (by assumption) rfl ?_|refine Z6 ?_|refine Z7 ?_|refine Z8 ?_)|((with_reducible refine ZM ?_ ?_);(focus rfl)));(conv=>whnf)))
      refine ⟨false, rfl, ?_, x3.trans x38⟩
      simp only [Bool.false_eq_true, false_iff]
      rintro rfl
      exact hk rfl
  · have hge := of_decide_eq_false hb
    rw [List.take_of_length_le (by omega), List.take_of_length_le (by omega)] at ht
    ((conv=>whnf);repeat((first|(with_reducible first|refine Z1 ?_|refine Z2 ?_|refine Z3 ?_|refine Z4 ?_|refine Z5 ?_|refine Z9 (by assumption) rfl ?_|refine ZA (by assumption) rfl ?_|refine ZB (by assumption) rfl ?_|refine Z6 ?_|refine Z7 ?_|refine Z8 ?_)|((with_reducible refine ZM ?_ ?_);(focus rfl)));(conv=>whnf)))
    exact ⟨true, rfl, by simp [ht], x3⟩

end Go.Proofs.YtmibnfjjlibpgaaDoor.Hc
