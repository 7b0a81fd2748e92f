import Derived.Test.YthagjflkdoafmaaN6
import Derived.Test.YthagjflkdoafmaaHP
set_option linter.unusedVariables false
set_option linter.unusedSimpArgs false
namespace Go.Proofs.Ythagjflkdoafmaa.Hc
open Go Go.H Go.Proofs
set_option maxRecDepth 100000
set_option maxHeartbeats 4000000

/-- How many keys are not above. -/
def childN (ks : List ByteArray) (key : ByteArray) : Nat := ks.countP fun k => strLe k key
theorem childN_step {ks : List ByteArray} {key : ByteArray} {i : Nat} (hi : i < ks.length) : childN (ks.take (i + 1)) key = childN (ks.take i) key + (if strLe ks[i] key = true then 1 else 0) := by
  unfold childN
  rw [List.take_add_one, List.getElem?_eq_getElem hi, Option.toList_some, List.countP_append, List.countP_singleton]
theorem childN_le (ks : List ByteArray) (key : ByteArray) : childN ks key ≤ ks.length := List.countP_le_length
theorem childN_at {ks : List ByteArray} {key : ByteArray} {j : Nat} (hj : j ≤ ks.length) (h1 : ∀ i (hi : i < ks.length), i < j → strLe ks[i] key = true) (h2 : ∀ i (hi : i < ks.length), j ≤ i → strLe ks[i] key = false) : childN ks key = j := by
  have key1 : ∀ i, i ≤ ks.length → childN (ks.take i) key = min i j := by
    intro i
    induction i with
    | zero => intro _; simp [childN]
    | succ i ih =>
      intro hi
      rw [childN_step (by omega), ih (by omega)]
      by_cases h : i < j
      · rw [h1 i (by omega) h, if_pos rfl]; omega
      · rw [h2 i (by omega) (by omega), if_neg (by simp)]; omega
  have := key1 ks.length (Nat.le_refl _)
  rw [List.take_length] at this
  rw [this]; omega

theorem rchildN_spec {d : ND} {h : Heap} {cs : List Value} (key : ByteArray) (ra : NRep h d cs) :
    HCalls Try.prog 17 #[.agg cs.toArray, .string key] h fun e h' => e = .returned (.int .i64 (childN d.keys key : Nat)) ∧ Ext h h' := by
  obtain ⟨a1, a2, a3, a4, a5, a6, ka, kc, va, vc, ia, ic, rfl, s1, s2, s3⟩ := ra
  refine c17 (by simp) ?_
  (conv => whnf)
  refine new_var (e := 25) [.slice ka d.keys.length kc, .slice va d.vals.length vc, .slice ia d.kids.length ic] rfl ?_
  intro h1 bx ox x1 z1 hbx
  have t1 := s1.ext x1
  ((conv=>whnf);repeat((first|(with_reducible first|refine Z1 ?_|refine Z2 ?_|refine Z3 ?_|refine Z4 ?_|refine Z5 ?_|refine Z9 (by assumption) rfl ?_|refine ZA (by assumption) rfl ?_|refine ZB (by assumption) rfl ?_|refine Z6 ?_|refine Z7 ?_|refine Z8 ?_)|((with_reducible refine ZM ?_ ?_);(focus rfl)));(conv=>whnf)))
  refine loop_rule [5, 11] (fun vs h' => ∃ (i : Nat), vs = [.int .i64 (childN (d.keys.take i) key : Nat), .int .i64 i] ∧ i ≤ d.keys.length ∧ h' = h1)
    (fun vs _ => match vs with | [_, .int _ i] => d.keys.length - i.toNat | _ => 0) rfl ?_ ?_
  · exact ⟨0, rfl, by omega, rfl⟩
  intro u h1 v5 v11
  rintro ⟨i, e, hi, rfl⟩
  cases e
  ((conv=>whnf);repeat((first|(with_reducible first|refine Z1 ?_|refine Z2 ?_|refine Z3 ?_|refine Z4 ?_|refine Z5 ?_|refine Z9 (by assumption) rfl ?_|refine ZA (by assumption) rfl ?_|refine ZB (by assumption) rfl ?_|refine Z6 ?_|refine Z7 ?_|refine Z8 ?_)|((with_reducible refine ZM ?_ ?_);(focus rfl)));(conv=>whnf)))
  refine HIf.mk (fun hlt => ?_) (fun hlt => ?_)
  · have hi1 : i < d.keys.length := by have := of_decide_eq_true hlt; omega
    have hmu : d.keys.length - ((i : Int) + 1).toNat < d.keys.length - ((i : Int)).toNat := by omega
    have hc := childN_le (d.keys.take i) key
    rw [List.length_take] at hc
    have hst := childN_step (key := key) hi1
    ((conv=>whnf);repeat((first|(with_reducible first|refine Z1 ?_|refine Z2 ?_|refine Z3 ?_|refine Z4 ?_|refine Z5 ?_|refine Z9 (by assumption) rfl ?_|refine ZA (by assumption) rfl ?_|refine ZB (by assumption) rfl ?_|refine Z6 ?_|refine Z7 ?_|refine Z8 ?_)|((with_reducible refine ZM ?_ ?_);(focus rfl)));(conv=>whnf)))
    refine HIdx.mk i rfl hi1 ?_
    refine sl_some t1 hi1 fun p ep => ?_
    ((conv=>whnf);repeat((first|(with_reducible first|refine Z1 ?_|refine Z2 ?_|refine Z3 ?_|refine Z4 ?_|refine Z5 ?_|refine Z9 (by assumption) rfl ?_|refine ZA (by assumption) rfl ?_|refine ZB (by assumption) rfl ?_|refine Z6 ?_|refine Z7 ?_|refine Z8 ?_)|((with_reducible refine ZM ?_ ?_);(focus rfl)));(conv=>whnf)))
    refine t1.load ep (by simpa using hi1) ?_
    rw [List.getElem_map]
    have hle := strLe_not d.keys[i] key
    unfold strLe at hst
    cases hb : strLt key d.keys[i]
    · rw [hb] at hst hle
      simp only [Bool.not_false, if_true] at hst
      have q : (strLt d.keys[i] key || strEq d.keys[i] key) = true := hle
      ((conv=>whnf);repeat((first|(with_reducible first|refine Z1 ?_|refine Z2 ?_|refine Z3 ?_|refine Z4 ?_|refine Z5 ?_|refine Z9 (by assumption) rfl ?_|refine ZA (by assumption) rfl ?_|refine ZB (by assumption) rfl ?_|refine Z6 ?_|refine Z7 ?_|refine Z8 ?_)|((with_reducible refine ZM ?_ ?_);(focus rfl)));(conv=>whnf)))
      refine ⟨⟨i + 1, ?_, by omega, rfl⟩, hmu⟩
      rw [hst]; rfl
    · rw [hb] at hst hle
      simp only [Bool.not_true, Bool.false_eq_true, if_false, Nat.add_zero] at hst
      have q : (strLt d.keys[i] key || strEq d.keys[i] key) = false := hle
      ((conv=>whnf);repeat((first|(with_reducible first|refine Z1 ?_|refine Z2 ?_|refine Z3 ?_|refine Z4 ?_|refine Z5 ?_|refine Z9 (by assumption) rfl ?_|refine ZA (by assumption) rfl ?_|refine ZB (by assumption) rfl ?_|refine Z6 ?_|refine Z7 ?_|refine Z8 ?_)|((with_reducible refine ZM ?_ ?_);(focus rfl)));(conv=>whnf)))
      refine ⟨⟨i + 1, ?_, by omega, rfl⟩, hmu⟩
      rw [hst]; rfl
  · have hge := of_decide_eq_false hlt
    obtain rfl : i = d.keys.length := by omega
    ((conv=>whnf);repeat((first|(with_reducible first|refine Z1 ?_|refine Z2 ?_|refine Z3 ?_|refine Z4 ?_|refine Z5 ?_|refine Z9 (by assumption) rfl ?_|refine ZA (by assumption) rfl ?_|refine ZB (by assumption) rfl ?_|refine Z6 ?_|refine Z7 ?_|refine Z8 ?_)|((with_reducible refine ZM ?_ ?_);(focus rfl)));(conv=>whnf)))
    refine ⟨?_, x1⟩
    rw [List.take_length]; rfl

/-- Rising keys. -/
def RiseLe (ks : List ByteArray) : Prop := ∀ i (hi : i + 1 < ks.length), strLe ks[i] ks[i + 1] = true
theorem RiseLe.le {ks : List ByteArray} (r : RiseLe ks) {i : Nat} : ∀ (k : Nat) (h : i + k < ks.length), strLe (ks[i]'(by omega)) ks[i + k] = true
  | 0, h => strLe_refl _
  | k + 1, h => strLe_trans (RiseLe.le r k (by omega)) (r (i + k) h)

theorem less_spec (a b : ByteArray) (h : Heap) : HCalls Try.prog 50 #[.string a, .string b] h fun e h' => e = .returned (.bool (strLt a b)) ∧ h' = h := by
  have nan : ∀ s : ByteArray, HCalls Try.prog 59 #[.string s] h fun e h' => e = .returned (.bool false) ∧ h' = h := by
    intro s
    refine c59 (by simp) ?_
    have q : (!strEq s s) = false := by rw [(strEq_iff s s).2 rfl]; rfl
    ((conv=>whnf);repeat((first|(with_reducible first|refine Z1 ?_|refine Z2 ?_|refine Z3 ?_|refine Z4 ?_|refine Z5 ?_|refine Z9 (by assumption) rfl ?_|refine ZA (by assumption) rfl ?_|refine ZB (by assumption) rfl ?_|refine Z6 ?_|refine Z7 ?_|refine Z8 ?_)|((with_reducible refine ZM ?_ ?_);(focus rfl)));(conv=>whnf)))
    generalize he : (!strEq s s) = b at q ⊢
    subst q
    exact ⟨rfl, rfl⟩
  refine c50 (by simp) ?_
  ((conv=>whnf);repeat((first|(with_reducible first|refine Z1 ?_|refine Z2 ?_|refine Z3 ?_|refine Z4 ?_|refine Z5 ?_|refine Z9 (by assumption) rfl ?_|refine ZA (by assumption) rfl ?_|refine ZB (by assumption) rfl ?_|refine Z6 ?_|refine Z7 ?_|refine Z8 ?_)|((with_reducible refine ZM ?_ ?_);(focus rfl)));(conv=>whnf)))
  refine HCall.mk ((nan a).mono ?_)
  rintro e _ ⟨rfl, rfl⟩
  ((conv=>whnf);repeat((first|(with_reducible first|refine Z1 ?_|refine Z2 ?_|refine Z3 ?_|refine Z4 ?_|refine Z5 ?_|refine Z9 (by assumption) rfl ?_|refine ZA (by assumption) rfl ?_|refine ZB (by assumption) rfl ?_|refine Z6 ?_|refine Z7 ?_|refine Z8 ?_)|((with_reducible refine ZM ?_ ?_);(focus rfl)));(conv=>whnf)))
  exact ⟨rfl, rfl⟩

theorem isSorted_spec {a : Option Addr} {n c : Nat} {l : List ByteArray} {h : Heap} (x : Sl h 1 a n c (l.map .string)) (hn : n ≤ 1048576) :
    HCalls Try.prog 29 #[.slice a n c] h fun e h' => ∃ r, e = .returned (.bool r) ∧ (r = true → RiseLe l) ∧ h' = h := by
  have hl : l.length = n := by simpa using x.1
  refine c29 (by simp) ?_
  ((conv=>whnf);repeat((first|(with_reducible first|refine Z1 ?_|refine Z2 ?_|refine Z3 ?_|refine Z4 ?_|refine Z5 ?_|refine Z9 (by assumption) rfl ?_|refine ZA (by assumption) rfl ?_|refine ZB (by assumption) rfl ?_|refine Z6 ?_|refine Z7 ?_|refine Z8 ?_)|((with_reducible refine ZM ?_ ?_);(focus rfl)));(conv=>whnf)))
  refine loop_rule [3] (fun vs h' => ∃ (m : Int), vs = [.int .i64 m] ∧ m < n ∧ -1 ≤ m ∧ (∀ i (hi : i + 1 < l.length), m ≤ i → strLe l[i] l[i + 1] = true) ∧ h' = h)
    (fun vs _ => match vs with | [.int _ i] => i.toNat | _ => 0) rfl ?_ ?_
  · exact ⟨_, rfl, by omega, by omega, by intro i hi hm; omega, rfl⟩
  intro u h1 v3
  rintro ⟨m, e, h2, h3, hs, rfl⟩
  cases e
  ((conv=>whnf);repeat((first|(with_reducible first|refine Z1 ?_|refine Z2 ?_|refine Z3 ?_|refine Z4 ?_|refine Z5 ?_|refine Z9 (by assumption) rfl ?_|refine ZA (by assumption) rfl ?_|refine ZB (by assumption) rfl ?_|refine Z6 ?_|refine Z7 ?_|refine Z8 ?_)|((with_reducible refine ZM ?_ ?_);(focus rfl)));(conv=>whnf)))
  refine HIf.mk (fun hlt => ?_) (fun hlt => ?_)
  · have hm := of_decide_eq_true hlt
    obtain ⟨i, rfl⟩ : ∃ i : Nat, m = ((i + 1 : Nat) : Int) := ⟨m.toNat - 1, by omega⟩
    have hi1 : i + 1 < n := by omega
    have i1 : i + 1 < l.length := by omega
    have i0 : i < l.length := by omega
    have hmu : (((i + 1 : Nat) : Int) - 1).toNat < (((i + 1 : Nat) : Int)).toNat := by omega
    ((conv=>whnf);repeat((first|(with_reducible first|refine Z1 ?_|refine Z2 ?_|refine Z3 ?_|refine Z4 ?_|refine Z5 ?_|refine Z9 (by assumption) rfl ?_|refine ZA (by assumption) rfl ?_|refine ZB (by assumption) rfl ?_|refine Z6 ?_|refine Z7 ?_|refine Z8 ?_)|((with_reducible refine ZM ?_ ?_);(focus rfl)));(conv=>whnf)))
    refine HIdx.mk (i + 1) rfl hi1 ?_
    refine sl_some x hi1 fun p ep => ?_
    ((conv=>whnf);repeat((first|(with_reducible first|refine Z1 ?_|refine Z2 ?_|refine Z3 ?_|refine Z4 ?_|refine Z5 ?_|refine Z9 (by assumption) rfl ?_|refine ZA (by assumption) rfl ?_|refine ZB (by assumption) rfl ?_|refine Z6 ?_|refine Z7 ?_|refine Z8 ?_)|((with_reducible refine ZM ?_ ?_);(focus rfl)));(conv=>whnf)))
    refine x.load ep (by simpa using i1) ?_
    rw [List.getElem_map]
    ((conv=>whnf);repeat((first|(with_reducible first|refine Z1 ?_|refine Z2 ?_|refine Z3 ?_|refine Z4 ?_|refine Z5 ?_|refine Z9 (by assumption) rfl ?_|refine ZA (by assumption) rfl ?_|refine ZB (by assumption) rfl ?_|refine Z6 ?_|refine Z7 ?_|refine Z8 ?_)|((with_reducible refine ZM ?_ ?_);(focus rfl)));(conv=>whnf)))
    refine HIdx.mk i (by omega) (by omega) ?_
    refine sl_some x (i := i) (by omega) fun p ep => ?_
    ((conv=>whnf);repeat((first|(with_reducible first|refine Z1 ?_|refine Z2 ?_|refine Z3 ?_|refine Z4 ?_|refine Z5 ?_|refine Z9 (by assumption) rfl ?_|refine ZA (by assumption) rfl ?_|refine ZB (by assumption) rfl ?_|refine Z6 ?_|refine Z7 ?_|refine Z8 ?_)|((with_reducible refine ZM ?_ ?_);(focus rfl)));(conv=>whnf)))
    refine x.load ep (by simpa using i0) ?_
    rw [List.getElem_map]
    ((conv=>whnf);repeat((first|(with_reducible first|refine Z1 ?_|refine Z2 ?_|refine Z3 ?_|refine Z4 ?_|refine Z5 ?_|refine Z9 (by assumption) rfl ?_|refine ZA (by assumption) rfl ?_|refine ZB (by assumption) rfl ?_|refine Z6 ?_|refine Z7 ?_|refine Z8 ?_)|((with_reducible refine ZM ?_ ?_);(focus rfl)));(conv=>whnf)))
    refine HCall.mk ((less_spec l[i + 1] l[i] _).mono ?_)
    rintro e _ ⟨rfl, rfl⟩
    cases hb : strLt l[i + 1] l[i]
    · ((conv=>whnf);repeat((first|(with_reducible first|refine Z1 ?_|refine Z2 ?_|refine Z3 ?_|refine Z4 ?_|refine Z5 ?_|refine Z9 (by assumption) rfl ?_|refine ZA (by assumption) rfl ?_|refine ZB (by assumption) rfl ?_|refine Z6 ?_|refine Z7 ?_|refine Z8 ?_)|((with_reducible refine ZM ?_ ?_);(focus rfl)));(conv=>whnf)))
      refine ⟨⟨_, rfl, by omega, by omega, ?_, rfl⟩, hmu⟩
      intro j hj hm
      by_cases e : j = i
      · subst e; unfold strLe; rw [hb]; rfl
      · exact hs j hj (by omega)
    · ((conv=>whnf);repeat((first|(with_reducible first|refine Z1 ?_|refine Z2 ?_|refine Z3 ?_|refine Z4 ?_|refine Z5 ?_|refine Z9 (by assumption) rfl ?_|refine ZA (by assumption) rfl ?_|refine ZB (by assumption) rfl ?_|refine Z6 ?_|refine Z7 ?_|refine Z8 ?_)|((with_reducible refine ZM ?_ ?_);(focus rfl)));(conv=>whnf)))
      exact ⟨false, rfl, by simp, rfl⟩
  · have hm := of_decide_eq_false hlt
    ((conv=>whnf);repeat((first|(with_reducible first|refine Z1 ?_|refine Z2 ?_|refine Z3 ?_|refine Z4 ?_|refine Z5 ?_|refine Z9 (by assumption) rfl ?_|refine ZA (by assumption) rfl ?_|refine ZB (by assumption) rfl ?_|refine Z6 ?_|refine Z7 ?_|refine Z8 ?_)|((with_reducible refine ZM ?_ ?_);(focus rfl)));(conv=>whnf)))
    exact ⟨true, rfl, fun _ i hi => hs i hi (by omega), rfl⟩

theorem shr1_64 (n : Nat) : ((n : Int)).fdiv (2 ^ (min (Int.toNat 1) (IntKind.bits .u64))) = ((n / 2 : Nat) : Int) := by
  have e : min (Int.toNat 1) (IntKind.bits .u64) = 1 := by decide
  rw [e, Int.fdiv_eq_ediv_of_nonneg _ (by decide)]; rfl

theorem closure_spec {d : ND} {h : Heap} {cs : List Value} {b1 b2 e1 e2 i : Nat} {key : ByteArray} (ra : NRep h d cs) (o1 : BlkW h b1 e1 cs) (o2 : BlkW h b2 e2 [.string key]) (hi : i < d.keys.length) :
    HCalls Try.prog 31 #[.int .i64 i, .pointer (some ⟨b1, 0, none⟩), .pointer (some ⟨b2, 0, none⟩)] h fun e h' => e = .returned (.bool (!strLe d.keys[i] key)) ∧ h' = h := by
  obtain ⟨a1, a2, a3, a4, a5, a6, ka, kc, va, vc, ia, ic, rfl, s1, s2, s3⟩ := ra
  refine c31 (by simp) ?_
  ((conv=>whnf);repeat((first|(with_reducible first|refine Z1 ?_|refine Z2 ?_|refine Z3 ?_|refine Z4 ?_|refine Z5 ?_|refine Z9 (by assumption) rfl ?_|refine ZA (by assumption) rfl ?_|refine ZB (by assumption) rfl ?_|refine Z6 ?_|refine Z7 ?_|refine Z8 ?_)|((with_reducible refine ZM ?_ ?_);(focus rfl)));(conv=>whnf)))
  refine HIdx.mk i rfl hi ?_
  refine sl_some s1 hi fun p ep => ?_
  ((conv=>whnf);repeat((first|(with_reducible first|refine Z1 ?_|refine Z2 ?_|refine Z3 ?_|refine Z4 ?_|refine Z5 ?_|refine Z9 (by assumption) rfl ?_|refine ZA (by assumption) rfl ?_|refine ZB (by assumption) rfl ?_|refine Z6 ?_|refine Z7 ?_|refine Z8 ?_)|((with_reducible refine ZM ?_ ?_);(focus rfl)));(conv=>whnf)))
  refine s1.load ep (by simpa using hi) ?_
  rw [List.getElem_map]
  have q : (!(strLt d.keys[i] key || strEq d.keys[i] key)) = !strLe d.keys[i] key := by rw [strLe_not]; rfl
  ((conv=>whnf);repeat((first|(with_reducible first|refine Z1 ?_|refine Z2 ?_|refine Z3 ?_|refine Z4 ?_|refine Z5 ?_|refine Z9 (by assumption) rfl ?_|refine ZA (by assumption) rfl ?_|refine ZB (by assumption) rfl ?_|refine Z6 ?_|refine Z7 ?_|refine Z8 ?_)|((with_reducible refine ZM ?_ ?_);(focus rfl)));(conv=>whnf)))
  generalize he : (!(strLt d.keys[i] key || strEq d.keys[i] key)) = b at q ⊢
  subst q
  exact ⟨rfl, rfl⟩

theorem search_spec {d : ND} {h : Heap} {cs : List Value} {b1 b2 e1 e2 : Nat} {key : ByteArray} (ra : NRep h d cs) (o1 : BlkW h b1 e1 cs) (o2 : BlkW h b2 e2 [.string key]) (hr : RiseLe d.keys) :
    HCalls Try.prog 30 #[.int .i64 d.keys.length, .func (.func 31) #[] #[.pointer (some ⟨b1, 0, none⟩), .pointer (some ⟨b2, 0, none⟩)]] h
      fun e h' => e = .returned (.int .i64 (childN d.keys key : Nat)) ∧ h' = h := by
  have hk : d.keys.length ≤ 1048576 := ra.1
  refine c30 (by simp) ?_
  ((conv=>whnf);repeat((first|(with_reducible first|refine Z2 ?_|refine Z3 ?_|refine Z4 ?_|refine Z5 ?_|refine Z9 (by assumption) rfl ?_|refine ZA (by assumption) rfl ?_|refine ZB (by assumption) rfl ?_|refine Z6 ?_|refine Z7 ?_|refine Z8 ?_)|((with_reducible refine ZM ?_ ?_);(focus rfl)));(conv=>whnf)))
  refine cut_rule [5] (fun vs h' => vs = [.int .i64 (childN d.keys key : Nat)] ∧ h' = h) rfl ?_ ?_
  · ((conv=>whnf);repeat((first|(with_reducible first|refine Z1 ?_|refine Z2 ?_|refine Z3 ?_|refine Z4 ?_|refine Z5 ?_|refine Z9 (by assumption) rfl ?_|refine ZA (by assumption) rfl ?_|refine ZB (by assumption) rfl ?_|refine Z6 ?_|refine Z7 ?_|refine Z8 ?_)|((with_reducible refine ZM ?_ ?_);(focus rfl)));(conv=>whnf)))
    refine loop_rule [5, 6] (fun vs h' => ∃ (i j : Nat), vs = [.int .i64 i, .int .i64 j] ∧ i ≤ j ∧ j ≤ d.keys.length ∧ (∀ m (hm : m < d.keys.length), m < i → strLe d.keys[m] key = true) ∧ (∀ m (hm : m < d.keys.length), j ≤ m → strLe d.keys[m] key = false) ∧ h' = h)
      (fun vs _ => match vs with | [.int _ i, .int _ j] => (j - i).toNat | _ => 0) rfl ?_ ?_
    · exact ⟨0, d.keys.length, rfl, by omega, by omega, by intro m hm h; omega, by intro m hm h; omega, rfl⟩
    intro u h1 v5 v6
    rintro ⟨i, j, e, hij, hj, lo, hi, rfl⟩
    cases e
    ((conv=>whnf);repeat((first|(with_reducible first|refine Z1 ?_|refine Z2 ?_|refine Z3 ?_|refine Z4 ?_|refine Z5 ?_|refine Z9 (by assumption) rfl ?_|refine ZA (by assumption) rfl ?_|refine ZB (by assumption) rfl ?_|refine Z6 ?_|refine Z7 ?_|refine Z8 ?_)|((with_reducible refine ZM ?_ ?_);(focus rfl)));(conv=>whnf)))
    refine HIf.mk (fun hlt => ?_) (fun hlt => ?_)
    · have hlt' := of_decide_eq_true hlt
      generalize hm : (i + j) / 2 = m
      have hm1 : m < d.keys.length := by omega
      have hmu1 : ((j : Int) - ((m : Int) + 1)).toNat < ((j : Int) - (i : Int)).toNat := by omega
      have hmu2 : ((m : Int) - (i : Int)).toNat < ((j : Int) - (i : Int)).toNat := by omega
      ((conv=>whnf);repeat((first|(with_reducible first|refine Z1 ?_|refine Z2 ?_|refine Z3 ?_|refine Z4 ?_|refine Z5 ?_|refine Z9 (by assumption) rfl ?_|refine ZA (by assumption) rfl ?_|refine ZB (by assumption) rfl ?_|refine Z6 ?_|refine Z7 ?_|refine Z8 ?_)|((with_reducible refine ZM ?_ ?_);(focus rfl)));(conv=>whnf)))
      refine HInt.mk m ?_ ?_
      · have := shr1_64 (i + j)
        rw [hm] at this
        rw [Int.natCast_add] at this
        rw [this]
        exact wrap_i64 (by omega)
      ((conv=>whnf);repeat((first|(with_reducible first|refine Z1 ?_|refine Z2 ?_|refine Z3 ?_|refine Z4 ?_|refine Z5 ?_|refine Z9 (by assumption) rfl ?_|refine ZA (by assumption) rfl ?_|refine ZB (by assumption) rfl ?_|refine Z6 ?_|refine Z7 ?_|refine Z8 ?_)|((with_reducible refine ZM ?_ ?_);(focus rfl)));(conv=>whnf)))
      refine HCall.mk ((closure_spec ra o1 o2 hm1).mono ?_)
      rintro e _ ⟨rfl, rfl⟩
      cases hb : strLe d.keys[m] key
      · ((conv=>whnf);repeat((first|(with_reducible first|refine Z1 ?_|refine Z2 ?_|refine Z3 ?_|refine Z4 ?_|refine Z5 ?_|refine Z9 (by assumption) rfl ?_|refine ZA (by assumption) rfl ?_|refine ZB (by assumption) rfl ?_|refine Z6 ?_|refine Z7 ?_|refine Z8 ?_)|((with_reducible refine ZM ?_ ?_);(focus rfl)));(conv=>whnf)))
        refine ⟨⟨i, m, rfl, by omega, by omega, lo, ?_, rfl⟩, hmu2⟩
        intro m' hm' hle
        cases hb' : strLe d.keys[m'] key
        · rfl
        · have := hr.le (i := m) (m' - m) (by omega)
          have e3 : m + (m' - m) = m' := by omega
          simp only [e3] at this
          have := strLe_trans this hb'
          rw [hb] at this; cases this
      · ((conv=>whnf);repeat((first|(with_reducible first|refine Z1 ?_|refine Z2 ?_|refine Z3 ?_|refine Z4 ?_|refine Z5 ?_|refine Z9 (by assumption) rfl ?_|refine ZA (by assumption) rfl ?_|refine ZB (by assumption) rfl ?_|refine Z6 ?_|refine Z7 ?_|refine Z8 ?_)|((with_reducible refine ZM ?_ ?_);(focus rfl)));(conv=>whnf)))
        refine ⟨⟨m + 1, j, rfl, by omega, by omega, ?_, hi, rfl⟩, hmu1⟩
        intro m' hm' hle
        have := hr.le (i := m') (m - m') (by omega)
        have e3 : m' + (m - m') = m := by omega
        simp only [e3] at this
        exact strLe_trans this hb
    · have hge := of_decide_eq_false hlt
      obtain rfl : i = j := by omega
      ((conv=>whnf);repeat((first|(with_reducible first|refine Z1 ?_|refine Z2 ?_|refine Z3 ?_|refine Z4 ?_|refine Z5 ?_|refine Z9 (by assumption) rfl ?_|refine ZA (by assumption) rfl ?_|refine ZB (by assumption) rfl ?_|refine Z6 ?_|refine Z7 ?_|refine Z8 ?_)|((with_reducible refine ZM ?_ ?_);(focus rfl)));(conv=>whnf)))
      refine ⟨?_, rfl⟩
      rw [childN_at hj lo hi]
      rfl
  intro u h1 v5
  rintro ⟨e, rfl⟩
  cases e
  ((conv=>whnf);repeat((first|(with_reducible first|refine Z1 ?_|refine Z2 ?_|refine Z3 ?_|refine Z4 ?_|refine Z5 ?_|refine Z9 (by assumption) rfl ?_|refine ZA (by assumption) rfl ?_|refine ZB (by assumption) rfl ?_|refine Z6 ?_|refine Z7 ?_|refine Z8 ?_)|((with_reducible refine ZM ?_ ?_);(focus rfl)));(conv=>whnf)))
  exact ⟨rfl, rfl⟩

theorem childN_spec {d : ND} {h : Heap} {cs : List Value} (key : ByteArray) (ra : NRep h d cs) :
    HCalls Try.prog 16 #[.agg cs.toArray, .string key] h fun e h' => e = .returned (.int .i64 (childN d.keys key : Nat)) ∧ Ext h h' := by
  have ra0 := ra
  obtain ⟨a1, a2, a3, a4, a5, a6, ka, kc, va, vc, ia, ic, rfl, s1, s2, s3⟩ := ra
  refine c16 (by simp) ?_
  (conv => whnf)
  refine new_var (e := 26) [.slice ka d.keys.length kc, .slice va d.vals.length vc, .slice ia d.kids.length ic] rfl ?_
  intro h1 bx ox x1 z1 hbx
  ((conv=>whnf);repeat((first|(with_reducible first|refine Z1 ?_|refine Z2 ?_|refine Z3 ?_|refine Z4 ?_|refine Z5 ?_|refine Z9 (by assumption) rfl ?_|refine ZA (by assumption) rfl ?_|refine ZB (by assumption) rfl ?_|refine Z6 ?_|refine Z7 ?_|refine Z8 ?_)|((with_reducible refine ZM ?_ ?_);(focus rfl)));(conv=>whnf)))
  refine new_var (e := 9) [.string key] rfl ?_
  intro h2 b2 o2 x2 z2 hb2
  have ox2 := ox.ext x2
  have x02 := x1.trans x2
  have t1 := s1.ext x02
  ((conv=>whnf);repeat((first|(with_reducible first|refine Z1 ?_|refine Z2 ?_|refine Z3 ?_|refine Z4 ?_|refine Z5 ?_|refine Z9 (by assumption) rfl ?_|refine ZA (by assumption) rfl ?_|refine ZB (by assumption) rfl ?_|refine Z6 ?_|refine Z7 ?_|refine Z8 ?_)|((with_reducible refine ZM ?_ ?_);(focus rfl)));(conv=>whnf)))
  refine HCall.mk ((isSorted_spec t1 a1).mono ?_)
  rintro e h2 ⟨r, rfl, hr, rfl⟩
  cases r
  · ((conv=>whnf);repeat((first|(with_reducible first|refine Z1 ?_|refine Z2 ?_|refine Z3 ?_|refine Z4 ?_|refine Z5 ?_|refine Z9 (by assumption) rfl ?_|refine ZA (by assumption) rfl ?_|refine ZB (by assumption) rfl ?_|refine Z6 ?_|refine Z7 ?_|refine Z8 ?_)|((with_reducible refine ZM ?_ ?_);(focus rfl)));(conv=>whnf)))
    refine loop_rule [5, 19] (fun vs h' => ∃ (i : Nat), vs = [.int .i64 (childN (d.keys.take i) key : Nat), .int .i64 i] ∧ i ≤ d.keys.length ∧ h' = h2)
      (fun vs _ => match vs with | [_, .int _ i] => d.keys.length - i.toNat | _ => 0) rfl ?_ ?_
    · exact ⟨0, rfl, by omega, rfl⟩
    intro u h2 v5 v11
    rintro ⟨i, e, hi, rfl⟩
    cases e
    ((conv=>whnf);repeat((first|(with_reducible first|refine Z1 ?_|refine Z2 ?_|refine Z3 ?_|refine Z4 ?_|refine Z5 ?_|refine Z9 (by assumption) rfl ?_|refine ZA (by assumption) rfl ?_|refine ZB (by assumption) rfl ?_|refine Z6 ?_|refine Z7 ?_|refine Z8 ?_)|((with_reducible refine ZM ?_ ?_);(focus rfl)));(conv=>whnf)))
    refine HIf.mk (fun hlt => ?_) (fun hlt => ?_)
    · have hi1 : i < d.keys.length := by have := of_decide_eq_true hlt; omega
      have hmu : d.keys.length - ((i : Int) + 1).toNat < d.keys.length - ((i : Int)).toNat := by omega
      have hc := childN_le (d.keys.take i) key
      rw [List.length_take] at hc
      have hst := childN_step (key := key) hi1
      ((conv=>whnf);repeat((first|(with_reducible first|refine Z1 ?_|refine Z2 ?_|refine Z3 ?_|refine Z4 ?_|refine Z5 ?_|refine Z9 (by assumption) rfl ?_|refine ZA (by assumption) rfl ?_|refine ZB (by assumption) rfl ?_|refine Z6 ?_|refine Z7 ?_|refine Z8 ?_)|((with_reducible refine ZM ?_ ?_);(focus rfl)));(conv=>whnf)))
      refine HIdx.mk i rfl hi1 ?_
      refine sl_some t1 hi1 fun p ep => ?_
      ((conv=>whnf);repeat((first|(with_reducible first|refine Z1 ?_|refine Z2 ?_|refine Z3 ?_|refine Z4 ?_|refine Z5 ?_|refine Z9 (by assumption) rfl ?_|refine ZA (by assumption) rfl ?_|refine ZB (by assumption) rfl ?_|refine Z6 ?_|refine Z7 ?_|refine Z8 ?_)|((with_reducible refine ZM ?_ ?_);(focus rfl)));(conv=>whnf)))
      refine t1.load ep (by simpa using hi1) ?_
      rw [List.getElem_map]
      have hle := strLe_not d.keys[i] key
      unfold strLe at hst
      cases hb : strLt key d.keys[i]
      · rw [hb] at hst hle
        simp only [Bool.not_false, if_true] at hst
        have q : (strLt d.keys[i] key || strEq d.keys[i] key) = true := hle
        ((conv=>whnf);repeat((first|(with_reducible first|refine Z1 ?_|refine Z2 ?_|refine Z3 ?_|refine Z4 ?_|refine Z5 ?_|refine Z9 (by assumption) rfl ?_|refine ZA (by assumption) rfl ?_|refine ZB (by assumption) rfl ?_|refine Z6 ?_|refine Z7 ?_|refine Z8 ?_)|((with_reducible refine ZM ?_ ?_);(focus rfl)));(conv=>whnf)))
        refine ⟨⟨i + 1, ?_, by omega, rfl⟩, hmu⟩
        rw [hst]; rfl
      · rw [hb] at hst hle
        simp only [Bool.not_true, Bool.false_eq_true, if_false, Nat.add_zero] at hst
        have q : (strLt d.keys[i] key || strEq d.keys[i] key) = false := hle
        ((conv=>whnf);repeat((first|(with_reducible first|refine Z1 ?_|refine Z2 ?_|refine Z3 ?_|refine Z4 ?_|refine Z5 ?_|refine Z9 (by assumption) rfl ?_|refine ZA (by assumption) rfl ?_|refine ZB (by assumption) rfl ?_|refine Z6 ?_|refine Z7 ?_|refine Z8 ?_)|((with_reducible refine ZM ?_ ?_);(focus rfl)));(conv=>whnf)))
        refine ⟨⟨i + 1, ?_, by omega, rfl⟩, hmu⟩
        rw [hst]; rfl
    · have hge := of_decide_eq_false hlt
      obtain rfl : i = d.keys.length := by omega
      ((conv=>whnf);repeat((first|(with_reducible first|refine Z1 ?_|refine Z2 ?_|refine Z3 ?_|refine Z4 ?_|refine Z5 ?_|refine Z9 (by assumption) rfl ?_|refine ZA (by assumption) rfl ?_|refine ZB (by assumption) rfl ?_|refine Z6 ?_|refine Z7 ?_|refine Z8 ?_)|((with_reducible refine ZM ?_ ?_);(focus rfl)));(conv=>whnf)))
      refine ⟨?_, x02⟩
      rw [List.take_length]; rfl
  · ((conv=>whnf);repeat((first|(with_reducible first|refine Z1 ?_|refine Z2 ?_|refine Z3 ?_|refine Z4 ?_|refine Z5 ?_|refine Z9 (by assumption) rfl ?_|refine ZA (by assumption) rfl ?_|refine ZB (by assumption) rfl ?_|refine Z6 ?_|refine Z7 ?_|refine Z8 ?_)|((with_reducible refine ZM ?_ ?_);(focus rfl)));(conv=>whnf)))
    refine HCall.mk ((search_spec (ra0.ext x02) ox2 o2 (hr rfl)).mono ?_)
    rintro e _ ⟨rfl, rfl⟩
    ((conv=>whnf);repeat((first|(with_reducible first|refine Z1 ?_|refine Z2 ?_|refine Z3 ?_|refine Z4 ?_|refine Z5 ?_|refine Z9 (by assumption) rfl ?_|refine ZA (by assumption) rfl ?_|refine ZB (by assumption) rfl ?_|refine Z6 ?_|refine Z7 ?_|refine Z8 ?_)|((with_reducible refine ZM ?_ ?_);(focus rfl)));(conv=>whnf)))
    exact ⟨rfl, x02⟩

end Go.Proofs.Ythagjflkdoafmaa.Hc
