import Derived.Test.YthagjflkdoafmaaN5
set_option linter.unusedVariables false
set_option linter.unusedSimpArgs false
namespace Go.Proofs.Ythagjflkdoafmaa.Hc
open Go Go.H Go.Proofs
set_option maxRecDepth 100000
set_option maxHeartbeats 4000000

theorem rencodeN_spec {d : ND} {h : Heap} {cs : List Value} (ra : NRep h d cs) : HCalls Try.prog 11 #[.agg cs.toArray] h (EncN d h) := by
  have hlen := ra.len
  refine c11 (by simp) ?_
  (conv => whnf)
  refine new_var (e := 25) cs rfl ?_
  intro h1 bx ox x1 z1 hbx
  ((conv=>whnf);repeat((first|(with_reducible first|refine Z1 ?_|refine Z2 ?_|refine Z3 ?_|refine Z4 ?_|refine Z5 ?_|refine Z9 (by assumption) rfl ?_|refine ZA (by assumption) rfl ?_|refine ZB (by assumption) rfl ?_|refine Z6 ?_|refine Z7 ?_|refine Z8 ?_)|((with_reducible refine ZM ?_ ?_);(focus rfl)));(conv=>whnf)))
  refine blk_ldN ox hlen ?_
  ((conv=>whnf);repeat((first|(with_reducible first|refine Z1 ?_|refine Z2 ?_|refine Z3 ?_|refine Z4 ?_|refine Z5 ?_|refine Z9 (by assumption) rfl ?_|refine ZA (by assumption) rfl ?_|refine ZB (by assumption) rfl ?_|refine Z6 ?_|refine Z7 ?_|refine Z8 ?_)|((with_reducible refine ZM ?_ ?_);(focus rfl)));(conv=>whnf)))
  refine HCall.mk ((rmayN_spec (ra.ext x1)).mono ?_)
  rintro e h2 ⟨r, rfl, hr, x2⟩
  have ox2 := ox.ext x2
  cases r
  · ((conv=>whnf);repeat((first|(with_reducible first|refine Z1 ?_|refine Z2 ?_|refine Z3 ?_|refine Z4 ?_|refine Z5 ?_|refine Z9 (by assumption) rfl ?_|refine ZA (by assumption) rfl ?_|refine ZB (by assumption) rfl ?_|refine Z6 ?_|refine Z7 ?_|refine Z8 ?_)|((with_reducible refine ZM ?_ ?_);(focus rfl)));(conv=>whnf)))
    exact ⟨false, none, 0, [], rfl, hr, rfl, Own.nil _ _ _ _, x1.trans x2⟩
  have hm := hr.1 rfl
  have hel := encN_len hm
  ((conv=>whnf);repeat((first|(with_reducible first|refine Z1 ?_|refine Z2 ?_|refine Z3 ?_|refine Z4 ?_|refine Z5 ?_|refine Z9 (by assumption) rfl ?_|refine ZA (by assumption) rfl ?_|refine ZB (by assumption) rfl ?_|refine Z6 ?_|refine Z7 ?_|refine Z8 ?_)|((with_reducible refine ZM ?_ ?_);(focus rfl)));(conv=>whnf)))
  refine blk_ldN ox2 hlen ?_
  ((conv=>whnf);repeat((first|(with_reducible first|refine Z1 ?_|refine Z2 ?_|refine Z3 ?_|refine Z4 ?_|refine Z5 ?_|refine Z9 (by assumption) rfl ?_|refine ZA (by assumption) rfl ?_|refine ZB (by assumption) rfl ?_|refine Z6 ?_|refine Z7 ?_|refine Z8 ?_)|((with_reducible refine ZM ?_ ?_);(focus rfl)));(conv=>whnf)))
  refine HCall.mk ((bytesN_spec (ra.ext (x1.trans x2)) hm).mono ?_)
  rintro e h3 ⟨a3, c3, rfl, o3, x3⟩
  ((conv=>whnf);repeat((first|(with_reducible first|refine Z1 ?_|refine Z2 ?_|refine Z3 ?_|refine Z4 ?_|refine Z5 ?_|refine Z9 (by assumption) rfl ?_|refine ZA (by assumption) rfl ?_|refine ZB (by assumption) rfl ?_|refine Z6 ?_|refine Z7 ?_|refine Z8 ?_)|((with_reducible refine ZM ?_ ?_);(focus rfl)));(conv=>whnf)))
  refine HCall.mk ((rframe_spec o3.sl (by omega)).mono ?_)
  rintro e h4 ⟨a4, c4, rfl, o4, x4⟩
  ((conv=>whnf);repeat((first|(with_reducible first|refine Z1 ?_|refine Z2 ?_|refine Z3 ?_|refine Z4 ?_|refine Z5 ?_|refine Z9 (by assumption) rfl ?_|refine ZA (by assumption) rfl ?_|refine ZB (by assumption) rfl ?_|refine Z6 ?_|refine Z7 ?_|refine Z8 ?_)|((with_reducible refine ZM ?_ ?_);(focus rfl)));(conv=>whnf)))
  refine HBound.mk (4088 - (encN d).length) (by omega) (by omega) ?_
  refine HMust.mk (by omega) ?_
  have e1 : (Builtin.zeroCells [Value.int .u8 0].toArray (4088 - (encN d).length)).toList = (List.replicate (4088 - (encN d).length) (0 : UInt8)).map byteV := by
    rw [zeroCells_one]; simp [byteV]
  rw [e1]
  refine Own.append o4 (by have := x4.1; omega) rfl (by simp) bytesV_one (by omega) ?_
  intro h5 a5 c5 o5 k5 _ _
  ((conv=>whnf);repeat((first|(with_reducible first|refine Z1 ?_|refine Z2 ?_|refine Z3 ?_|refine Z4 ?_|refine Z5 ?_|refine Z9 (by assumption) rfl ?_|refine ZA (by assumption) rfl ?_|refine ZB (by assumption) rfl ?_|refine Z6 ?_|refine Z7 ?_|refine Z8 ?_)|((with_reducible refine ZM ?_ ?_);(focus rfl)));(conv=>whnf)))
  have e2 : 8 + (encN d).length + (4088 - (encN d).length) = (secN d).length := by rw [secN_len hm]; omega
  rw [e2, ← List.map_append] at o5
  rw [e2]
  have x03 := (x1.trans x2).trans x3
  exact ⟨true, a5, c5, secN d, rfl, hr, rfl, o5.lower (by have := x03.1; omega), x03.trans (x4.keep k5)⟩

instance instDecND : DecidableEq ND := fun a b =>
  if h : a.keys = b.keys ∧ a.vals = b.vals ∧ a.kids = b.kids then isTrue (by cases a; cases b; simp_all) else isFalse (by rintro rfl; exact h ⟨rfl, rfl, rfl⟩)
theorem getElem_ne {α : Type} {l k : List α} {i : Nat} (h1 : i < l.length) (h2 : i < k.length) (hne : l[i] ≠ k[i]) : l ≠ k := by
  rintro rfl; exact hne rfl
theorem take_step {α : Type} {l k : List α} {i : Nat} (h1 : i < l.length) (h2 : i < k.length) (h : l.take i = k.take i) (he : l[i] = k[i]) : l.take (i + 1) = k.take (i + 1) := by
  rw [List.take_add_one, List.take_add_one, h, List.getElem?_eq_getElem h1, List.getElem?_eq_getElem h2, he]

theorem eqStr_spec {a b : Option Addr} {n m c e : Nat} {l k : List ByteArray} {h : Heap} (x : Sl h 1 a n c (l.map .string)) (y : Sl h 1 b m e (k.map .string)) (hn : n ≤ 1048576) :
    HCalls Try.prog 32 #[.slice a n c, .slice b m e] h fun e h' => h' = h ∧ e = .returned (.bool (decide (l = k))) := by
  have hl : l.length = n := by simpa using x.1
  have hk : k.length = m := by simpa using y.1
  refine c32 (by simp) ?_
  (conv => whnf)
  by_cases hlen : n = m
  · subst hlen
    have q0 : (((n : Nat) : Int) != ((n : Nat) : Int)) = false := by simp
    ((conv=>whnf);repeat((first|(with_reducible first|refine Z1 ?_|refine Z2 ?_|refine Z3 ?_|refine Z4 ?_|refine Z5 ?_|refine Z9 (by assumption) rfl ?_|refine ZA (by assumption) rfl ?_|refine ZB (by assumption) rfl ?_|refine Z6 ?_|refine Z7 ?_|refine Z8 ?_)|((with_reducible refine ZM ?_ ?_);(focus rfl)));(conv=>whnf)))
    refine loop_rule [13] (fun vs h' => ∃ (i : Nat), vs = [.int .i64 i] ∧ i ≤ n ∧ l.take i = k.take i ∧ h' = h)
      (fun vs _ => match vs with | [.int _ i] => n - i.toNat | _ => 0) rfl ?_ ?_
    · exact ⟨0, rfl, by omega, by simp, rfl⟩
    · intro u h1 v13
      rintro ⟨i, e, hi, hk2, rfl⟩
      cases e
      ((conv=>whnf);repeat((first|(with_reducible first|refine Z1 ?_|refine Z2 ?_|refine Z3 ?_|refine Z4 ?_|refine Z5 ?_|refine Z9 (by assumption) rfl ?_|refine ZA (by assumption) rfl ?_|refine ZB (by assumption) rfl ?_|refine Z6 ?_|refine Z7 ?_|refine Z8 ?_)|((with_reducible refine ZM ?_ ?_);(focus rfl)));(conv=>whnf)))
      refine HIf.mk (fun hlt => ?_) (fun hlt => ?_)
      · have hi1 : i < n := by have := of_decide_eq_true hlt; omega
        have hmu : n - ((i : Int) + 1).toNat < n - ((i : Int)).toNat := by omega
        have i1 : i < l.length := by omega
        have i2 : i < k.length := by omega
        ((conv=>whnf);repeat((first|(with_reducible first|refine Z1 ?_|refine Z2 ?_|refine Z3 ?_|refine Z4 ?_|refine Z5 ?_|refine Z9 (by assumption) rfl ?_|refine ZA (by assumption) rfl ?_|refine ZB (by assumption) rfl ?_|refine Z6 ?_|refine Z7 ?_|refine Z8 ?_)|((with_reducible refine ZM ?_ ?_);(focus rfl)));(conv=>whnf)))
        refine HIdx.mk i rfl hi1 ?_
        refine sl_some x hi1 fun p ep => ?_
        ((conv=>whnf);repeat((first|(with_reducible first|refine Z1 ?_|refine Z2 ?_|refine Z3 ?_|refine Z4 ?_|refine Z5 ?_|refine Z9 (by assumption) rfl ?_|refine ZA (by assumption) rfl ?_|refine ZB (by assumption) rfl ?_|refine Z6 ?_|refine Z7 ?_|refine Z8 ?_)|((with_reducible refine ZM ?_ ?_);(focus rfl)));(conv=>whnf)))
        refine x.load ep (by simpa using i1) ?_
        rw [List.getElem_map]
        ((conv=>whnf);repeat((first|(with_reducible first|refine Z1 ?_|refine Z2 ?_|refine Z3 ?_|refine Z4 ?_|refine Z5 ?_|refine Z9 (by assumption) rfl ?_|refine ZA (by assumption) rfl ?_|refine ZB (by assumption) rfl ?_|refine Z6 ?_|refine Z7 ?_|refine Z8 ?_)|((with_reducible refine ZM ?_ ?_);(focus rfl)));(conv=>whnf)))
        refine HIdx.mk i rfl hi1 ?_
        refine sl_some y hi1 fun p ep => ?_
        ((conv=>whnf);repeat((first|(with_reducible first|refine Z1 ?_|refine Z2 ?_|refine Z3 ?_|refine Z4 ?_|refine Z5 ?_|refine Z9 (by assumption) rfl ?_|refine ZA (by assumption) rfl ?_|refine ZB (by assumption) rfl ?_|refine Z6 ?_|refine Z7 ?_|refine Z8 ?_)|((with_reducible refine ZM ?_ ?_);(focus rfl)));(conv=>whnf)))
        refine y.load ep (by simpa using i2) ?_
        rw [List.getElem_map]
        by_cases he : l[i] = k[i]
        · have q1 : (!strEq l[i] k[i]) = false := by rw [(strEq_iff _ _).2 he]; rfl
          ((conv=>whnf);repeat((first|(with_reducible first|refine Z1 ?_|refine Z2 ?_|refine Z3 ?_|refine Z4 ?_|refine Z5 ?_|refine Z9 (by assumption) rfl ?_|refine ZA (by assumption) rfl ?_|refine ZB (by assumption) rfl ?_|refine Z6 ?_|refine Z7 ?_|refine Z8 ?_)|((with_reducible refine ZM ?_ ?_);(focus rfl)));(conv=>whnf)))
          exact ⟨⟨i + 1, rfl, by omega, take_step i1 i2 hk2 he, rfl⟩, hmu⟩
        · have q1 : (!strEq l[i] k[i]) = true := by rw [(strEq_no _ _).2 he]; rfl
          ((conv=>whnf);repeat((first|(with_reducible first|refine Z1 ?_|refine Z2 ?_|refine Z3 ?_|refine Z4 ?_|refine Z5 ?_|refine Z9 (by assumption) rfl ?_|refine ZA (by assumption) rfl ?_|refine ZB (by assumption) rfl ?_|refine Z6 ?_|refine Z7 ?_|refine Z8 ?_)|((with_reducible refine ZM ?_ ?_);(focus rfl)));(conv=>whnf)))
          have hv := decide_eq_false (getElem_ne i1 i2 he)
          rw [hv]
          exact ⟨rfl, rfl⟩
      · have hge := of_decide_eq_false hlt
        obtain rfl : i = n := by omega
        rw [List.take_of_length_le (by omega), List.take_of_length_le (by omega)] at hk2
        ((conv=>whnf);repeat((first|(with_reducible first|refine Z1 ?_|refine Z2 ?_|refine Z3 ?_|refine Z4 ?_|refine Z5 ?_|refine Z9 (by assumption) rfl ?_|refine ZA (by assumption) rfl ?_|refine ZB (by assumption) rfl ?_|refine Z6 ?_|refine Z7 ?_|refine Z8 ?_)|((with_reducible refine ZM ?_ ?_);(focus rfl)));(conv=>whnf)))
        have hv := decide_eq_true hk2
        rw [hv]
        exact ⟨rfl, rfl⟩
  · have q0 : (((n : Nat) : Int) != ((m : Nat) : Int)) = true := by rw [bne_iff_ne]; omega
    ((conv=>whnf);repeat((first|(with_reducible first|refine Z1 ?_|refine Z2 ?_|refine Z3 ?_|refine Z4 ?_|refine Z5 ?_|refine Z9 (by assumption) rfl ?_|refine ZA (by assumption) rfl ?_|refine ZB (by assumption) rfl ?_|refine Z6 ?_|refine Z7 ?_|refine Z8 ?_)|((with_reducible refine ZM ?_ ?_);(focus rfl)));(conv=>whnf)))
    have hv : decide (l = k) = false := decide_eq_false (by rintro rfl; omega)
    rw [hv]
    exact ⟨rfl, rfl⟩

theorem eqInt_spec {a b : Option Addr} {n m c e : Nat} {l k : List Int} {h : Heap} (x : Sl h 1 a n c (l.map (.int .i64))) (y : Sl h 1 b m e (k.map (.int .i64))) (hn : n ≤ 1048576) :
    HCalls Try.prog 33 #[.slice a n c, .slice b m e] h fun e h' => h' = h ∧ e = .returned (.bool (decide (l = k))) := by
  have hl : l.length = n := by simpa using x.1
  have hk : k.length = m := by simpa using y.1
  refine c33 (by simp) ?_
  (conv => whnf)
  by_cases hlen : n = m
  · subst hlen
    have q0 : (((n : Nat) : Int) != ((n : Nat) : Int)) = false := by simp
    ((conv=>whnf);repeat((first|(with_reducible first|refine Z1 ?_|refine Z2 ?_|refine Z3 ?_|refine Z4 ?_|refine Z5 ?_|refine Z9 (by assumption) rfl ?_|refine ZA (by assumption) rfl ?_|refine ZB (by assumption) rfl ?_|refine Z6 ?_|refine Z7 ?_|refine Z8 ?_)|((with_reducible refine ZM ?_ ?_);(focus rfl)));(conv=>whnf)))
    refine loop_rule [13] (fun vs h' => ∃ (i : Nat), vs = [.int .i64 i] ∧ i ≤ n ∧ l.take i = k.take i ∧ h' = h)
      (fun vs _ => match vs with | [.int _ i] => n - i.toNat | _ => 0) rfl ?_ ?_
    · exact ⟨0, rfl, by omega, by simp, rfl⟩
    · intro u h1 v13
      rintro ⟨i, e, hi, hk2, rfl⟩
      cases e
      ((conv=>whnf);repeat((first|(with_reducible first|refine Z1 ?_|refine Z2 ?_|refine Z3 ?_|refine Z4 ?_|refine Z5 ?_|refine Z9 (by assumption) rfl ?_|refine ZA (by assumption) rfl ?_|refine ZB (by assumption) rfl ?_|refine Z6 ?_|refine Z7 ?_|refine Z8 ?_)|((with_reducible refine ZM ?_ ?_);(focus rfl)));(conv=>whnf)))
      refine HIf.mk (fun hlt => ?_) (fun hlt => ?_)
      · have hi1 : i < n := by have := of_decide_eq_true hlt; omega
        have hmu : n - ((i : Int) + 1).toNat < n - ((i : Int)).toNat := by omega
        have i1 : i < l.length := by omega
        have i2 : i < k.length := by omega
        ((conv=>whnf);repeat((first|(with_reducible first|refine Z1 ?_|refine Z2 ?_|refine Z3 ?_|refine Z4 ?_|refine Z5 ?_|refine Z9 (by assumption) rfl ?_|refine ZA (by assumption) rfl ?_|refine ZB (by assumption) rfl ?_|refine Z6 ?_|refine Z7 ?_|refine Z8 ?_)|((with_reducible refine ZM ?_ ?_);(focus rfl)));(conv=>whnf)))
        refine HIdx.mk i rfl hi1 ?_
        refine sl_some x hi1 fun p ep => ?_
        ((conv=>whnf);repeat((first|(with_reducible first|refine Z1 ?_|refine Z2 ?_|refine Z3 ?_|refine Z4 ?_|refine Z5 ?_|refine Z9 (by assumption) rfl ?_|refine ZA (by assumption) rfl ?_|refine ZB (by assumption) rfl ?_|refine Z6 ?_|refine Z7 ?_|refine Z8 ?_)|((with_reducible refine ZM ?_ ?_);(focus rfl)));(conv=>whnf)))
        refine x.load ep (by simpa using i1) ?_
        rw [List.getElem_map]
        ((conv=>whnf);repeat((first|(with_reducible first|refine Z1 ?_|refine Z2 ?_|refine Z3 ?_|refine Z4 ?_|refine Z5 ?_|refine Z9 (by assumption) rfl ?_|refine ZA (by assumption) rfl ?_|refine ZB (by assumption) rfl ?_|refine Z6 ?_|refine Z7 ?_|refine Z8 ?_)|((with_reducible refine ZM ?_ ?_);(focus rfl)));(conv=>whnf)))
        refine HIdx.mk i rfl hi1 ?_
        refine sl_some y hi1 fun p ep => ?_
        ((conv=>whnf);repeat((first|(with_reducible first|refine Z1 ?_|refine Z2 ?_|refine Z3 ?_|refine Z4 ?_|refine Z5 ?_|refine Z9 (by assumption) rfl ?_|refine ZA (by assumption) rfl ?_|refine ZB (by assumption) rfl ?_|refine Z6 ?_|refine Z7 ?_|refine Z8 ?_)|((with_reducible refine ZM ?_ ?_);(focus rfl)));(conv=>whnf)))
        refine y.load ep (by simpa using i2) ?_
        rw [List.getElem_map]
        by_cases he : l[i] = k[i]
        · have q1 : (l[i] != k[i]) = false := by simp [he]
          ((conv=>whnf);repeat((first|(with_reducible first|refine Z1 ?_|refine Z2 ?_|refine Z3 ?_|refine Z4 ?_|refine Z5 ?_|refine Z9 (by assumption) rfl ?_|refine ZA (by assumption) rfl ?_|refine ZB (by assumption) rfl ?_|refine Z6 ?_|refine Z7 ?_|refine Z8 ?_)|((with_reducible refine ZM ?_ ?_);(focus rfl)));(conv=>whnf)))
          exact ⟨⟨i + 1, rfl, by omega, take_step i1 i2 hk2 he, rfl⟩, hmu⟩
        · have q1 : (l[i] != k[i]) = true := by simp [he]
          ((conv=>whnf);repeat((first|(with_reducible first|refine Z1 ?_|refine Z2 ?_|refine Z3 ?_|refine Z4 ?_|refine Z5 ?_|refine Z9 (by assumption) rfl ?_|refine ZA (by assumption) rfl ?_|refine ZB (by assumption) rfl ?_|refine Z6 ?_|refine Z7 ?_|refine Z8 ?_)|((with_reducible refine ZM ?_ ?_);(focus rfl)));(conv=>whnf)))
          have hv := decide_eq_false (getElem_ne i1 i2 he)
          rw [hv]
          exact ⟨rfl, rfl⟩
      · have hge := of_decide_eq_false hlt
        obtain rfl : i = n := by omega
        rw [List.take_of_length_le (by omega), List.take_of_length_le (by omega)] at hk2
        ((conv=>whnf);repeat((first|(with_reducible first|refine Z1 ?_|refine Z2 ?_|refine Z3 ?_|refine Z4 ?_|refine Z5 ?_|refine Z9 (by assumption) rfl ?_|refine ZA (by assumption) rfl ?_|refine ZB (by assumption) rfl ?_|refine Z6 ?_|refine Z7 ?_|refine Z8 ?_)|((with_reducible refine ZM ?_ ?_);(focus rfl)));(conv=>whnf)))
        have hv := decide_eq_true hk2
        rw [hv]
        exact ⟨rfl, rfl⟩
  · have q0 : (((n : Nat) : Int) != ((m : Nat) : Int)) = true := by rw [bne_iff_ne]; omega
    ((conv=>whnf);repeat((first|(with_reducible first|refine Z1 ?_|refine Z2 ?_|refine Z3 ?_|refine Z4 ?_|refine Z5 ?_|refine Z9 (by assumption) rfl ?_|refine ZA (by assumption) rfl ?_|refine ZB (by assumption) rfl ?_|refine Z6 ?_|refine Z7 ?_|refine Z8 ?_)|((with_reducible refine ZM ?_ ?_);(focus rfl)));(conv=>whnf)))
    have hv : decide (l = k) = false := decide_eq_false (by rintro rfl; omega)
    rw [hv]
    exact ⟨rfl, rfl⟩

theorem sameNames_spec {a b : Option Addr} {n m c e : Nat} {l k : List ByteArray} {h : Heap} (x : Sl h 1 a n c (l.map .string)) (y : Sl h 1 b m e (k.map .string)) (hn : n ≤ 1048576) :
    HCalls Try.prog 34 #[.slice a n c, .slice b m e] h fun e h' => h' = h ∧ e = .returned (.bool (decide (l = k))) := by
  have hl : l.length = n := by simpa using x.1
  have hk : k.length = m := by simpa using y.1
  refine c34 (by simp) ?_
  (conv => whnf)
  by_cases hlen : n = m
  · subst hlen
    have q0 : (((n : Nat) : Int) != ((n : Nat) : Int)) = false := by simp
    ((conv=>whnf);repeat((first|(with_reducible first|refine Z1 ?_|refine Z2 ?_|refine Z3 ?_|refine Z4 ?_|refine Z5 ?_|refine Z9 (by assumption) rfl ?_|refine ZA (by assumption) rfl ?_|refine ZB (by assumption) rfl ?_|refine Z6 ?_|refine Z7 ?_|refine Z8 ?_)|((with_reducible refine ZM ?_ ?_);(focus rfl)));(conv=>whnf)))
    refine loop_rule [13] (fun vs h' => ∃ (i : Nat), vs = [.int .i64 i] ∧ i ≤ n ∧ l.take i = k.take i ∧ h' = h)
      (fun vs _ => match vs with | [.int _ i] => n - i.toNat | _ => 0) rfl ?_ ?_
    · exact ⟨0, rfl, by omega, by simp, rfl⟩
    · intro u h1 v13
      rintro ⟨i, e, hi, hk2, rfl⟩
      cases e
      ((conv=>whnf);repeat((first|(with_reducible first|refine Z1 ?_|refine Z2 ?_|refine Z3 ?_|refine Z4 ?_|refine Z5 ?_|refine Z9 (by assumption) rfl ?_|refine ZA (by assumption) rfl ?_|refine ZB (by assumption) rfl ?_|refine Z6 ?_|refine Z7 ?_|refine Z8 ?_)|((with_reducible refine ZM ?_ ?_);(focus rfl)));(conv=>whnf)))
      refine HIf.mk (fun hlt => ?_) (fun hlt => ?_)
      · have hi1 : i < n := by have := of_decide_eq_true hlt; omega
        have hmu : n - ((i : Int) + 1).toNat < n - ((i : Int)).toNat := by omega
        have i1 : i < l.length := by omega
        have i2 : i < k.length := by omega
        ((conv=>whnf);repeat((first|(with_reducible first|refine Z1 ?_|refine Z2 ?_|refine Z3 ?_|refine Z4 ?_|refine Z5 ?_|refine Z9 (by assumption) rfl ?_|refine ZA (by assumption) rfl ?_|refine ZB (by assumption) rfl ?_|refine Z6 ?_|refine Z7 ?_|refine Z8 ?_)|((with_reducible refine ZM ?_ ?_);(focus rfl)));(conv=>whnf)))
        refine HIdx.mk i rfl hi1 ?_
        refine sl_some x hi1 fun p ep => ?_
        ((conv=>whnf);repeat((first|(with_reducible first|refine Z1 ?_|refine Z2 ?_|refine Z3 ?_|refine Z4 ?_|refine Z5 ?_|refine Z9 (by assumption) rfl ?_|refine ZA (by assumption) rfl ?_|refine ZB (by assumption) rfl ?_|refine Z6 ?_|refine Z7 ?_|refine Z8 ?_)|((with_reducible refine ZM ?_ ?_);(focus rfl)));(conv=>whnf)))
        refine x.load ep (by simpa using i1) ?_
        rw [List.getElem_map]
        ((conv=>whnf);repeat((first|(with_reducible first|refine Z1 ?_|refine Z2 ?_|refine Z3 ?_|refine Z4 ?_|refine Z5 ?_|refine Z9 (by assumption) rfl ?_|refine ZA (by assumption) rfl ?_|refine ZB (by assumption) rfl ?_|refine Z6 ?_|refine Z7 ?_|refine Z8 ?_)|((with_reducible refine ZM ?_ ?_);(focus rfl)));(conv=>whnf)))
        refine HIdx.mk i rfl hi1 ?_
        refine sl_some y hi1 fun p ep => ?_
        ((conv=>whnf);repeat((first|(with_reducible first|refine Z1 ?_|refine Z2 ?_|refine Z3 ?_|refine Z4 ?_|refine Z5 ?_|refine Z9 (by assumption) rfl ?_|refine ZA (by assumption) rfl ?_|refine ZB (by assumption) rfl ?_|refine Z6 ?_|refine Z7 ?_|refine Z8 ?_)|((with_reducible refine ZM ?_ ?_);(focus rfl)));(conv=>whnf)))
        refine y.load ep (by simpa using i2) ?_
        rw [List.getElem_map]
        by_cases he : l[i] = k[i]
        · have q1 : (!strEq l[i] k[i]) = false := by rw [(strEq_iff _ _).2 he]; rfl
          ((conv=>whnf);repeat((first|(with_reducible first|refine Z1 ?_|refine Z2 ?_|refine Z3 ?_|refine Z4 ?_|refine Z5 ?_|refine Z9 (by assumption) rfl ?_|refine ZA (by assumption) rfl ?_|refine ZB (by assumption) rfl ?_|refine Z6 ?_|refine Z7 ?_|refine Z8 ?_)|((with_reducible refine ZM ?_ ?_);(focus rfl)));(conv=>whnf)))
          exact ⟨⟨i + 1, rfl, by omega, take_step i1 i2 hk2 he, rfl⟩, hmu⟩
        · have q1 : (!strEq l[i] k[i]) = true := by rw [(strEq_no _ _).2 he]; rfl
          ((conv=>whnf);repeat((first|(with_reducible first|refine Z1 ?_|refine Z2 ?_|refine Z3 ?_|refine Z4 ?_|refine Z5 ?_|refine Z9 (by assumption) rfl ?_|refine ZA (by assumption) rfl ?_|refine ZB (by assumption) rfl ?_|refine Z6 ?_|refine Z7 ?_|refine Z8 ?_)|((with_reducible refine ZM ?_ ?_);(focus rfl)));(conv=>whnf)))
          have hv := decide_eq_false (getElem_ne i1 i2 he)
          rw [hv]
          exact ⟨rfl, rfl⟩
      · have hge := of_decide_eq_false hlt
        obtain rfl : i = n := by omega
        rw [List.take_of_length_le (by omega), List.take_of_length_le (by omega)] at hk2
        ((conv=>whnf);repeat((first|(with_reducible first|refine Z1 ?_|refine Z2 ?_|refine Z3 ?_|refine Z4 ?_|refine Z5 ?_|refine Z9 (by assumption) rfl ?_|refine ZA (by assumption) rfl ?_|refine ZB (by assumption) rfl ?_|refine Z6 ?_|refine Z7 ?_|refine Z8 ?_)|((with_reducible refine ZM ?_ ?_);(focus rfl)));(conv=>whnf)))
        have hv := decide_eq_true hk2
        rw [hv]
        exact ⟨rfl, rfl⟩
  · have q0 : (((n : Nat) : Int) != ((m : Nat) : Int)) = true := by rw [bne_iff_ne]; omega
    ((conv=>whnf);repeat((first|(with_reducible first|refine Z1 ?_|refine Z2 ?_|refine Z3 ?_|refine Z4 ?_|refine Z5 ?_|refine Z9 (by assumption) rfl ?_|refine ZA (by assumption) rfl ?_|refine ZB (by assumption) rfl ?_|refine Z6 ?_|refine Z7 ?_|refine Z8 ?_)|((with_reducible refine ZM ?_ ?_);(focus rfl)));(conv=>whnf)))
    have hv : decide (l = k) = false := decide_eq_false (by rintro rfl; omega)
    rw [hv]
    exact ⟨rfl, rfl⟩

theorem sameInts_spec {a b : Option Addr} {n m c e : Nat} {l k : List Int} {h : Heap} (x : Sl h 1 a n c (l.map (.int .i64))) (y : Sl h 1 b m e (k.map (.int .i64))) (hn : n ≤ 1048576) :
    HCalls Try.prog 35 #[.slice a n c, .slice b m e] h fun e h' => h' = h ∧ e = .returned (.bool (decide (l = k))) := by
  have hl : l.length = n := by simpa using x.1
  have hk : k.length = m := by simpa using y.1
  refine c35 (by simp) ?_
  (conv => whnf)
  by_cases hlen : n = m
  · subst hlen
    have q0 : (((n : Nat) : Int) != ((n : Nat) : Int)) = false := by simp
    ((conv=>whnf);repeat((first|(with_reducible first|refine Z1 ?_|refine Z2 ?_|refine Z3 ?_|refine Z4 ?_|refine Z5 ?_|refine Z9 (by assumption) rfl ?_|refine ZA (by assumption) rfl ?_|refine ZB (by assumption) rfl ?_|refine Z6 ?_|refine Z7 ?_|refine Z8 ?_)|((with_reducible refine ZM ?_ ?_);(focus rfl)));(conv=>whnf)))
    refine loop_rule [13] (fun vs h' => ∃ (i : Nat), vs = [.int .i64 i] ∧ i ≤ n ∧ l.take i = k.take i ∧ h' = h)
      (fun vs _ => match vs with | [.int _ i] => n - i.toNat | _ => 0) rfl ?_ ?_
    · exact ⟨0, rfl, by omega, by simp, rfl⟩
    · intro u h1 v13
      rintro ⟨i, e, hi, hk2, rfl⟩
      cases e
      ((conv=>whnf);repeat((first|(with_reducible first|refine Z1 ?_|refine Z2 ?_|refine Z3 ?_|refine Z4 ?_|refine Z5 ?_|refine Z9 (by assumption) rfl ?_|refine ZA (by assumption) rfl ?_|refine ZB (by assumption) rfl ?_|refine Z6 ?_|refine Z7 ?_|refine Z8 ?_)|((with_reducible refine ZM ?_ ?_);(focus rfl)));(conv=>whnf)))
      refine HIf.mk (fun hlt => ?_) (fun hlt => ?_)
      · have hi1 : i < n := by have := of_decide_eq_true hlt; omega
        have hmu : n - ((i : Int) + 1).toNat < n - ((i : Int)).toNat := by omega
        have i1 : i < l.length := by omega
        have i2 : i < k.length := by omega
        ((conv=>whnf);repeat((first|(with_reducible first|refine Z1 ?_|refine Z2 ?_|refine Z3 ?_|refine Z4 ?_|refine Z5 ?_|refine Z9 (by assumption) rfl ?_|refine ZA (by assumption) rfl ?_|refine ZB (by assumption) rfl ?_|refine Z6 ?_|refine Z7 ?_|refine Z8 ?_)|((with_reducible refine ZM ?_ ?_);(focus rfl)));(conv=>whnf)))
        refine HIdx.mk i rfl hi1 ?_
        refine sl_some x hi1 fun p ep => ?_
        ((conv=>whnf);repeat((first|(with_reducible first|refine Z1 ?_|refine Z2 ?_|refine Z3 ?_|refine Z4 ?_|refine Z5 ?_|refine Z9 (by assumption) rfl ?_|refine ZA (by assumption) rfl ?_|refine ZB (by assumption) rfl ?_|refine Z6 ?_|refine Z7 ?_|refine Z8 ?_)|((with_reducible refine ZM ?_ ?_);(focus rfl)));(conv=>whnf)))
        refine x.load ep (by simpa using i1) ?_
        rw [List.getElem_map]
        ((conv=>whnf);repeat((first|(with_reducible first|refine Z1 ?_|refine Z2 ?_|refine Z3 ?_|refine Z4 ?_|refine Z5 ?_|refine Z9 (by assumption) rfl ?_|refine ZA (by assumption) rfl ?_|refine ZB (by assumption) rfl ?_|refine Z6 ?_|refine Z7 ?_|refine Z8 ?_)|((with_reducible refine ZM ?_ ?_);(focus rfl)));(conv=>whnf)))
        refine HIdx.mk i rfl hi1 ?_
        refine sl_some y hi1 fun p ep => ?_
        ((conv=>whnf);repeat((first|(with_reducible first|refine Z1 ?_|refine Z2 ?_|refine Z3 ?_|refine Z4 ?_|refine Z5 ?_|refine Z9 (by assumption) rfl ?_|refine ZA (by assumption) rfl ?_|refine ZB (by assumption) rfl ?_|refine Z6 ?_|refine Z7 ?_|refine Z8 ?_)|((with_reducible refine ZM ?_ ?_);(focus rfl)));(conv=>whnf)))
        refine y.load ep (by simpa using i2) ?_
        rw [List.getElem_map]
        by_cases he : l[i] = k[i]
        · have q1 : (l[i] != k[i]) = false := by simp [he]
          ((conv=>whnf);repeat((first|(with_reducible first|refine Z1 ?_|refine Z2 ?_|refine Z3 ?_|refine Z4 ?_|refine Z5 ?_|refine Z9 (by assumption) rfl ?_|refine ZA (by assumption) rfl ?_|refine ZB (by assumption) rfl ?_|refine Z6 ?_|refine Z7 ?_|refine Z8 ?_)|((with_reducible refine ZM ?_ ?_);(focus rfl)));(conv=>whnf)))
          exact ⟨⟨i + 1, rfl, by omega, take_step i1 i2 hk2 he, rfl⟩, hmu⟩
        · have q1 : (l[i] != k[i]) = true := by simp [he]
          ((conv=>whnf);repeat((first|(with_reducible first|refine Z1 ?_|refine Z2 ?_|refine Z3 ?_|refine Z4 ?_|refine Z5 ?_|refine Z9 (by assumption) rfl ?_|refine ZA (by assumption) rfl ?_|refine ZB (by assumption) rfl ?_|refine Z6 ?_|refine Z7 ?_|refine Z8 ?_)|((with_reducible refine ZM ?_ ?_);(focus rfl)));(conv=>whnf)))
          have hv := decide_eq_false (getElem_ne i1 i2 he)
          rw [hv]
          exact ⟨rfl, rfl⟩
      · have hge := of_decide_eq_false hlt
        obtain rfl : i = n := by omega
        rw [List.take_of_length_le (by omega), List.take_of_length_le (by omega)] at hk2
        ((conv=>whnf);repeat((first|(with_reducible first|refine Z1 ?_|refine Z2 ?_|refine Z3 ?_|refine Z4 ?_|refine Z5 ?_|refine Z9 (by assumption) rfl ?_|refine ZA (by assumption) rfl ?_|refine ZB (by assumption) rfl ?_|refine Z6 ?_|refine Z7 ?_|refine Z8 ?_)|((with_reducible refine ZM ?_ ?_);(focus rfl)));(conv=>whnf)))
        have hv := decide_eq_true hk2
        rw [hv]
        exact ⟨rfl, rfl⟩
  · have q0 : (((n : Nat) : Int) != ((m : Nat) : Int)) = true := by rw [bne_iff_ne]; omega
    ((conv=>whnf);repeat((first|(with_reducible first|refine Z1 ?_|refine Z2 ?_|refine Z3 ?_|refine Z4 ?_|refine Z5 ?_|refine Z9 (by assumption) rfl ?_|refine ZA (by assumption) rfl ?_|refine ZB (by assumption) rfl ?_|refine Z6 ?_|refine Z7 ?_|refine Z8 ?_)|((with_reducible refine ZM ?_ ?_);(focus rfl)));(conv=>whnf)))
    have hv : decide (l = k) = false := decide_eq_false (by rintro rfl; omega)
    rw [hv]
    exact ⟨rfl, rfl⟩

theorem sameN_spec {d m : ND} {h : Heap} {cs ds : List Value} (ra : NRep h d cs) (rb : NRep h m ds) :
    HCalls Try.prog 18 #[.agg cs.toArray, .agg ds.toArray] h fun e h' => e = .returned (.bool (decide (d = m))) ∧ Ext h h' := by
  obtain ⟨a1, a2, a3, a4, a5, a6, ka, kc, va, vc, ia, ic, rfl, s1, s2, s3⟩ := ra
  obtain ⟨b1, b2, b3, b4, b5, b6, ka', kc', va', vc', ia', ic', rfl, s1', s2', s3'⟩ := rb
  have hd : decide (d = m) = (decide (d.keys = m.keys) && (decide (d.vals = m.vals) && decide (d.kids = m.kids))) := by
    rw [← Bool.decide_and, ← Bool.decide_and, decide_eq_decide]
    cases d; cases m; simp
  rw [hd]
  refine c18 (by simp) ?_
  (conv => whnf)
  refine new_var (e := 26) [.slice ka d.keys.length kc, .slice va d.vals.length vc, .slice ia d.kids.length ic] rfl ?_
  intro h1 bx ox x1 z1 hbx
  ((conv=>whnf);repeat((first|(with_reducible first|refine Z1 ?_|refine Z2 ?_|refine Z3 ?_|refine Z4 ?_|refine Z5 ?_|refine Z9 (by assumption) rfl ?_|refine ZA (by assumption) rfl ?_|refine ZB (by assumption) rfl ?_|refine Z6 ?_|refine Z7 ?_|refine Z8 ?_)|((with_reducible refine ZM ?_ ?_);(focus rfl)));(conv=>whnf)))
  refine new_var (e := 26) [.slice ka' m.keys.length kc', .slice va' m.vals.length vc', .slice ia' m.kids.length ic'] rfl ?_
  intro h2 by' oy x2 z2 hby
  have ox2 := ox.ext x2
  have x02 := x1.trans x2
  ((conv=>whnf);repeat((first|(with_reducible first|refine Z1 ?_|refine Z2 ?_|refine Z3 ?_|refine Z4 ?_|refine Z5 ?_|refine Z9 (by assumption) rfl ?_|refine ZA (by assumption) rfl ?_|refine ZB (by assumption) rfl ?_|refine Z6 ?_|refine Z7 ?_|refine Z8 ?_)|((with_reducible refine ZM ?_ ?_);(focus rfl)));(conv=>whnf)))
  refine HCall.mk ((eqStr_spec (s1.ext x02) (s1'.ext x02) a1).mono ?_)
  rintro e _ ⟨rfl, rfl⟩
  generalize decide (d.keys = m.keys) = q
  cases q
  · ((conv=>whnf);repeat((first|(with_reducible first|refine Z1 ?_|refine Z2 ?_|refine Z3 ?_|refine Z4 ?_|refine Z5 ?_|refine Z9 (by assumption) rfl ?_|refine ZA (by assumption) rfl ?_|refine ZB (by assumption) rfl ?_|refine Z6 ?_|refine Z7 ?_|refine Z8 ?_)|((with_reducible refine ZM ?_ ?_);(focus rfl)));(conv=>whnf)))
    exact ⟨rfl, x02⟩
  ((conv=>whnf);repeat((first|(with_reducible first|refine Z1 ?_|refine Z2 ?_|refine Z3 ?_|refine Z4 ?_|refine Z5 ?_|refine Z9 (by assumption) rfl ?_|refine ZA (by assumption) rfl ?_|refine ZB (by assumption) rfl ?_|refine Z6 ?_|refine Z7 ?_|refine Z8 ?_)|((with_reducible refine ZM ?_ ?_);(focus rfl)));(conv=>whnf)))
  refine HCall.mk ((eqStr_spec (s2.ext x02) (s2'.ext x02) a2).mono ?_)
  rintro e _ ⟨rfl, rfl⟩
  generalize decide (d.vals = m.vals) = q
  cases q
  · ((conv=>whnf);repeat((first|(with_reducible first|refine Z1 ?_|refine Z2 ?_|refine Z3 ?_|refine Z4 ?_|refine Z5 ?_|refine Z9 (by assumption) rfl ?_|refine ZA (by assumption) rfl ?_|refine ZB (by assumption) rfl ?_|refine Z6 ?_|refine Z7 ?_|refine Z8 ?_)|((with_reducible refine ZM ?_ ?_);(focus rfl)));(conv=>whnf)))
    exact ⟨rfl, x02⟩
  ((conv=>whnf);repeat((first|(with_reducible first|refine Z1 ?_|refine Z2 ?_|refine Z3 ?_|refine Z4 ?_|refine Z5 ?_|refine Z9 (by assumption) rfl ?_|refine ZA (by assumption) rfl ?_|refine ZB (by assumption) rfl ?_|refine Z6 ?_|refine Z7 ?_|refine Z8 ?_)|((with_reducible refine ZM ?_ ?_);(focus rfl)));(conv=>whnf)))
  refine HCall.mk ((eqInt_spec (s3.ext x02) (s3'.ext x02) a3).mono ?_)
  rintro e _ ⟨rfl, rfl⟩
  generalize decide (d.kids = m.kids) = q
  ((conv=>whnf);repeat((first|(with_reducible first|refine Z1 ?_|refine Z2 ?_|refine Z3 ?_|refine Z4 ?_|refine Z5 ?_|refine Z9 (by assumption) rfl ?_|refine ZA (by assumption) rfl ?_|refine ZB (by assumption) rfl ?_|refine Z6 ?_|refine Z7 ?_|refine Z8 ?_)|((with_reducible refine ZM ?_ ?_);(focus rfl)));(conv=>whnf)))
  exact ⟨rfl, x02⟩

theorem rsameN_spec {d m : ND} {h : Heap} {cs ds : List Value} (ra : NRep h d cs) (rb : NRep h m ds) :
    HCalls Try.prog 19 #[.agg cs.toArray, .agg ds.toArray] h fun e h' => e = .returned (.bool (decide (d = m))) ∧ Ext h h' := by
  obtain ⟨a1, a2, a3, a4, a5, a6, ka, kc, va, vc, ia, ic, rfl, s1, s2, s3⟩ := ra
  obtain ⟨b1, b2, b3, b4, b5, b6, ka', kc', va', vc', ia', ic', rfl, s1', s2', s3'⟩ := rb
  have hd : decide (d = m) = (decide (d.keys = m.keys) && (decide (d.vals = m.vals) && decide (d.kids = m.kids))) := by
    rw [← Bool.decide_and, ← Bool.decide_and, decide_eq_decide]
    cases d; cases m; simp
  rw [hd]
  refine c19 (by simp) ?_
  (conv => whnf)
  refine new_var (e := 25) [.slice ka d.keys.length kc, .slice va d.vals.length vc, .slice ia d.kids.length ic] rfl ?_
  intro h1 bx ox x1 z1 hbx
  ((conv=>whnf);repeat((first|(with_reducible first|refine Z1 ?_|refine Z2 ?_|refine Z3 ?_|refine Z4 ?_|refine Z5 ?_|refine Z9 (by assumption) rfl ?_|refine ZA (by assumption) rfl ?_|refine ZB (by assumption) rfl ?_|refine Z6 ?_|refine Z7 ?_|refine Z8 ?_)|((with_reducible refine ZM ?_ ?_);(focus rfl)));(conv=>whnf)))
  refine new_var (e := 25) [.slice ka' m.keys.length kc', .slice va' m.vals.length vc', .slice ia' m.kids.length ic'] rfl ?_
  intro h2 by' oy x2 z2 hby
  have ox2 := ox.ext x2
  have x02 := x1.trans x2
  ((conv=>whnf);repeat((first|(with_reducible first|refine Z1 ?_|refine Z2 ?_|refine Z3 ?_|refine Z4 ?_|refine Z5 ?_|refine Z9 (by assumption) rfl ?_|refine ZA (by assumption) rfl ?_|refine ZB (by assumption) rfl ?_|refine Z6 ?_|refine Z7 ?_|refine Z8 ?_)|((with_reducible refine ZM ?_ ?_);(focus rfl)));(conv=>whnf)))
  refine HCall.mk ((sameNames_spec (s1.ext x02) (s1'.ext x02) a1).mono ?_)
  rintro e _ ⟨rfl, rfl⟩
  generalize decide (d.keys = m.keys) = q
  cases q
  · ((conv=>whnf);repeat((first|(with_reducible first|refine Z1 ?_|refine Z2 ?_|refine Z3 ?_|refine Z4 ?_|refine Z5 ?_|refine Z9 (by assumption) rfl ?_|refine ZA (by assumption) rfl ?_|refine ZB (by assumption) rfl ?_|refine Z6 ?_|refine Z7 ?_|refine Z8 ?_)|((with_reducible refine ZM ?_ ?_);(focus rfl)));(conv=>whnf)))
    exact ⟨rfl, x02⟩
  ((conv=>whnf);repeat((first|(with_reducible first|refine Z1 ?_|refine Z2 ?_|refine Z3 ?_|refine Z4 ?_|refine Z5 ?_|refine Z9 (by assumption) rfl ?_|refine ZA (by assumption) rfl ?_|refine ZB (by assumption) rfl ?_|refine Z6 ?_|refine Z7 ?_|refine Z8 ?_)|((with_reducible refine ZM ?_ ?_);(focus rfl)));(conv=>whnf)))
  refine HCall.mk ((sameNames_spec (s2.ext x02) (s2'.ext x02) a2).mono ?_)
  rintro e _ ⟨rfl, rfl⟩
  generalize decide (d.vals = m.vals) = q
  cases q
  · ((conv=>whnf);repeat((first|(with_reducible first|refine Z1 ?_|refine Z2 ?_|refine Z3 ?_|refine Z4 ?_|refine Z5 ?_|refine Z9 (by assumption) rfl ?_|refine ZA (by assumption) rfl ?_|refine ZB (by assumption) rfl ?_|refine Z6 ?_|refine Z7 ?_|refine Z8 ?_)|((with_reducible refine ZM ?_ ?_);(focus rfl)));(conv=>whnf)))
    exact ⟨rfl, x02⟩
  ((conv=>whnf);repeat((first|(with_reducible first|refine Z1 ?_|refine Z2 ?_|refine Z3 ?_|refine Z4 ?_|refine Z5 ?_|refine Z9 (by assumption) rfl ?_|refine ZA (by assumption) rfl ?_|refine ZB (by assumption) rfl ?_|refine Z6 ?_|refine Z7 ?_|refine Z8 ?_)|((with_reducible refine ZM ?_ ?_);(focus rfl)));(conv=>whnf)))
  refine HCall.mk ((sameInts_spec (s3.ext x02) (s3'.ext x02) a3).mono ?_)
  rintro e _ ⟨rfl, rfl⟩
  generalize decide (d.kids = m.kids) = q
  ((conv=>whnf);repeat((first|(with_reducible first|refine Z1 ?_|refine Z2 ?_|refine Z3 ?_|refine Z4 ?_|refine Z5 ?_|refine Z9 (by assumption) rfl ?_|refine ZA (by assumption) rfl ?_|refine ZB (by assumption) rfl ?_|refine Z6 ?_|refine Z7 ?_|refine Z8 ?_)|((with_reducible refine ZM ?_ ?_);(focus rfl)));(conv=>whnf)))
  exact ⟨rfl, x02⟩

theorem toldN_spec {d : ND} {h : Heap} {cs : List Value} (ra : NRep h d cs) :
    HCalls Try.prog 20 #[.agg cs.toArray] h fun e h' => e = .returned (.agg cs.toArray) ∧ Ext h h' := by
  obtain ⟨a1, a2, a3, a4, a5, a6, ka, kc, va, vc, ia, ic, rfl, s1, s2, s3⟩ := ra
  refine c20 (by simp) ?_
  (conv => whnf)
  refine new_var (e := 26) [.slice ka d.keys.length kc, .slice va d.vals.length vc, .slice ia d.kids.length ic] rfl ?_
  intro h1 bx ox x1 z1 hbx
  ((conv=>whnf);repeat((first|(with_reducible first|refine Z1 ?_|refine Z2 ?_|refine Z3 ?_|refine Z4 ?_|refine Z5 ?_|refine Z9 (by assumption) rfl ?_|refine ZA (by assumption) rfl ?_|refine ZB (by assumption) rfl ?_|refine Z6 ?_|refine Z7 ?_|refine Z8 ?_)|((with_reducible refine ZM ?_ ?_);(focus rfl)));(conv=>whnf)))
  refine new_var (e := 25) [.slice none 0 0, .slice none 0 0, .slice none 0 0] rfl ?_
  intro h2 b2 o2 x2 z2 hb2
  have ox2 := ox.ext x2
  ((conv=>whnf);repeat((first|(with_reducible first|refine Z1 ?_|refine Z2 ?_|refine Z3 ?_|refine Z4 ?_|refine Z5 ?_|refine Z9 (by assumption) rfl ?_|refine ZA (by assumption) rfl ?_|refine ZB (by assumption) rfl ?_|refine Z6 ?_|refine Z7 ?_|refine Z8 ?_)|((with_reducible refine ZM ?_ ?_);(focus rfl)));(conv=>whnf)))
  refine store_blk (o := 0) o2 (by simp) (by intro v hv; simp only [List.mem_cons, List.not_mem_nil, or_false] at hv; rcases hv with rfl | rfl | rfl <;> rfl) ?_
  intro h3 f3 z3 o3
  ((conv=>whnf);repeat((first|(with_reducible first|refine Z1 ?_|refine Z2 ?_|refine Z3 ?_|refine Z4 ?_|refine Z5 ?_|refine Z9 (by assumption) rfl ?_|refine ZA (by assumption) rfl ?_|refine ZB (by assumption) rfl ?_|refine Z6 ?_|refine Z7 ?_|refine Z8 ?_)|((with_reducible refine ZM ?_ ?_);(focus rfl)));(conv=>whnf)))
  exact ⟨rfl, x1.trans (x2.offNew f3 (by omega))⟩
/-- A slice that grows out of nothing. -/
theorem Own.none_app {h : Heap} {e size bytes : Nat} {zs : List Value} {n : Nat} {more : List Value} {K : Value → Heap → Prop} (hz : zs.length = size) (hm : more.length = n * size) (one : ∀ v ∈ more, isOne v = true)
    (room : n * bytes ≤ 140737488355328) (k : ∀ h' a' c', Own h' h.size e size a' n c' more → Ext h h' → K (.slice a' n c') h') : HAppend h e size bytes zs none 0 0 more n K := by
  refine Own.append (Own.nil h h.size e size) (Nat.le_refl _) hz hm one (by rw [Nat.zero_add]; exact room) ?_
  intro h' a' c' o k1 _ _
  rw [List.nil_append, Nat.zero_add] at o
  have := k h' a' c' o k1
  rw [Nat.zero_add]
  exact this
theorem ownN_spec {d : ND} {h : Heap} {cs : List Value} (ra : NRep h d cs) :
    HCalls Try.prog 9 #[.agg cs.toArray] h fun e h' => ∃ ds, e = .returned (.agg ds.toArray) ∧ NRep h' d ds ∧ Ext h h' := by
  obtain ⟨a1, a2, a3, a4, a5, a6, ka, kc, va, vc, ia, ic, rfl, s1, s2, s3⟩ := ra
  refine c9 (by simp) ?_
  (conv => whnf)
  refine new_var (e := 25) [.slice ka d.keys.length kc, .slice va d.vals.length vc, .slice ia d.kids.length ic] rfl ?_
  intro h1 bx ox x1 z1 hbx
  ((conv=>whnf);repeat((first|(with_reducible first|refine Z1 ?_|refine Z2 ?_|refine Z3 ?_|refine Z4 ?_|refine Z5 ?_|refine Z9 (by assumption) rfl ?_|refine ZA (by assumption) rfl ?_|refine ZB (by assumption) rfl ?_|refine Z6 ?_|refine Z7 ?_|refine Z8 ?_)|((with_reducible refine ZM ?_ ?_);(focus rfl)));(conv=>whnf)))
  refine new_var (e := 26) [.slice none 0 0, .slice none 0 0, .slice none 0 0] rfl ?_
  intro h2 b2 o2 x2 z2 hb2
  have ox2 := ox.ext x2
  have x02 := x1.trans x2
  ((conv=>whnf);repeat((first|(with_reducible first|refine Z1 ?_|refine Z2 ?_|refine Z3 ?_|refine Z4 ?_|refine Z5 ?_|refine Z9 (by assumption) rfl ?_|refine ZA (by assumption) rfl ?_|refine ZB (by assumption) rfl ?_|refine Z6 ?_|refine Z7 ?_|refine Z8 ?_)|((with_reducible refine ZM ?_ ?_);(focus rfl)));(conv=>whnf)))
  refine (s1.ext x02).cells ?_
  refine Own.none_app rfl (by simp) (by intro v hv; simp at hv; obtain ⟨_, _, rfl⟩ := hv; rfl) (by omega) ?_
  intro h3 a3' c3 o3 x3
  ((conv=>whnf);repeat((first|(with_reducible first|refine Z1 ?_|refine Z2 ?_|refine Z3 ?_|refine Z4 ?_|refine Z5 ?_|refine Z9 (by assumption) rfl ?_|refine ZA (by assumption) rfl ?_|refine ZB (by assumption) rfl ?_|refine Z6 ?_|refine Z7 ?_|refine Z8 ?_)|((with_reducible refine ZM ?_ ?_);(focus rfl)));(conv=>whnf)))
  refine (s2.ext (x02.trans x3)).cells ?_
  refine Own.none_app rfl (by simp) (by intro v hv; simp at hv; obtain ⟨_, _, rfl⟩ := hv; rfl) (by omega) ?_
  intro h4 a4' c4 o4 x4
  ((conv=>whnf);repeat((first|(with_reducible first|refine Z1 ?_|refine Z2 ?_|refine Z3 ?_|refine Z4 ?_|refine Z5 ?_|refine Z9 (by assumption) rfl ?_|refine ZA (by assumption) rfl ?_|refine ZB (by assumption) rfl ?_|refine Z6 ?_|refine Z7 ?_|refine Z8 ?_)|((with_reducible refine ZM ?_ ?_);(focus rfl)));(conv=>whnf)))
  refine (s3.ext ((x02.trans x3).trans x4)).cells ?_
  refine Own.none_app rfl (by simp) (by intro v hv; simp at hv; obtain ⟨_, _, rfl⟩ := hv; rfl) (by omega) ?_
  intro h5 a5' c5 o5 x5
  have o25 := ((o2.ext x3).ext x4).ext x5
  ((conv=>whnf);repeat((first|(with_reducible first|refine Z1 ?_|refine Z2 ?_|refine Z3 ?_|refine Z4 ?_|refine Z5 ?_|refine Z9 (by assumption) rfl ?_|refine ZA (by assumption) rfl ?_|refine ZB (by assumption) rfl ?_|refine Z6 ?_|refine Z7 ?_|refine Z8 ?_)|((with_reducible refine ZM ?_ ?_);(focus rfl)));(conv=>whnf)))
  refine store_blk (o := 0) o25 (by simp) (by intro v hv; simp only [List.mem_cons, List.not_mem_nil, or_false] at hv; rcases hv with rfl | rfl | rfl <;> rfl) ?_
  intro h6 f6 z6 o6
  have hz2 := x2.1
  have hz3 := x3.1
  have hz4 := x4.1
  have l3 := fun p ep => (o3.lt p ep).1
  have l4 := fun p ep => (o4.lt p ep).1
  have l5 := fun p ep => (o5.lt p ep).1
  ((conv=>whnf);repeat((first|(with_reducible first|refine Z1 ?_|refine Z2 ?_|refine Z3 ?_|refine Z4 ?_|refine Z5 ?_|refine Z9 (by assumption) rfl ?_|refine ZA (by assumption) rfl ?_|refine ZB (by assumption) rfl ?_|refine Z6 ?_|refine Z7 ?_|refine Z8 ?_)|((with_reducible refine ZM ?_ ?_);(focus rfl)));(conv=>whnf)))
  exact ⟨_, rfl, ⟨a1, a2, a3, a4, a5, a6, a3', c3, a4', c4, a5', c5, rfl, (((o3.ext x4).ext x5).off f6 (fun p ep => by have := l3 p ep; omega)).sl, ((o4.ext x5).off f6 (fun p ep => by have := l4 p ep; omega)).sl,
    (o5.off f6 (fun p ep => by have := l5 p ep; omega)).sl⟩, x1.trans ((((x2.trans x3).trans x4).trans x5).offNew f6 (by omega))⟩

end Go.Proofs.Ythagjflkdoafmaa.Hc
