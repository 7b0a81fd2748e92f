import Derived.Test.YthagjflkdoafmaaC0
import Derived.Test.YthagjflkdoafmaaHK
import Derived.Lib.Strings
set_option linter.unusedVariables false
set_option linter.unusedSimpArgs false
namespace Go.Proofs.Ythagjflkdoafmaa.Hc
open Go Go.H Go.Proofs
set_option maxRecDepth 100000

/-- A number's bytes. -/
def leb (n : Nat) : List UInt8 := if n < 128 then [UInt8.ofNat n] else UInt8.ofNat (n % 128 + 128) :: leb (n / 128)
theorem leb_small {n : Nat} (h : n < 128) : leb n = [UInt8.ofNat n] := by rw [leb, if_pos h]
theorem leb_big {n : Nat} (h : ¬ n < 128) : leb n = UInt8.ofNat (n % 128 + 128) :: leb (n / 128) := by rw [leb, if_neg h]
theorem or128 (n : Nat) : ibits .or .u8 ((n % 256 : Nat) : Int) 128 = ((n % 128 + 128 : Nat) : Int) := by
  have h0 : ∀ m : Fin 256, ibits .or .u8 (m.val : Int) 128 = ((m.val % 128 + 128 : Nat) : Int) := by decide +kernel
  have h1 := h0 ⟨n % 256, by omega⟩
  rw [h1]; congr 1; simp only; omega
theorem fdiv128 (n : Nat) : ((n : Int).fdiv (2 ^ (min (Int.toNat 7) (IntKind.bits .u64)))) = ((n / 128 : Nat) : Int) := by
  show (n : Int).fdiv 128 = _
  rw [Int.fdiv_eq_ediv_of_nonneg _ (by omega)]; rfl

theorem num_spec (n : Nat) (hn : n < 2^64) (h : Heap) : HCalls Try.prog 24 #[.int .u64 n] h fun e h' => ∃ a c, e = .returned (.slice a (leb n).length c) ∧ Own h' h.size 5 1 a (leb n).length c ((leb n).map byteV) ∧ Ext h h' := by
  refine c24 (by simp) ?_
  (conv => whnf)
  (refine HSeq.go ?_; conv => whnf)
  refine loop_rule [0, 3] (fun vs h' => ∃ (m : Nat) (l : List UInt8) (a : Option Addr) (c : Nat), vs = [.int .u64 m, .slice a l.length c] ∧ m < 2^64 ∧ l ++ leb m = leb n ∧ l.length ≤ 10 ∧ m * 128 ^ l.length < 2^64 ∧ Own h' h.size 5 1 a l.length c (l.map byteV) ∧ Ext h h') (fun vs _ => match vs with | (.int _ m) :: _ => m.toNat | _ => 0) rfl ?_ ?_
  · exact ⟨n, [], none, 0, rfl, hn, rfl, by simp, by simpa using hn, Own.nil _ _ _ _, Ext.refl _⟩
  · intro u h' v0 v3
    rintro ⟨m, l, a, c, e, hm, hl, h10, hp, ho, hx⟩
    cases e
    have hs := hx.1
    (conv => whnf)
    (refine HSeq.go ?_; conv => whnf)
    refine HIf.mk (fun hb => ?_) (fun hb => ?_)
    · simp only [decide_eq_true_eq] at hb
      (conv => whnf)
      (refine HSeq.go ?_; conv => whnf)
      refine HInt.mk _ wrap_u8' ?_
      (conv => whnf)
      refine new_own 1 1 [.int .u8 (ibits .or .u8 ((m : Int) % 256) 128)] rfl rfl ?_
      intro h1 b1 o1 x1 z1 _
      (conv => whnf)
      refine o1.sl.cells ?_
      refine (ho.ext x1).append (m := 1) (by omega) rfl rfl (by simp [isOne]) (by omega) ?_
      intro h2 a2 c2 o2 k2 _ _
      (conv => whnf)
      refine HMust.mk (by decide) ?_
      (conv => whnf)
      have e1 : ibits .or .u8 ((m : Int) % 256) 128 = (((UInt8.ofNat (m % 128 + 128)).toNat : Nat) : Int) := by
        rw [show ((m : Int) % 256) = ((m % 256 : Nat) : Int) by omega, or128]; congr 1; simp; omega
      refine ⟨⟨m / 128, l ++ [UInt8.ofNat (m % 128 + 128)], a2, c2, ?_, by omega, ?_, ?_, ?_, ?_, ?_⟩, ?_⟩
      · show [Value.int .u64 ((m : Int).fdiv (2 ^ min (Int.toNat 7) (IntKind.bits .u64))), Value.slice a2 (l.length + 1) c2] = _
        rw [fdiv128]; simp
      · rw [List.append_assoc, List.singleton_append, ← leb_big (by omega)]; exact hl
      · simp; have : 2 ^ 64 ≤ 128 ^ 10 := by decide
        rcases Nat.lt_or_ge l.length 10 with h1 | h1
        · omega
        · have : l.length = 10 := by omega
          rw [this] at hp
          have : 1 * 128 ^ 10 ≤ m * 128 ^ 10 := Nat.mul_le_mul_right _ (by omega)
          omega
      · simp only [List.length_append, List.length_singleton, Nat.pow_succ]
        have : m / 128 * (128 ^ l.length * 128) ≤ m * 128 ^ l.length := by
          rw [Nat.mul_comm (128 ^ l.length), ← Nat.mul_assoc]; exact Nat.mul_le_mul_right _ (Nat.div_mul_le_self m 128)
        omega
      · have := o2
        rw [e1] at this
        simpa [byteV] using this
      · exact (hx.trans x1).keep k2
      · show (((m : Int).fdiv (2 ^ min (Int.toNat 7) (IntKind.bits .u64)))).toNat < ((m : Int)).toNat
        rw [fdiv128]; omega
    · simp only [decide_eq_false_iff_not] at hb
      (conv => whnf)
      refine HInt.mk _ wrap_u8' ?_
      (conv => whnf)
      refine new_own 1 1 [.int .u8 ((m : Int) % 256)] rfl rfl ?_
      intro h1 b1 o1 x1 z1 _
      (conv => whnf)
      refine o1.sl.cells ?_
      refine (ho.ext x1).append (m := 1) (by omega) rfl rfl (by simp [isOne]) (by omega) ?_
      intro h2 a2 c2 o2 k2 _ _
      (conv => whnf)
      have hm2 : m < 128 := by omega
      have e1 : (m : Int) % 256 = (((UInt8.ofNat m).toNat : Nat) : Int) := by simp
      rw [leb_small hm2] at hl
      have hlen : (leb n).length = l.length + 1 := by rw [← hl]; simp
      refine ⟨a2, c2, by rw [hlen]; rfl, ?_, (hx.trans x1).keep k2⟩
      rw [hlen, ← hl]
      have := o2
      rw [e1] at this
      simpa [byteV] using this
end Go.Proofs.Ythagjflkdoafmaa.Hc

namespace Go.Proofs.Ythagjflkdoafmaa.Hc
open Go Go.H Go.Proofs
set_option maxRecDepth 100000

theorem leb_len (n : Nat) (h : n < 2 ^ 64) : (leb n).length ≤ 10 := by
  have key : ∀ (k n : Nat), n < 128 ^ (k + 1) → (leb n).length ≤ k + 1 := by
    intro k
    induction k with
    | zero => intro n hn; rw [leb_small (by simpa using hn)]; simp
    | succ k ih =>
      intro n hn
      by_cases h1 : n < 128
      · rw [leb_small h1]; simp
      · rw [leb_big h1]; simp only [List.length_cons]
        have := ih (n / 128) (by rw [Nat.div_lt_iff_lt_mul (by omega)]; rw [Nat.pow_succ] at hn; exact hn)
        omega
  exact key 9 n (by have : (2:Nat)^64 ≤ 128^10 := by decide
                    omega)

theorem byteV_ofNat (n : Nat) : byteV (UInt8.ofNat n) = .int .u8 ((n % 256 : Nat) : Int) := by simp [byteV]
theorem strEq_list (l m : List UInt8) : strEq ⟨l.toArray⟩ ⟨m.toArray⟩ = (l == m) := by
  have e : ∀ l : List UInt8, (⟨l.toArray⟩ : ByteArray).toList = l := fun l => by rw [Go.Lib.toList_data]
  unfold strEq; rw [e, e]

theorem same_spec {a b : Option Addr} {n m c d : Nat} {l k : List UInt8} {h : Heap} (x : Sl h 1 a n c (l.map byteV)) (y : Sl h 1 b m d (k.map byteV)) :
    HCalls Try.prog 13 #[.slice a n c, .slice b m d] h fun e h' => h' = h ∧ e = .returned (.bool (l == k)) := by
  refine c13 (by simp) ?_
  (conv => whnf)
  refine x.bytes ?_
  (conv => whnf)
  refine y.bytes ?_
  (conv => whnf)
  exact ⟨rfl, by rw [← strEq_list]; rfl⟩

theorem rnum_spec (n : Nat) : ∀ (_ : n < 2^64) (h : Heap), HCalls Try.prog 48 #[.int .u64 n] h fun e h' => ∃ a c, e = .returned (.slice a (leb n).length c) ∧ Own h' h.size 5 1 a (leb n).length c ((leb n).map byteV) ∧ Ext h h' := by
  induction n using Nat.strongRecOn with
  | ind n ih =>
    intro hn h
    have hlen := leb_len n hn
    refine c48 (by simp) ?_
    (conv => whnf)
    (refine HSeq.go ?_; conv => whnf)
    refine HIf.mk (fun hb => ?_) (fun hb => ?_)
    · have hb' : n < 128 := by have := of_decide_eq_true hb; omega
      (conv => whnf)
      refine HInt.mk _ wrap_u8' ?_
      (conv => whnf)
      (repeat (first | ((with_reducible refine HSeq.go ?_); conv => whnf) | ((with_reducible refine HMust.mk (by decide) ?_); conv => whnf) | ((with_reducible refine HIf.yes (by first | rfl | assumption | decide) ?_); conv => whnf) | ((with_reducible refine HIf.no (by first | rfl | assumption | decide) ?_); conv => whnf) | ((with_reducible refine HInt.mk _ (wrap_i64 (by omega)) ?_); conv => whnf)))
      refine new_own (e := 5) 1 1 [byteV (UInt8.ofNat n)] (by rw [byteV_ofNat]; rfl) rfl ?_
      intro h1 b1 o1 x1 z1 _
      (conv => whnf)
      rw [leb_small hb']
      exact ⟨some ⟨b1, 0, none⟩, 1, rfl, o1, x1⟩
    · have hb' : ¬ n < 128 := by have := of_decide_eq_false hb; omega
      (conv => whnf)
      refine HMust.mk (by decide) ?_
      (conv => whnf)
      refine HInt.mk ((n % 128 + 128 : Nat) : Int) (by rw [show (n : Int).tmod 128 = ((n % 128 : Nat) : Int) from rfl]; exact wrap_u64 (by omega)) ?_
      (conv => whnf)
      refine HInt.mk _ (wrap_u8 (by omega)) ?_
      (conv => whnf)
      (repeat (first | ((with_reducible refine HSeq.go ?_); conv => whnf) | ((with_reducible refine HMust.mk (by decide) ?_); conv => whnf) | ((with_reducible refine HIf.yes (by first | rfl | assumption | decide) ?_); conv => whnf) | ((with_reducible refine HIf.no (by first | rfl | assumption | decide) ?_); conv => whnf) | ((with_reducible refine HInt.mk _ (wrap_i64 (by omega)) ?_); conv => whnf)))
      refine new_own (e := 5) 1 1 [byteV (UInt8.ofNat (n % 128 + 128))] (by rw [byteV_ofNat, show (n % 128 + 128) % 256 = n % 128 + 128 by omega]) rfl ?_
      intro h1 b1 o1 x1 z1 _
      (conv => whnf)
      refine HMust.mk (by decide) ?_
      (conv => whnf)
      refine HInt.mk ((n / 128 : Nat) : Int) (by rw [show (n : Int).tdiv 128 = ((n / 128 : Nat) : Int) from rfl]; exact wrap_u64 (by omega)) ?_
      (conv => whnf)
      refine HCall.mk ((ih (n / 128) (by omega) (by omega) h1).mono ?_)
      rintro e h2 ⟨a2, c2, rfl, o2, x2⟩
      (conv => whnf)
      refine o2.sl.cells ?_
      rw [leb_big hb'] at hlen ⊢
      simp only [List.length_cons] at hlen
      refine (o1.ext x2).append (m := (leb (n / 128)).length) (by have := x1.1; have := x2.1; omega) rfl (by simp) bytesV_one (by omega) ?_
      intro h3 a3 c3 o3 k3 _ _
      (conv => whnf)
      refine ⟨a3, c3, ?_, ?_, (x1.trans x2).keep k3⟩
      · show Ending.returned (.slice a3 (1 + (leb (n / 128)).length) c3) = _
        simp only [List.length_cons, Nat.add_comm]
      · simpa [Nat.add_comm] using o3

theorem text_spec (s : ByteArray) (hs : s.size ≤ 140737488351232) (h : Heap) : HCalls Try.prog 25 #[.string s] h fun e h' => ∃ a c, e = .returned (.slice a ((leb s.size).length + s.size) c) ∧
    Own h' h.size 5 1 a ((leb s.size).length + s.size) c ((leb s.size ++ s.data.toList).map byteV) ∧ Ext h h' := by
  have hlen := leb_len s.size (by omega)
  refine c25 (by simp) ?_
  (conv => whnf)
  refine HInt.mk _ (wrap_u64 (by omega)) ?_
  (conv => whnf)
  refine HCall.mk ((num_spec s.size (by omega) h).mono ?_)
  rintro e h2 ⟨a2, c2, rfl, o2, x2⟩
  (conv => whnf)
  refine o2.append (m := s.size) x2.1 rfl (by simp) bytesV_one (by omega) ?_
  intro h3 a3 c3 o3 k3 _ _
  (conv => whnf)
  refine ⟨a3, c3, rfl, by rw [List.map_append]; exact o3, x2.keep k3⟩

theorem rtext_spec (s : ByteArray) (hs : s.size ≤ 140737488351232) (h : Heap) : HCalls Try.prog 49 #[.string s] h fun e h' => ∃ a c, e = .returned (.slice a ((leb s.size).length + s.size) c) ∧
    Own h' h.size 5 1 a ((leb s.size).length + s.size) c ((leb s.size ++ s.data.toList).map byteV) ∧ Ext h h' := by
  have hlen := leb_len s.size (by omega)
  refine c49 (by simp) ?_
  (conv => whnf)
  refine HInt.mk _ (wrap_u64 (by omega)) ?_
  (conv => whnf)
  refine HCall.mk ((rnum_spec s.size (by omega) h).mono ?_)
  rintro e h2 ⟨a2, c2, rfl, o2, x2⟩
  (conv => whnf)
  refine o2.append (m := s.size) x2.1 rfl (by simp) bytesV_one (by omega) ?_
  intro h3 a3 c3 o3 k3 _ _
  (conv => whnf)
  refine ⟨a3, c3, rfl, by rw [List.map_append]; exact o3, x2.keep k3⟩

end Go.Proofs.Ythagjflkdoafmaa.Hc

namespace Go.Proofs.Ythagjflkdoafmaa.Hc
open Go Go.H Go.Proofs
set_option maxRecDepth 100000

theorem ibits_or64 {a b : Nat} (ha : a < 2 ^ 64) (hb : b < 2 ^ 64) : ibits .or .u64 (a : Int) (b : Int) = ((a ||| b : Nat) : Int) := by
  unfold ibits
  have e1 : ((BitVec.ofInt 64 (a : Int)) ||| (BitVec.ofInt 64 (b : Int))).toNat = a ||| b := by
    rw [BitVec.toNat_or, BitVec.ofInt_natCast, BitVec.ofInt_natCast, BitVec.toNat_ofNat, BitVec.toNat_ofNat, Nat.mod_eq_of_lt ha, Nat.mod_eq_of_lt hb]
  show IntKind.u64.wrap (((BitVec.ofInt 64 (a : Int)) ||| (BitVec.ofInt 64 (b : Int))).toNat : Int) = _
  rw [e1]
  have : a ||| b < 2 ^ 64 := Nat.or_lt_two_pow ha hb
  exact wrap_u64 (by omega)
theorem or_add {a x k : Nat} (ha : a < 2 ^ k) : a ||| (x * 2 ^ k) = a + x * 2 ^ k := by
  rw [Nat.or_comm, Nat.mul_comm x, ← Nat.two_pow_add_eq_or_of_lt ha, Nat.add_comm]
theorem and127 (c : UInt8) : ibits .and .u8 (c.toNat : Int) 127 = ((c.toNat % 128 : Nat) : Int) := by
  have h0 : ∀ m : Fin 256, ibits .and .u8 (m.val : Int) 127 = ((m.val % 128 : Nat) : Int) := by decide +kernel
  exact h0 ⟨c.toNat, c.toNat_lt⟩

/-- What number stands there: number, bytes, error. -/
def rdn : List UInt8 → Nat → Nat → Nat × Nat × Nat
  | [], _, _ => (0, 0, 20)
  | c :: r, i, acc => if (i = 9 ∧ 1 < c.toNat) ∨ (0 < i ∧ c.toNat = 0) then (0, 0, 22)
    else if c.toNat < 128 then (acc + c.toNat % 128 * 128 ^ i, i + 1, 0) else rdn r (i + 1) (acc + c.toNat % 128 * 128 ^ i)
def tup (t : Nat × Nat × Nat) : Value := .tuple #[.int .u64 t.1, .int .i64 t.2.1, .int .i64 t.2.2]

theorem shl_ok {i : Nat} (x : Nat) (hi : i ≤ 9) : ((x : Nat) : Int) * 2 ^ (min (Int.toNat ((7 * i : Nat) : Int)) (IntKind.bits .u64)) = ((x * 128 ^ i : Nat) : Int) := by
  have e : min (Int.toNat ((7 * i : Nat) : Int)) (IntKind.bits .u64) = 7 * i := by simp [IntKind.bits]; omega
  rw [e, Int.natCast_mul]
  congr 1
  have h0 : ∀ j : Fin 10, (2 : Int) ^ (j.val * 7) = ((128 ^ j.val : Nat) : Int) := by decide +kernel
  rw [Nat.mul_comm]; simpa [Nat.mul_comm] using h0 ⟨i, by omega⟩

theorem pow128_lt {i acc x : Nat} (hi : i ≤ 9) (ha : acc < 128 ^ i) (hx : x < 128) : acc + x * 128 ^ i < 128 ^ (i + 1) := by
  have : x * 128 ^ i + 128 ^ i ≤ 128 * 128 ^ i := by rw [← Nat.succ_mul]; exact Nat.mul_le_mul_right _ (by omega)
  rw [Nat.pow_succ]; omega
theorem or_step {i acc x : Nat} (hi : i ≤ 9) (ha : acc < 128 ^ i) (hx : x < 128) (h9 : i = 9 → x ≤ 1) : ibits .or .u64 (acc : Int) ((x * 128 ^ i : Nat) : Int) = ((acc + x * 128 ^ i : Nat) : Int) ∧ x * 128 ^ i < 2 ^ 64 ∧ acc + x * 128 ^ i < 2 ^ 64 := by
  have hp : (128 : Nat) ^ i = 2 ^ (7 * i) := by rw [Nat.pow_mul]
  have h8 : i ≤ 8 → 128 ^ (i + 1) ≤ 2 ^ 64 := by
    intro h
    have : 128 ^ (i + 1) ≤ 128 ^ 9 := Nat.pow_le_pow_right (by omega) (by omega)
    have : (128 : Nat) ^ 9 ≤ 2 ^ 64 := by decide
    omega
  have hlt := pow128_lt hi ha hx
  have hb : acc + x * 128 ^ i < 2 ^ 64 := by
    rcases Nat.lt_or_ge i 9 with h | h
    · have := h8 (by omega); omega
    · obtain rfl : i = 9 := by omega
      have hx1 := h9 rfl
      have : x * 128 ^ 9 ≤ 1 * 128 ^ 9 := Nat.mul_le_mul_right _ hx1
      have : 2 * (128 : Nat) ^ 9 ≤ 2 ^ 64 := by decide
      omega
  refine ⟨?_, by omega, hb⟩
  rw [ibits_or64 (by omega) (by omega), hp, or_add (by rw [← hp]; exact ha)]

theorem readNum_spec {a : Option Addr} {n c : Nat} {l : List UInt8} {h : Heap} (x : Sl h 1 a n c (l.map byteV)) (hn : n ≤ 9223372036854775806) :
    HCalls Try.prog 60 #[.slice a n c] h fun e h' => h' = h ∧ e = .returned (tup (rdn l 0 0)) := by
  have hl : l.length = n := by simpa using x.1
  refine c60 (by simp) ?_
  (conv => whnf)
  (repeat (first | ((with_reducible refine HSeq.go ?_); conv => whnf) | ((with_reducible refine HMust.mk (by decide) ?_); conv => whnf) | ((with_reducible refine HIf.yes (by first | rfl | assumption | decide) ?_); conv => whnf) | ((with_reducible refine HIf.no (by first | rfl | assumption | decide) ?_); conv => whnf) | ((with_reducible refine HInt.mk _ (wrap_i64 (by omega)) ?_); conv => whnf)))
  refine loop_rule [5, 6, 11] (fun vs h' => ∃ (i acc : Nat), vs = [.int .u64 acc, .int .u64 ((7 * i : Nat) : Int), .int .i64 i] ∧ i ≤ n ∧ i ≤ 9 ∧ acc < 128 ^ i ∧ rdn (l.drop i) i acc = rdn l 0 0 ∧ h' = h)
    (fun vs _ => match vs with | [_, _, .int _ i] => n - i.toNat | _ => 0) rfl ?_ ?_
  · exact ⟨0, 0, rfl, by omega, by omega, by simp, rfl, rfl⟩
  · intro u h' v5 v6 v11
    rintro ⟨i, acc, e, hin, hi9, hacc, hr, rfl⟩
    cases e
    (conv => whnf)
    (repeat (first | ((with_reducible refine HSeq.go ?_); conv => whnf) | ((with_reducible refine HMust.mk (by decide) ?_); conv => whnf) | ((with_reducible refine HIf.yes (by first | rfl | assumption | decide) ?_); conv => whnf) | ((with_reducible refine HIf.no (by first | rfl | assumption | decide) ?_); conv => whnf) | ((with_reducible refine HInt.mk _ (wrap_i64 (by omega)) ?_); conv => whnf)))
    refine HIf.mk (fun hb => ?_) (fun hb => ?_)
    · have hlt : i < l.length := by have := of_decide_eq_true hb; omega
      rw [List.drop_eq_getElem_cons hlt] at hr
      (conv => whnf)
      (repeat (first | ((with_reducible refine HSeq.go ?_); conv => whnf) | ((with_reducible refine HMust.mk (by decide) ?_); conv => whnf) | ((with_reducible refine HIf.yes (by first | rfl | assumption | decide) ?_); conv => whnf) | ((with_reducible refine HIf.no (by first | rfl | assumption | decide) ?_); conv => whnf) | ((with_reducible refine HInt.mk _ (wrap_i64 (by omega)) ?_); conv => whnf)))
      refine HIdx.mk i rfl (by omega) ?_
      refine sl_some (i := i) x (by omega) fun p ep => ?_
      (conv => whnf)
      refine sl_get x ep hlt ?_
      generalize l[i] = ch at hr ⊢
      simp only [rdn] at hr
      (conv => whnf)
      (repeat (first | ((with_reducible refine HSeq.go ?_); conv => whnf) | ((with_reducible refine HMust.mk (by decide) ?_); conv => whnf) | ((with_reducible refine HIf.yes (by first | rfl | assumption | decide) ?_); conv => whnf) | ((with_reducible refine HIf.no (by first | rfl | assumption | decide) ?_); conv => whnf) | ((with_reducible refine HInt.mk _ (wrap_i64 (by omega)) ?_); conv => whnf)))
      have hch := ch.toNat_lt
      rcases Bool.eq_false_or_eq_true ((i : Int) == 9) with h9 | h9 <;> rcases Bool.eq_false_or_eq_true (decide ((ch.toNat : Int) > 1)) with hg | hg <;>
        rcases Bool.eq_false_or_eq_true (decide ((i : Int) > 0)) with h0 | h0 <;> rcases Bool.eq_false_or_eq_true ((ch.toNat : Int) == 0) with hz | hz <;> (repeat (first | ((with_reducible refine HSeq.go ?_); conv => whnf) | ((with_reducible refine HMust.mk (by decide) ?_); conv => whnf) | ((with_reducible refine HIf.yes (by first | rfl | assumption | decide) ?_); conv => whnf) | ((with_reducible refine HIf.no (by first | rfl | assumption | decide) ?_); conv => whnf) | ((with_reducible refine HInt.mk _ (wrap_i64 (by omega)) ?_); conv => whnf)))
      all_goals
        have h9' := h9; have hg' := hg; have h0' := h0; have hz' := hz
        simp only [beq_iff_eq, decide_eq_true_eq, beq_eq_false_iff_ne, decide_eq_false_iff_not, ne_eq] at h9' hg' h0' hz'
      all_goals first
        | (exact ⟨rfl, by rw [← hr, if_pos (by omega)]; rfl⟩)
        | (exfalso; omega)
        | skip
      all_goals
        rw [if_neg (by omega)] at hr
        rw [and127]
        refine HInt.mk _ (wrap_u64 (by omega)) ?_
        (conv => whnf)
        refine HMust.mk (by omega) ?_
        (conv => whnf)
        refine HInt.mk ((ch.toNat % 128 * 128 ^ i : Nat) : Int) (by rw [shl_ok _ hi9]; exact wrap_u64 (by have := (or_step (x := ch.toNat % 128) hi9 hacc (by omega) (by omega)).2.1; omega)) ?_
        (conv => whnf)
        rw [(or_step (x := ch.toNat % 128) hi9 hacc (by omega) (by omega)).1]
        (repeat (first | ((with_reducible refine HSeq.go ?_); conv => whnf) | ((with_reducible refine HMust.mk (by decide) ?_); conv => whnf) | ((with_reducible refine HIf.yes (by first | rfl | assumption | decide) ?_); conv => whnf) | ((with_reducible refine HIf.no (by first | rfl | assumption | decide) ?_); conv => whnf) | ((with_reducible refine HInt.mk _ (wrap_i64 (by omega)) ?_); conv => whnf)))
        refine HInt.mk ((7 * (i + 1) : Nat) : Int) (by rw [wrap_u64 (by omega)]; omega) ?_
        (conv => whnf)
        (repeat (first | ((with_reducible refine HSeq.go ?_); conv => whnf) | ((with_reducible refine HMust.mk (by decide) ?_); conv => whnf) | ((with_reducible refine HIf.yes (by first | rfl | assumption | decide) ?_); conv => whnf) | ((with_reducible refine HIf.no (by first | rfl | assumption | decide) ?_); conv => whnf) | ((with_reducible refine HInt.mk _ (wrap_i64 (by omega)) ?_); conv => whnf)))
        refine HIf.mk (fun h128 => ?_) (fun h128 => ?_)
        · have h128' := of_decide_eq_true h128
          rw [if_pos (by omega)] at hr
          (conv => whnf)
          (repeat (first | ((with_reducible refine HSeq.go ?_); conv => whnf) | ((with_reducible refine HMust.mk (by decide) ?_); conv => whnf) | ((with_reducible refine HIf.yes (by first | rfl | assumption | decide) ?_); conv => whnf) | ((with_reducible refine HIf.no (by first | rfl | assumption | decide) ?_); conv => whnf) | ((with_reducible refine HInt.mk _ (wrap_i64 (by omega)) ?_); conv => whnf)))
          exact ⟨rfl, by rw [← hr]; rfl⟩
        · have h128' := of_decide_eq_false h128
          rw [if_neg (by omega)] at hr
          (conv => whnf)
          (repeat (first | ((with_reducible refine HSeq.go ?_); conv => whnf) | ((with_reducible refine HMust.mk (by decide) ?_); conv => whnf) | ((with_reducible refine HIf.yes (by first | rfl | assumption | decide) ?_); conv => whnf) | ((with_reducible refine HIf.no (by first | rfl | assumption | decide) ?_); conv => whnf) | ((with_reducible refine HInt.mk _ (wrap_i64 (by omega)) ?_); conv => whnf)))
          refine ⟨⟨i + 1, acc + ch.toNat % 128 * 128 ^ i, rfl, by omega, by omega, pow128_lt hi9 hacc (by omega), hr, rfl⟩, ?_⟩
          show n - (((i : Int) + 1)).toNat < n - ((i : Int)).toNat
          omega
    · have hge := of_decide_eq_false hb
      (conv => whnf)
      (repeat (first | ((with_reducible refine HSeq.go ?_); conv => whnf) | ((with_reducible refine HMust.mk (by decide) ?_); conv => whnf) | ((with_reducible refine HIf.yes (by first | rfl | assumption | decide) ?_); conv => whnf) | ((with_reducible refine HIf.no (by first | rfl | assumption | decide) ?_); conv => whnf) | ((with_reducible refine HInt.mk _ (wrap_i64 (by omega)) ?_); conv => whnf)))
      rw [List.drop_of_length_le (by omega)] at hr
      exact ⟨rfl, by rw [← hr]; rfl⟩

theorem rreadNum_spec {a : Option Addr} {n c : Nat} {l : List UInt8} {h : Heap} (x : Sl h 1 a n c (l.map byteV)) (hn : n ≤ 9223372036854775806) :
    HCalls Try.prog 62 #[.slice a n c] h fun e h' => h' = h ∧ e = .returned (tup (rdn l 0 0)) := by
  have hl : l.length = n := by simpa using x.1
  refine c62 (by simp) ?_
  (conv => whnf)
  (repeat (first | ((with_reducible refine HSeq.go ?_); conv => whnf) | ((with_reducible refine HMust.mk (by decide) ?_); conv => whnf) | ((with_reducible refine HIf.yes (by first | rfl | assumption | decide) ?_); conv => whnf) | ((with_reducible refine HIf.no (by first | rfl | assumption | decide) ?_); conv => whnf) | ((with_reducible refine HInt.mk _ (wrap_i64 (by omega)) ?_); conv => whnf)))
  refine loop_rule [5, 6] (fun vs h' => ∃ (i acc : Nat), vs = [.int .u64 acc, .int .i64 i] ∧ i ≤ n ∧ i ≤ 9 ∧ acc < 128 ^ i ∧ rdn (l.drop i) i acc = rdn l 0 0 ∧ h' = h)
    (fun vs _ => match vs with | [_, .int _ i] => n - i.toNat | _ => 0) rfl ?_ ?_
  · exact ⟨0, 0, rfl, by omega, by omega, by simp, rfl, rfl⟩
  · intro u h' v5 v6
    rintro ⟨i, acc, e, hin, hi9, hacc, hr, rfl⟩
    cases e
    (conv => whnf)
    have hb : decide ((i : Int) < 10) = true := decide_eq_true (by omega)
    (repeat (first | ((with_reducible refine HSeq.go ?_); conv => whnf) | ((with_reducible refine HMust.mk (by decide) ?_); conv => whnf) | ((with_reducible refine HIf.yes (by first | rfl | assumption | decide) ?_); conv => whnf) | ((with_reducible refine HIf.no (by first | rfl | assumption | decide) ?_); conv => whnf) | ((with_reducible refine HInt.mk _ (wrap_i64 (by omega)) ?_); conv => whnf)))
    refine HIf.mk (fun hb2 => ?_) (fun hb2 => ?_)
    · have hge := of_decide_eq_true hb2
      (conv => whnf)
      (repeat (first | ((with_reducible refine HSeq.go ?_); conv => whnf) | ((with_reducible refine HMust.mk (by decide) ?_); conv => whnf) | ((with_reducible refine HIf.yes (by first | rfl | assumption | decide) ?_); conv => whnf) | ((with_reducible refine HIf.no (by first | rfl | assumption | decide) ?_); conv => whnf) | ((with_reducible refine HInt.mk _ (wrap_i64 (by omega)) ?_); conv => whnf)))
      rw [List.drop_of_length_le (by omega)] at hr
      exact ⟨rfl, by rw [← hr]; rfl⟩
    · have hlt : i < l.length := by have := of_decide_eq_false hb2; omega
      rw [List.drop_eq_getElem_cons hlt] at hr
      (conv => whnf)
      generalize hch : l[i] = ch at hr
      simp only [rdn] at hr
      have hlt' := ch.toNat_lt
      have ld : ∀ {K : Value → Prop}, K (.int .u8 (ch.toNat : Nat)) → ∀ p, a = some p → HLoad h' (p.add (i * 1)) K := fun k p ep => sl_get x ep hlt (by rw [hch]; exact k)
      rcases Bool.eq_false_or_eq_true ((i : Int) == 9) with h9 | h9 <;> rcases Bool.eq_false_or_eq_true (decide ((ch.toNat : Int) > 1)) with hg | hg <;>
        rcases Bool.eq_false_or_eq_true (decide ((i : Int) > 0)) with h0 | h0 <;> rcases Bool.eq_false_or_eq_true ((ch.toNat : Int) == 0) with hz | hz
      all_goals
        have h9' := h9; have hg' := hg; have h0' := h0; have hz' := hz
        simp only [beq_iff_eq, decide_eq_true_eq, beq_eq_false_iff_ne, decide_eq_false_iff_not, ne_eq] at h9' hg' h0' hz'
      all_goals first | (exfalso; omega) | skip
      all_goals (repeat (first | ((with_reducible refine HSeq.go ?_); conv => whnf) | ((with_reducible refine HMust.mk (by decide) ?_); conv => whnf) | ((with_reducible refine HIf.yes (by first | rfl | assumption | decide) ?_); conv => whnf) | ((with_reducible refine HIf.no (by first | rfl | assumption | decide) ?_); conv => whnf) | ((with_reducible refine HInt.mk _ (wrap_i64 (by omega)) ?_); conv => whnf)))
      all_goals (refine HIdx.mk i rfl (by omega) ?_; refine sl_some (i := i) x (by omega) fun p ep => ?_; (conv => whnf); (repeat (first | ((with_reducible refine HSeq.go ?_); conv => whnf) | ((with_reducible refine HMust.mk (by decide) ?_); conv => whnf) | ((with_reducible refine HIf.yes (by first | rfl | assumption | decide) ?_); conv => whnf) | ((with_reducible refine HIf.no (by first | rfl | assumption | decide) ?_); conv => whnf) | ((with_reducible refine HInt.mk _ (wrap_i64 (by omega)) ?_); conv => whnf))); refine ld ?_ p ep; (conv => whnf); (repeat (first | ((with_reducible refine HSeq.go ?_); conv => whnf) | ((with_reducible refine HMust.mk (by decide) ?_); conv => whnf) | ((with_reducible refine HIf.yes (by first | rfl | assumption | decide) ?_); conv => whnf) | ((with_reducible refine HIf.no (by first | rfl | assumption | decide) ?_); conv => whnf) | ((with_reducible refine HInt.mk _ (wrap_i64 (by omega)) ?_); conv => whnf))))
      all_goals first
        | (exact ⟨rfl, by rw [← hr, if_pos (by omega)]; rfl⟩)
        | skip
      all_goals try (refine HIdx.mk i rfl (by omega) ?_; refine sl_some (i := i) x (by omega) fun p ep => ?_; (conv => whnf); (repeat (first | ((with_reducible refine HSeq.go ?_); conv => whnf) | ((with_reducible refine HMust.mk (by decide) ?_); conv => whnf) | ((with_reducible refine HIf.yes (by first | rfl | assumption | decide) ?_); conv => whnf) | ((with_reducible refine HIf.no (by first | rfl | assumption | decide) ?_); conv => whnf) | ((with_reducible refine HInt.mk _ (wrap_i64 (by omega)) ?_); conv => whnf))); refine ld ?_ p ep; (conv => whnf); (repeat (first | ((with_reducible refine HSeq.go ?_); conv => whnf) | ((with_reducible refine HMust.mk (by decide) ?_); conv => whnf) | ((with_reducible refine HIf.yes (by first | rfl | assumption | decide) ?_); conv => whnf) | ((with_reducible refine HIf.no (by first | rfl | assumption | decide) ?_); conv => whnf) | ((with_reducible refine HInt.mk _ (wrap_i64 (by omega)) ?_); conv => whnf))))
      all_goals
        have hx9 : i = 9 → ch.toNat % 128 ≤ 1 := by omega
        rw [show ((ch.toNat : Nat) : Int).tmod 128 = ((ch.toNat % 128 : Nat) : Int) from rfl]
        refine HInt.mk _ (wrap_u64 (by omega)) ?_
        (conv => whnf)
        refine HInt.mk ((7 * i : Nat) : Int) (by rw [wrap_i64 (by omega)]; omega) ?_
        (conv => whnf)
        refine HMust.mk (by omega) ?_
        (conv => whnf)
        refine HInt.mk ((ch.toNat % 128 * 128 ^ i : Nat) : Int) (by rw [shl_ok _ hi9]; exact wrap_u64 (by have := (or_step (x := ch.toNat % 128) hi9 hacc (by omega) hx9).2.1; omega)) ?_
        (conv => whnf)
        rw [(or_step (x := ch.toNat % 128) hi9 hacc (by omega) hx9).1]
        (repeat (first | ((with_reducible refine HSeq.go ?_); conv => whnf) | ((with_reducible refine HMust.mk (by decide) ?_); conv => whnf) | ((with_reducible refine HIf.yes (by first | rfl | assumption | decide) ?_); conv => whnf) | ((with_reducible refine HIf.no (by first | rfl | assumption | decide) ?_); conv => whnf) | ((with_reducible refine HInt.mk _ (wrap_i64 (by omega)) ?_); conv => whnf)))
        refine HIdx.mk i rfl (by omega) ?_
        refine sl_some (i := i) x (by omega) fun p ep => ?_
        (conv => whnf)
        refine ld ?_ p ep
        (conv => whnf)
        refine HIf.mk (fun h128 => ?_) (fun h128 => ?_)
      all_goals try (have h128' := of_decide_eq_true h128)
      all_goals try (have h128' := of_decide_eq_false h128)
      all_goals (conv => whnf)
      all_goals (repeat (first | ((with_reducible refine HSeq.go ?_); conv => whnf) | ((with_reducible refine HMust.mk (by decide) ?_); conv => whnf) | ((with_reducible refine HIf.yes (by first | rfl | assumption | decide) ?_); conv => whnf) | ((with_reducible refine HIf.no (by first | rfl | assumption | decide) ?_); conv => whnf) | ((with_reducible refine HInt.mk _ (wrap_i64 (by omega)) ?_); conv => whnf)))
      all_goals try (refine HIdx.mk i rfl (by omega) ?_; refine sl_some (i := i) x (by omega) fun p ep => ?_; (conv => whnf); refine ld ?_ p ep; (conv => whnf); (repeat (first | ((with_reducible refine HSeq.go ?_); conv => whnf) | ((with_reducible refine HMust.mk (by decide) ?_); conv => whnf) | ((with_reducible refine HIf.yes (by first | rfl | assumption | decide) ?_); conv => whnf) | ((with_reducible refine HIf.no (by first | rfl | assumption | decide) ?_); conv => whnf) | ((with_reducible refine HInt.mk _ (wrap_i64 (by omega)) ?_); conv => whnf))))
      all_goals first
        | (exact ⟨rfl, by rw [← hr, if_pos (by omega)]; rfl⟩)
        | (exact ⟨rfl, by rw [← hr, if_neg (by omega), if_pos (by omega)]; rfl⟩)
        | skip
      all_goals
        rw [if_neg (by omega), if_neg (by omega)] at hr
        refine ⟨⟨i + 1, acc + ch.toNat % 128 * 128 ^ i, rfl, by omega, by omega, pow128_lt hi9 hacc (by omega), hr, rfl⟩, ?_⟩
        show n - (((i : Int) + 1)).toNat < n - ((i : Int)).toNat
        omega

end Go.Proofs.Ythagjflkdoafmaa.Hc

namespace Go.Proofs.Ythagjflkdoafmaa.Hc
open Go Go.H Go.Proofs
set_option maxRecDepth 100000

theorem rdn_facts : ∀ (l : List UInt8) (i acc : Nat), i ≤ 9 → acc < 128 ^ i →
    ((rdn l i acc).2.2 = 0 ∧ i < (rdn l i acc).2.1 ∧ (rdn l i acc).2.1 ≤ i + l.length ∧ (rdn l i acc).2.1 ≤ 10 ∧ (rdn l i acc).1 < 2 ^ 64) ∨
    (((rdn l i acc).2.2 = 20 ∨ (rdn l i acc).2.2 = 22) ∧ (rdn l i acc).1 = 0 ∧ (rdn l i acc).2.1 = 0)
  | [], i, acc, hi, ha => .inr ⟨.inl rfl, rfl, rfl⟩
  | c :: r, i, acc, hi, ha => by
    simp only [rdn]
    by_cases h1 : (i = 9 ∧ 1 < c.toNat) ∨ (0 < i ∧ c.toNat = 0)
    · rw [if_pos h1]; exact .inr ⟨.inr rfl, rfl, rfl⟩
    · rw [if_neg h1]
      by_cases h2 : c.toNat < 128
      · rw [if_pos h2]
        have := (or_step (x := c.toNat % 128) hi ha (by omega) (by omega)).2.2
        exact .inl ⟨rfl, by simp, by simp, by simp; omega, this⟩
      · rw [if_neg h2]
        have := rdn_facts r (i + 1) _ (by omega) (pow128_lt hi ha (x := c.toNat % 128) (by omega))
        rcases this with h | h
        · refine .inl ⟨h.1, by omega, by simp only [List.length_cons]; omega, h.2.2.2⟩
        · exact .inr h

/-- What text stands there. -/
def rdt (l : List UInt8) (most : Int) : List UInt8 × Nat × Nat :=
  let r := rdn l 0 0
  if r.2.2 ≠ 0 then ([], 0, r.2.2)
  else if most < 0 ∨ (r.1 : Int) > most then ([], 0, 22)
  else if l.length - r.2.1 < r.1 then ([], 0, 20)
  else ((l.drop r.2.1).take r.1, r.2.1 + r.1, 0)
def tupS (t : List UInt8 × Nat × Nat) : Value := .tuple #[.string ⟨t.1.toArray⟩, .int .i64 t.2.1, .int .i64 t.2.2]

theorem take_drop_eq (l : List UInt8) (k n : Nat) : (l.take (k + n)).drop k = (l.drop k).take n := by
  rw [List.drop_take]; congr 1; omega

theorem readText_spec {a : Option Addr} {n c : Nat} {l : List UInt8} {h : Heap} (x : Sl h 1 a n c (l.map byteV)) (hn : n ≤ 9223372036854775000) (most : Int)
    (hm : -9223372036854775808 ≤ most ∧ most ≤ 9223372036854775807) :
    HCalls Try.prog 61 #[.slice a n c, .int .i64 most] h fun e h' => h' = h ∧ e = .returned (tupS (rdt l most)) := by
  have hl : l.length = n := by simpa using x.1
  have hc := x.2.1
  refine c61 (by simp) ?_
  (conv => whnf)
  refine HCall.mk ((readNum_spec x (by omega)).mono ?_)
  rintro e0 h' ⟨rfl, he⟩
  have hf := rdn_facts l 0 0 (by omega) (by simp)
  unfold rdt
  obtain ⟨m, k, e, hr⟩ : ∃ m k e, rdn l 0 0 = (m, k, e) := ⟨_, _, _, rfl⟩
  rw [hr] at hf he ⊢
  simp only [tup] at hf he ⊢
  subst he
  (conv => whnf)
  (repeat (first | ((with_reducible refine HSeq.go ?_); conv => whnf) | ((with_reducible refine HMust.mk (by decide) ?_); conv => whnf) | ((with_reducible refine HIf.yes (by first | rfl | assumption | decide) ?_); conv => whnf) | ((with_reducible refine HIf.no (by first | rfl | assumption | decide) ?_); conv => whnf) | ((with_reducible refine HInt.mk _ (wrap_i64 (by omega)) ?_); conv => whnf)))
  refine HIf.mk (fun h0 => ?_) (fun h0 => ?_)
  · have h0' : e ≠ 0 := by have := h0; simp at this; omega
    (conv => whnf)
    (repeat (first | ((with_reducible refine HSeq.go ?_); conv => whnf) | ((with_reducible refine HMust.mk (by decide) ?_); conv => whnf) | ((with_reducible refine HIf.yes (by first | rfl | assumption | decide) ?_); conv => whnf) | ((with_reducible refine HIf.no (by first | rfl | assumption | decide) ?_); conv => whnf) | ((with_reducible refine HInt.mk _ (wrap_i64 (by omega)) ?_); conv => whnf)))
    rw [if_pos h0']
    exact ⟨rfl, rfl⟩
  · have h0' : e = 0 := by have := h0; simp at this; omega
    subst h0'
    rw [if_neg (by simp)]
    have hf' : 0 < k ∧ k ≤ n ∧ k ≤ 10 ∧ m < 2 ^ 64 := by rcases hf with h | h <;> omega
    (conv => whnf)
    (repeat (first | ((with_reducible refine HSeq.go ?_); conv => whnf) | ((with_reducible refine HMust.mk (by decide) ?_); conv => whnf) | ((with_reducible refine HIf.yes (by first | rfl | assumption | decide) ?_); conv => whnf) | ((with_reducible refine HIf.no (by first | rfl | assumption | decide) ?_); conv => whnf) | ((with_reducible refine HInt.mk _ (wrap_i64 (by omega)) ?_); conv => whnf)))
    refine HIf.mk (fun h1 => ?_) (fun h1 => ?_)
    · have h1' := of_decide_eq_true h1
      (conv => whnf)
      (repeat (first | ((with_reducible refine HSeq.go ?_); conv => whnf) | ((with_reducible refine HMust.mk (by decide) ?_); conv => whnf) | ((with_reducible refine HIf.yes (by first | rfl | assumption | decide) ?_); conv => whnf) | ((with_reducible refine HIf.no (by first | rfl | assumption | decide) ?_); conv => whnf) | ((with_reducible refine HInt.mk _ (wrap_i64 (by omega)) ?_); conv => whnf)))
      rw [if_pos (.inl h1')]
      exact ⟨rfl, rfl⟩
    · have h1' := of_decide_eq_false h1
      (conv => whnf)
      (repeat (first | ((with_reducible refine HSeq.go ?_); conv => whnf) | ((with_reducible refine HMust.mk (by decide) ?_); conv => whnf) | ((with_reducible refine HIf.yes (by first | rfl | assumption | decide) ?_); conv => whnf) | ((with_reducible refine HIf.no (by first | rfl | assumption | decide) ?_); conv => whnf) | ((with_reducible refine HInt.mk _ (wrap_i64 (by omega)) ?_); conv => whnf)))
      refine HInt.mk _ (wrap_u64 (by omega)) ?_
      (conv => whnf)
      (repeat (first | ((with_reducible refine HSeq.go ?_); conv => whnf) | ((with_reducible refine HMust.mk (by decide) ?_); conv => whnf) | ((with_reducible refine HIf.yes (by first | rfl | assumption | decide) ?_); conv => whnf) | ((with_reducible refine HIf.no (by first | rfl | assumption | decide) ?_); conv => whnf) | ((with_reducible refine HInt.mk _ (wrap_i64 (by omega)) ?_); conv => whnf)))
      refine HIf.mk (fun h2 => ?_) (fun h2 => ?_)
      · have h2' := of_decide_eq_true h2
        (conv => whnf)
        (repeat (first | ((with_reducible refine HSeq.go ?_); conv => whnf) | ((with_reducible refine HMust.mk (by decide) ?_); conv => whnf) | ((with_reducible refine HIf.yes (by first | rfl | assumption | decide) ?_); conv => whnf) | ((with_reducible refine HIf.no (by first | rfl | assumption | decide) ?_); conv => whnf) | ((with_reducible refine HInt.mk _ (wrap_i64 (by omega)) ?_); conv => whnf)))
        rw [if_pos (.inr h2')]
        exact ⟨rfl, rfl⟩
      · have h2' := of_decide_eq_false h2
        rw [if_neg (show ¬ (most < 0 ∨ (m : Int) > most) by omega)]
        (conv => whnf)
        (repeat (first | ((with_reducible refine HSeq.go ?_); conv => whnf) | ((with_reducible refine HMust.mk (by decide) ?_); conv => whnf) | ((with_reducible refine HIf.yes (by first | rfl | assumption | decide) ?_); conv => whnf) | ((with_reducible refine HIf.no (by first | rfl | assumption | decide) ?_); conv => whnf) | ((with_reducible refine HInt.mk _ (wrap_i64 (by omega)) ?_); conv => whnf)))
        refine HInt.mk _ (wrap_u64 (by omega)) ?_
        (conv => whnf)
        (repeat (first | ((with_reducible refine HSeq.go ?_); conv => whnf) | ((with_reducible refine HMust.mk (by decide) ?_); conv => whnf) | ((with_reducible refine HIf.yes (by first | rfl | assumption | decide) ?_); conv => whnf) | ((with_reducible refine HIf.no (by first | rfl | assumption | decide) ?_); conv => whnf) | ((with_reducible refine HInt.mk _ (wrap_i64 (by omega)) ?_); conv => whnf)))
        refine HIf.mk (fun h3 => ?_) (fun h3 => ?_)
        · have h3' := of_decide_eq_true h3
          (conv => whnf)
          (repeat (first | ((with_reducible refine HSeq.go ?_); conv => whnf) | ((with_reducible refine HMust.mk (by decide) ?_); conv => whnf) | ((with_reducible refine HIf.yes (by first | rfl | assumption | decide) ?_); conv => whnf) | ((with_reducible refine HIf.no (by first | rfl | assumption | decide) ?_); conv => whnf) | ((with_reducible refine HInt.mk _ (wrap_i64 (by omega)) ?_); conv => whnf)))
          rw [if_pos (show l.length - k < m by omega)]
          exact ⟨rfl, rfl⟩
        · have h3' := of_decide_eq_false h3
          rw [if_neg (show ¬ l.length - k < m by omega)]
          (conv => whnf)
          (repeat (first | ((with_reducible refine HSeq.go ?_); conv => whnf) | ((with_reducible refine HMust.mk (by decide) ?_); conv => whnf) | ((with_reducible refine HIf.yes (by first | rfl | assumption | decide) ?_); conv => whnf) | ((with_reducible refine HIf.no (by first | rfl | assumption | decide) ?_); conv => whnf) | ((with_reducible refine HInt.mk _ (wrap_i64 (by omega)) ?_); conv => whnf)))
          refine HBound.mk (k + m) (by omega) (by omega) ?_
          (conv => whnf)
          refine HBound.mk k rfl (by omega) ?_
          (conv => whnf)
          have y := x.slice (i := k) (j := k + m) (by omega) (by omega)
          rw [bytesV_slice, take_drop_eq] at y
          refine y.bytes ?_
          (conv => whnf)
          exact ⟨rfl, rfl⟩

end Go.Proofs.Ythagjflkdoafmaa.Hc

namespace Go.Proofs.Ythagjflkdoafmaa.Hc
open Go Go.H Go.Proofs
set_option maxRecDepth 100000

theorem rreadText_spec {a : Option Addr} {n c : Nat} {l : List UInt8} {h : Heap} (x : Sl h 1 a n c (l.map byteV)) (hn : n ≤ 9223372036854775000) (most : Int)
    (hm : -9223372036854775808 ≤ most ∧ most ≤ 9223372036854775807) :
    HCalls Try.prog 63 #[.slice a n c, .int .i64 most] h fun e h' => h' = h ∧ e = .returned (tupS (rdt l most)) := by
  have hl : l.length = n := by simpa using x.1
  have hc := x.2.1
  refine c63 (by simp) ?_
  (conv => whnf)
  refine HCall.mk ((rreadNum_spec x (by omega)).mono ?_)
  rintro e0 h' ⟨rfl, he⟩
  have hf := rdn_facts l 0 0 (by omega) (by simp)
  unfold rdt
  obtain ⟨m, k, e, hr⟩ : ∃ m k e, rdn l 0 0 = (m, k, e) := ⟨_, _, _, rfl⟩
  rw [hr] at hf he ⊢
  simp only [tup] at hf he ⊢
  subst he
  (conv => whnf)
  (repeat (first | ((with_reducible refine HSeq.go ?_); conv => whnf) | ((with_reducible refine HMust.mk (by decide) ?_); conv => whnf) | ((with_reducible refine HIf.yes (by first | rfl | assumption | decide) ?_); conv => whnf) | ((with_reducible refine HIf.no (by first | rfl | assumption | decide) ?_); conv => whnf) | ((with_reducible refine HInt.mk _ (wrap_i64 (by omega)) ?_); conv => whnf)))
  refine HIf.mk (fun h0 => ?_) (fun h0 => ?_)
  · have h0' : e ≠ 0 := by have := h0; simp at this; omega
    (conv => whnf)
    (repeat (first | ((with_reducible refine HSeq.go ?_); conv => whnf) | ((with_reducible refine HMust.mk (by decide) ?_); conv => whnf) | ((with_reducible refine HIf.yes (by first | rfl | assumption | decide) ?_); conv => whnf) | ((with_reducible refine HIf.no (by first | rfl | assumption | decide) ?_); conv => whnf) | ((with_reducible refine HInt.mk _ (wrap_i64 (by omega)) ?_); conv => whnf)))
    rw [if_pos h0']
    exact ⟨rfl, rfl⟩
  · have h0' : e = 0 := by have := h0; simp at this; omega
    subst h0'
    rw [if_neg (by simp)]
    have hf' : 0 < k ∧ k ≤ n ∧ k ≤ 10 ∧ m < 2 ^ 64 := by rcases hf with h | h <;> omega
    (conv => whnf)
    (repeat (first | ((with_reducible refine HSeq.go ?_); conv => whnf) | ((with_reducible refine HMust.mk (by decide) ?_); conv => whnf) | ((with_reducible refine HIf.yes (by first | rfl | assumption | decide) ?_); conv => whnf) | ((with_reducible refine HIf.no (by first | rfl | assumption | decide) ?_); conv => whnf) | ((with_reducible refine HInt.mk _ (wrap_i64 (by omega)) ?_); conv => whnf)))
    refine HIf.mk (fun h1 => ?_) (fun h1 => ?_)
    · have h1' := of_decide_eq_true h1
      (conv => whnf)
      (repeat (first | ((with_reducible refine HSeq.go ?_); conv => whnf) | ((with_reducible refine HMust.mk (by decide) ?_); conv => whnf) | ((with_reducible refine HIf.yes (by first | rfl | assumption | decide) ?_); conv => whnf) | ((with_reducible refine HIf.no (by first | rfl | assumption | decide) ?_); conv => whnf) | ((with_reducible refine HInt.mk _ (wrap_i64 (by omega)) ?_); conv => whnf)))
      rw [if_pos (.inl h1')]
      exact ⟨rfl, rfl⟩
    · have h1' := of_decide_eq_false h1
      (conv => whnf)
      (repeat (first | ((with_reducible refine HSeq.go ?_); conv => whnf) | ((with_reducible refine HMust.mk (by decide) ?_); conv => whnf) | ((with_reducible refine HIf.yes (by first | rfl | assumption | decide) ?_); conv => whnf) | ((with_reducible refine HIf.no (by first | rfl | assumption | decide) ?_); conv => whnf) | ((with_reducible refine HInt.mk _ (wrap_i64 (by omega)) ?_); conv => whnf)))
      refine HInt.mk _ (wrap_u64 (by omega)) ?_
      (conv => whnf)
      (repeat (first | ((with_reducible refine HSeq.go ?_); conv => whnf) | ((with_reducible refine HMust.mk (by decide) ?_); conv => whnf) | ((with_reducible refine HIf.yes (by first | rfl | assumption | decide) ?_); conv => whnf) | ((with_reducible refine HIf.no (by first | rfl | assumption | decide) ?_); conv => whnf) | ((with_reducible refine HInt.mk _ (wrap_i64 (by omega)) ?_); conv => whnf)))
      refine HIf.mk (fun h2 => ?_) (fun h2 => ?_)
      · have h2' := of_decide_eq_true h2
        (conv => whnf)
        (repeat (first | ((with_reducible refine HSeq.go ?_); conv => whnf) | ((with_reducible refine HMust.mk (by decide) ?_); conv => whnf) | ((with_reducible refine HIf.yes (by first | rfl | assumption | decide) ?_); conv => whnf) | ((with_reducible refine HIf.no (by first | rfl | assumption | decide) ?_); conv => whnf) | ((with_reducible refine HInt.mk _ (wrap_i64 (by omega)) ?_); conv => whnf)))
        rw [if_pos (.inr h2')]
        exact ⟨rfl, rfl⟩
      · have h2' := of_decide_eq_false h2
        rw [if_neg (show ¬ (most < 0 ∨ (m : Int) > most) by omega)]
        (conv => whnf)
        (repeat (first | ((with_reducible refine HSeq.go ?_); conv => whnf) | ((with_reducible refine HMust.mk (by decide) ?_); conv => whnf) | ((with_reducible refine HIf.yes (by first | rfl | assumption | decide) ?_); conv => whnf) | ((with_reducible refine HIf.no (by first | rfl | assumption | decide) ?_); conv => whnf) | ((with_reducible refine HInt.mk _ (wrap_i64 (by omega)) ?_); conv => whnf)))
        refine HInt.mk _ (wrap_u64 (by omega)) ?_
        (conv => whnf)
        (repeat (first | ((with_reducible refine HSeq.go ?_); conv => whnf) | ((with_reducible refine HMust.mk (by decide) ?_); conv => whnf) | ((with_reducible refine HIf.yes (by first | rfl | assumption | decide) ?_); conv => whnf) | ((with_reducible refine HIf.no (by first | rfl | assumption | decide) ?_); conv => whnf) | ((with_reducible refine HInt.mk _ (wrap_i64 (by omega)) ?_); conv => whnf)))
        refine HIf.mk (fun h3 => ?_) (fun h3 => ?_)
        · have h3' := of_decide_eq_true h3
          (conv => whnf)
          (repeat (first | ((with_reducible refine HSeq.go ?_); conv => whnf) | ((with_reducible refine HMust.mk (by decide) ?_); conv => whnf) | ((with_reducible refine HIf.yes (by first | rfl | assumption | decide) ?_); conv => whnf) | ((with_reducible refine HIf.no (by first | rfl | assumption | decide) ?_); conv => whnf) | ((with_reducible refine HInt.mk _ (wrap_i64 (by omega)) ?_); conv => whnf)))
          rw [if_pos (show l.length - k < m by omega)]
          exact ⟨rfl, rfl⟩
        · have h3' := of_decide_eq_false h3
          rw [if_neg (show ¬ l.length - k < m by omega)]
          (conv => whnf)
          (repeat (first | ((with_reducible refine HSeq.go ?_); conv => whnf) | ((with_reducible refine HMust.mk (by decide) ?_); conv => whnf) | ((with_reducible refine HIf.yes (by first | rfl | assumption | decide) ?_); conv => whnf) | ((with_reducible refine HIf.no (by first | rfl | assumption | decide) ?_); conv => whnf) | ((with_reducible refine HInt.mk _ (wrap_i64 (by omega)) ?_); conv => whnf)))
          refine HBound.mk (k + m) (by omega) (by omega) ?_
          (conv => whnf)
          refine HBound.mk k rfl (by omega) ?_
          (conv => whnf)
          have y := x.slice (i := k) (j := k + m) (by omega) (by omega)
          rw [bytesV_slice, take_drop_eq] at y
          refine y.bytes ?_
          (conv => whnf)
          (repeat (first | ((with_reducible refine HSeq.go ?_); conv => whnf) | ((with_reducible refine HMust.mk (by decide) ?_); conv => whnf) | ((with_reducible refine HIf.yes (by first | rfl | assumption | decide) ?_); conv => whnf) | ((with_reducible refine HIf.no (by first | rfl | assumption | decide) ?_); conv => whnf) | ((with_reducible refine HInt.mk _ (wrap_i64 (by omega)) ?_); conv => whnf)))
          exact ⟨rfl, rfl⟩

theorem leb300 : leb 300 = [172, 2] := by rw [leb_big (by omega), leb_small (by omega)]; rfl

end Go.Proofs.Ythagjflkdoafmaa.Hc
