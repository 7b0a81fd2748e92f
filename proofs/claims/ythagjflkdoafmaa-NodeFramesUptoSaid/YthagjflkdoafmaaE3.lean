/- Plain laws of numbers', texts' and frames' bytes: what was written is read, what is read is written so; the sum is linear. -/
import Derived.Test.YthagjflkdoafmaaE2
set_option linter.unusedVariables false
set_option linter.unusedSimpArgs false
namespace Go.Proofs.Ythagjflkdoafmaa.Hc
open Go Go.H Go.Proofs
set_option maxRecDepth 100000

theorem toNat_ofNat {n : Nat} (h : n < 256) : (UInt8.ofNat n).toNat = n := by simp; omega
theorem pow9 : (128 : Nat) ^ 9 = 9223372036854775808 := by decide
theorem two64 : (2 : Nat) ^ 64 = 18446744073709551616 := by decide
theorem small9 {i n : Nat} (hi : i ≤ 9) (h : n * 128 ^ i < 2 ^ 64) : i = 9 → n ≤ 1 := by
  rintro rfl
  rw [pow9, two64] at h
  omega
theorem next9 {i n : Nat} (hi : i ≤ 9) (hn : ¬ n < 128) (h : n * 128 ^ i < 2 ^ 64) : i + 1 ≤ 9 := by
  rcases Nat.lt_or_ge i 9 with h1 | h1
  · omega
  · have := small9 hi h (by omega); omega
theorem next_lt {i n : Nat} (h : n * 128 ^ i < 2 ^ 64) : n / 128 * 128 ^ (i + 1) < 2 ^ 64 := by
  rw [Nat.pow_succ, Nat.mul_comm (128 ^ i), ← Nat.mul_assoc]
  exact Nat.lt_of_le_of_lt (Nat.mul_le_mul_right _ (Nat.div_mul_le_self _ _)) h
theorem sum128 (n i acc : Nat) : acc + n % 128 * 128 ^ i + n / 128 * 128 ^ (i + 1) = acc + n * 128 ^ i := by
  have e : n * 128 ^ i = (n % 128 + 128 * (n / 128)) * 128 ^ i := by rw [Nat.mod_add_div]
  rw [e, Nat.add_mul, Nat.pow_succ, Nat.add_assoc]
  congr 2
  rw [Nat.mul_comm (128 ^ i), ← Nat.mul_assoc, Nat.mul_comm 128]

theorem rdn_of_leb (r : List UInt8) : ∀ (n i acc : Nat), i ≤ 9 → n * 128 ^ i < 2 ^ 64 → (0 < i → 0 < n) → rdn (leb n ++ r) i acc = (acc + n * 128 ^ i, i + (leb n).length, 0) := by
  intro n
  induction n using Nat.strongRecOn with
  | ind n ih =>
    intro i acc hi hlt hp
    by_cases h1 : n < 128
    · rw [leb_small h1]
      simp only [List.cons_append, List.nil_append, rdn, toNat_ofNat (show n < 256 by omega)]
      have := small9 hi hlt
      rw [if_neg (by omega), if_pos h1, Nat.mod_eq_of_lt h1]; rfl
    · rw [leb_big h1]
      simp only [List.cons_append, rdn, toNat_ofNat (show n % 128 + 128 < 256 by omega), List.length_cons]
      have h9 := next9 hi h1 hlt
      rw [if_neg (by omega), if_neg (by omega), ih (n / 128) (by omega) (i + 1) _ h9 (next_lt hlt) (by omega)]
      rw [show (n % 128 + 128) % 128 = n % 128 by omega, sum128]
      congr 2
      omega

theorem rdt_of_leb (l r : List UInt8) (most : Nat) (h : l.length < 2 ^ 63) (hm : l.length ≤ most) : rdt (leb l.length ++ l ++ r) (most : Nat) = (l, (leb l.length).length + l.length, 0) := by
  unfold rdt
  rw [List.append_assoc, rdn_of_leb _ _ 0 0 (by omega) (by simp; omega) (by omega)]
  simp only [Nat.pow_zero, Nat.mul_one, Nat.zero_add]
  rw [if_neg (by simp), if_neg (by omega), if_neg (by simp only [List.length_append]; omega)]
  simp
theorem unf_of_frame (l r : List UInt8) (most : Nat) (h : l.length < 2 ^ 32) (hm : l.length ≤ most) : unf (frameL l ++ r) (most : Nat) = (l, 8 + l.length, 0) := by
  have e0 : l.length % 4294967296 = l.length := Nat.mod_eq_of_lt h
  have e1 : wordN (frameL l ++ r) = l.length := by
    unfold frameL head4
    rw [List.append_assoc, e0, wordN_be32 _ h]
  have e2 : (frameL l ++ r).drop 4 = be32 (crc (head4 l ++ l)) ++ (l ++ r) := by
    unfold frameL
    rw [List.append_assoc, List.drop_left' (head4_len l), List.append_assoc]
  have e3 : (frameL l ++ r).drop 8 = l ++ r := by
    rw [show 8 = 4 + 4 from rfl, ← List.drop_drop, e2, List.drop_left' (be32_len _)]
  have e4 : (frameL l ++ r).take 4 = head4 l := by
    unfold frameL
    rw [List.append_assoc, List.take_left' (head4_len l)]
  have e5 : (frameL l ++ r).length = 8 + l.length + r.length := by rw [List.length_append, frameL_len]
  unfold unf
  rw [e1, e2, e3, e4, e5, wordN_be32 _ (crc_lt _), List.take_left' rfl]
  rw [if_neg (by omega), if_neg (by omega), if_neg (by omega), if_neg (by simp)]
theorem take_one {α : Type} (c : α) (r : List α) : (c :: r).take 1 = [c] := by simp
theorem ofNat_toNat (c : UInt8) : UInt8.ofNat c.toNat = c := by simp
theorem rdn_to_leb : ∀ (l : List UInt8) (i acc n k : Nat), rdn l i acc = (n, k, 0) → ∃ m, n = acc + m * 128 ^ i ∧ i < k ∧ l.take (k - i) = leb m ∧ (0 < i → 0 < m)
  | [], i, acc, n, k, h => by simp [rdn] at h
  | c :: r, i, acc, n, k, h => by
    have hc := c.toNat_lt
    simp only [rdn] at h
    split at h
    · simp at h
    · rename_i hno
      split at h
      · rename_i hlt
        simp only [Prod.mk.injEq] at h
        obtain ⟨rfl, rfl, _⟩ := h
        refine ⟨c.toNat, by rw [Nat.mod_eq_of_lt hlt], by omega, ?_, by omega⟩
        rw [show i + 1 - i = 1 by omega, take_one, leb_small hlt, ofNat_toNat]
      · rename_i hge
        obtain ⟨m, rfl, hk, ht, hm⟩ := rdn_to_leb r (i + 1) _ n k h
        have hm' := hm (by omega)
        refine ⟨c.toNat % 128 + 128 * m, ?_, by omega, ?_, by omega⟩
        · rw [Nat.pow_succ, Nat.add_mul, Nat.add_assoc]
          congr 2
          rw [Nat.mul_comm (128 ^ i) 128, ← Nat.mul_assoc, Nat.mul_comm m 128]
        · rw [show k - i = (k - (i + 1)) + 1 by omega, List.take_succ_cons, ht, leb_big (n := c.toNat % 128 + 128 * m) (by omega)]
          rw [show (c.toNat % 128 + 128 * m) % 128 + 128 = c.toNat by omega, show (c.toNat % 128 + 128 * m) / 128 = m by omega, ofNat_toNat]
theorem rdn_to_leb0 {l : List UInt8} {n k : Nat} (h : rdn l 0 0 = (n, k, 0)) : l.take k = leb n ∧ 0 < k := by
  obtain ⟨m, h1, h2, h3, _⟩ := rdn_to_leb l 0 0 n k h
  simp at h1
  subst h1
  exact ⟨h3, h2⟩
/-! ### The sum is linear -/
theorem xor_right (x y z : BitVec 32) : x ^^^ y ^^^ z = x ^^^ z ^^^ y := by rw [BitVec.xor_assoc, BitVec.xor_comm y, ← BitVec.xor_assoc]
theorem crc1_eq (x : BitVec 32) : crc1 x = (x >>> 1) ^^^ (if x.getLsbD 0 then 0xedb88320#32 else 0#32) := by
  unfold crc1
  have h : x &&& 1#32 = if x.getLsbD 0 then 1#32 else 0#32 := by
    apply BitVec.eq_of_getLsbD_eq
    intro i hi
    by_cases h0 : i = 0
    · subst h0; cases hx : x.getLsbD 0 <;> (rw [BitVec.getLsbD_and, hx]; simp)
    · cases hx : x.getLsbD 0 <;> simp [BitVec.getLsbD_one, h0]
  rw [h]
  split <;> congr 1
theorem crc1_xor (x y : BitVec 32) : crc1 (x ^^^ y) = crc1 x ^^^ crc1 y := by
  rw [crc1_eq, crc1_eq, crc1_eq, BitVec.ushiftRight_xor_distrib, BitVec.getLsbD_xor]
  generalize x >>> 1 = a
  generalize y >>> 1 = b
  generalize 0xedb88320#32 = p
  have e : p ^^^ p = 0#32 := BitVec.xor_self
  cases x.getLsbD 0 <;> cases y.getLsbD 0 <;> simp only [Bool.xor_false, Bool.false_xor, Bool.xor_true, Bool.not_false, Bool.not_true, Bool.false_eq_true, if_true, if_false, BitVec.xor_zero]
  · rw [BitVec.xor_assoc]
  · rw [xor_right]
  · rw [← BitVec.xor_assoc, xor_right a p b, BitVec.xor_assoc (a ^^^ b) p p, e, BitVec.xor_zero]
theorem crc1_zero : crc1 0#32 = 0#32 := by decide
theorem crc1_inj0 (x : BitVec 32) (h : crc1 x = 0#32) : x = 0#32 := by
  rw [crc1_eq] at h
  cases hx : x.getLsbD 0
  · rw [hx] at h
    simp at h
    apply BitVec.eq_of_getLsbD_eq
    intro i hi
    cases i with
    | zero => rw [hx]; simp
    | succ k =>
      have : (x >>> 1).getLsbD k = false := by rw [h]; simp
      rw [BitVec.getLsbD_ushiftRight] at this
      rw [Nat.add_comm, this]; simp
  · rw [hx] at h
    have h2 : ((x >>> 1) ^^^ 0xedb88320#32).getLsbD 31 = false := by
      have : (x >>> 1) ^^^ 0xedb88320#32 = 0#32 := by simpa using h
      rw [this]; simp
    rw [BitVec.getLsbD_xor, BitVec.getLsbD_ushiftRight, BitVec.getLsbD_of_ge x _ (by omega)] at h2
    exact absurd h2 (by decide)

theorem crcN_xor : ∀ (n : Nat) (x y : BitVec 32), crcN n (x ^^^ y) = crcN n x ^^^ crcN n y
  | 0, _, _ => rfl
  | n + 1, x, y => by simp only [crcN]; rw [crc1_xor, crcN_xor n]
theorem crcN_add : ∀ (m n : Nat) (x : BitVec 32), crcN n (crcN m x) = crcN (m + n) x
  | 0, n, x => by rw [Nat.zero_add]; rfl
  | m + 1, n, x => by rw [show m + 1 + n = (m + n) + 1 by omega]; exact crcN_add m n (crc1 x)
theorem crcN_inj0 : ∀ (n : Nat) (x : BitVec 32), crcN n x = 0#32 → x = 0#32
  | 0, _, h => h
  | n + 1, x, h => crc1_inj0 x (crcN_inj0 n _ h)
theorem xor_zero_eq {x y z : BitVec 32} (h : x = x ^^^ y) : y = 0#32 := by
  have : x ^^^ x = x ^^^ (x ^^^ y) := by rw [← h]
  rw [BitVec.xor_self, ← BitVec.xor_assoc, BitVec.xor_self, BitVec.zero_xor] at this
  exact this.symm

theorem crcB_xor (s t : BitVec 32) (c : UInt8) : crcB (s ^^^ t) c = crcB s c ^^^ crcN 8 t := by
  unfold crcB
  rw [xor_right, crcN_xor]
theorem crcL_xor : ∀ (l : List UInt8) (s t : BitVec 32), crcL (s ^^^ t) l = crcL s l ^^^ crcN (8 * l.length) t
  | [], _, _ => rfl
  | c :: r, s, t => by
    show crcL (crcB (s ^^^ t) c) r = crcL (crcB s c) r ^^^ _
    rw [crcB_xor, crcL_xor r, crcN_add, List.length_cons]
    congr 2
    omega

theorem crcN_inj {n : Nat} {x y : BitVec 32} (h : crcN n x = crcN n y) : x = y := by
  have : crcN n (x ^^^ y) = 0#32 := by rw [crcN_xor, h, BitVec.xor_self]
  have := crcN_inj0 n _ this
  have e : x ^^^ (x ^^^ y) = x := by rw [this, BitVec.xor_zero]
  rw [← BitVec.xor_assoc, BitVec.xor_self, BitVec.zero_xor] at e
  exact e.symm
theorem crcL_inj {l : List UInt8} {s t : BitVec 32} (h : crcL s l = crcL t l) : s = t := by
  have e : crcL t l = crcL s l ^^^ crcN (8 * l.length) (s ^^^ t) := by
    rw [← crcL_xor, ← BitVec.xor_assoc, BitVec.xor_self, BitVec.zero_xor]
  rw [h] at e
  have e2 := xor_zero_eq (z := 0) e
  have := crcN_inj0 _ _ e2
  have e : s ^^^ (s ^^^ t) = s := by rw [this, BitVec.xor_zero]
  rw [← BitVec.xor_assoc, BitVec.xor_self, BitVec.zero_xor] at e
  exact e.symm
/-- One byte is another one: another sum. -/
theorem crcL_set {l : List UInt8} {i : Nat} {c : UInt8} (hi : i < l.length) (hc : c ≠ l[i]) (s : BitVec 32) : crcL s (l.set i c) ≠ crcL s l := by
  intro h
  have e1 : l = l.take i ++ (l[i] :: l.drop (i + 1)) := by simp
  have e2 : l.set i c = l.take i ++ (c :: l.drop (i + 1)) := List.set_eq_take_append_cons_drop .. |>.trans (by rw [if_pos hi])
  rw [e2] at h
  conv at h => rhs; rw [e1]
  rw [← crcL_append, ← crcL_append] at h
  have h2 : crcB (crcL s (l.take i)) c = crcB (crcL s (l.take i)) l[i] := crcL_inj h
  have h3 := crcN_inj h2
  have h4 : c.toBitVec.setWidth 32 = l[i].toBitVec.setWidth 32 := by
    have : crcL s (l.take i) ^^^ (crcL s (l.take i) ^^^ c.toBitVec.setWidth 32) = crcL s (l.take i) ^^^ (crcL s (l.take i) ^^^ l[i].toBitVec.setWidth 32) := by rw [h3]
    rw [← BitVec.xor_assoc, ← BitVec.xor_assoc, BitVec.xor_self, BitVec.zero_xor, BitVec.zero_xor] at this
    exact this
  apply hc
  have h5 := congrArg BitVec.toNat h4
  simp only [BitVec.toNat_setWidth] at h5
  have b1 := c.toNat_lt
  have b2 := l[i].toNat_lt
  apply UInt8.toNat_inj.1
  have e3 : c.toBitVec.toNat = c.toNat := rfl
  have e4 : l[i].toBitVec.toNat = l[i].toNat := rfl
  rw [e3, e4] at h5
  omega
theorem crc_set {l : List UInt8} {i : Nat} {c : UInt8} (hi : i < l.length) (hc : c ≠ l[i]) : crc (l.set i c) ≠ crc l := by
  intro h
  unfold crc at h
  have h2 := BitVec.eq_of_toNat_eq h
  have h3 : crcL (BitVec.allOnes 32) (l.set i c) = crcL (BitVec.allOnes 32) l := by
    have := congrArg (fun x => ~~~ x) h2
    simpa using this
  exact crcL_set hi hc _ h3

end Go.Proofs.Ythagjflkdoafmaa.Hc
