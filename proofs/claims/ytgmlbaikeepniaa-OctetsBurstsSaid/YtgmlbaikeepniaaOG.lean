import Derived.Test.YtgmlbaikeepniaaOF
set_option linter.unusedVariables false
set_option linter.unusedSimpArgs false
namespace Go.Proofs.Ytgmlbaikeepniaa.Hc
open Go Go.H Go.Proofs
set_option maxRecDepth 100000

theorem toNat_ofNat {n : Nat} (h : n < 256) : (UInt8.ofNat n).toNat = n := by simp; omega
theorem pow9 : (128 : Nat) ^ 9 = 9223372036854775808 := by decide
theorem two64 : (2 : Nat) ^ 64 = 18446744073709551616 := by decide
theorem small9 {i n : Nat} (hi : i ≤ 9) (h : n * 128 ^ i < 2 ^ 64) : i = 9 → n ≤ 1 := by
  rintro rfl
  rw [pow9, two64] at h
  omega
theorem next9 {i n : Nat} (hi : i ≤ 9) (hn : ¬ n < 128) (h : n * 128 ^ i < 2 ^ 64) : i + 1 ≤ 9 := by
  rcases Nat.lt_or_ge i 9 with h1 | h1
  · omega
  · have := small9 hi h (by omega); omega
theorem next_lt {i n : Nat} (h : n * 128 ^ i < 2 ^ 64) : n / 128 * 128 ^ (i + 1) < 2 ^ 64 := by
  rw [Nat.pow_succ, Nat.mul_comm (128 ^ i), ← Nat.mul_assoc]
  exact Nat.lt_of_le_of_lt (Nat.mul_le_mul_right _ (Nat.div_mul_le_self _ _)) h
theorem sum128 (n i acc : Nat) : acc + n % 128 * 128 ^ i + n / 128 * 128 ^ (i + 1) = acc + n * 128 ^ i := by
  have e : n * 128 ^ i = (n % 128 + 128 * (n / 128)) * 128 ^ i := by rw [Nat.mod_add_div]
  rw [e, Nat.add_mul, Nat.pow_succ, Nat.add_assoc]
  congr 2
  rw [Nat.mul_comm (128 ^ i), ← Nat.mul_assoc, Nat.mul_comm 128]

theorem rdn_leb (r : List UInt8) : ∀ (n i acc : Nat), i ≤ 9 → n * 128 ^ i < 2 ^ 64 → (0 < i → 0 < n) → rdn (leb n ++ r) i acc = (acc + n * 128 ^ i, i + (leb n).length, 0) := by
  intro n
  induction n using Nat.strongRecOn with
  | ind n ih =>
    intro i acc hi hlt hp
    by_cases h1 : n < 128
    · rw [leb_small h1]
      simp only [List.cons_append, List.nil_append, rdn, toNat_ofNat (show n < 256 by omega)]
      have := small9 hi hlt
      rw [if_neg (by omega), if_pos h1, Nat.mod_eq_of_lt h1]; rfl
    · rw [leb_big h1]
      simp only [List.cons_append, rdn, toNat_ofNat (show n % 128 + 128 < 256 by omega), List.length_cons]
      have h9 := next9 hi h1 hlt
      rw [if_neg (by omega), if_neg (by omega), ih (n / 128) (by omega) (i + 1) _ h9 (next_lt hlt) (by omega)]
      rw [show (n % 128 + 128) % 128 = n % 128 by omega, sum128]
      congr 2
      omega
theorem rdn_cut : ∀ (n i acc k : Nat), i ≤ 9 → n * 128 ^ i < 2 ^ 64 → k < (leb n).length → rdn ((leb n).take k) i acc = (0, 0, 20) := by
  intro n
  induction n using Nat.strongRecOn with
  | ind n ih =>
    intro i acc k hi hlt hk
    cases k with
    | zero => rfl
    | succ k =>
      by_cases h1 : n < 128
      · rw [leb_small h1] at hk; simp at hk
      · rw [leb_big h1] at hk ⊢
        simp only [List.length_cons] at hk
        simp only [List.take_succ_cons, rdn, toNat_ofNat (show n % 128 + 128 < 256 by omega)]
        have h9 := next9 hi h1 hlt
        rw [if_neg (by omega), if_neg (by omega), ih (n / 128) (by omega) (i + 1) _ k h9 (next_lt hlt) (by omega)]

theorem rdt_leb (l r : List UInt8) (h : l.length < 2 ^ 63) : rdt (leb l.length ++ l ++ r) (l.length : Nat) = (l, (leb l.length).length + l.length, 0) := by
  unfold rdt
  rw [List.append_assoc, rdn_leb _ _ 0 0 (by omega) (by simp; omega) (by omega)]
  simp only [Nat.pow_zero, Nat.mul_one, Nat.zero_add]
  rw [if_neg (by simp), if_neg (by omega), if_neg (by simp only [List.length_append]; omega)]
  simp
theorem rdt_cut (l : List UInt8) (k : Nat) (h : l.length < 2 ^ 63) (hk : k < (leb l.length).length + l.length) : rdt ((leb l.length ++ l).take k) (l.length : Nat) = ([], 0, 20) := by
  unfold rdt
  rcases Nat.lt_or_ge k (leb l.length).length with h1 | h1
  · rw [List.take_append_of_le_length (by omega), rdn_cut _ 0 0 k (by omega) (by simp; omega) h1]
    simp
  · have e : (leb l.length ++ l).take k = leb l.length ++ l.take (k - (leb l.length).length) := by
      rw [List.take_append, List.take_of_length_le (by omega)]
    rw [e, rdn_leb _ _ 0 0 (by omega) (by simp; omega) (by omega)]
    simp only [Nat.pow_zero, Nat.mul_one, Nat.zero_add]
    rw [if_neg (by simp), if_neg (by omega), if_pos (by simp only [List.length_append, List.length_take]; omega)]

theorem unf_frame (l r : List UInt8) (h : l.length < 2 ^ 32) : unf (frameL l ++ r) (l.length : Nat) = (l, 8 + l.length, 0) := by
  have e0 : l.length % 4294967296 = l.length := Nat.mod_eq_of_lt h
  have e1 : wordN (frameL l ++ r) = l.length := by
    unfold frameL head4
    rw [List.append_assoc, e0, wordN_be32 _ h]
  have e2 : (frameL l ++ r).drop 4 = be32 (crc (head4 l ++ l)) ++ (l ++ r) := by
    unfold frameL
    rw [List.append_assoc, List.drop_left' (head4_len l), List.append_assoc]
  have e3 : (frameL l ++ r).drop 8 = l ++ r := by
    rw [show 8 = 4 + 4 from rfl, ← List.drop_drop, e2, List.drop_left' (be32_len _)]
  have e4 : (frameL l ++ r).take 4 = head4 l := by
    unfold frameL
    rw [List.append_assoc, List.take_left' (head4_len l)]
  have e5 : (frameL l ++ r).length = 8 + l.length + r.length := by rw [List.length_append, frameL_len]
  unfold unf
  rw [e1, e2, e3, e4, e5, wordN_be32 _ (crc_lt _), List.take_left' rfl]
  rw [if_neg (by omega), if_neg (by omega), if_neg (by omega), if_neg (by simp)]
theorem unf_cut (l : List UInt8) (k : Nat) (h : l.length < 2 ^ 32) (hk : k < 8 + l.length) : unf ((frameL l).take k) (l.length : Nat) = ([], 0, 20) := by
  have e0 : l.length % 4294967296 = l.length := Nat.mod_eq_of_lt h
  have el : ((frameL l).take k).length = k := by rw [List.length_take, frameL_len]; omega
  unfold unf
  rw [el]
  rcases Nat.lt_or_ge k 8 with h1 | h1
  · rw [if_pos h1]
  · have e1 : wordN ((frameL l).take k) = l.length := by
      unfold frameL head4
      rw [e0, List.take_append, List.take_of_length_le (by rw [be32_len]; omega), wordN_be32 _ h]
    rw [e1, if_neg (by omega), if_neg (by omega), if_pos (by omega)]

end Go.Proofs.Ytgmlbaikeepniaa.Hc
