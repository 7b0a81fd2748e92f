import Derived.Test.YtgmlbaikeepniaaOJ
set_option linter.unusedVariables false
set_option linter.unusedSimpArgs false
namespace Go.Proofs.Ytgmlbaikeepniaa.Hc
open Go Go.H Go.Proofs
set_option maxRecDepth 100000

theorem flip_get (y : List UInt8) (t j : Nat) (h : j ≠ t / 8) : (flip y t)[j]? = y[j]? := by
  unfold flip
  rw [List.getElem?_modify]
  simp only [if_neg (fun e : t / 8 = j => h e.symm)]
  cases y[j]? <;> rfl
theorem flips_get (z : List UInt8) (q : Nat) (d : BitVec 32) (j : Nat) : ∀ i, (∀ i', i' < i → d.getLsbD i' = true → j ≠ (q + i') / 8) → (flips z q d i)[j]? = z[j]?
  | 0, _ => rfl
  | i + 1, h => by
    have ih := flips_get z q d j i (fun i' hi => h i' (by omega))
    simp only [flips]
    split
    · rename_i hb
      rw [flip_get _ _ _ (h i (by omega) hb), ih]
    · exact ih
theorem flips_drop (z : List UInt8) (q : Nat) (d : BitVec 32) (h : ∀ i, i < 32 → d.getLsbD i = true → q + i < 64) : (flips z q d 32).drop 8 = z.drop 8 := by
  apply List.ext_getElem?
  intro j
  rw [List.getElem?_drop, List.getElem?_drop]
  exact flips_get z q d _ 32 fun i' hi hb => by have := h i' hi hb; omega
theorem flips_take (z : List UInt8) (q : Nat) (d : BitVec 32) (h : ∀ i, i < 32 → d.getLsbD i = true → 64 ≤ q + i) : (flips z q d 32).take 8 = z.take 8 := by
  apply List.ext_getElem?
  intro j
  rw [List.getElem?_take, List.getElem?_take]
  split
  · exact flips_get z q d _ 32 fun i' hi hb => by have := h i' hi hb; omega
  · rfl
theorem be32_wordN (y : List UInt8) (h : 4 ≤ y.length) : be32 (wordN y) = y.take 4 := by
  obtain ⟨a, b, c, d, r, rfl⟩ : ∃ a b c d r, y = a :: b :: c :: d :: r := by
    match y, h with
    | a :: b :: c :: d :: r, _ => exact ⟨a, b, c, d, r, rfl⟩
  have e : ∀ (u : UInt8) (n : Nat), n % 256 = u.toNat → UInt8.ofNat n = u := by
    intro u n hn
    apply UInt8.toNat_inj.1
    rw [UInt8.toNat_ofNat', ← hn]
  have ha := a.toNat_lt; have hb := b.toNat_lt; have hc := c.toNat_lt; have hd := d.toNat_lt
  unfold be32 wordN
  simp only [List.getD_cons_zero, List.getD_cons_succ, List.take_succ_cons, List.take_zero]
  rw [e a _ (by omega), e b _ (by omega), e c _ (by omega), e d _ (by omega)]
theorem crc_eq {a b : List UInt8} (h : crc a = crc b) : crcL (BitVec.allOnes 32) a = crcL (BitVec.allOnes 32) b := by
  unfold crc at h
  have := BitVec.eq_of_toNat_eq h
  simpa using this
/-- Where two texts of one length have one sum, they have it from every beginning. -/
theorem crcL_from {a b : List UInt8} (hl : a.length = b.length) {s : BitVec 32} (h : crcL s a = crcL s b) (t : BitVec 32) : crcL t a = crcL t b := by
  have e : t = s ^^^ (s ^^^ t) := by rw [← BitVec.xor_assoc, BitVec.xor_self, BitVec.zero_xor]
  rw [e, crcL_xor, crcL_xor, h, hl]

theorem burst_law (l : List UInt8) (q : Nat) (d : BitVec 32) (hl : l.length < 2 ^ 32) (hq : q + 32 ≤ 8 * (8 + l.length)) (hd : d ≠ 0#32)
    (h : (∀ i, i < 32 → d.getLsbD i = true → q + i < 64) ∨ (∀ i, i < 32 → d.getLsbD i = true → 64 ≤ q + i)) :
    (unf (flips (frameL l) q d 32) (l.length : Nat)).2.2 ≠ 0 ∨ ((unf (flips (frameL l) q d 32) (l.length : Nat)).2.1 ≠ 8 + l.length ∧ (unf (flips (frameL l) q d 32) (l.length : Nat)).1.length ≠ l.length) := by
  have burst := crcL_burst (frameL l) q d (BitVec.allOnes 32) (by rw [frameL_len]; exact hq) hd
  have zl : (flips (frameL l) q d 32).length = 8 + l.length := by rw [flips_len, frameL_len]
  have h1 := flips_drop (frameL l) q d
  have h2 := flips_take (frameL l) q d
  generalize flips (frameL l) q d 32 = z at *
  have e0 : l.length % 4294967296 = l.length := Nat.mod_eq_of_lt hl
  have d8 : (frameL l).drop 8 = l := by
    unfold frameL
    rw [← List.append_assoc]
    exact List.drop_left' (by rw [List.length_append, head4_len, be32_len])
  have t8 : (frameL l).take 8 = head4 l ++ be32 (crc (head4 l ++ l)) := by
    unfold frameL
    rw [← List.append_assoc]
    exact List.take_left' (by rw [List.length_append, head4_len, be32_len])
  unfold unf
  rw [zl]
  by_cases c1 : 8 + l.length < 8
  · omega
  rw [if_neg c1]
  by_cases c2 : (wordN z : Int) > (l.length : Nat)
  · rw [if_pos c2]; exact .inl (by simp)
  rw [if_neg c2]
  by_cases c3 : wordN z > 8 + l.length - 8
  · rw [if_pos c3]; exact .inl (by simp)
  rw [if_neg c3]
  by_cases c4 : crc (z.take 4 ++ (z.drop 8).take (wordN z)) ≠ wordN (z.drop 4)
  · rw [if_pos c4]; exact .inl (by simp)
  rw [if_neg c4]
  have c4 := Decidable.of_not_not c4
  by_cases c5 : wordN z = l.length
  · exfalso
    rw [c5, List.take_of_length_le (l := z.drop 8) (by rw [List.length_drop, zl]; omega)] at c4
    have t4 : z.take 4 = head4 l := by
      rw [← be32_wordN z (by omega), c5]; unfold head4; rw [e0]
    rw [t4] at c4
    have m4 := be32_wordN (z.drop 4) (by rw [List.length_drop, zl]; omega)
    rw [← c4] at m4
    have zz : z = z.take 4 ++ ((z.drop 4).take 4 ++ z.drop 8) := by
      rw [show z.drop 8 = (z.drop 4).drop 4 by rw [List.drop_drop], List.take_append_drop, List.take_append_drop]
    rcases h with h | h
    · have hd8 := h1 h
      rw [d8] at hd8
      rw [hd8] at c4 m4 zz
      rw [t4, ← m4] at zz
      exact burst (by rw [zz]; rfl)
    · have ht8 := h2 h
      have w4 : wordN (z.drop 4) = crc (head4 l ++ l) := by
        have : (z.take 8).drop 4 = be32 (crc (head4 l ++ l)) := by
          rw [ht8, t8, List.drop_left' (head4_len l)]
        have m5 : be32 (wordN (z.drop 4)) = be32 (crc (head4 l ++ l)) := by
          rw [be32_wordN (z.drop 4) (by rw [List.length_drop, zl]; omega), ← this, List.drop_take]
        have := congrArg wordN m5
        have x1 := wordN_be32 (wordN (z.drop 4)) (wordN_lt _) []
        have x2 := wordN_be32 (crc (head4 l ++ l)) (crc_lt _) []
        rw [List.append_nil] at x1 x2
        rw [x1, x2] at this
        exact this
      rw [w4] at c4
      have e1 := crc_eq c4
      rw [← crcL_append, ← crcL_append] at e1
      have e2 := crcL_from (by rw [List.length_drop, zl]; omega) e1 (crcL (BitVec.allOnes 32) (z.take 8))
      rw [crcL_append, List.take_append_drop, ht8] at e2
      apply burst
      rw [e2, crcL_append]
      conv => rhs; rw [← List.take_append_drop 8 (frameL l), d8]
  · refine .inr ⟨by show 8 + wordN z ≠ _; omega, ?_⟩
    show ((z.drop 8).take (wordN z)).length ≠ _
    rw [List.length_take, List.length_drop, zl]
    omega

end Go.Proofs.Ytgmlbaikeepniaa.Hc
