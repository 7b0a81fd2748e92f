import Derived.Test.YtgmlbaikeepniaaOI
set_option linter.unusedVariables false
set_option linter.unusedSimpArgs false
namespace Go.Proofs.Ytgmlbaikeepniaa.Hc
open Go Go.H Go.Proofs
set_option maxRecDepth 100000

/-! ### The sum is linear -/
theorem xor_right (x y z : BitVec 32) : x ^^^ y ^^^ z = x ^^^ z ^^^ y := by rw [BitVec.xor_assoc, BitVec.xor_comm y, ← BitVec.xor_assoc]
theorem crc1_eq (x : BitVec 32) : crc1 x = (x >>> 1) ^^^ (if x.getLsbD 0 then 0xedb88320#32 else 0#32) := by
  unfold crc1
  have h : x &&& 1#32 = if x.getLsbD 0 then 1#32 else 0#32 := by
    apply BitVec.eq_of_getLsbD_eq
    intro i hi
    by_cases h0 : i = 0
    · subst h0; cases hx : x.getLsbD 0 <;> (rw [BitVec.getLsbD_and, hx]; simp)
    · cases hx : x.getLsbD 0 <;> simp [BitVec.getLsbD_one, h0]
  rw [h]
  split <;> congr 1
theorem crc1_xor (x y : BitVec 32) : crc1 (x ^^^ y) = crc1 x ^^^ crc1 y := by
  rw [crc1_eq, crc1_eq, crc1_eq, BitVec.ushiftRight_xor_distrib, BitVec.getLsbD_xor]
  generalize x >>> 1 = a
  generalize y >>> 1 = b
  generalize 0xedb88320#32 = p
  have e : p ^^^ p = 0#32 := BitVec.xor_self
  cases x.getLsbD 0 <;> cases y.getLsbD 0 <;> simp only [Bool.xor_false, Bool.false_xor, Bool.xor_true, Bool.not_false, Bool.not_true, Bool.false_eq_true, if_true, if_false, BitVec.xor_zero]
  · rw [BitVec.xor_assoc]
  · rw [xor_right]
  · rw [← BitVec.xor_assoc, xor_right a p b, BitVec.xor_assoc (a ^^^ b) p p, e, BitVec.xor_zero]
theorem crc1_zero : crc1 0#32 = 0#32 := by decide
theorem crc1_inj0 (x : BitVec 32) (h : crc1 x = 0#32) : x = 0#32 := by
  rw [crc1_eq] at h
  cases hx : x.getLsbD 0
  · rw [hx] at h
    simp at h
    apply BitVec.eq_of_getLsbD_eq
    intro i hi
    cases i with
    | zero => rw [hx]; simp
    | succ k =>
      have : (x >>> 1).getLsbD k = false := by rw [h]; simp
      rw [BitVec.getLsbD_ushiftRight] at this
      rw [Nat.add_comm, this]; simp
  · rw [hx] at h
    have h2 : ((x >>> 1) ^^^ 0xedb88320#32).getLsbD 31 = false := by
      have : (x >>> 1) ^^^ 0xedb88320#32 = 0#32 := by simpa using h
      rw [this]; simp
    rw [BitVec.getLsbD_xor, BitVec.getLsbD_ushiftRight, BitVec.getLsbD_of_ge x _ (by omega)] at h2
    exact absurd h2 (by decide)

theorem crcN_xor : ∀ (n : Nat) (x y : BitVec 32), crcN n (x ^^^ y) = crcN n x ^^^ crcN n y
  | 0, _, _ => rfl
  | n + 1, x, y => by simp only [crcN]; rw [crc1_xor, crcN_xor n]
theorem crcN_add : ∀ (m n : Nat) (x : BitVec 32), crcN n (crcN m x) = crcN (m + n) x
  | 0, n, x => by rw [Nat.zero_add]; rfl
  | m + 1, n, x => by rw [show m + 1 + n = (m + n) + 1 by omega]; exact crcN_add m n (crc1 x)
theorem crcN_inj0 : ∀ (n : Nat) (x : BitVec 32), crcN n x = 0#32 → x = 0#32
  | 0, _, h => h
  | n + 1, x, h => crc1_inj0 x (crcN_inj0 n _ h)
theorem xor_zero_eq {x y z : BitVec 32} (h : x = x ^^^ y) : y = 0#32 := by
  have : x ^^^ x = x ^^^ (x ^^^ y) := by rw [← h]
  rw [BitVec.xor_self, ← BitVec.xor_assoc, BitVec.xor_self, BitVec.zero_xor] at this
  exact this.symm

theorem crcB_xor (s t : BitVec 32) (c : UInt8) : crcB (s ^^^ t) c = crcB s c ^^^ crcN 8 t := by
  unfold crcB
  rw [xor_right, crcN_xor]
theorem crcL_xor : ∀ (l : List UInt8) (s t : BitVec 32), crcL (s ^^^ t) l = crcL s l ^^^ crcN (8 * l.length) t
  | [], _, _ => rfl
  | c :: r, s, t => by
    show crcL (crcB (s ^^^ t) c) r = crcL (crcB s c) r ^^^ _
    rw [crcB_xor, crcL_xor r, crcN_add, List.length_cons]
    congr 2
    omega
def bit8 (k : Nat) : UInt8 := 1 <<< UInt8.ofNat k
/-- One bit, the other way. -/
def flip (y : List UInt8) (t : Nat) : List UInt8 := y.modify (t / 8) (· ^^^ bit8 (t % 8))
theorem bit_down : ∀ k : Fin 8, crcN 8 ((bit8 k.val).toBitVec.setWidth 32) = crcN (8 - k.val) 1#32 := by decide +kernel
theorem one_down : ∀ k : Fin 32, crcN k.val (1#32 <<< k.val) = 1#32 := by decide +kernel
theorem crcL_flip : ∀ (l : List UInt8) (t : Nat) (s : BitVec 32), t < 8 * l.length → crcL s (flip l t) = crcL s l ^^^ crcN (8 * l.length - t) 1#32
  | [], t, s, h => by simp at h
  | c :: r, t, s, h => by
    simp only [List.length_cons] at h
    rcases Nat.lt_or_ge t 8 with h1 | h1
    · have e1 : t / 8 = 0 := by omega
      have e2 : t % 8 = t := by omega
      unfold flip
      rw [e1, e2, List.modify_zero_cons]
      show crcL (crcB s (c ^^^ bit8 t)) r = crcL (crcB s c) r ^^^ _
      have e3 : crcB s (c ^^^ bit8 t) = crcB s c ^^^ crcN (8 - t) 1#32 := by
        unfold crcB
        rw [UInt8.toBitVec_xor, BitVec.setWidth_xor, ← BitVec.xor_assoc, crcN_xor, bit_down ⟨t, h1⟩]
      rw [e3, crcL_xor, crcN_add, List.length_cons]
      congr 2
      omega
    · have e1 : t / 8 = (t - 8) / 8 + 1 := by omega
      have e2 : t % 8 = (t - 8) % 8 := by omega
      have e0 : flip (c :: r) t = c :: flip r (t - 8) := by
        unfold flip
        rw [e1, e2, List.modify_succ_cons]
      rw [e0]
      show crcL (crcB s c) (flip r (t - 8)) = crcL (crcB s c) r ^^^ _
      rw [crcL_flip r _ _ (by omega), List.length_cons]
      congr 2
      omega
theorem flip_len (y : List UInt8) (t : Nat) : (flip y t).length = y.length := by unfold flip; simp

def flips (z : List UInt8) (q : Nat) (d : BitVec 32) : Nat → List UInt8
  | 0 => z
  | i + 1 => if d.getLsbD i then flip (flips z q d i) (q + i) else flips z q d i
theorem flips_len (z : List UInt8) (q : Nat) (d : BitVec 32) : ∀ i, (flips z q d i).length = z.length
  | 0 => rfl
  | i + 1 => by
    simp only [flips]
    split
    · rw [flip_len, flips_len z q d i]
    · exact flips_len z q d i
/-- The lowest bits. -/
def low (d : BitVec 32) : Nat → BitVec 32
  | 0 => 0#32
  | i + 1 => if d.getLsbD i then low d i ^^^ (1#32 <<< i) else low d i
theorem low_bits (d : BitVec 32) (j : Nat) : ∀ i, (low d i).getLsbD j = (decide (j < i) && d.getLsbD j)
  | 0 => by simp [low]
  | i + 1 => by
    have ih := low_bits d j i
    simp only [low]
    by_cases hj : j = i
    · subst hj
      split
      · rename_i h
        rw [BitVec.getLsbD_xor, ih]
        have := BitVec.lt_of_getLsbD h
        simp [h, this]
      · rename_i h
        rw [ih]; simp at h; simp [h]
    · have e : decide (j < i + 1) = decide (j < i) := by congr 1; exact propext ⟨fun _ => by omega, fun _ => by omega⟩
      rw [e]
      split
      · rw [BitVec.getLsbD_xor, ih]
        have : (1#32 <<< i).getLsbD j = false := by
          rw [BitVec.getLsbD_shiftLeft, BitVec.getLsbD_one]
          simp; omega
        rw [this]; simp
      · exact ih
theorem low_all (d : BitVec 32) : low d 32 = d := by
  apply BitVec.eq_of_getLsbD_eq
  intro i hi
  rw [low_bits]; simp [hi]
theorem crcL_flips (z : List UInt8) (q : Nat) (d : BitVec 32) (s : BitVec 32) (hq : q + 32 ≤ 8 * z.length) : ∀ i, i ≤ 32 → crcL s (flips z q d i) = crcL s z ^^^ crcN (8 * z.length - q) (low d i)
  | 0, _ => by
    have : ∀ n, crcN n 0#32 = 0#32 := by
      intro n
      induction n with
      | zero => rfl
      | succ n ih => simp only [crcN]; rw [crc1_zero]; exact ih
    simp only [flips, low]; rw [this]; simp
  | i + 1, hi => by
    have ih := crcL_flips z q d s hq i (by omega)
    simp only [flips, low]
    split
    · rw [crcL_flip _ _ _ (by rw [flips_len]; omega), ih, crcN_xor, ← BitVec.xor_assoc, flips_len]
      congr 1
      have e : crcN (8 * z.length - q) (1#32 <<< i) = crcN (8 * z.length - (q + i)) (crcN i (1#32 <<< i)) := by
        rw [crcN_add]; congr 1; omega
      rw [e, one_down ⟨i, by omega⟩]
    · exact ih
/-- A burst is told. -/
theorem crcL_burst (z : List UInt8) (q : Nat) (d : BitVec 32) (s : BitVec 32) (hq : q + 32 ≤ 8 * z.length) (hd : d ≠ 0#32) : crcL s (flips z q d 32) ≠ crcL s z := by
  rw [crcL_flips z q d s hq 32 (Nat.le_refl _), low_all]
  intro e
  exact hd (crcN_inj0 _ _ (xor_zero_eq (z := d) e.symm))

end Go.Proofs.Ytgmlbaikeepniaa.Hc
