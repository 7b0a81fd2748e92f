import Derived.Test.YthagjflkdoafmaaB0
set_option linter.unusedVariables false
set_option linter.unusedSimpArgs false
namespace Go.Proofs.Ythagjflkdoafmaa.Hc
open Go Go.H Go.Proofs
set_option maxRecDepth 100000

/-! ### Words of 32 bits -/
def w32 (x : BitVec 32) : Int := (x.toNat : Int)
theorem w32_bd (x : BitVec 32) : 0 ≤ w32 x ∧ w32 x ≤ 4294967295 := by unfold w32; have := x.isLt; omega
theorem ofInt_w32 (x : BitVec 32) : BitVec.ofInt 32 (w32 x) = x := by unfold w32; rw [BitVec.ofInt_natCast, BitVec.ofNat_toNat]; simp
theorem xor32 (x y : BitVec 32) : ibits .xor .u32 (w32 x) (w32 y) = w32 (x ^^^ y) := by
  show IntKind.u32.wrap ((BitVec.ofInt 32 (w32 x) ^^^ BitVec.ofInt 32 (w32 y)).toNat : Int) = _
  rw [ofInt_w32, ofInt_w32]; exact wrap_u32 (w32_bd _)
theorem and32 (x y : BitVec 32) : ibits .and .u32 (w32 x) (w32 y) = w32 (x &&& y) := by
  show IntKind.u32.wrap ((BitVec.ofInt 32 (w32 x) &&& BitVec.ofInt 32 (w32 y)).toNat : Int) = _
  rw [ofInt_w32, ofInt_w32]; exact wrap_u32 (w32_bd _)
theorem or32 (x y : BitVec 32) : ibits .or .u32 (w32 x) (w32 y) = w32 (x ||| y) := by
  show IntKind.u32.wrap ((BitVec.ofInt 32 (w32 x) ||| BitVec.ofInt 32 (w32 y)).toNat : Int) = _
  rw [ofInt_w32, ofInt_w32]; exact wrap_u32 (w32_bd _)
theorem wrap32_ofInt (n : Int) : IntKind.u32.wrap n = w32 (BitVec.ofInt 32 n) := by
  rw [wrap_u32']; unfold w32; rw [BitVec.toNat_ofInt]; omega
theorem neg32 (x : BitVec 32) : IntKind.u32.wrap (0 - w32 x) = w32 (-x) := by
  rw [wrap32_ofInt]; congr 1
  rw [Int.zero_sub, BitVec.ofInt_neg, ofInt_w32]
theorem not32 (x : BitVec 32) : ibits .xor .u32 (if IntKind.u32.signed then -1 else IntKind.u32.max) (w32 x) = w32 (~~~x) := by
  rw [show (if IntKind.u32.signed then -1 else IntKind.u32.max) = w32 (BitVec.allOnes 32) from rfl, xor32, BitVec.allOnes_xor]
theorem shr32 (x : BitVec 32) (k : Nat) (hk : k ≤ 32) : (w32 x).fdiv (2 ^ (min (Int.toNat (k : Int)) (IntKind.bits .u32))) = w32 (x >>> k) := by
  have e : min (Int.toNat (k : Int)) (IntKind.bits .u32) = k := by simp [IntKind.bits]; omega
  rw [e]; unfold w32
  rw [Int.fdiv_eq_ediv_of_nonneg _ (Int.le_of_lt (Int.pow_pos (by omega))), BitVec.toNat_ushiftRight, Nat.shiftRight_eq_div_pow]
  simp
theorem byte32 (c : UInt8) : (c.toNat : Int) = w32 (c.toBitVec.setWidth 32) := by
  unfold w32; rw [BitVec.toNat_setWidth]; simp

theorem shr1 (x : BitVec 32) : (w32 x).fdiv (2 ^ (min (Int.toNat 1) (IntKind.bits .u32))) = w32 (x >>> 1) := shr32 x 1 (by omega)
theorem and1 (x : BitVec 32) : ibits .and .u32 (w32 x) 1 = w32 (x &&& 1#32) := and32 x 1#32
theorem andp (x : BitVec 32) : ibits .and .u32 3988292384 (w32 x) = w32 (0xedb88320#32 &&& x) := and32 0xedb88320#32 x

/-- One bit's step of the sum. -/
def crc1 (x : BitVec 32) : BitVec 32 := (x >>> 1) ^^^ (0xedb88320#32 &&& -(x &&& 1#32))
def crcN : Nat → BitVec 32 → BitVec 32
  | 0, x => x
  | n + 1, x => crcN n (crc1 x)
def crcB (x : BitVec 32) (c : UInt8) : BitVec 32 := crcN 8 (x ^^^ c.toBitVec.setWidth 32)
def crcL (x : BitVec 32) (l : List UInt8) : BitVec 32 := l.foldl crcB x

theorem sum_spec {a : Option Addr} {n c : Nat} {l : List UInt8} {h : Heap} (s : BitVec 32) (x : Sl h 1 a n c (l.map byteV)) (hn : n ≤ 9223372036854775806) :
    HCalls Try.prog 47 #[.int .u32 (w32 s), .slice a n c] h fun e h' => h' = h ∧ e = .returned (.int .u32 (w32 (crcL s l))) := by
  have hl : l.length = n := by simpa using x.1
  refine c47 (by simp) ?_
  ((conv=>whnf);repeat((first|(with_reducible first|refine Z1 ?_|refine Z2 ?_|refine Z3 ?_|refine Z4 ?_|refine Z5 ?_));(conv=>whnf)))
  refine loop_rule [0, 9] (fun vs h' => ∃ (i : Nat) (t : BitVec 32), vs = [.int .u32 (w32 t), .int .i64 i] ∧ i ≤ n ∧ crcL t (l.drop i) = crcL s l ∧ h' = h)
    (fun vs _ => match vs with | [_, .int _ i] => n - i.toNat | _ => 0) rfl ?_ ?_
  · exact ⟨0, s, rfl, by omega, rfl, rfl⟩
  · intro u h' v0 v9
    rintro ⟨i, t, e, hin, hr, rfl⟩
    cases e
    ((conv=>whnf);repeat((first|(with_reducible first|refine Z1 ?_|refine Z2 ?_|refine Z3 ?_|refine Z4 ?_|refine Z5 ?_));(conv=>whnf)))
    refine HIf.mk (fun hb => ?_) (fun hb => ?_)
    · have hlt : i < l.length := by have := of_decide_eq_true hb; omega
      rw [List.drop_eq_getElem_cons hlt] at hr
      ((conv=>whnf);repeat((first|(with_reducible first|refine Z1 ?_|refine Z2 ?_|refine Z3 ?_|refine Z4 ?_|refine Z5 ?_));(conv=>whnf)))
      refine HIdx.mk i rfl (by omega) ?_
      refine sl_some (i := i) x (by omega) fun p ep => ?_
      ((conv=>whnf);repeat((first|(with_reducible first|refine Z1 ?_|refine Z2 ?_|refine Z3 ?_|refine Z4 ?_|refine Z5 ?_));(conv=>whnf)))
      refine sl_get x ep hlt ?_
      ((conv=>whnf);repeat((first|(with_reducible first|refine Z1 ?_|refine Z2 ?_|refine Z3 ?_|refine Z4 ?_|refine Z5 ?_));(conv=>whnf)))
      refine HInt.mk (w32 (l[i].toBitVec.setWidth 32)) (by rw [byte32]; exact wrap_u32 (w32_bd _)) ?_
      ((conv=>whnf);repeat((first|(with_reducible first|refine Z1 ?_|refine Z2 ?_|refine Z3 ?_|refine Z4 ?_|refine Z5 ?_));(conv=>whnf)))
      rw [xor32]
      (repeat (first | ((with_reducible refine HSeq.go ?_); conv => whnf) | ((with_reducible refine HMust.mk (by decide) ?_); conv => whnf) | ((with_reducible refine HIf.yes (by first | rfl | assumption | decide) ?_); conv => whnf) | ((with_reducible refine HIf.no (by first | rfl | assumption | decide) ?_); conv => whnf) | ((with_reducible refine HInt.mk _ (wrap_i64 (by omega)) ?_); conv => whnf)))
      refine loop_rule [0, 17] (fun vs h2 => ∃ (j : Nat) (r : BitVec 32), vs = [.int .u32 (w32 r), .int .i64 j] ∧ j ≤ 8 ∧ crcN (8 - j) r = crcB t l[i] ∧ h2 = h')
        (fun vs _ => match vs with | [_, .int _ j] => 8 - j.toNat | _ => 0) rfl ?_ ?_
      · exact ⟨0, _, rfl, by omega, rfl, rfl⟩
      · intro u2 h2 v0 v17
        rintro ⟨j, r, e, hj8, hr2, rfl⟩
        cases e
        ((conv=>whnf);repeat((first|(with_reducible first|refine Z1 ?_|refine Z2 ?_|refine Z3 ?_|refine Z4 ?_|refine Z5 ?_));(conv=>whnf)))
        refine HIf.mk (fun hb2 => ?_) (fun hb2 => ?_)
        · have hlt2 := of_decide_eq_true hb2
          ((conv=>whnf);repeat((first|(with_reducible first|refine Z1 ?_|refine Z2 ?_|refine Z3 ?_|refine Z4 ?_|refine Z5 ?_));(conv=>whnf)))
          rw [shr1, and1]
          refine HInt.mk _ (neg32 _) ?_
          ((conv=>whnf);repeat((first|(with_reducible first|refine Z1 ?_|refine Z2 ?_|refine Z3 ?_|refine Z4 ?_|refine Z5 ?_));(conv=>whnf)))
          rw [andp, xor32]
          (repeat (first | ((with_reducible refine HSeq.go ?_); conv => whnf) | ((with_reducible refine HMust.mk (by decide) ?_); conv => whnf) | ((with_reducible refine HIf.yes (by first | rfl | assumption | decide) ?_); conv => whnf) | ((with_reducible refine HIf.no (by first | rfl | assumption | decide) ?_); conv => whnf) | ((with_reducible refine HInt.mk _ (wrap_i64 (by omega)) ?_); conv => whnf)))
          refine ⟨⟨j + 1, crc1 r, rfl, by omega, ?_, rfl⟩, ?_⟩
          · rw [← hr2, show 8 - j = (8 - (j + 1)) + 1 by omega]; rfl
          · show 8 - (((j : Int) + 1)).toNat < 8 - ((j : Int)).toNat
            omega
        · have hge2 := of_decide_eq_false hb2
          obtain rfl : j = 8 := by omega
          ((conv=>whnf);repeat((first|(with_reducible first|refine Z1 ?_|refine Z2 ?_|refine Z3 ?_|refine Z4 ?_|refine Z5 ?_));(conv=>whnf)))
          refine ⟨⟨i + 1, r, rfl, by omega, ?_, rfl⟩, ?_⟩
          · rw [← hr]; rw [show r = crcB t l[i] from hr2]; rfl
          · show n - (((i : Int) + 1)).toNat < n - ((i : Int)).toNat
            omega
    · have hge := of_decide_eq_false hb
      ((conv=>whnf);repeat((first|(with_reducible first|refine Z1 ?_|refine Z2 ?_|refine Z3 ?_|refine Z4 ?_|refine Z5 ?_));(conv=>whnf)))
      rw [List.drop_of_length_le (by omega)] at hr
      exact ⟨rfl, by rw [← hr]; rfl⟩

end Go.Proofs.Ythagjflkdoafmaa.Hc

namespace Go.Proofs.Ythagjflkdoafmaa.Hc
open Go Go.H Go.Proofs
set_option maxRecDepth 100000

theorem rsum_step (x : BitVec 32) : (w32 x).tmod 2 = w32 (x &&& 1#32) ∧ (w32 x).tdiv 2 = w32 (x >>> 1) := by
  constructor
  · unfold w32
    rw [BitVec.toNat_and]
    show ((x.toNat % 2 : Nat) : Int) = ((x.toNat &&& 1 : Nat) : Int)
    rw [Nat.and_one_is_mod]
  · unfold w32
    rw [BitVec.toNat_ushiftRight, Nat.shiftRight_eq_div_pow]
    rfl
theorem crc1_odd (x : BitVec 32) (h : w32 (x &&& 1#32) = 1) : crc1 x = (x >>> 1) ^^^ 0xedb88320#32 := by
  have : x &&& 1#32 = 1#32 := by
    apply BitVec.eq_of_toNat_eq
    unfold w32 at h; simp at h ⊢; omega
  unfold crc1; rw [this]; rfl
theorem crc1_even (x : BitVec 32) (h : w32 (x &&& 1#32) ≠ 1) : crc1 x = (x >>> 1) := by
  have : x &&& 1#32 = 0#32 := by
    apply BitVec.eq_of_toNat_eq
    unfold w32 at h
    rw [BitVec.toNat_and] at h ⊢
    rw [show (1#32 : BitVec 32).toNat = 1 from rfl, Nat.and_one_is_mod] at h ⊢
    show x.toNat % 2 = 0
    omega
  unfold crc1; rw [this]; simp
theorem xorp (x : BitVec 32) : ibits .xor .u32 (w32 x) 3988292384 = w32 (x ^^^ 0xedb88320#32) := xor32 x 0xedb88320#32
theorem sub_not (x : BitVec 32) : IntKind.u32.wrap (4294967295 - w32 x) = w32 (~~~x) := by
  rw [wrap_u32 (by have := w32_bd x; omega)]
  unfold w32
  rw [BitVec.toNat_not]
  have := x.isLt
  omega

theorem rsum_spec {a : Option Addr} {n c : Nat} {l : List UInt8} {h : Heap} (x : Sl h 1 a n c (l.map byteV)) (hn : n ≤ 9223372036854775806) :
    HCalls Try.prog 45 #[.slice a n c] h fun e h' => h' = h ∧ e = .returned (.int .u32 (w32 (~~~(crcL (BitVec.allOnes 32) l)))) := by
  have hl : l.length = n := by simpa using x.1
  refine c45 (by simp) ?_
  ((conv=>whnf);repeat((first|(with_reducible first|refine Z1 ?_|refine Z2 ?_|refine Z3 ?_|refine Z4 ?_|refine Z5 ?_));(conv=>whnf)))
  refine loop_rule [3, 9] (fun vs h' => ∃ (i : Nat) (t : BitVec 32), vs = [.int .u32 (w32 t), .int .i64 i] ∧ i ≤ n ∧ crcL t (l.drop i) = crcL (BitVec.allOnes 32) l ∧ h' = h)
    (fun vs _ => match vs with | [_, .int _ i] => n - i.toNat | _ => 0) rfl ?_ ?_
  · exact ⟨0, BitVec.allOnes 32, rfl, by omega, rfl, rfl⟩
  · intro u h' v0 v9
    rintro ⟨i, t, e, hin, hr, rfl⟩
    cases e
    ((conv=>whnf);repeat((first|(with_reducible first|refine Z1 ?_|refine Z2 ?_|refine Z3 ?_|refine Z4 ?_|refine Z5 ?_));(conv=>whnf)))
    refine HIf.mk (fun hb => ?_) (fun hb => ?_)
    · have hlt : i < l.length := by have := of_decide_eq_true hb; omega
      rw [List.drop_eq_getElem_cons hlt] at hr
      ((conv=>whnf);repeat((first|(with_reducible first|refine Z1 ?_|refine Z2 ?_|refine Z3 ?_|refine Z4 ?_|refine Z5 ?_));(conv=>whnf)))
      refine HIdx.mk i rfl (by omega) ?_
      refine sl_some (i := i) x (by omega) fun p ep => ?_
      ((conv=>whnf);repeat((first|(with_reducible first|refine Z1 ?_|refine Z2 ?_|refine Z3 ?_|refine Z4 ?_|refine Z5 ?_));(conv=>whnf)))
      refine sl_get x ep hlt ?_
      ((conv=>whnf);repeat((first|(with_reducible first|refine Z1 ?_|refine Z2 ?_|refine Z3 ?_|refine Z4 ?_|refine Z5 ?_));(conv=>whnf)))
      refine HInt.mk (w32 (l[i].toBitVec.setWidth 32)) (by rw [byte32]; exact wrap_u32 (w32_bd _)) ?_
      ((conv=>whnf);repeat((first|(with_reducible first|refine Z1 ?_|refine Z2 ?_|refine Z3 ?_|refine Z4 ?_|refine Z5 ?_));(conv=>whnf)))
      rw [xor32]
      refine loop_rule [3, 17] (fun vs h2 => ∃ (j : Nat) (r : BitVec 32), vs = [.int .u32 (w32 r), .int .i64 j] ∧ j ≤ 8 ∧ crcN (8 - j) r = crcB t l[i] ∧ h2 = h')
        (fun vs _ => match vs with | [_, .int _ j] => 8 - j.toNat | _ => 0) rfl ?_ ?_
      · exact ⟨0, _, rfl, by omega, rfl, rfl⟩
      · intro u2 h2 v0 v17
        rintro ⟨j, r, e, hj8, hr2, rfl⟩
        cases e
        ((conv=>whnf);repeat((first|(with_reducible first|refine Z1 ?_|refine Z2 ?_|refine Z3 ?_|refine Z4 ?_|refine Z5 ?_));(conv=>whnf)))
        refine HIf.mk (fun hb2 => ?_) (fun hb2 => ?_)
        · have hlt2 := of_decide_eq_true hb2
          have hbd := w32_bd (r >>> 1)
          ((conv=>whnf);repeat((first|(with_reducible first|refine Z1 ?_|refine Z2 ?_|refine Z3 ?_|refine Z4 ?_|refine Z5 ?_));(conv=>whnf)))
          rw [(rsum_step r).1]
          ((conv=>whnf);repeat((first|(with_reducible first|refine Z1 ?_|refine Z2 ?_|refine Z3 ?_|refine Z4 ?_|refine Z5 ?_));(conv=>whnf)))
          rw [(rsum_step r).2]
          refine HInt.mk (w32 (r >>> 1)) (wrap_u32 (w32_bd _)) ?_
          ((conv=>whnf);repeat((first|(with_reducible first|refine Z1 ?_|refine Z2 ?_|refine Z3 ?_|refine Z4 ?_|refine Z5 ?_));(conv=>whnf)))
          refine HIf.mk (fun hodd => ?_) (fun hodd => ?_)
          · have ho := beq_iff_eq.1 hodd
            ((conv=>whnf);repeat((first|(with_reducible first|refine Z1 ?_|refine Z2 ?_|refine Z3 ?_|refine Z4 ?_|refine Z5 ?_));(conv=>whnf)))
            rw [xorp]
            ((conv=>whnf);repeat((first|(with_reducible first|refine Z1 ?_|refine Z2 ?_|refine Z3 ?_|refine Z4 ?_|refine Z5 ?_));(conv=>whnf)))
            refine ⟨⟨j + 1, crc1 r, by rw [crc1_odd r ho]; rfl, by omega, ?_, rfl⟩, ?_⟩
            · rw [← hr2, show 8 - j = (8 - (j + 1)) + 1 by omega]; rfl
            · show 8 - (((j : Int) + 1)).toNat < 8 - ((j : Int)).toNat
              omega
          · have ho := beq_eq_false_iff_ne.1 hodd
            ((conv=>whnf);repeat((first|(with_reducible first|refine Z1 ?_|refine Z2 ?_|refine Z3 ?_|refine Z4 ?_|refine Z5 ?_));(conv=>whnf)))
            refine ⟨⟨j + 1, crc1 r, by rw [crc1_even r ho]; rfl, by omega, ?_, rfl⟩, ?_⟩
            · rw [← hr2, show 8 - j = (8 - (j + 1)) + 1 by omega]; rfl
            · show 8 - (((j : Int) + 1)).toNat < 8 - ((j : Int)).toNat
              omega
        · have hge2 := of_decide_eq_false hb2
          obtain rfl : j = 8 := by omega
          ((conv=>whnf);repeat((first|(with_reducible first|refine Z1 ?_|refine Z2 ?_|refine Z3 ?_|refine Z4 ?_|refine Z5 ?_));(conv=>whnf)))
          refine ⟨⟨i + 1, r, rfl, by omega, ?_, rfl⟩, ?_⟩
          · rw [← hr]; rw [show r = crcB t l[i] from hr2]; rfl
          · show n - (((i : Int) + 1)).toNat < n - ((i : Int)).toNat
            omega
    · have hge := of_decide_eq_false hb
      ((conv=>whnf);repeat((first|(with_reducible first|refine Z1 ?_|refine Z2 ?_|refine Z3 ?_|refine Z4 ?_|refine Z5 ?_));(conv=>whnf)))
      rw [List.drop_of_length_le (by omega)] at hr
      rw [show t = crcL (BitVec.allOnes 32) l from hr]
      refine HInt.mk _ (sub_not _) ?_
      ((conv=>whnf);repeat((first|(with_reducible first|refine Z1 ?_|refine Z2 ?_|refine Z3 ?_|refine Z4 ?_|refine Z5 ?_));(conv=>whnf)))
      exact ⟨rfl, rfl⟩

end Go.Proofs.Ythagjflkdoafmaa.Hc

namespace Go.Proofs.Ythagjflkdoafmaa.Hc
open Go Go.H Go.Proofs
set_option maxRecDepth 100000

/-- Four bytes of a number. -/
def be32 (m : Nat) : List UInt8 := [UInt8.ofNat (m / 16777216), UInt8.ofNat (m / 65536), UInt8.ofNat (m / 256), UInt8.ofNat m]
def wordN (l : List UInt8) : Nat := ((l.getD 0 0).toNat * 16777216 + (l.getD 1 0).toNat * 65536 + (l.getD 2 0).toNat * 256) + (l.getD 3 0).toNat
theorem wordN_lt (l : List UInt8) : wordN l < 2 ^ 32 := by
  unfold wordN
  have h0 := (l.getD 0 0).toNat_lt; have h1 := (l.getD 1 0).toNat_lt; have h2 := (l.getD 2 0).toNat_lt; have h3 := (l.getD 3 0).toNat_lt
  omega
theorem wordN_be32 (m : Nat) (hm : m < 2 ^ 32) (r : List UInt8) : wordN (be32 m ++ r) = m := by
  unfold wordN be32
  simp
  omega

theorem shrN (m k : Nat) (hk : k ≤ 32) : ((m : Nat) : Int).fdiv (2 ^ (min (Int.toNat (k : Int)) (IntKind.bits .u32))) = ((m / 2 ^ k : Nat) : Int) := by
  have e : min (Int.toNat (k : Int)) (IntKind.bits .u32) = k := by simp [IntKind.bits]; omega
  rw [e, Int.fdiv_eq_ediv_of_nonneg _ (Int.le_of_lt (Int.pow_pos (by omega)))]
  simp
theorem shr24 (m : Nat) : ((m : Nat) : Int).fdiv (2 ^ (min (Int.toNat 24) (IntKind.bits .u32))) = ((m / 16777216 : Nat) : Int) := shrN m 24 (by omega)
theorem shr16 (m : Nat) : ((m : Nat) : Int).fdiv (2 ^ (min (Int.toNat 16) (IntKind.bits .u32))) = ((m / 65536 : Nat) : Int) := shrN m 16 (by omega)
theorem shr8 (m : Nat) : ((m : Nat) : Int).fdiv (2 ^ (min (Int.toNat 8) (IntKind.bits .u32))) = ((m / 256 : Nat) : Int) := shrN m 8 (by omega)
theorem byteV_mod (n : Nat) : Value.int .u8 (((n : Nat) : Int) % 256) = byteV (UInt8.ofNat n) := by rw [byteV_ofNat]; rfl

theorem set4 (cs : List Value) (o : Nat) (a b c d : Value) (h : o + 4 ≤ cs.length) : (((cs.set o a).set (o + 1) b).set (o + 2) c).set (o + 3) d = cs.take o ++ ([a, b, c, d] ++ cs.drop (o + 4)) := by
  apply List.ext_getElem?
  intro i
  simp only [List.getElem?_set, List.getElem?_append, List.length_take, List.length_set, List.length_cons, List.length_nil]
  rw [Nat.min_eq_left (by omega)]
  by_cases h0 : i < o
  · rw [if_pos h0, List.getElem?_take, if_pos h0, if_neg (by omega), if_neg (by omega), if_neg (by omega), if_neg (by omega)]
  · rw [if_neg h0]
    by_cases h1 : i = o
    · subst h1; simp; omega
    · by_cases h2 : i = o + 1
      · subst h2; simp; omega
      · by_cases h3 : i = o + 2
        · subst h3; simp; omega
        · by_cases h4 : i = o + 3
          · subst h4; simp; omega
          · rw [if_neg (by omega), if_neg (by omega), if_neg (by omega), if_neg (by omega), if_neg (by omega), List.getElem?_drop]
            congr 1; omega

theorem put_spec {b o n c : Nat} {cs : List Value} {h : Heap} (m : Nat) (hm : m < 2 ^ 32) (x : BlkW h b 5 cs) (ho : o + 4 ≤ cs.length) (hn : 4 ≤ n) :
    HCalls Try.prog 46 #[.slice (some ⟨b, o, none⟩) n c, .int .u32 m] h fun e h' => e = .returned (.tuple #[]) ∧ Off b h h' ∧ h'.size = h.size ∧
      BlkW h' b 5 (cs.take o ++ ((be32 m).map byteV ++ cs.drop (o + 4))) := by
  refine c46 (by simp) ?_
  ((conv=>whnf);repeat((first|(with_reducible first|refine Z1 ?_|refine Z2 ?_|refine Z3 ?_|refine Z4 ?_|refine Z5 ?_));(conv=>whnf)))
  rw [shr24]
  refine HInt.mk _ wrap_u8' ?_
  ((conv=>whnf);repeat((first|(with_reducible first|refine Z1 ?_|refine Z2 ?_|refine Z3 ?_|refine Z4 ?_|refine Z5 ?_));(conv=>whnf)))
  rw [shr16]
  refine HInt.mk _ wrap_u8' ?_
  ((conv=>whnf);repeat((first|(with_reducible first|refine Z1 ?_|refine Z2 ?_|refine Z3 ?_|refine Z4 ?_|refine Z5 ?_));(conv=>whnf)))
  rw [shr8]
  refine HInt.mk _ wrap_u8' ?_
  ((conv=>whnf);repeat((first|(with_reducible first|refine Z1 ?_|refine Z2 ?_|refine Z3 ?_|refine Z4 ?_|refine Z5 ?_));(conv=>whnf)))
  refine HInt.mk _ wrap_u8' ?_
  ((conv=>whnf);repeat((first|(with_reducible first|refine Z1 ?_|refine Z2 ?_|refine Z3 ?_|refine Z4 ?_|refine Z5 ?_));(conv=>whnf)))
  refine HIdx.mk 0 rfl (by omega) ?_
  refine HSome.mk _ rfl ?_
  ((conv=>whnf);repeat((first|(with_reducible first|refine Z1 ?_|refine Z2 ?_|refine Z3 ?_|refine Z4 ?_|refine Z5 ?_));(conv=>whnf)))
  refine store1_blk (o := o) x (by omega) rfl ?_
  intro h1 f1 z1 x1
  ((conv=>whnf);repeat((first|(with_reducible first|refine Z1 ?_|refine Z2 ?_|refine Z3 ?_|refine Z4 ?_|refine Z5 ?_));(conv=>whnf)))
  refine HIdx.mk 1 rfl (by omega) ?_
  refine HSome.mk _ rfl ?_
  ((conv=>whnf);repeat((first|(with_reducible first|refine Z1 ?_|refine Z2 ?_|refine Z3 ?_|refine Z4 ?_|refine Z5 ?_));(conv=>whnf)))
  refine store1_blk (o := o + 1) x1 (by simp; omega) rfl ?_
  intro h2 f2 z2 x2
  ((conv=>whnf);repeat((first|(with_reducible first|refine Z1 ?_|refine Z2 ?_|refine Z3 ?_|refine Z4 ?_|refine Z5 ?_));(conv=>whnf)))
  refine HIdx.mk 2 rfl (by omega) ?_
  refine HSome.mk _ rfl ?_
  ((conv=>whnf);repeat((first|(with_reducible first|refine Z1 ?_|refine Z2 ?_|refine Z3 ?_|refine Z4 ?_|refine Z5 ?_));(conv=>whnf)))
  refine store1_blk (o := o + 2) x2 (by simp; omega) rfl ?_
  intro h3 f3 z3 x3
  ((conv=>whnf);repeat((first|(with_reducible first|refine Z1 ?_|refine Z2 ?_|refine Z3 ?_|refine Z4 ?_|refine Z5 ?_));(conv=>whnf)))
  refine HIdx.mk 3 rfl (by omega) ?_
  refine HSome.mk _ rfl ?_
  ((conv=>whnf);repeat((first|(with_reducible first|refine Z1 ?_|refine Z2 ?_|refine Z3 ?_|refine Z4 ?_|refine Z5 ?_));(conv=>whnf)))
  refine store1_blk (o := o + 3) x3 (by simp; omega) rfl ?_
  intro h4 f4 z4 x4
  ((conv=>whnf);repeat((first|(with_reducible first|refine Z1 ?_|refine Z2 ?_|refine Z3 ?_|refine Z4 ?_|refine Z5 ?_));(conv=>whnf)))
  refine ⟨rfl, f1.trans (f2.trans (f3.trans f4)), by omega, ?_⟩
  have x5 := x4
  change BlkW h4 b 5 ((((cs.set o (Value.int .u8 (((m / 16777216 : Nat) : Int) % 256))).set (o + 1) (Value.int .u8 (((m / 65536 : Nat) : Int) % 256))).set (o + 2) (Value.int .u8 (((m / 256 : Nat) : Int) % 256))).set (o + 3) (Value.int .u8 ((m : Int) % 256))) at x5
  rw [set4 _ _ _ _ _ _ ho, byteV_mod, byteV_mod, byteV_mod, byteV_mod] at x5
  exact x5

theorem four_spec {h : Heap} (m : Nat) (hm : m < 2 ^ 32) : HCalls Try.prog 44 #[.int .u32 m] h fun e h' => ∃ b, e = .returned (.slice (some ⟨b, 0, none⟩) 4 4) ∧ Own h' h.size 5 1 (some ⟨b, 0, none⟩) 4 4 ((be32 m).map byteV) ∧ Ext h h' := by
  refine c44 (by simp) ?_
  ((conv=>whnf);repeat((first|(with_reducible first|refine Z1 ?_|refine Z2 ?_|refine Z3 ?_|refine Z4 ?_|refine Z5 ?_));(conv=>whnf)))
  rw [shr24]
  refine HInt.mk _ wrap_u8' ?_
  ((conv=>whnf);repeat((first|(with_reducible first|refine Z1 ?_|refine Z2 ?_|refine Z3 ?_|refine Z4 ?_|refine Z5 ?_));(conv=>whnf)))
  rw [shr16]
  refine HInt.mk _ wrap_u8' ?_
  ((conv=>whnf);repeat((first|(with_reducible first|refine Z1 ?_|refine Z2 ?_|refine Z3 ?_|refine Z4 ?_|refine Z5 ?_));(conv=>whnf)))
  rw [shr8]
  refine HInt.mk _ wrap_u8' ?_
  ((conv=>whnf);repeat((first|(with_reducible first|refine Z1 ?_|refine Z2 ?_|refine Z3 ?_|refine Z4 ?_|refine Z5 ?_));(conv=>whnf)))
  refine HInt.mk _ wrap_u8' ?_
  ((conv=>whnf);repeat((first|(with_reducible first|refine Z1 ?_|refine Z2 ?_|refine Z3 ?_|refine Z4 ?_|refine Z5 ?_));(conv=>whnf)))
  refine new_own (e := 5) 1 4 ((be32 m).map byteV) (by simp only [be32, List.map_cons, List.map_nil, ← byteV_mod]) rfl ?_
  intro h1 b1 o1 x1 _ _
  ((conv=>whnf);repeat((first|(with_reducible first|refine Z1 ?_|refine Z2 ?_|refine Z3 ?_|refine Z4 ?_|refine Z5 ?_));(conv=>whnf)))
  exact ⟨b1, rfl, o1, x1⟩

theorem or_u32 {a b : Nat} (ha : a < 2 ^ 32) (hb : b < 2 ^ 32) : ibits .or .u32 (a : Int) (b : Int) = ((a ||| b : Nat) : Int) := by
  have e1 : ((BitVec.ofInt 32 (a : Int)) ||| (BitVec.ofInt 32 (b : Int))).toNat = a ||| b := by
    rw [BitVec.toNat_or, BitVec.ofInt_natCast, BitVec.ofInt_natCast, BitVec.toNat_ofNat, BitVec.toNat_ofNat, Nat.mod_eq_of_lt ha, Nat.mod_eq_of_lt hb]
  show IntKind.u32.wrap (((BitVec.ofInt 32 (a : Int)) ||| (BitVec.ofInt 32 (b : Int))).toNat : Int) = _
  rw [e1]
  have : a ||| b < 2 ^ 32 := Nat.or_lt_two_pow ha hb
  exact wrap_u32 (by omega)
theorem or_add' {a x k : Nat} (ha : a < 2 ^ k) : (x * 2 ^ k) ||| a = x * 2 ^ k + a := by rw [Nat.or_comm, or_add ha, Nat.add_comm]
theorem or_parts (a b c d : Nat) (ha : a < 256) (hb : b < 256) (hc : c < 256) (hd : d < 256) :
    ibits .or .u32 ((a * 16777216 : Nat) : Int) ((b * 65536 : Nat) : Int) = ((a * 16777216 + b * 65536 : Nat) : Int) ∧
    ibits .or .u32 ((a * 16777216 + b * 65536 : Nat) : Int) ((c * 256 : Nat) : Int) = ((a * 16777216 + b * 65536 + c * 256 : Nat) : Int) ∧
    ibits .or .u32 ((a * 16777216 + b * 65536 + c * 256 : Nat) : Int) ((d : Nat) : Int) = ((a * 16777216 + b * 65536 + c * 256 + d : Nat) : Int) := by
  refine ⟨?_, ?_, ?_⟩
  · rw [or_u32 (by omega) (by omega)]
    have := @or_add' (b * 65536) a 24 (by omega)
    rw [show (2 : Nat) ^ 24 = 16777216 from rfl] at this
    rw [this]
  · rw [or_u32 (by omega) (by omega)]
    have := @or_add' (c * 256) (a * 256 + b) 16 (by omega)
    rw [show (2 : Nat) ^ 16 = 65536 from rfl, show (a * 256 + b) * 65536 = a * 16777216 + b * 65536 by omega] at this
    rw [this]
  · rw [or_u32 (by omega) (by omega)]
    have := @or_add' d (a * 65536 + b * 256 + c) 8 (by omega)
    rw [show (2 : Nat) ^ 8 = 256 from rfl, show (a * 65536 + b * 256 + c) * 256 = a * 16777216 + b * 65536 + c * 256 by omega] at this
    rw [this]
theorem shl_u32 (x k : Nat) (hx : x * 2 ^ k < 2 ^ 32) (hk : k ≤ 32) : IntKind.u32.wrap (((x : Nat) : Int) * 2 ^ (min (Int.toNat (k : Int)) (IntKind.bits .u32))) = ((x * 2 ^ k : Nat) : Int) := by
  have e : min (Int.toNat (k : Int)) (IntKind.bits .u32) = k := by simp [IntKind.bits]; omega
  rw [e, show ((x : Nat) : Int) * 2 ^ k = ((x * 2 ^ k : Nat) : Int) by simp]
  exact wrap_u32 (by omega)

end Go.Proofs.Ythagjflkdoafmaa.Hc

namespace Go.Proofs.Ythagjflkdoafmaa.Hc
open Go Go.H Go.Proofs
set_option maxRecDepth 100000

theorem word_spec {a : Option Addr} {n c : Nat} {l : List UInt8} {h : Heap} (x : Sl h 1 a n c (l.map byteV)) (hn : 4 ≤ n) :
    HCalls Try.prog 51 #[.slice a n c] h fun e h' => h' = h ∧ e = .returned (.int .u32 (wordN l)) := by
  have hl : l.length = n := by simpa using x.1
  obtain ⟨b0, b1, b2, b3, r, rfl⟩ : ∃ b0 b1 b2 b3 r, l = b0 :: b1 :: b2 :: b3 :: r := by
    match l, hl with
    | b0 :: b1 :: b2 :: b3 :: r, _ => exact ⟨b0, b1, b2, b3, r, rfl⟩
    | [], h => simp at h; omega
    | [_], h => simp at h; omega
    | [_, _], h => simp at h; omega
    | [_, _, _], h => simp at h; omega
  have g0 := b0.toNat_lt; have g1 := b1.toNat_lt; have g2 := b2.toNat_lt; have g3 := b3.toNat_lt
  have p := or_parts b0.toNat b1.toNat b2.toNat b3.toNat g0 g1 g2 g3
  refine c51 (by simp) ?_
  ((conv=>whnf);repeat((first|(with_reducible first|refine Z1 ?_|refine Z2 ?_|refine Z3 ?_|refine Z4 ?_|refine Z5 ?_));(conv=>whnf)))
  refine HIdx.mk 0 rfl (by omega) ?_
  refine sl_some (i := 0) x (by omega) fun p0 ep => ?_
  ((conv=>whnf);repeat((first|(with_reducible first|refine Z1 ?_|refine Z2 ?_|refine Z3 ?_|refine Z4 ?_|refine Z5 ?_));(conv=>whnf)))
  refine sl_get (i := 0) x ep (by simp) ?_
  ((conv=>whnf);repeat((first|(with_reducible first|refine Z1 ?_|refine Z2 ?_|refine Z3 ?_|refine Z4 ?_|refine Z5 ?_));(conv=>whnf)))
  refine HInt.mk ((b0.toNat : Nat) : Int) (wrap_u32 (n := ((b0.toNat : Nat) : Int)) (by omega)) ?_
  ((conv=>whnf);repeat((first|(with_reducible first|refine Z1 ?_|refine Z2 ?_|refine Z3 ?_|refine Z4 ?_|refine Z5 ?_));(conv=>whnf)))
  refine HInt.mk ((b0.toNat * 16777216 : Nat) : Int) (shl_u32 b0.toNat 24 (by omega) (by omega)) ?_
  ((conv=>whnf);repeat((first|(with_reducible first|refine Z1 ?_|refine Z2 ?_|refine Z3 ?_|refine Z4 ?_|refine Z5 ?_));(conv=>whnf)))
  refine HIdx.mk 1 rfl (by omega) ?_
  refine HSome.mk _ ep ?_
  ((conv=>whnf);repeat((first|(with_reducible first|refine Z1 ?_|refine Z2 ?_|refine Z3 ?_|refine Z4 ?_|refine Z5 ?_));(conv=>whnf)))
  refine sl_get (i := 1) x ep (by simp) ?_
  ((conv=>whnf);repeat((first|(with_reducible first|refine Z1 ?_|refine Z2 ?_|refine Z3 ?_|refine Z4 ?_|refine Z5 ?_));(conv=>whnf)))
  refine HInt.mk ((b1.toNat : Nat) : Int) (wrap_u32 (n := ((b1.toNat : Nat) : Int)) (by omega)) ?_
  ((conv=>whnf);repeat((first|(with_reducible first|refine Z1 ?_|refine Z2 ?_|refine Z3 ?_|refine Z4 ?_|refine Z5 ?_));(conv=>whnf)))
  refine HInt.mk ((b1.toNat * 65536 : Nat) : Int) (shl_u32 b1.toNat 16 (by omega) (by omega)) ?_
  ((conv=>whnf);repeat((first|(with_reducible first|refine Z1 ?_|refine Z2 ?_|refine Z3 ?_|refine Z4 ?_|refine Z5 ?_));(conv=>whnf)))
  rw [p.1]
  refine HIdx.mk 2 rfl (by omega) ?_
  refine HSome.mk _ ep ?_
  ((conv=>whnf);repeat((first|(with_reducible first|refine Z1 ?_|refine Z2 ?_|refine Z3 ?_|refine Z4 ?_|refine Z5 ?_));(conv=>whnf)))
  refine sl_get (i := 2) x ep (by simp) ?_
  ((conv=>whnf);repeat((first|(with_reducible first|refine Z1 ?_|refine Z2 ?_|refine Z3 ?_|refine Z4 ?_|refine Z5 ?_));(conv=>whnf)))
  refine HInt.mk ((b2.toNat : Nat) : Int) (wrap_u32 (n := ((b2.toNat : Nat) : Int)) (by omega)) ?_
  ((conv=>whnf);repeat((first|(with_reducible first|refine Z1 ?_|refine Z2 ?_|refine Z3 ?_|refine Z4 ?_|refine Z5 ?_));(conv=>whnf)))
  refine HInt.mk ((b2.toNat * 256 : Nat) : Int) (shl_u32 b2.toNat 8 (by omega) (by omega)) ?_
  ((conv=>whnf);repeat((first|(with_reducible first|refine Z1 ?_|refine Z2 ?_|refine Z3 ?_|refine Z4 ?_|refine Z5 ?_));(conv=>whnf)))
  rw [p.2.1]
  refine HIdx.mk 3 rfl (by omega) ?_
  refine HSome.mk _ ep ?_
  ((conv=>whnf);repeat((first|(with_reducible first|refine Z1 ?_|refine Z2 ?_|refine Z3 ?_|refine Z4 ?_|refine Z5 ?_));(conv=>whnf)))
  refine sl_get (i := 3) x ep (by simp) ?_
  ((conv=>whnf);repeat((first|(with_reducible first|refine Z1 ?_|refine Z2 ?_|refine Z3 ?_|refine Z4 ?_|refine Z5 ?_));(conv=>whnf)))
  refine HInt.mk ((b3.toNat : Nat) : Int) (wrap_u32 (n := ((b3.toNat : Nat) : Int)) (by omega)) ?_
  ((conv=>whnf);repeat((first|(with_reducible first|refine Z1 ?_|refine Z2 ?_|refine Z3 ?_|refine Z4 ?_|refine Z5 ?_));(conv=>whnf)))
  rw [p.2.2]
  exact ⟨rfl, rfl⟩

theorem rword_spec {a : Option Addr} {n c : Nat} {l : List UInt8} {h : Heap} (x : Sl h 1 a n c (l.map byteV)) (hn : 4 ≤ n) :
    HCalls Try.prog 56 #[.slice a n c] h fun e h' => h' = h ∧ e = .returned (.int .u32 (wordN l)) := by
  have hl : l.length = n := by simpa using x.1
  obtain ⟨b0, b1, b2, b3, r, rfl⟩ : ∃ b0 b1 b2 b3 r, l = b0 :: b1 :: b2 :: b3 :: r := by
    match l, hl with
    | b0 :: b1 :: b2 :: b3 :: r, _ => exact ⟨b0, b1, b2, b3, r, rfl⟩
    | [], h => simp at h; omega
    | [_], h => simp at h; omega
    | [_, _], h => simp at h; omega
    | [_, _, _], h => simp at h; omega
  have g0 := b0.toNat_lt; have g1 := b1.toNat_lt; have g2 := b2.toNat_lt; have g3 := b3.toNat_lt
  have p := or_parts b0.toNat b1.toNat b2.toNat b3.toNat g0 g1 g2 g3
  refine c56 (by simp) ?_
  ((conv=>whnf);repeat((first|(with_reducible first|refine Z1 ?_|refine Z2 ?_|refine Z3 ?_|refine Z4 ?_|refine Z5 ?_));(conv=>whnf)))
  refine HIdx.mk 0 rfl (by omega) ?_
  refine sl_some (i := 0) x (by omega) fun p0 ep => ?_
  ((conv=>whnf);repeat((first|(with_reducible first|refine Z1 ?_|refine Z2 ?_|refine Z3 ?_|refine Z4 ?_|refine Z5 ?_));(conv=>whnf)))
  refine sl_get (i := 0) x ep (by simp) ?_
  ((conv=>whnf);repeat((first|(with_reducible first|refine Z1 ?_|refine Z2 ?_|refine Z3 ?_|refine Z4 ?_|refine Z5 ?_));(conv=>whnf)))
  refine HInt.mk ((b0.toNat : Nat) : Int) (wrap_u32 (n := ((b0.toNat : Nat) : Int)) (by omega)) ?_
  ((conv=>whnf);repeat((first|(with_reducible first|refine Z1 ?_|refine Z2 ?_|refine Z3 ?_|refine Z4 ?_|refine Z5 ?_));(conv=>whnf)))
  refine HInt.mk ((b0.toNat * 16777216 : Nat) : Int) (shl_u32 b0.toNat 24 (by omega) (by omega)) ?_
  ((conv=>whnf);repeat((first|(with_reducible first|refine Z1 ?_|refine Z2 ?_|refine Z3 ?_|refine Z4 ?_|refine Z5 ?_));(conv=>whnf)))
  refine HIdx.mk 1 rfl (by omega) ?_
  refine HSome.mk _ ep ?_
  ((conv=>whnf);repeat((first|(with_reducible first|refine Z1 ?_|refine Z2 ?_|refine Z3 ?_|refine Z4 ?_|refine Z5 ?_));(conv=>whnf)))
  refine sl_get (i := 1) x ep (by simp) ?_
  ((conv=>whnf);repeat((first|(with_reducible first|refine Z1 ?_|refine Z2 ?_|refine Z3 ?_|refine Z4 ?_|refine Z5 ?_));(conv=>whnf)))
  refine HInt.mk ((b1.toNat : Nat) : Int) (wrap_u32 (n := ((b1.toNat : Nat) : Int)) (by omega)) ?_
  ((conv=>whnf);repeat((first|(with_reducible first|refine Z1 ?_|refine Z2 ?_|refine Z3 ?_|refine Z4 ?_|refine Z5 ?_));(conv=>whnf)))
  refine HInt.mk ((b1.toNat * 65536 : Nat) : Int) (shl_u32 b1.toNat 16 (by omega) (by omega)) ?_
  ((conv=>whnf);repeat((first|(with_reducible first|refine Z1 ?_|refine Z2 ?_|refine Z3 ?_|refine Z4 ?_|refine Z5 ?_));(conv=>whnf)))
  rw [p.1]
  refine HIdx.mk 2 rfl (by omega) ?_
  refine HSome.mk _ ep ?_
  ((conv=>whnf);repeat((first|(with_reducible first|refine Z1 ?_|refine Z2 ?_|refine Z3 ?_|refine Z4 ?_|refine Z5 ?_));(conv=>whnf)))
  refine sl_get (i := 2) x ep (by simp) ?_
  ((conv=>whnf);repeat((first|(with_reducible first|refine Z1 ?_|refine Z2 ?_|refine Z3 ?_|refine Z4 ?_|refine Z5 ?_));(conv=>whnf)))
  refine HInt.mk ((b2.toNat : Nat) : Int) (wrap_u32 (n := ((b2.toNat : Nat) : Int)) (by omega)) ?_
  ((conv=>whnf);repeat((first|(with_reducible first|refine Z1 ?_|refine Z2 ?_|refine Z3 ?_|refine Z4 ?_|refine Z5 ?_));(conv=>whnf)))
  refine HInt.mk ((b2.toNat * 256 : Nat) : Int) (shl_u32 b2.toNat 8 (by omega) (by omega)) ?_
  ((conv=>whnf);repeat((first|(with_reducible first|refine Z1 ?_|refine Z2 ?_|refine Z3 ?_|refine Z4 ?_|refine Z5 ?_));(conv=>whnf)))
  rw [p.2.1]
  refine HIdx.mk 3 rfl (by omega) ?_
  refine HSome.mk _ ep ?_
  ((conv=>whnf);repeat((first|(with_reducible first|refine Z1 ?_|refine Z2 ?_|refine Z3 ?_|refine Z4 ?_|refine Z5 ?_));(conv=>whnf)))
  refine sl_get (i := 3) x ep (by simp) ?_
  ((conv=>whnf);repeat((first|(with_reducible first|refine Z1 ?_|refine Z2 ?_|refine Z3 ?_|refine Z4 ?_|refine Z5 ?_));(conv=>whnf)))
  refine HInt.mk ((b3.toNat : Nat) : Int) (wrap_u32 (n := ((b3.toNat : Nat) : Int)) (by omega)) ?_
  ((conv=>whnf);repeat((first|(with_reducible first|refine Z1 ?_|refine Z2 ?_|refine Z3 ?_|refine Z4 ?_|refine Z5 ?_));(conv=>whnf)))
  rw [p.2.2]
  exact ⟨rfl, rfl⟩

end Go.Proofs.Ythagjflkdoafmaa.Hc
