import Derived.Test.YtgmlbaikeepniaaO6
set_option linter.unusedVariables false
set_option linter.unusedSimpArgs false
namespace Go.Proofs.Ytgmlbaikeepniaa.Hc
open Go Go.H Go.Proofs
set_option maxRecDepth 100000

/-! ### Words of 32 bits -/
def w32 (x : BitVec 32) : Int := (x.toNat : Int)
theorem w32_bd (x : BitVec 32) : 0 ≤ w32 x ∧ w32 x ≤ 4294967295 := by unfold w32; have := x.isLt; omega
theorem ofInt_w32 (x : BitVec 32) : BitVec.ofInt 32 (w32 x) = x := by unfold w32; rw [BitVec.ofInt_natCast, BitVec.ofNat_toNat]; simp
theorem xor32 (x y : BitVec 32) : ibits .xor .u32 (w32 x) (w32 y) = w32 (x ^^^ y) := by
  show IntKind.u32.wrap ((BitVec.ofInt 32 (w32 x) ^^^ BitVec.ofInt 32 (w32 y)).toNat : Int) = _
  rw [ofInt_w32, ofInt_w32]; exact wrap_u32 (w32_bd _)
theorem and32 (x y : BitVec 32) : ibits .and .u32 (w32 x) (w32 y) = w32 (x &&& y) := by
  show IntKind.u32.wrap ((BitVec.ofInt 32 (w32 x) &&& BitVec.ofInt 32 (w32 y)).toNat : Int) = _
  rw [ofInt_w32, ofInt_w32]; exact wrap_u32 (w32_bd _)
theorem or32 (x y : BitVec 32) : ibits .or .u32 (w32 x) (w32 y) = w32 (x ||| y) := by
  show IntKind.u32.wrap ((BitVec.ofInt 32 (w32 x) ||| BitVec.ofInt 32 (w32 y)).toNat : Int) = _
  rw [ofInt_w32, ofInt_w32]; exact wrap_u32 (w32_bd _)
theorem wrap32_ofInt (n : Int) : IntKind.u32.wrap n = w32 (BitVec.ofInt 32 n) := by
  rw [wrap_u32']; unfold w32; rw [BitVec.toNat_ofInt]; omega
theorem neg32 (x : BitVec 32) : IntKind.u32.wrap (0 - w32 x) = w32 (-x) := by
  rw [wrap32_ofInt]; congr 1
  rw [Int.zero_sub, BitVec.ofInt_neg, ofInt_w32]
theorem not32 (x : BitVec 32) : ibits .xor .u32 (if IntKind.u32.signed then -1 else IntKind.u32.max) (w32 x) = w32 (~~~x) := by
  rw [show (if IntKind.u32.signed then -1 else IntKind.u32.max) = w32 (BitVec.allOnes 32) from rfl, xor32, BitVec.allOnes_xor]
theorem shr32 (x : BitVec 32) (k : Nat) (hk : k ≤ 32) : (w32 x).fdiv (2 ^ (min (Int.toNat (k : Int)) (IntKind.bits .u32))) = w32 (x >>> k) := by
  have e : min (Int.toNat (k : Int)) (IntKind.bits .u32) = k := by simp [IntKind.bits]; omega
  rw [e]; unfold w32
  rw [Int.fdiv_eq_ediv_of_nonneg _ (Int.le_of_lt (Int.pow_pos (by omega))), BitVec.toNat_ushiftRight, Nat.shiftRight_eq_div_pow]
  simp
theorem byte32 (c : UInt8) : (c.toNat : Int) = w32 (c.toBitVec.setWidth 32) := by
  unfold w32; rw [BitVec.toNat_setWidth]; simp

theorem shr1 (x : BitVec 32) : (w32 x).fdiv (2 ^ (min (Int.toNat 1) (IntKind.bits .u32))) = w32 (x >>> 1) := shr32 x 1 (by omega)
theorem and1 (x : BitVec 32) : ibits .and .u32 (w32 x) 1 = w32 (x &&& 1#32) := and32 x 1#32
theorem andp (x : BitVec 32) : ibits .and .u32 3988292384 (w32 x) = w32 (0xedb88320#32 &&& x) := and32 0xedb88320#32 x

/-- One bit's step of the sum. -/
def crc1 (x : BitVec 32) : BitVec 32 := (x >>> 1) ^^^ (0xedb88320#32 &&& -(x &&& 1#32))
def crcN : Nat → BitVec 32 → BitVec 32
  | 0, x => x
  | n + 1, x => crcN n (crc1 x)
def crcB (x : BitVec 32) (c : UInt8) : BitVec 32 := crcN 8 (x ^^^ c.toBitVec.setWidth 32)
def crcL (x : BitVec 32) (l : List UInt8) : BitVec 32 := l.foldl crcB x

theorem sum_spec {a : Option Addr} {n c : Nat} {l : List UInt8} {h : Heap} (s : BitVec 32) (x : Sl h 1 a n c (l.map byteV)) (hn : n ≤ 9223372036854775806) :
    HCalls Try.prog 28 #[.int .u32 (w32 s), .slice a n c] h fun e h' => h' = h ∧ e = .returned (.int .u32 (w32 (crcL s l))) := by
  have hl : l.length = n := by simpa using x.1
  refine c28 (by simp) ?_
  ((conv => whnf); (repeat (first | ((with_reducible refine HSeq.go ?_); conv => whnf) | ((with_reducible refine HMust.mk (by decide) ?_); conv => whnf) | ((with_reducible refine HIf.yes (by first | rfl | assumption | decide) ?_); conv => whnf) | ((with_reducible refine HIf.no (by first | rfl | assumption | decide) ?_); conv => whnf) | ((with_reducible refine HInt.mk _ (wrap_i64 (by omega)) ?_); conv => whnf))))
  refine loop_rule [0, 9] (fun vs h' => ∃ (i : Nat) (t : BitVec 32), vs = [.int .u32 (w32 t), .int .i64 i] ∧ i ≤ n ∧ crcL t (l.drop i) = crcL s l ∧ h' = h)
    (fun vs _ => match vs with | [_, .int _ i] => n - i.toNat | _ => 0) rfl ?_ ?_
  · exact ⟨0, s, rfl, by omega, rfl, rfl⟩
  · intro u h' v0 v9
    rintro ⟨i, t, e, hin, hr, rfl⟩
    cases e
    ((conv => whnf); (repeat (first | ((with_reducible refine HSeq.go ?_); conv => whnf) | ((with_reducible refine HMust.mk (by decide) ?_); conv => whnf) | ((with_reducible refine HIf.yes (by first | rfl | assumption | decide) ?_); conv => whnf) | ((with_reducible refine HIf.no (by first | rfl | assumption | decide) ?_); conv => whnf) | ((with_reducible refine HInt.mk _ (wrap_i64 (by omega)) ?_); conv => whnf))))
    refine HIf.mk (fun hb => ?_) (fun hb => ?_)
    · have hlt : i < l.length := by have := of_decide_eq_true hb; omega
      rw [List.drop_eq_getElem_cons hlt] at hr
      ((conv => whnf); (repeat (first | ((with_reducible refine HSeq.go ?_); conv => whnf) | ((with_reducible refine HMust.mk (by decide) ?_); conv => whnf) | ((with_reducible refine HIf.yes (by first | rfl | assumption | decide) ?_); conv => whnf) | ((with_reducible refine HIf.no (by first | rfl | assumption | decide) ?_); conv => whnf) | ((with_reducible refine HInt.mk _ (wrap_i64 (by omega)) ?_); conv => whnf))))
      refine HIdx.mk i rfl (by omega) ?_
      refine sl_some (i := i) x (by omega) fun p ep => ?_
      ((conv => whnf); (repeat (first | ((with_reducible refine HSeq.go ?_); conv => whnf) | ((with_reducible refine HMust.mk (by decide) ?_); conv => whnf) | ((with_reducible refine HIf.yes (by first | rfl | assumption | decide) ?_); conv => whnf) | ((with_reducible refine HIf.no (by first | rfl | assumption | decide) ?_); conv => whnf) | ((with_reducible refine HInt.mk _ (wrap_i64 (by omega)) ?_); conv => whnf))))
      refine sl_get x ep hlt ?_
      ((conv => whnf); (repeat (first | ((with_reducible refine HSeq.go ?_); conv => whnf) | ((with_reducible refine HMust.mk (by decide) ?_); conv => whnf) | ((with_reducible refine HIf.yes (by first | rfl | assumption | decide) ?_); conv => whnf) | ((with_reducible refine HIf.no (by first | rfl | assumption | decide) ?_); conv => whnf) | ((with_reducible refine HInt.mk _ (wrap_i64 (by omega)) ?_); conv => whnf))))
      refine HInt.mk (w32 (l[i].toBitVec.setWidth 32)) (by rw [byte32]; exact wrap_u32 (w32_bd _)) ?_
      ((conv => whnf); (repeat (first | ((with_reducible refine HSeq.go ?_); conv => whnf) | ((with_reducible refine HMust.mk (by decide) ?_); conv => whnf) | ((with_reducible refine HIf.yes (by first | rfl | assumption | decide) ?_); conv => whnf) | ((with_reducible refine HIf.no (by first | rfl | assumption | decide) ?_); conv => whnf) | ((with_reducible refine HInt.mk _ (wrap_i64 (by omega)) ?_); conv => whnf))))
      rw [xor32]
      (repeat (first | ((with_reducible refine HSeq.go ?_); conv => whnf) | ((with_reducible refine HMust.mk (by decide) ?_); conv => whnf) | ((with_reducible refine HIf.yes (by first | rfl | assumption | decide) ?_); conv => whnf) | ((with_reducible refine HIf.no (by first | rfl | assumption | decide) ?_); conv => whnf) | ((with_reducible refine HInt.mk _ (wrap_i64 (by omega)) ?_); conv => whnf)))
      refine loop_rule [0, 17] (fun vs h2 => ∃ (j : Nat) (r : BitVec 32), vs = [.int .u32 (w32 r), .int .i64 j] ∧ j ≤ 8 ∧ crcN (8 - j) r = crcB t l[i] ∧ h2 = h')
        (fun vs _ => match vs with | [_, .int _ j] => 8 - j.toNat | _ => 0) rfl ?_ ?_
      · exact ⟨0, _, rfl, by omega, rfl, rfl⟩
      · intro u2 h2 v0 v17
        rintro ⟨j, r, e, hj8, hr2, rfl⟩
        cases e
        ((conv => whnf); (repeat (first | ((with_reducible refine HSeq.go ?_); conv => whnf) | ((with_reducible refine HMust.mk (by decide) ?_); conv => whnf) | ((with_reducible refine HIf.yes (by first | rfl | assumption | decide) ?_); conv => whnf) | ((with_reducible refine HIf.no (by first | rfl | assumption | decide) ?_); conv => whnf) | ((with_reducible refine HInt.mk _ (wrap_i64 (by omega)) ?_); conv => whnf))))
        refine HIf.mk (fun hb2 => ?_) (fun hb2 => ?_)
        · have hlt2 := of_decide_eq_true hb2
          ((conv => whnf); (repeat (first | ((with_reducible refine HSeq.go ?_); conv => whnf) | ((with_reducible refine HMust.mk (by decide) ?_); conv => whnf) | ((with_reducible refine HIf.yes (by first | rfl | assumption | decide) ?_); conv => whnf) | ((with_reducible refine HIf.no (by first | rfl | assumption | decide) ?_); conv => whnf) | ((with_reducible refine HInt.mk _ (wrap_i64 (by omega)) ?_); conv => whnf))))
          rw [shr1, and1]
          refine HInt.mk _ (neg32 _) ?_
          ((conv => whnf); (repeat (first | ((with_reducible refine HSeq.go ?_); conv => whnf) | ((with_reducible refine HMust.mk (by decide) ?_); conv => whnf) | ((with_reducible refine HIf.yes (by first | rfl | assumption | decide) ?_); conv => whnf) | ((with_reducible refine HIf.no (by first | rfl | assumption | decide) ?_); conv => whnf) | ((with_reducible refine HInt.mk _ (wrap_i64 (by omega)) ?_); conv => whnf))))
          rw [andp, xor32]
          (repeat (first | ((with_reducible refine HSeq.go ?_); conv => whnf) | ((with_reducible refine HMust.mk (by decide) ?_); conv => whnf) | ((with_reducible refine HIf.yes (by first | rfl | assumption | decide) ?_); conv => whnf) | ((with_reducible refine HIf.no (by first | rfl | assumption | decide) ?_); conv => whnf) | ((with_reducible refine HInt.mk _ (wrap_i64 (by omega)) ?_); conv => whnf)))
          refine ⟨⟨j + 1, crc1 r, rfl, by omega, ?_, rfl⟩, ?_⟩
          · rw [← hr2, show 8 - j = (8 - (j + 1)) + 1 by omega]; rfl
          · show 8 - (((j : Int) + 1)).toNat < 8 - ((j : Int)).toNat
            omega
        · have hge2 := of_decide_eq_false hb2
          obtain rfl : j = 8 := by omega
          ((conv => whnf); (repeat (first | ((with_reducible refine HSeq.go ?_); conv => whnf) | ((with_reducible refine HMust.mk (by decide) ?_); conv => whnf) | ((with_reducible refine HIf.yes (by first | rfl | assumption | decide) ?_); conv => whnf) | ((with_reducible refine HIf.no (by first | rfl | assumption | decide) ?_); conv => whnf) | ((with_reducible refine HInt.mk _ (wrap_i64 (by omega)) ?_); conv => whnf))))
          refine ⟨⟨i + 1, r, rfl, by omega, ?_, rfl⟩, ?_⟩
          · rw [← hr]; rw [show r = crcB t l[i] from hr2]; rfl
          · show n - (((i : Int) + 1)).toNat < n - ((i : Int)).toNat
            omega
    · have hge := of_decide_eq_false hb
      ((conv => whnf); (repeat (first | ((with_reducible refine HSeq.go ?_); conv => whnf) | ((with_reducible refine HMust.mk (by decide) ?_); conv => whnf) | ((with_reducible refine HIf.yes (by first | rfl | assumption | decide) ?_); conv => whnf) | ((with_reducible refine HIf.no (by first | rfl | assumption | decide) ?_); conv => whnf) | ((with_reducible refine HInt.mk _ (wrap_i64 (by omega)) ?_); conv => whnf))))
      rw [List.drop_of_length_le (by omega)] at hr
      exact ⟨rfl, by rw [← hr]; rfl⟩

end Go.Proofs.Ytgmlbaikeepniaa.Hc
