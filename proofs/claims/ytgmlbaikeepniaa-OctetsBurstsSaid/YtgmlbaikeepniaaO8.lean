import Derived.Test.YtgmlbaikeepniaaO7
set_option linter.unusedVariables false
set_option linter.unusedSimpArgs false
namespace Go.Proofs.Ytgmlbaikeepniaa.Hc
open Go Go.H Go.Proofs
set_option maxRecDepth 100000

theorem rsum_step (x : BitVec 32) : (w32 x).tmod 2 = w32 (x &&& 1#32) ∧ (w32 x).tdiv 2 = w32 (x >>> 1) := by
  constructor
  · unfold w32
    rw [BitVec.toNat_and]
    show ((x.toNat % 2 : Nat) : Int) = ((x.toNat &&& 1 : Nat) : Int)
    rw [Nat.and_one_is_mod]
  · unfold w32
    rw [BitVec.toNat_ushiftRight, Nat.shiftRight_eq_div_pow]
    rfl
theorem crc1_odd (x : BitVec 32) (h : w32 (x &&& 1#32) = 1) : crc1 x = (x >>> 1) ^^^ 0xedb88320#32 := by
  have : x &&& 1#32 = 1#32 := by
    apply BitVec.eq_of_toNat_eq
    unfold w32 at h; simp at h ⊢; omega
  unfold crc1; rw [this]; rfl
theorem crc1_even (x : BitVec 32) (h : w32 (x &&& 1#32) ≠ 1) : crc1 x = (x >>> 1) := by
  have : x &&& 1#32 = 0#32 := by
    apply BitVec.eq_of_toNat_eq
    unfold w32 at h
    rw [BitVec.toNat_and] at h ⊢
    rw [show (1#32 : BitVec 32).toNat = 1 from rfl, Nat.and_one_is_mod] at h ⊢
    show x.toNat % 2 = 0
    omega
  unfold crc1; rw [this]; simp
theorem xorp (x : BitVec 32) : ibits .xor .u32 (w32 x) 3988292384 = w32 (x ^^^ 0xedb88320#32) := xor32 x 0xedb88320#32
theorem sub_not (x : BitVec 32) : IntKind.u32.wrap (4294967295 - w32 x) = w32 (~~~x) := by
  rw [wrap_u32 (by have := w32_bd x; omega)]
  unfold w32
  rw [BitVec.toNat_not]
  have := x.isLt
  omega

theorem rsum_spec {a : Option Addr} {n c : Nat} {l : List UInt8} {h : Heap} (x : Sl h 1 a n c (l.map byteV)) (hn : n ≤ 9223372036854775806) :
    HCalls Try.prog 26 #[.slice a n c] h fun e h' => h' = h ∧ e = .returned (.int .u32 (w32 (~~~(crcL (BitVec.allOnes 32) l)))) := by
  have hl : l.length = n := by simpa using x.1
  refine c26 (by simp) ?_
  ((conv => whnf); (repeat (first | ((with_reducible refine HSeq.go ?_); conv => whnf) | ((with_reducible refine HMust.mk (by decide) ?_); conv => whnf) | ((with_reducible refine HIf.yes (by first | rfl | assumption | decide) ?_); conv => whnf) | ((with_reducible refine HIf.no (by first | rfl | assumption | decide) ?_); conv => whnf) | ((with_reducible refine HInt.mk _ (wrap_i64 (by omega)) ?_); conv => whnf))))
  refine loop_rule [3, 9] (fun vs h' => ∃ (i : Nat) (t : BitVec 32), vs = [.int .u32 (w32 t), .int .i64 i] ∧ i ≤ n ∧ crcL t (l.drop i) = crcL (BitVec.allOnes 32) l ∧ h' = h)
    (fun vs _ => match vs with | [_, .int _ i] => n - i.toNat | _ => 0) rfl ?_ ?_
  · exact ⟨0, BitVec.allOnes 32, rfl, by omega, rfl, rfl⟩
  · intro u h' v0 v9
    rintro ⟨i, t, e, hin, hr, rfl⟩
    cases e
    ((conv => whnf); (repeat (first | ((with_reducible refine HSeq.go ?_); conv => whnf) | ((with_reducible refine HMust.mk (by decide) ?_); conv => whnf) | ((with_reducible refine HIf.yes (by first | rfl | assumption | decide) ?_); conv => whnf) | ((with_reducible refine HIf.no (by first | rfl | assumption | decide) ?_); conv => whnf) | ((with_reducible refine HInt.mk _ (wrap_i64 (by omega)) ?_); conv => whnf))))
    refine HIf.mk (fun hb => ?_) (fun hb => ?_)
    · have hlt : i < l.length := by have := of_decide_eq_true hb; omega
      rw [List.drop_eq_getElem_cons hlt] at hr
      ((conv => whnf); (repeat (first | ((with_reducible refine HSeq.go ?_); conv => whnf) | ((with_reducible refine HMust.mk (by decide) ?_); conv => whnf) | ((with_reducible refine HIf.yes (by first | rfl | assumption | decide) ?_); conv => whnf) | ((with_reducible refine HIf.no (by first | rfl | assumption | decide) ?_); conv => whnf) | ((with_reducible refine HInt.mk _ (wrap_i64 (by omega)) ?_); conv => whnf))))
      refine HIdx.mk i rfl (by omega) ?_
      refine sl_some (i := i) x (by omega) fun p ep => ?_
      ((conv => whnf); (repeat (first | ((with_reducible refine HSeq.go ?_); conv => whnf) | ((with_reducible refine HMust.mk (by decide) ?_); conv => whnf) | ((with_reducible refine HIf.yes (by first | rfl | assumption | decide) ?_); conv => whnf) | ((with_reducible refine HIf.no (by first | rfl | assumption | decide) ?_); conv => whnf) | ((with_reducible refine HInt.mk _ (wrap_i64 (by omega)) ?_); conv => whnf))))
      refine sl_get x ep hlt ?_
      ((conv => whnf); (repeat (first | ((with_reducible refine HSeq.go ?_); conv => whnf) | ((with_reducible refine HMust.mk (by decide) ?_); conv => whnf) | ((with_reducible refine HIf.yes (by first | rfl | assumption | decide) ?_); conv => whnf) | ((with_reducible refine HIf.no (by first | rfl | assumption | decide) ?_); conv => whnf) | ((with_reducible refine HInt.mk _ (wrap_i64 (by omega)) ?_); conv => whnf))))
      refine HInt.mk (w32 (l[i].toBitVec.setWidth 32)) (by rw [byte32]; exact wrap_u32 (w32_bd _)) ?_
      ((conv => whnf); (repeat (first | ((with_reducible refine HSeq.go ?_); conv => whnf) | ((with_reducible refine HMust.mk (by decide) ?_); conv => whnf) | ((with_reducible refine HIf.yes (by first | rfl | assumption | decide) ?_); conv => whnf) | ((with_reducible refine HIf.no (by first | rfl | assumption | decide) ?_); conv => whnf) | ((with_reducible refine HInt.mk _ (wrap_i64 (by omega)) ?_); conv => whnf))))
      rw [xor32]
      refine loop_rule [3, 17] (fun vs h2 => ∃ (j : Nat) (r : BitVec 32), vs = [.int .u32 (w32 r), .int .i64 j] ∧ j ≤ 8 ∧ crcN (8 - j) r = crcB t l[i] ∧ h2 = h')
        (fun vs _ => match vs with | [_, .int _ j] => 8 - j.toNat | _ => 0) rfl ?_ ?_
      · exact ⟨0, _, rfl, by omega, rfl, rfl⟩
      · intro u2 h2 v0 v17
        rintro ⟨j, r, e, hj8, hr2, rfl⟩
        cases e
        ((conv => whnf); (repeat (first | ((with_reducible refine HSeq.go ?_); conv => whnf) | ((with_reducible refine HMust.mk (by decide) ?_); conv => whnf) | ((with_reducible refine HIf.yes (by first | rfl | assumption | decide) ?_); conv => whnf) | ((with_reducible refine HIf.no (by first | rfl | assumption | decide) ?_); conv => whnf) | ((with_reducible refine HInt.mk _ (wrap_i64 (by omega)) ?_); conv => whnf))))
        refine HIf.mk (fun hb2 => ?_) (fun hb2 => ?_)
        · have hlt2 := of_decide_eq_true hb2
          have hbd := w32_bd (r >>> 1)
          ((conv => whnf); (repeat (first | ((with_reducible refine HSeq.go ?_); conv => whnf) | ((with_reducible refine HMust.mk (by decide) ?_); conv => whnf) | ((with_reducible refine HIf.yes (by first | rfl | assumption | decide) ?_); conv => whnf) | ((with_reducible refine HIf.no (by first | rfl | assumption | decide) ?_); conv => whnf) | ((with_reducible refine HInt.mk _ (wrap_i64 (by omega)) ?_); conv => whnf))))
          rw [(rsum_step r).1]
          ((conv => whnf); (repeat (first | ((with_reducible refine HSeq.go ?_); conv => whnf) | ((with_reducible refine HMust.mk (by decide) ?_); conv => whnf) | ((with_reducible refine HIf.yes (by first | rfl | assumption | decide) ?_); conv => whnf) | ((with_reducible refine HIf.no (by first | rfl | assumption | decide) ?_); conv => whnf) | ((with_reducible refine HInt.mk _ (wrap_i64 (by omega)) ?_); conv => whnf))))
          rw [(rsum_step r).2]
          refine HInt.mk (w32 (r >>> 1)) (wrap_u32 (w32_bd _)) ?_
          ((conv => whnf); (repeat (first | ((with_reducible refine HSeq.go ?_); conv => whnf) | ((with_reducible refine HMust.mk (by decide) ?_); conv => whnf) | ((with_reducible refine HIf.yes (by first | rfl | assumption | decide) ?_); conv => whnf) | ((with_reducible refine HIf.no (by first | rfl | assumption | decide) ?_); conv => whnf) | ((with_reducible refine HInt.mk _ (wrap_i64 (by omega)) ?_); conv => whnf))))
          refine HIf.mk (fun hodd => ?_) (fun hodd => ?_)
          · have ho := beq_iff_eq.1 hodd
            ((conv => whnf); (repeat (first | ((with_reducible refine HSeq.go ?_); conv => whnf) | ((with_reducible refine HMust.mk (by decide) ?_); conv => whnf) | ((with_reducible refine HIf.yes (by first | rfl | assumption | decide) ?_); conv => whnf) | ((with_reducible refine HIf.no (by first | rfl | assumption | decide) ?_); conv => whnf) | ((with_reducible refine HInt.mk _ (wrap_i64 (by omega)) ?_); conv => whnf))))
            rw [xorp]
            ((conv => whnf); (repeat (first | ((with_reducible refine HSeq.go ?_); conv => whnf) | ((with_reducible refine HMust.mk (by decide) ?_); conv => whnf) | ((with_reducible refine HIf.yes (by first | rfl | assumption | decide) ?_); conv => whnf) | ((with_reducible refine HIf.no (by first | rfl | assumption | decide) ?_); conv => whnf) | ((with_reducible refine HInt.mk _ (wrap_i64 (by omega)) ?_); conv => whnf))))
            refine ⟨⟨j + 1, crc1 r, by rw [crc1_odd r ho]; rfl, by omega, ?_, rfl⟩, ?_⟩
            · rw [← hr2, show 8 - j = (8 - (j + 1)) + 1 by omega]; rfl
            · show 8 - (((j : Int) + 1)).toNat < 8 - ((j : Int)).toNat
              omega
          · have ho := beq_eq_false_iff_ne.1 hodd
            ((conv => whnf); (repeat (first | ((with_reducible refine HSeq.go ?_); conv => whnf) | ((with_reducible refine HMust.mk (by decide) ?_); conv => whnf) | ((with_reducible refine HIf.yes (by first | rfl | assumption | decide) ?_); conv => whnf) | ((with_reducible refine HIf.no (by first | rfl | assumption | decide) ?_); conv => whnf) | ((with_reducible refine HInt.mk _ (wrap_i64 (by omega)) ?_); conv => whnf))))
            refine ⟨⟨j + 1, crc1 r, by rw [crc1_even r ho]; rfl, by omega, ?_, rfl⟩, ?_⟩
            · rw [← hr2, show 8 - j = (8 - (j + 1)) + 1 by omega]; rfl
            · show 8 - (((j : Int) + 1)).toNat < 8 - ((j : Int)).toNat
              omega
        · have hge2 := of_decide_eq_false hb2
          obtain rfl : j = 8 := by omega
          ((conv => whnf); (repeat (first | ((with_reducible refine HSeq.go ?_); conv => whnf) | ((with_reducible refine HMust.mk (by decide) ?_); conv => whnf) | ((with_reducible refine HIf.yes (by first | rfl | assumption | decide) ?_); conv => whnf) | ((with_reducible refine HIf.no (by first | rfl | assumption | decide) ?_); conv => whnf) | ((with_reducible refine HInt.mk _ (wrap_i64 (by omega)) ?_); conv => whnf))))
          refine ⟨⟨i + 1, r, rfl, by omega, ?_, rfl⟩, ?_⟩
          · rw [← hr]; rw [show r = crcB t l[i] from hr2]; rfl
          · show n - (((i : Int) + 1)).toNat < n - ((i : Int)).toNat
            omega
    · have hge := of_decide_eq_false hb
      ((conv => whnf); (repeat (first | ((with_reducible refine HSeq.go ?_); conv => whnf) | ((with_reducible refine HMust.mk (by decide) ?_); conv => whnf) | ((with_reducible refine HIf.yes (by first | rfl | assumption | decide) ?_); conv => whnf) | ((with_reducible refine HIf.no (by first | rfl | assumption | decide) ?_); conv => whnf) | ((with_reducible refine HInt.mk _ (wrap_i64 (by omega)) ?_); conv => whnf))))
      rw [List.drop_of_length_le (by omega)] at hr
      rw [show t = crcL (BitVec.allOnes 32) l from hr]
      refine HInt.mk _ (sub_not _) ?_
      ((conv => whnf); (repeat (first | ((with_reducible refine HSeq.go ?_); conv => whnf) | ((with_reducible refine HMust.mk (by decide) ?_); conv => whnf) | ((with_reducible refine HIf.yes (by first | rfl | assumption | decide) ?_); conv => whnf) | ((with_reducible refine HIf.no (by first | rfl | assumption | decide) ?_); conv => whnf) | ((with_reducible refine HInt.mk _ (wrap_i64 (by omega)) ?_); conv => whnf))))
      exact ⟨rfl, rfl⟩

theorem psum_spec {a : Option Addr} {n c : Nat} {l : List UInt8} {h : Heap} (x : Sl h 1 a n c (l.map byteV)) (hn : n ≤ 9223372036854775806) :
    HCalls Try.prog 25 #[.slice a n c] h fun e h' => h' = h ∧ e = .returned (.int .u32 (w32 (~~~(crcL (BitVec.allOnes 32) l)))) := by
  refine c25 (by simp) ?_
  ((conv => whnf); (repeat (first | ((with_reducible refine HSeq.go ?_); conv => whnf) | ((with_reducible refine HMust.mk (by decide) ?_); conv => whnf) | ((with_reducible refine HIf.yes (by first | rfl | assumption | decide) ?_); conv => whnf) | ((with_reducible refine HIf.no (by first | rfl | assumption | decide) ?_); conv => whnf) | ((with_reducible refine HInt.mk _ (wrap_i64 (by omega)) ?_); conv => whnf))))
  refine HCall.mk ((sum_spec (BitVec.allOnes 32) x hn).mono ?_)
  rintro e h' ⟨rfl, rfl⟩
  ((conv => whnf); (repeat (first | ((with_reducible refine HSeq.go ?_); conv => whnf) | ((with_reducible refine HMust.mk (by decide) ?_); conv => whnf) | ((with_reducible refine HIf.yes (by first | rfl | assumption | decide) ?_); conv => whnf) | ((with_reducible refine HIf.no (by first | rfl | assumption | decide) ?_); conv => whnf) | ((with_reducible refine HInt.mk _ (wrap_i64 (by omega)) ?_); conv => whnf))))
  exact ⟨rfl, by rw [← not32]; rfl⟩

end Go.Proofs.Ytgmlbaikeepniaa.Hc
