import Derived.Test.YtgmlbaikeepniaaOA
set_option linter.unusedVariables false
set_option linter.unusedSimpArgs false
namespace Go.Proofs.Ytgmlbaikeepniaa.Hc
open Go Go.H Go.Proofs
set_option maxRecDepth 100000

theorem crcL_append (s : BitVec 32) (a b : List UInt8) : crcL (crcL s a) b = crcL s (a ++ b) := by unfold crcL; rw [List.foldl_append]
/-- The sum of some bytes. -/
def crc (l : List UInt8) : Nat := (~~~(crcL (BitVec.allOnes 32) l)).toNat
theorem crc_lt (l : List UInt8) : crc l < 2 ^ 32 := BitVec.isLt _
theorem w32_crc (l : List UInt8) : w32 (~~~(crcL (BitVec.allOnes 32) l)) = ((crc l : Nat) : Int) := rfl
def head4 (l : List UInt8) : List UInt8 := be32 (l.length % 4294967296)
def frameL (l : List UInt8) : List UInt8 := head4 l ++ (be32 (crc (head4 l ++ l)) ++ l)
theorem be32_len (m : Nat) : (be32 m).length = 4 := rfl
theorem head4_len (l : List UInt8) : (head4 l).length = 4 := rfl
theorem frameL_len (l : List UInt8) : (frameL l).length = 8 + l.length := by simp [frameL, head4_len, be32_len]; omega

theorem frame_spec {a : Option Addr} {n c : Nat} {l : List UInt8} {h : Heap} (x : Sl h 1 a n c (l.map byteV)) (hn : n ≤ 140737488355000) :
    HCalls Try.prog 21 #[.slice a n c] h fun e h' => ∃ b, e = .returned (.slice (some ⟨b, 0, none⟩) (8 + n) (8 + n)) ∧ h.size ≤ b ∧ BlkW h' b 5 ((frameL l).map byteV) ∧ Ext h h' := by
  have hl : l.length = n := by simpa using x.1
  refine c21 (by simp) ?_
  ((conv => whnf); (repeat (first | ((with_reducible refine HSeq.go ?_); conv => whnf) | ((with_reducible refine HMust.mk (by decide) ?_); conv => whnf) | ((with_reducible refine HIf.yes (by first | rfl | assumption | decide) ?_); conv => whnf) | ((with_reducible refine HIf.no (by first | rfl | assumption | decide) ?_); conv => whnf) | ((with_reducible refine HInt.mk _ (wrap_i64 (by omega)) ?_); conv => whnf))))
  refine HBound.mk (8 + n) (by omega) (by omega) ?_
  refine HBound.mk (8 + n) (by omega) (by omega) ?_
  refine HMust.mk ⟨Nat.le_refl _, by omega⟩ ?_
  refine new_var (e := 5) (List.replicate (8 + n) (.int .u8 0)) (by rw [← zeroCells_one]) ?_
  intro h1 b y1 x1 z1 hb
  ((conv => whnf); (repeat (first | ((with_reducible refine HSeq.go ?_); conv => whnf) | ((with_reducible refine HMust.mk (by decide) ?_); conv => whnf) | ((with_reducible refine HIf.yes (by first | rfl | assumption | decide) ?_); conv => whnf) | ((with_reducible refine HIf.no (by first | rfl | assumption | decide) ?_); conv => whnf) | ((with_reducible refine HInt.mk _ (wrap_i64 (by omega)) ?_); conv => whnf))))
  refine HInt.mk ((n % 4294967296 : Nat) : Int) (by rw [wrap_u32']; rfl) ?_
  ((conv => whnf); (repeat (first | ((with_reducible refine HSeq.go ?_); conv => whnf) | ((with_reducible refine HMust.mk (by decide) ?_); conv => whnf) | ((with_reducible refine HIf.yes (by first | rfl | assumption | decide) ?_); conv => whnf) | ((with_reducible refine HIf.no (by first | rfl | assumption | decide) ?_); conv => whnf) | ((with_reducible refine HInt.mk _ (wrap_i64 (by omega)) ?_); conv => whnf))))
  refine HCall.mk ((put_spec (o := 0) (n := 8 + n) (n % 4294967296) (by omega) y1 (by simp; omega) (by omega)).mono ?_)
  rintro e h2 ⟨rfl, f2, z2, y2⟩
  have y2' : BlkW h2 b 5 ((head4 l).map byteV ++ List.replicate (4 + n) (.int .u8 0)) := by
    have : (8 + n) - 4 = 4 + n := by omega
    simpa [head4, hl, this] using y2
  have x2 := x1.offNew f2 (by omega)
  ((conv => whnf); (repeat (first | ((with_reducible refine HSeq.go ?_); conv => whnf) | ((with_reducible refine HMust.mk (by decide) ?_); conv => whnf) | ((with_reducible refine HIf.yes (by first | rfl | assumption | decide) ?_); conv => whnf) | ((with_reducible refine HIf.no (by first | rfl | assumption | decide) ?_); conv => whnf) | ((with_reducible refine HInt.mk _ (wrap_i64 (by omega)) ?_); conv => whnf))))
  refine HBound.mk 8 rfl (by omega) ?_
  ((conv => whnf); (repeat (first | ((with_reducible refine HSeq.go ?_); conv => whnf) | ((with_reducible refine HMust.mk (by decide) ?_); conv => whnf) | ((with_reducible refine HIf.yes (by first | rfl | assumption | decide) ?_); conv => whnf) | ((with_reducible refine HIf.no (by first | rfl | assumption | decide) ?_); conv => whnf) | ((with_reducible refine HInt.mk _ (wrap_i64 (by omega)) ?_); conv => whnf))))
  have em : Nat.min n (8 + n - 8) = n := by rw [show 8 + n - 8 = n by omega]; exact Nat.min_self n
  rw [em]
  refine (x.ext x2).cells ?_
  refine HStoreO.mk _ rfl ?_
  refine store_moved y2' (by simp [head4_len]; omega) (by simp; omega) bytesV_one ?_
  intro h3 f3 z3 y3
  have y3' : BlkW h3 b 5 ((head4 l).map byteV ++ (List.replicate 4 (Value.int .u8 0) ++ l.map byteV)) := by
    have e1 : ((head4 l).map byteV ++ List.replicate (4 + n) (Value.int .u8 0)).take 8 = (head4 l).map byteV ++ List.replicate 4 (.int .u8 0) := by
      rw [List.take_append, List.take_of_length_le (by simp [head4_len]), List.length_map, head4_len, List.take_replicate, Nat.min_eq_left (by omega)]
    have e2 : ((head4 l).map byteV ++ List.replicate (4 + n) (Value.int .u8 0)).drop (8 + (l.map byteV).length) = [] := by
      apply List.drop_of_length_le; simp [head4_len]; omega
    rw [e1, e2] at y3
    simpa using y3
  have x3 := x2.offNew f3 (by omega)
  ((conv => whnf); (repeat (first | ((with_reducible refine HSeq.go ?_); conv => whnf) | ((with_reducible refine HMust.mk (by decide) ?_); conv => whnf) | ((with_reducible refine HIf.yes (by first | rfl | assumption | decide) ?_); conv => whnf) | ((with_reducible refine HIf.no (by first | rfl | assumption | decide) ?_); conv => whnf) | ((with_reducible refine HInt.mk _ (wrap_i64 (by omega)) ?_); conv => whnf))))
  refine HBound.mk 4 rfl (by omega) ?_
  ((conv => whnf); (repeat (first | ((with_reducible refine HSeq.go ?_); conv => whnf) | ((with_reducible refine HMust.mk (by decide) ?_); conv => whnf) | ((with_reducible refine HIf.yes (by first | rfl | assumption | decide) ?_); conv => whnf) | ((with_reducible refine HIf.no (by first | rfl | assumption | decide) ?_); conv => whnf) | ((with_reducible refine HInt.mk _ (wrap_i64 (by omega)) ?_); conv => whnf))))
  refine HBound.mk 4 rfl (by omega) ?_
  ((conv => whnf); (repeat (first | ((with_reducible refine HSeq.go ?_); conv => whnf) | ((with_reducible refine HMust.mk (by decide) ?_); conv => whnf) | ((with_reducible refine HIf.yes (by first | rfl | assumption | decide) ?_); conv => whnf) | ((with_reducible refine HIf.no (by first | rfl | assumption | decide) ?_); conv => whnf) | ((with_reducible refine HInt.mk _ (wrap_i64 (by omega)) ?_); conv => whnf))))
  have len3 : ((head4 l).map byteV ++ (List.replicate 4 (Value.int .u8 0) ++ l.map byteV)).length = 8 + n := by simp [head4_len]; omega
  have s1 : Sl h3 1 (some (movedTo ⟨b, 0, none⟩ (8 + n) 0 1)) 4 (8 + n) ((head4 l).map byteV) := by
    have := y3'.sl.slice (i := 0) (j := 4) (by omega) (by omega)
    rw [len3] at this
    have e3 : (((head4 l).map byteV ++ (List.replicate 4 (Value.int .u8 0) ++ l.map byteV)).take (4 * 1)).drop (0 * 1) = (head4 l).map byteV := by
      simp [List.take_append, head4_len, List.take_of_length_le]
    rw [e3] at this
    exact this
  refine HCall.mk ((sum_spec (BitVec.allOnes 32) s1 (by omega)).mono ?_)
  rintro e h' ⟨rfl, rfl⟩
  ((conv => whnf); (repeat (first | ((with_reducible refine HSeq.go ?_); conv => whnf) | ((with_reducible refine HMust.mk (by decide) ?_); conv => whnf) | ((with_reducible refine HIf.yes (by first | rfl | assumption | decide) ?_); conv => whnf) | ((with_reducible refine HIf.no (by first | rfl | assumption | decide) ?_); conv => whnf) | ((with_reducible refine HInt.mk _ (wrap_i64 (by omega)) ?_); conv => whnf))))
  refine HCall.mk ((sum_spec _ (x.ext x3) (by omega)).mono ?_)
  rintro e h' ⟨rfl, rfl⟩
  rw [crcL_append]
  ((conv => whnf); (repeat (first | ((with_reducible refine HSeq.go ?_); conv => whnf) | ((with_reducible refine HMust.mk (by decide) ?_); conv => whnf) | ((with_reducible refine HIf.yes (by first | rfl | assumption | decide) ?_); conv => whnf) | ((with_reducible refine HIf.no (by first | rfl | assumption | decide) ?_); conv => whnf) | ((with_reducible refine HInt.mk _ (wrap_i64 (by omega)) ?_); conv => whnf))))
  rw [not32, w32_crc]
  have em4 : movedTo ⟨b, 0, none⟩ (8 + n) 4 1 = ⟨b, 4, none⟩ := by rw [movedTo_eq (by omega)]
  refine HCall.to #[.slice (some ⟨b, 4, none⟩) (8 + n - 4) (8 + n - 4), .int .u32 ((crc (head4 l ++ l) : Nat) : Int)] (by rw [← em4]; rfl) ?_
  refine (put_spec (o := 4) (n := 8 + n - 4) _ (crc_lt _) y3' (by omega) (by omega)).mono ?_
  rintro e h4 ⟨rfl, f4, z4, y4⟩
  have x4 := x3.offNew f4 (by omega)
  ((conv => whnf); (repeat (first | ((with_reducible refine HSeq.go ?_); conv => whnf) | ((with_reducible refine HMust.mk (by decide) ?_); conv => whnf) | ((with_reducible refine HIf.yes (by first | rfl | assumption | decide) ?_); conv => whnf) | ((with_reducible refine HIf.no (by first | rfl | assumption | decide) ?_); conv => whnf) | ((with_reducible refine HInt.mk _ (wrap_i64 (by omega)) ?_); conv => whnf))))
  refine ⟨b, rfl, by omega, ?_, x4⟩
  have e5 : (((head4 l).map byteV ++ (List.replicate 4 (Value.int .u8 0) ++ l.map byteV)).take 4) = (head4 l).map byteV := by
    simp [List.take_append, head4_len, List.take_of_length_le]
  have e6 : (((head4 l).map byteV ++ (List.replicate 4 (Value.int .u8 0) ++ l.map byteV)).drop (4 + 4)) = l.map byteV := by
    simp [List.drop_append, head4_len]
  rw [e5, e6] at y4
  simpa [frameL] using y4

end Go.Proofs.Ytgmlbaikeepniaa.Hc
