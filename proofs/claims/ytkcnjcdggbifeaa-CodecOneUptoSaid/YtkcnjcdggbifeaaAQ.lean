import Derived.Test.YtkcnjcdggbifeaaAP
set_option linter.unusedVariables false
set_option linter.unusedSimpArgs false
namespace Go.Proofs.Ytkcnjcdggbifeaa.Hc
open Go Go.H Go.Proofs
set_option maxRecDepth 100000
set_option maxHeartbeats 4000000

/-- All of some bytes, as a value. -/
def dec (l : List UInt8) : DT × Nat := if (rd 20 l).2.2 ≠ 0 then (zeroT, (rd 20 l).2.2) else if (rd 20 l).2.1 < l.length then (zeroT, 22) else ((rd 20 l).1, 0)
def DPost (h : Heap) (r : DT × Nat) (e : Ending) (h' : Heap) : Prop :=
  ∃ cs : List Value, e = .returned (.tuple #[.agg cs.toArray, .int .i64 r.2]) ∧ RepN h' h.size r.1 cs ∧ Ext h h'

theorem Decode_spec (h : Heap) (a : Option Addr) (c : Nat) (l : List UInt8) (x : Sl h 1 a l.length c (l.map byteV)) (hl : l.length ≤ 17179869184) :
    HCalls Try.prog 15 #[.slice a l.length c] h (DPost h (dec l)) := by
  have hok := rd_ok 20 l
  unfold RdOk at hok
  refine c15 (by simp) ?_
  (conv => whnf)
  refine new_var (e := 25) zeroD rfl ?_
  intro h1 b2 o2 x1 z1 hb2
  ((conv => whnf); (repeat (first | ((with_reducible refine HSeq.go ?_); conv => whnf) | ((with_reducible refine HMust.mk (by decide) ?_); conv => whnf) | ((with_reducible refine HIf.yes (by first | rfl | assumption | decide) ?_); conv => whnf) | ((with_reducible refine HIf.no (by first | rfl | assumption | decide) ?_); conv => whnf) | ((with_reducible refine HInt.mk _ (wrap_i64 (by omega)) ?_); conv => whnf) | ((refine HMust.mk (by rfl) ?_); conv => whnf) | ((with_reducible refine blk_ld (by assumption) rfl ?_); conv => whnf) | ((with_reducible refine blk_ldN (by assumption) rfl ?_); conv => whnf) | ((with_reducible refine HInt.mk _ (wrap_u64 (by omega)) ?_); conv => whnf) | ((with_reducible refine HInt.mk _ (wrap_u8 (by omega)) ?_); conv => whnf) | ((with_reducible refine HInt.mk _ (wrap_u32 (by omega)) ?_); conv => whnf))))
  refine HCall.mk ((Read_spec h1 a c l (x.ext x1) hl).mono ?_)
  rintro e h2 ⟨cs, rfl, rn, x2⟩
  have hcl := rn.get.len
  have o22 := o2.ext x2
  unfold dec
  ((conv => whnf); (repeat (first | ((with_reducible refine HSeq.go ?_); conv => whnf) | ((with_reducible refine HMust.mk (by decide) ?_); conv => whnf) | ((with_reducible refine HIf.yes (by first | rfl | assumption | decide) ?_); conv => whnf) | ((with_reducible refine HIf.no (by first | rfl | assumption | decide) ?_); conv => whnf) | ((with_reducible refine HInt.mk _ (wrap_i64 (by omega)) ?_); conv => whnf) | ((refine HMust.mk (by rfl) ?_); conv => whnf) | ((with_reducible refine blk_ld (by assumption) rfl ?_); conv => whnf) | ((with_reducible refine blk_ldN (by assumption) rfl ?_); conv => whnf) | ((with_reducible refine HInt.mk _ (wrap_u64 (by omega)) ?_); conv => whnf) | ((with_reducible refine HInt.mk _ (wrap_u8 (by omega)) ?_); conv => whnf) | ((with_reducible refine HInt.mk _ (wrap_u32 (by omega)) ?_); conv => whnf))))
  refine new_var (e := 25) zeroD rfl ?_
  intro h3 b4 o4 x3 z3 hb4
  have o23 := o22.ext x3
  have rn3 := rn.ext x3
  ((conv => whnf); (repeat (first | ((with_reducible refine HSeq.go ?_); conv => whnf) | ((with_reducible refine HMust.mk (by decide) ?_); conv => whnf) | ((with_reducible refine HIf.yes (by first | rfl | assumption | decide) ?_); conv => whnf) | ((with_reducible refine HIf.no (by first | rfl | assumption | decide) ?_); conv => whnf) | ((with_reducible refine HInt.mk _ (wrap_i64 (by omega)) ?_); conv => whnf) | ((refine HMust.mk (by rfl) ?_); conv => whnf) | ((with_reducible refine blk_ld (by assumption) rfl ?_); conv => whnf) | ((with_reducible refine blk_ldN (by assumption) rfl ?_); conv => whnf) | ((with_reducible refine HInt.mk _ (wrap_u64 (by omega)) ?_); conv => whnf) | ((with_reducible refine HInt.mk _ (wrap_u8 (by omega)) ?_); conv => whnf) | ((with_reducible refine HInt.mk _ (wrap_u32 (by omega)) ?_); conv => whnf))))
  refine HMust.mk (by simpa using hcl) ?_
  refine store_new o4 (by simp [hcl]) (by simpa using rn.get.one) ?_
  intro h4 f4 z4 o44
  have o24 := o23.offk f4 (by have := x2.1; omega)
  have x04 : Ext h h4 := ((x1.trans x2).trans x3).offNew f4 (by have := x2.1; omega)
  have rn4 : RepN h4 h.size (rd 20 l).1 cs := by
    refine RepN.lower (B := h1.size) ?_ (by omega)
    exact ((rn.frame (h' := h4) fun b hb => by rw [f4.2 b (by omega) (show b ≠ b4 by omega), x3.2 b hb.2])).mono fun b hb => ⟨hb.1, by have := x3.1; omega⟩
  ((conv => whnf); (repeat (first | ((with_reducible refine HSeq.go ?_); conv => whnf) | ((with_reducible refine HMust.mk (by decide) ?_); conv => whnf) | ((with_reducible refine HIf.yes (by first | rfl | assumption | decide) ?_); conv => whnf) | ((with_reducible refine HIf.no (by first | rfl | assumption | decide) ?_); conv => whnf) | ((with_reducible refine HInt.mk _ (wrap_i64 (by omega)) ?_); conv => whnf) | ((refine HMust.mk (by rfl) ?_); conv => whnf) | ((with_reducible refine blk_ld (by assumption) rfl ?_); conv => whnf) | ((with_reducible refine blk_ldN (by assumption) rfl ?_); conv => whnf) | ((with_reducible refine HInt.mk _ (wrap_u64 (by omega)) ?_); conv => whnf) | ((with_reducible refine HInt.mk _ (wrap_u8 (by omega)) ?_); conv => whnf) | ((with_reducible refine HInt.mk _ (wrap_u32 (by omega)) ?_); conv => whnf))))
  have hs2 := x2.1
  have hs3 := x3.1
  by_cases h0 : (rd 20 l).2.2 = 0
  · have q0 : (((rd 20 l).2.2 : Int) == 0) = true := by rw [h0]; rfl
    rw [if_neg (by simpa using h0)]
    by_cases hlt : (rd 20 l).2.1 < l.length
    · have q1 : decide (((rd 20 l).2.1 : Int) < (l.length : Int)) = true := decide_eq_true (by omega)
      rw [if_pos hlt]
      ((conv => whnf); (repeat (first | ((with_reducible refine HSeq.go ?_); conv => whnf) | ((with_reducible refine HMust.mk (by decide) ?_); conv => whnf) | ((with_reducible refine HIf.yes (by first | rfl | assumption | decide) ?_); conv => whnf) | ((with_reducible refine HIf.no (by first | rfl | assumption | decide) ?_); conv => whnf) | ((with_reducible refine HInt.mk _ (wrap_i64 (by omega)) ?_); conv => whnf) | ((refine HMust.mk (by rfl) ?_); conv => whnf) | ((with_reducible refine blk_ld (by assumption) rfl ?_); conv => whnf) | ((with_reducible refine blk_ldN (by assumption) rfl ?_); conv => whnf) | ((with_reducible refine HInt.mk _ (wrap_u64 (by omega)) ?_); conv => whnf) | ((with_reducible refine HInt.mk _ (wrap_u8 (by omega)) ?_); conv => whnf) | ((with_reducible refine HInt.mk _ (wrap_u32 (by omega)) ?_); conv => whnf))))
      refine store_new o24 rfl (by simp [isOne]) ?_
      intro h5 f5 z5 o5
      ((conv => whnf); (repeat (first | ((with_reducible refine HSeq.go ?_); conv => whnf) | ((with_reducible refine HMust.mk (by decide) ?_); conv => whnf) | ((with_reducible refine HIf.yes (by first | rfl | assumption | decide) ?_); conv => whnf) | ((with_reducible refine HIf.no (by first | rfl | assumption | decide) ?_); conv => whnf) | ((with_reducible refine HInt.mk _ (wrap_i64 (by omega)) ?_); conv => whnf) | ((refine HMust.mk (by rfl) ?_); conv => whnf) | ((with_reducible refine blk_ld (by assumption) rfl ?_); conv => whnf) | ((with_reducible refine blk_ldN (by assumption) rfl ?_); conv => whnf) | ((with_reducible refine HInt.mk _ (wrap_u64 (by omega)) ?_); conv => whnf) | ((with_reducible refine HInt.mk _ (wrap_u8 (by omega)) ?_); conv => whnf) | ((with_reducible refine HInt.mk _ (wrap_u32 (by omega)) ?_); conv => whnf))))
      exact ⟨zeroD, rfl, zeroT_rep _ _, x04.offNew f5 (by omega)⟩
    · have q1 : decide (((rd 20 l).2.1 : Int) < (l.length : Int)) = false := decide_eq_false (by omega)
      rw [if_neg hlt]
      ((conv => whnf); (repeat (first | ((with_reducible refine HSeq.go ?_); conv => whnf) | ((with_reducible refine HMust.mk (by decide) ?_); conv => whnf) | ((with_reducible refine HIf.yes (by first | rfl | assumption | decide) ?_); conv => whnf) | ((with_reducible refine HIf.no (by first | rfl | assumption | decide) ?_); conv => whnf) | ((with_reducible refine HInt.mk _ (wrap_i64 (by omega)) ?_); conv => whnf) | ((refine HMust.mk (by rfl) ?_); conv => whnf) | ((with_reducible refine blk_ld (by assumption) rfl ?_); conv => whnf) | ((with_reducible refine blk_ldN (by assumption) rfl ?_); conv => whnf) | ((with_reducible refine HInt.mk _ (wrap_u64 (by omega)) ?_); conv => whnf) | ((with_reducible refine HInt.mk _ (wrap_u8 (by omega)) ?_); conv => whnf) | ((with_reducible refine HInt.mk _ (wrap_u32 (by omega)) ?_); conv => whnf))))
      refine blk_ldN o44 (by simpa using hcl) ?_
      ((conv => whnf); (repeat (first | ((with_reducible refine HSeq.go ?_); conv => whnf) | ((with_reducible refine HMust.mk (by decide) ?_); conv => whnf) | ((with_reducible refine HIf.yes (by first | rfl | assumption | decide) ?_); conv => whnf) | ((with_reducible refine HIf.no (by first | rfl | assumption | decide) ?_); conv => whnf) | ((with_reducible refine HInt.mk _ (wrap_i64 (by omega)) ?_); conv => whnf) | ((refine HMust.mk (by rfl) ?_); conv => whnf) | ((with_reducible refine blk_ld (by assumption) rfl ?_); conv => whnf) | ((with_reducible refine blk_ldN (by assumption) rfl ?_); conv => whnf) | ((with_reducible refine HInt.mk _ (wrap_u64 (by omega)) ?_); conv => whnf) | ((with_reducible refine HInt.mk _ (wrap_u8 (by omega)) ?_); conv => whnf) | ((with_reducible refine HInt.mk _ (wrap_u32 (by omega)) ?_); conv => whnf))))
      refine HMust.mk (by simpa using hcl) ?_
      refine store_new o24 (by simp [hcl]) (by simpa using rn.get.one) ?_
      intro h5 f5 z5 o5
      ((conv => whnf); (repeat (first | ((with_reducible refine HSeq.go ?_); conv => whnf) | ((with_reducible refine HMust.mk (by decide) ?_); conv => whnf) | ((with_reducible refine HIf.yes (by first | rfl | assumption | decide) ?_); conv => whnf) | ((with_reducible refine HIf.no (by first | rfl | assumption | decide) ?_); conv => whnf) | ((with_reducible refine HInt.mk _ (wrap_i64 (by omega)) ?_); conv => whnf) | ((refine HMust.mk (by rfl) ?_); conv => whnf) | ((with_reducible refine blk_ld (by assumption) rfl ?_); conv => whnf) | ((with_reducible refine blk_ldN (by assumption) rfl ?_); conv => whnf) | ((with_reducible refine HInt.mk _ (wrap_u64 (by omega)) ?_); conv => whnf) | ((with_reducible refine HInt.mk _ (wrap_u8 (by omega)) ?_); conv => whnf) | ((with_reducible refine HInt.mk _ (wrap_u32 (by omega)) ?_); conv => whnf))))
      refine blk_ldN o5 (by simpa using hcl) ?_
      ((conv => whnf); (repeat (first | ((with_reducible refine HSeq.go ?_); conv => whnf) | ((with_reducible refine HMust.mk (by decide) ?_); conv => whnf) | ((with_reducible refine HIf.yes (by first | rfl | assumption | decide) ?_); conv => whnf) | ((with_reducible refine HIf.no (by first | rfl | assumption | decide) ?_); conv => whnf) | ((with_reducible refine HInt.mk _ (wrap_i64 (by omega)) ?_); conv => whnf) | ((refine HMust.mk (by rfl) ?_); conv => whnf) | ((with_reducible refine blk_ld (by assumption) rfl ?_); conv => whnf) | ((with_reducible refine blk_ldN (by assumption) rfl ?_); conv => whnf) | ((with_reducible refine HInt.mk _ (wrap_u64 (by omega)) ?_); conv => whnf) | ((with_reducible refine HInt.mk _ (wrap_u8 (by omega)) ?_); conv => whnf) | ((with_reducible refine HInt.mk _ (wrap_u32 (by omega)) ?_); conv => whnf))))
      refine ⟨cs, by rw [h0]; rfl, ?_, x04.offNew f5 (by omega)⟩
      have r2 : RepN h5 h1.size (rd 20 l).1 cs :=
        ((rn.frame (h' := h5) fun b hb => by rw [f5.2 b (by omega) (show b ≠ b2 by omega), f4.2 b (by omega) (show b ≠ b4 by omega), x3.2 b hb.2])).mono fun b hb => ⟨hb.1, by omega⟩
      exact r2.lower (by omega)
  · have q0 : (((rd 20 l).2.2 : Int) == 0) = false := by rw [beq_eq_false_iff_ne]; omega
    have hz : (rd 20 l).1 = zeroT := by rcases hok with h | h; (· exact absurd h.1 h0); (· exact h.2.2)
    rw [if_pos h0]
    ((conv => whnf); (repeat (first | ((with_reducible refine HSeq.go ?_); conv => whnf) | ((with_reducible refine HMust.mk (by decide) ?_); conv => whnf) | ((with_reducible refine HIf.yes (by first | rfl | assumption | decide) ?_); conv => whnf) | ((with_reducible refine HIf.no (by first | rfl | assumption | decide) ?_); conv => whnf) | ((with_reducible refine HInt.mk _ (wrap_i64 (by omega)) ?_); conv => whnf) | ((refine HMust.mk (by rfl) ?_); conv => whnf) | ((with_reducible refine blk_ld (by assumption) rfl ?_); conv => whnf) | ((with_reducible refine blk_ldN (by assumption) rfl ?_); conv => whnf) | ((with_reducible refine HInt.mk _ (wrap_u64 (by omega)) ?_); conv => whnf) | ((with_reducible refine HInt.mk _ (wrap_u8 (by omega)) ?_); conv => whnf) | ((with_reducible refine HInt.mk _ (wrap_u32 (by omega)) ?_); conv => whnf))))
    refine blk_ldN o44 (by simpa using hcl) ?_
    ((conv => whnf); (repeat (first | ((with_reducible refine HSeq.go ?_); conv => whnf) | ((with_reducible refine HMust.mk (by decide) ?_); conv => whnf) | ((with_reducible refine HIf.yes (by first | rfl | assumption | decide) ?_); conv => whnf) | ((with_reducible refine HIf.no (by first | rfl | assumption | decide) ?_); conv => whnf) | ((with_reducible refine HInt.mk _ (wrap_i64 (by omega)) ?_); conv => whnf) | ((refine HMust.mk (by rfl) ?_); conv => whnf) | ((with_reducible refine blk_ld (by assumption) rfl ?_); conv => whnf) | ((with_reducible refine blk_ldN (by assumption) rfl ?_); conv => whnf) | ((with_reducible refine HInt.mk _ (wrap_u64 (by omega)) ?_); conv => whnf) | ((with_reducible refine HInt.mk _ (wrap_u8 (by omega)) ?_); conv => whnf) | ((with_reducible refine HInt.mk _ (wrap_u32 (by omega)) ?_); conv => whnf))))
    refine HMust.mk (by simpa using hcl) ?_
    refine store_new o24 (by simp [hcl]) (by simpa using rn.get.one) ?_
    intro h5 f5 z5 o5
    ((conv => whnf); (repeat (first | ((with_reducible refine HSeq.go ?_); conv => whnf) | ((with_reducible refine HMust.mk (by decide) ?_); conv => whnf) | ((with_reducible refine HIf.yes (by first | rfl | assumption | decide) ?_); conv => whnf) | ((with_reducible refine HIf.no (by first | rfl | assumption | decide) ?_); conv => whnf) | ((with_reducible refine HInt.mk _ (wrap_i64 (by omega)) ?_); conv => whnf) | ((refine HMust.mk (by rfl) ?_); conv => whnf) | ((with_reducible refine blk_ld (by assumption) rfl ?_); conv => whnf) | ((with_reducible refine blk_ldN (by assumption) rfl ?_); conv => whnf) | ((with_reducible refine HInt.mk _ (wrap_u64 (by omega)) ?_); conv => whnf) | ((with_reducible refine HInt.mk _ (wrap_u8 (by omega)) ?_); conv => whnf) | ((with_reducible refine HInt.mk _ (wrap_u32 (by omega)) ?_); conv => whnf))))
    refine blk_ldN o5 (by simpa using hcl) ?_
    ((conv => whnf); (repeat (first | ((with_reducible refine HSeq.go ?_); conv => whnf) | ((with_reducible refine HMust.mk (by decide) ?_); conv => whnf) | ((with_reducible refine HIf.yes (by first | rfl | assumption | decide) ?_); conv => whnf) | ((with_reducible refine HIf.no (by first | rfl | assumption | decide) ?_); conv => whnf) | ((with_reducible refine HInt.mk _ (wrap_i64 (by omega)) ?_); conv => whnf) | ((refine HMust.mk (by rfl) ?_); conv => whnf) | ((with_reducible refine blk_ld (by assumption) rfl ?_); conv => whnf) | ((with_reducible refine blk_ldN (by assumption) rfl ?_); conv => whnf) | ((with_reducible refine HInt.mk _ (wrap_u64 (by omega)) ?_); conv => whnf) | ((with_reducible refine HInt.mk _ (wrap_u8 (by omega)) ?_); conv => whnf) | ((with_reducible refine HInt.mk _ (wrap_u32 (by omega)) ?_); conv => whnf))))
    refine ⟨cs, rfl, ?_, x04.offNew f5 (by omega)⟩
    have r2 : RepN h5 h1.size (rd 20 l).1 cs :=
      ((rn.frame (h' := h5) fun b hb => by rw [f5.2 b (by omega) (show b ≠ b2 by omega), f4.2 b (by omega) (show b ≠ b4 by omega), x3.2 b hb.2])).mono fun b hb => ⟨hb.1, by omega⟩
    rw [hz] at r2
    exact r2.lower (by omega)

theorem rDecode_spec (h : Heap) (a : Option Addr) (c : Nat) (l : List UInt8) (x : Sl h 1 a l.length c (l.map byteV)) (hl : l.length ≤ 17179869184) :
    HCalls Try.prog 16 #[.slice a l.length c] h (DPost h (dec l)) := by
  refine c16 (by simp) ?_
  (conv => whnf)
  refine new_var (e := 25) zeroD rfl ?_
  intro h1 b2 o2 x1 z1 hb2
  have hok := rd_ok 20 l
  unfold RdOk at hok
  ((conv => whnf); (repeat (first | ((with_reducible refine HSeq.go ?_); conv => whnf) | ((with_reducible refine HMust.mk (by decide) ?_); conv => whnf) | ((with_reducible refine HIf.yes (by first | rfl | assumption | decide) ?_); conv => whnf) | ((with_reducible refine HIf.no (by first | rfl | assumption | decide) ?_); conv => whnf) | ((with_reducible refine HInt.mk _ (wrap_i64 (by omega)) ?_); conv => whnf) | ((refine HMust.mk (by rfl) ?_); conv => whnf) | ((with_reducible refine blk_ld (by assumption) rfl ?_); conv => whnf) | ((with_reducible refine blk_ldN (by assumption) rfl ?_); conv => whnf) | ((with_reducible refine HInt.mk _ (wrap_u64 (by omega)) ?_); conv => whnf) | ((with_reducible refine HInt.mk _ (wrap_u8 (by omega)) ?_); conv => whnf) | ((with_reducible refine HInt.mk _ (wrap_u32 (by omega)) ?_); conv => whnf))))
  refine HCall.mk ((rRead_spec h1 a c l (x.ext x1) hl).mono ?_)
  rintro e h2 ⟨cs, rfl, rn, x2⟩
  have hcl := rn.get.len
  have o22 := o2.ext x2
  unfold dec
  ((conv => whnf); (repeat (first | ((with_reducible refine HSeq.go ?_); conv => whnf) | ((with_reducible refine HMust.mk (by decide) ?_); conv => whnf) | ((with_reducible refine HIf.yes (by first | rfl | assumption | decide) ?_); conv => whnf) | ((with_reducible refine HIf.no (by first | rfl | assumption | decide) ?_); conv => whnf) | ((with_reducible refine HInt.mk _ (wrap_i64 (by omega)) ?_); conv => whnf) | ((refine HMust.mk (by rfl) ?_); conv => whnf) | ((with_reducible refine blk_ld (by assumption) rfl ?_); conv => whnf) | ((with_reducible refine blk_ldN (by assumption) rfl ?_); conv => whnf) | ((with_reducible refine HInt.mk _ (wrap_u64 (by omega)) ?_); conv => whnf) | ((with_reducible refine HInt.mk _ (wrap_u8 (by omega)) ?_); conv => whnf) | ((with_reducible refine HInt.mk _ (wrap_u32 (by omega)) ?_); conv => whnf))))
  refine new_var (e := 25) zeroD rfl ?_
  intro h3 b4 o4 x3 z3 hb4
  have o23 := o22.ext x3
  ((conv => whnf); (repeat (first | ((with_reducible refine HSeq.go ?_); conv => whnf) | ((with_reducible refine HMust.mk (by decide) ?_); conv => whnf) | ((with_reducible refine HIf.yes (by first | rfl | assumption | decide) ?_); conv => whnf) | ((with_reducible refine HIf.no (by first | rfl | assumption | decide) ?_); conv => whnf) | ((with_reducible refine HInt.mk _ (wrap_i64 (by omega)) ?_); conv => whnf) | ((refine HMust.mk (by rfl) ?_); conv => whnf) | ((with_reducible refine blk_ld (by assumption) rfl ?_); conv => whnf) | ((with_reducible refine blk_ldN (by assumption) rfl ?_); conv => whnf) | ((with_reducible refine HInt.mk _ (wrap_u64 (by omega)) ?_); conv => whnf) | ((with_reducible refine HInt.mk _ (wrap_u8 (by omega)) ?_); conv => whnf) | ((with_reducible refine HInt.mk _ (wrap_u32 (by omega)) ?_); conv => whnf))))
  refine HMust.mk (by simpa using hcl) ?_
  refine store_new o4 (by simp [hcl]) (by simpa using rn.get.one) ?_
  intro h4 f4 z4 o44
  have o24 := o23.offk f4 (by have := x2.1; omega)
  have x04 : Ext h h4 := ((x1.trans x2).trans x3).offNew f4 (by have := x2.1; omega)
  ((conv => whnf); (repeat (first | ((with_reducible refine HSeq.go ?_); conv => whnf) | ((with_reducible refine HMust.mk (by decide) ?_); conv => whnf) | ((with_reducible refine HIf.yes (by first | rfl | assumption | decide) ?_); conv => whnf) | ((with_reducible refine HIf.no (by first | rfl | assumption | decide) ?_); conv => whnf) | ((with_reducible refine HInt.mk _ (wrap_i64 (by omega)) ?_); conv => whnf) | ((refine HMust.mk (by rfl) ?_); conv => whnf) | ((with_reducible refine blk_ld (by assumption) rfl ?_); conv => whnf) | ((with_reducible refine blk_ldN (by assumption) rfl ?_); conv => whnf) | ((with_reducible refine HInt.mk _ (wrap_u64 (by omega)) ?_); conv => whnf) | ((with_reducible refine HInt.mk _ (wrap_u8 (by omega)) ?_); conv => whnf) | ((with_reducible refine HInt.mk _ (wrap_u32 (by omega)) ?_); conv => whnf))))
  have hs2 := x2.1
  have hs3 := x3.1
  by_cases h0 : (rd 20 l).2.2 = 0
  · have q0 : (((rd 20 l).2.2 : Int) != 0) = false := by rw [h0]; rfl
    rw [if_neg (by simpa using h0)]
    by_cases hlt : (rd 20 l).2.1 < l.length
    · have q1 : decide (((rd 20 l).2.1 : Int) < (l.length : Int)) = true := decide_eq_true (by omega)
      rw [if_pos hlt]
      ((conv => whnf); (repeat (first | ((with_reducible refine HSeq.go ?_); conv => whnf) | ((with_reducible refine HMust.mk (by decide) ?_); conv => whnf) | ((with_reducible refine HIf.yes (by first | rfl | assumption | decide) ?_); conv => whnf) | ((with_reducible refine HIf.no (by first | rfl | assumption | decide) ?_); conv => whnf) | ((with_reducible refine HInt.mk _ (wrap_i64 (by omega)) ?_); conv => whnf) | ((refine HMust.mk (by rfl) ?_); conv => whnf) | ((with_reducible refine blk_ld (by assumption) rfl ?_); conv => whnf) | ((with_reducible refine blk_ldN (by assumption) rfl ?_); conv => whnf) | ((with_reducible refine HInt.mk _ (wrap_u64 (by omega)) ?_); conv => whnf) | ((with_reducible refine HInt.mk _ (wrap_u8 (by omega)) ?_); conv => whnf) | ((with_reducible refine HInt.mk _ (wrap_u32 (by omega)) ?_); conv => whnf))))
      refine store_new o24 rfl (by simp [isOne]) ?_
      intro h5 f5 z5 o5
      ((conv => whnf); (repeat (first | ((with_reducible refine HSeq.go ?_); conv => whnf) | ((with_reducible refine HMust.mk (by decide) ?_); conv => whnf) | ((with_reducible refine HIf.yes (by first | rfl | assumption | decide) ?_); conv => whnf) | ((with_reducible refine HIf.no (by first | rfl | assumption | decide) ?_); conv => whnf) | ((with_reducible refine HInt.mk _ (wrap_i64 (by omega)) ?_); conv => whnf) | ((refine HMust.mk (by rfl) ?_); conv => whnf) | ((with_reducible refine blk_ld (by assumption) rfl ?_); conv => whnf) | ((with_reducible refine blk_ldN (by assumption) rfl ?_); conv => whnf) | ((with_reducible refine HInt.mk _ (wrap_u64 (by omega)) ?_); conv => whnf) | ((with_reducible refine HInt.mk _ (wrap_u8 (by omega)) ?_); conv => whnf) | ((with_reducible refine HInt.mk _ (wrap_u32 (by omega)) ?_); conv => whnf))))
      exact ⟨zeroD, rfl, zeroT_rep _ _, x04.offNew f5 (by omega)⟩
    · have q1 : decide (((rd 20 l).2.1 : Int) < (l.length : Int)) = false := decide_eq_false (by omega)
      rw [if_neg hlt]
      ((conv => whnf); (repeat (first | ((with_reducible refine HSeq.go ?_); conv => whnf) | ((with_reducible refine HMust.mk (by decide) ?_); conv => whnf) | ((with_reducible refine HIf.yes (by first | rfl | assumption | decide) ?_); conv => whnf) | ((with_reducible refine HIf.no (by first | rfl | assumption | decide) ?_); conv => whnf) | ((with_reducible refine HInt.mk _ (wrap_i64 (by omega)) ?_); conv => whnf) | ((refine HMust.mk (by rfl) ?_); conv => whnf) | ((with_reducible refine blk_ld (by assumption) rfl ?_); conv => whnf) | ((with_reducible refine blk_ldN (by assumption) rfl ?_); conv => whnf) | ((with_reducible refine HInt.mk _ (wrap_u64 (by omega)) ?_); conv => whnf) | ((with_reducible refine HInt.mk _ (wrap_u8 (by omega)) ?_); conv => whnf) | ((with_reducible refine HInt.mk _ (wrap_u32 (by omega)) ?_); conv => whnf))))
      refine blk_ldN o44 (by simpa using hcl) ?_
      ((conv => whnf); (repeat (first | ((with_reducible refine HSeq.go ?_); conv => whnf) | ((with_reducible refine HMust.mk (by decide) ?_); conv => whnf) | ((with_reducible refine HIf.yes (by first | rfl | assumption | decide) ?_); conv => whnf) | ((with_reducible refine HIf.no (by first | rfl | assumption | decide) ?_); conv => whnf) | ((with_reducible refine HInt.mk _ (wrap_i64 (by omega)) ?_); conv => whnf) | ((refine HMust.mk (by rfl) ?_); conv => whnf) | ((with_reducible refine blk_ld (by assumption) rfl ?_); conv => whnf) | ((with_reducible refine blk_ldN (by assumption) rfl ?_); conv => whnf) | ((with_reducible refine HInt.mk _ (wrap_u64 (by omega)) ?_); conv => whnf) | ((with_reducible refine HInt.mk _ (wrap_u8 (by omega)) ?_); conv => whnf) | ((with_reducible refine HInt.mk _ (wrap_u32 (by omega)) ?_); conv => whnf))))
      refine HMust.mk (by simpa using hcl) ?_
      refine store_new o24 (by simp [hcl]) (by simpa using rn.get.one) ?_
      intro h5 f5 z5 o5
      ((conv => whnf); (repeat (first | ((with_reducible refine HSeq.go ?_); conv => whnf) | ((with_reducible refine HMust.mk (by decide) ?_); conv => whnf) | ((with_reducible refine HIf.yes (by first | rfl | assumption | decide) ?_); conv => whnf) | ((with_reducible refine HIf.no (by first | rfl | assumption | decide) ?_); conv => whnf) | ((with_reducible refine HInt.mk _ (wrap_i64 (by omega)) ?_); conv => whnf) | ((refine HMust.mk (by rfl) ?_); conv => whnf) | ((with_reducible refine blk_ld (by assumption) rfl ?_); conv => whnf) | ((with_reducible refine blk_ldN (by assumption) rfl ?_); conv => whnf) | ((with_reducible refine HInt.mk _ (wrap_u64 (by omega)) ?_); conv => whnf) | ((with_reducible refine HInt.mk _ (wrap_u8 (by omega)) ?_); conv => whnf) | ((with_reducible refine HInt.mk _ (wrap_u32 (by omega)) ?_); conv => whnf))))
      refine blk_ldN o5 (by simpa using hcl) ?_
      ((conv => whnf); (repeat (first | ((with_reducible refine HSeq.go ?_); conv => whnf) | ((with_reducible refine HMust.mk (by decide) ?_); conv => whnf) | ((with_reducible refine HIf.yes (by first | rfl | assumption | decide) ?_); conv => whnf) | ((with_reducible refine HIf.no (by first | rfl | assumption | decide) ?_); conv => whnf) | ((with_reducible refine HInt.mk _ (wrap_i64 (by omega)) ?_); conv => whnf) | ((refine HMust.mk (by rfl) ?_); conv => whnf) | ((with_reducible refine blk_ld (by assumption) rfl ?_); conv => whnf) | ((with_reducible refine blk_ldN (by assumption) rfl ?_); conv => whnf) | ((with_reducible refine HInt.mk _ (wrap_u64 (by omega)) ?_); conv => whnf) | ((with_reducible refine HInt.mk _ (wrap_u8 (by omega)) ?_); conv => whnf) | ((with_reducible refine HInt.mk _ (wrap_u32 (by omega)) ?_); conv => whnf))))
      refine ⟨cs, rfl, ?_, x04.offNew f5 (by omega)⟩
      have r2 : RepN h5 h1.size (rd 20 l).1 cs :=
        ((rn.frame (h' := h5) fun b hb => by rw [f5.2 b (by omega) (show b ≠ b2 by omega), f4.2 b (by omega) (show b ≠ b4 by omega), x3.2 b hb.2])).mono fun b hb => ⟨hb.1, by omega⟩
      exact r2.lower (by omega)
  · have q0 : (((rd 20 l).2.2 : Int) != 0) = true := by simp; omega
    rw [if_pos h0]
    ((conv => whnf); (repeat (first | ((with_reducible refine HSeq.go ?_); conv => whnf) | ((with_reducible refine HMust.mk (by decide) ?_); conv => whnf) | ((with_reducible refine HIf.yes (by first | rfl | assumption | decide) ?_); conv => whnf) | ((with_reducible refine HIf.no (by first | rfl | assumption | decide) ?_); conv => whnf) | ((with_reducible refine HInt.mk _ (wrap_i64 (by omega)) ?_); conv => whnf) | ((refine HMust.mk (by rfl) ?_); conv => whnf) | ((with_reducible refine blk_ld (by assumption) rfl ?_); conv => whnf) | ((with_reducible refine blk_ldN (by assumption) rfl ?_); conv => whnf) | ((with_reducible refine HInt.mk _ (wrap_u64 (by omega)) ?_); conv => whnf) | ((with_reducible refine HInt.mk _ (wrap_u8 (by omega)) ?_); conv => whnf) | ((with_reducible refine HInt.mk _ (wrap_u32 (by omega)) ?_); conv => whnf))))
    refine store_new o24 rfl (by simp [isOne]) ?_
    intro h5 f5 z5 o5
    ((conv => whnf); (repeat (first | ((with_reducible refine HSeq.go ?_); conv => whnf) | ((with_reducible refine HMust.mk (by decide) ?_); conv => whnf) | ((with_reducible refine HIf.yes (by first | rfl | assumption | decide) ?_); conv => whnf) | ((with_reducible refine HIf.no (by first | rfl | assumption | decide) ?_); conv => whnf) | ((with_reducible refine HInt.mk _ (wrap_i64 (by omega)) ?_); conv => whnf) | ((refine HMust.mk (by rfl) ?_); conv => whnf) | ((with_reducible refine blk_ld (by assumption) rfl ?_); conv => whnf) | ((with_reducible refine blk_ldN (by assumption) rfl ?_); conv => whnf) | ((with_reducible refine HInt.mk _ (wrap_u64 (by omega)) ?_); conv => whnf) | ((with_reducible refine HInt.mk _ (wrap_u8 (by omega)) ?_); conv => whnf) | ((with_reducible refine HInt.mk _ (wrap_u32 (by omega)) ?_); conv => whnf))))
    exact ⟨zeroD, rfl, zeroT_rep _ _, x04.offNew f5 (by omega)⟩

def liveT : DT := .mk 5 0 ⟨#[]⟩ [] [.mk 3 1 ⟨#[]⟩ [] [], .mk 3 (-1) ⟨#[]⟩ [] []]
theorem enc_live : enc liveT = [7, 2, 4, 1, 5, 0] := by
  unfold liveT
  simp [enc, encK, leb_small]
theorem rd_live : rd 20 [7, 2, 4, 1, 5, 0] = (liveT, 6, 0) := rfl
theorem rd_live2 : rd 20 [5, 0, 0] = (.mk 3 (-1) ⟨#[]⟩ [] [], 2, 0) := rfl
theorem dec_live : dec [7, 2, 4, 1, 5, 0] = (liveT, 0) := by unfold dec; rw [rd_live]; rfl
theorem dec_live2 : dec [5, 0, 0] = (zeroT, 22) := by unfold dec; rw [rd_live2]; rfl
theorem may_live : may liveT := by unfold liveT; simp [may, mays, Own1]
theorem deep_live : deep liveT = 2 := by unfold liveT; simp [deep, deeps]
theorem vol_live : vol liveT = 18 := by unfold liveT; simp [vol, vols, kvol]; rfl

theorem live_spec (h : Heap) : HCalls Try.prog 10 #[] h fun e h' => e = .returned (.bool true) ∧ Ext h h' := by
  refine c10 (by simp) ?_
  ((conv => whnf); (repeat (first | ((with_reducible refine HSeq.go ?_); conv => whnf) | ((with_reducible refine HMust.mk (by decide) ?_); conv => whnf) | ((with_reducible refine HIf.yes (by first | rfl | assumption | decide) ?_); conv => whnf) | ((with_reducible refine HIf.no (by first | rfl | assumption | decide) ?_); conv => whnf) | ((with_reducible refine HInt.mk _ (wrap_i64 (by omega)) ?_); conv => whnf) | ((refine HMust.mk (by rfl) ?_); conv => whnf) | ((with_reducible refine blk_ld (by assumption) rfl ?_); conv => whnf) | ((with_reducible refine blk_ldN (by assumption) rfl ?_); conv => whnf) | ((with_reducible refine HInt.mk _ (wrap_u64 (by omega)) ?_); conv => whnf) | ((with_reducible refine HInt.mk _ (wrap_u8 (by omega)) ?_); conv => whnf) | ((with_reducible refine HInt.mk _ (wrap_u32 (by omega)) ?_); conv => whnf))))
  refine new_var (e := 25) [.int .i64 3, .int .i64 1, .string ⟨#[]⟩, .slice none 0 0, .slice none 0 0, .int .i64 3, .int .i64 (-1), .string ⟨#[]⟩, .slice none 0 0, .slice none 0 0] rfl ?_
  intro h1 b1 o1 x1 z1 hb1
  ((conv => whnf); (repeat (first | ((with_reducible refine HSeq.go ?_); conv => whnf) | ((with_reducible refine HMust.mk (by decide) ?_); conv => whnf) | ((with_reducible refine HIf.yes (by first | rfl | assumption | decide) ?_); conv => whnf) | ((with_reducible refine HIf.no (by first | rfl | assumption | decide) ?_); conv => whnf) | ((with_reducible refine HInt.mk _ (wrap_i64 (by omega)) ?_); conv => whnf) | ((refine HMust.mk (by rfl) ?_); conv => whnf) | ((with_reducible refine blk_ld (by assumption) rfl ?_); conv => whnf) | ((with_reducible refine blk_ldN (by assumption) rfl ?_); conv => whnf) | ((with_reducible refine HInt.mk _ (wrap_u64 (by omega)) ?_); conv => whnf) | ((with_reducible refine HInt.mk _ (wrap_u8 (by omega)) ?_); conv => whnf) | ((with_reducible refine HInt.mk _ (wrap_u32 (by omega)) ?_); conv => whnf))))
  refine new_var (e := 25) zeroD rfl ?_
  intro h2 b2 o2 x2 z2 hb2
  ((conv => whnf); (repeat (first | ((with_reducible refine HSeq.go ?_); conv => whnf) | ((with_reducible refine HMust.mk (by decide) ?_); conv => whnf) | ((with_reducible refine HIf.yes (by first | rfl | assumption | decide) ?_); conv => whnf) | ((with_reducible refine HIf.no (by first | rfl | assumption | decide) ?_); conv => whnf) | ((with_reducible refine HInt.mk _ (wrap_i64 (by omega)) ?_); conv => whnf) | ((refine HMust.mk (by rfl) ?_); conv => whnf) | ((with_reducible refine blk_ld (by assumption) rfl ?_); conv => whnf) | ((with_reducible refine blk_ldN (by assumption) rfl ?_); conv => whnf) | ((with_reducible refine HInt.mk _ (wrap_u64 (by omega)) ?_); conv => whnf) | ((with_reducible refine HInt.mk _ (wrap_u8 (by omega)) ?_); conv => whnf) | ((with_reducible refine HInt.mk _ (wrap_u32 (by omega)) ?_); conv => whnf))))
  refine store_new o2 rfl (by simp [isOne]) ?_
  intro h3 f3 z3 o3
  have x03 : Ext h h3 := (x1.trans x2).offNew f3 (by omega)
  have o13 := (o1.ext x2).offk f3 (by omega)
  have rl : Rep h3 liveT [.int .i64 5, .int .i64 0, .string ⟨#[]⟩, .slice none 0 0, .slice (some ⟨b1, 0, none⟩) 2 2] := by
    refine Rep.mk' (ks := []) (l := [.mk 3 1 ⟨#[]⟩ [] [], .mk 3 (-1) ⟨#[]⟩ [] []]) (by unfold i64; omega) (by unfold i64; omega) (by decide) (by simp) (by simp) (by simp) (Sl.nil _ _)
      (xs := [.int .i64 3, .int .i64 1, .string ⟨#[]⟩, .slice none 0 0, .slice none 0 0, .int .i64 3, .int .i64 (-1), .string ⟨#[]⟩, .slice none 0 0, .slice none 0 0])
      ⟨rfl, Nat.le_refl _, fun e => (by cases e), fun p ep i hi => by cases ep; rw [add_mk, Nat.zero_add, o13.blk.cell]⟩ ?_
    exact Reps.append (l := [.mk 3 1 ⟨#[]⟩ [] []]) (m := [.mk 3 (-1) ⟨#[]⟩ [] []]) (Reps.one ((zero_rep h3 3 1 ⟨#[]⟩ (by unfold i64; omega) (by unfold i64; omega) (by decide) (fun _ => True)).get))
      (Reps.one ((zero_rep h3 3 (-1) ⟨#[]⟩ (by unfold i64; omega) (by unfold i64; omega) (by decide) (fun _ => True)).get))
  ((conv => whnf); (repeat (first | ((with_reducible refine HSeq.go ?_); conv => whnf) | ((with_reducible refine HMust.mk (by decide) ?_); conv => whnf) | ((with_reducible refine HIf.yes (by first | rfl | assumption | decide) ?_); conv => whnf) | ((with_reducible refine HIf.no (by first | rfl | assumption | decide) ?_); conv => whnf) | ((with_reducible refine HInt.mk _ (wrap_i64 (by omega)) ?_); conv => whnf) | ((refine HMust.mk (by rfl) ?_); conv => whnf) | ((with_reducible refine blk_ld (by assumption) rfl ?_); conv => whnf) | ((with_reducible refine blk_ldN (by assumption) rfl ?_); conv => whnf) | ((with_reducible refine HInt.mk _ (wrap_u64 (by omega)) ?_); conv => whnf) | ((with_reducible refine HInt.mk _ (wrap_u8 (by omega)) ?_); conv => whnf) | ((with_reducible refine HInt.mk _ (wrap_u32 (by omega)) ?_); conv => whnf))))
  refine HCall.mk ((encode_spec liveT h3 _ rl (by rw [vol_live]; omega)).mono ?_)
  rintro e h4 ⟨a4, c4, l4, n4, rfl, s4, x4, ⟨hck, hen, _⟩, hl4⟩
  have hn4 : n4 = 0 := by
    unfold Chk at hck
    rw [deep_live] at hck
    rcases hck with h | h | h
    · exact h.2.2
    · omega
    · exact absurd may_live h.1
  subst hn4
  obtain rfl := hen rfl
  have o34 := o3.ext x4
  have rl4 := Rep.ext x4 _ _ rl
  ((conv => whnf); (repeat (first | ((with_reducible refine HSeq.go ?_); conv => whnf) | ((with_reducible refine HMust.mk (by decide) ?_); conv => whnf) | ((with_reducible refine HIf.yes (by first | rfl | assumption | decide) ?_); conv => whnf) | ((with_reducible refine HIf.no (by first | rfl | assumption | decide) ?_); conv => whnf) | ((with_reducible refine HInt.mk _ (wrap_i64 (by omega)) ?_); conv => whnf) | ((refine HMust.mk (by rfl) ?_); conv => whnf) | ((with_reducible refine blk_ld (by assumption) rfl ?_); conv => whnf) | ((with_reducible refine blk_ldN (by assumption) rfl ?_); conv => whnf) | ((with_reducible refine HInt.mk _ (wrap_u64 (by omega)) ?_); conv => whnf) | ((with_reducible refine HInt.mk _ (wrap_u8 (by omega)) ?_); conv => whnf) | ((with_reducible refine HInt.mk _ (wrap_u32 (by omega)) ?_); conv => whnf))))
  refine new_own (e := 5) 1 3 (List.map byteV [5, 0, 0]) rfl rfl ?_
  intro h5 b5 o5 x5 z5 _
  have o35 := o34.ext x5
  ((conv => whnf); (repeat (first | ((with_reducible refine HSeq.go ?_); conv => whnf) | ((with_reducible refine HMust.mk (by decide) ?_); conv => whnf) | ((with_reducible refine HIf.yes (by first | rfl | assumption | decide) ?_); conv => whnf) | ((with_reducible refine HIf.no (by first | rfl | assumption | decide) ?_); conv => whnf) | ((with_reducible refine HInt.mk _ (wrap_i64 (by omega)) ?_); conv => whnf) | ((refine HMust.mk (by rfl) ?_); conv => whnf) | ((with_reducible refine blk_ld (by assumption) rfl ?_); conv => whnf) | ((with_reducible refine blk_ldN (by assumption) rfl ?_); conv => whnf) | ((with_reducible refine HInt.mk _ (wrap_u64 (by omega)) ?_); conv => whnf) | ((with_reducible refine HInt.mk _ (wrap_u8 (by omega)) ?_); conv => whnf) | ((with_reducible refine HInt.mk _ (wrap_u32 (by omega)) ?_); conv => whnf))))
  refine HCall.mk ((Decode_spec h5 _ _ [5, 0, 0] o5.sl (by simp)).mono ?_)
  rintro e h6 ⟨cs6, rfl, rn6, x6⟩
  rw [dec_live2] at rn6 ⊢
  have hc6 := rn6.get.len
  have o36 := o35.ext x6
  ((conv => whnf); (repeat (first | ((with_reducible refine HSeq.go ?_); conv => whnf) | ((with_reducible refine HMust.mk (by decide) ?_); conv => whnf) | ((with_reducible refine HIf.yes (by first | rfl | assumption | decide) ?_); conv => whnf) | ((with_reducible refine HIf.no (by first | rfl | assumption | decide) ?_); conv => whnf) | ((with_reducible refine HInt.mk _ (wrap_i64 (by omega)) ?_); conv => whnf) | ((refine HMust.mk (by rfl) ?_); conv => whnf) | ((with_reducible refine blk_ld (by assumption) rfl ?_); conv => whnf) | ((with_reducible refine blk_ldN (by assumption) rfl ?_); conv => whnf) | ((with_reducible refine HInt.mk _ (wrap_u64 (by omega)) ?_); conv => whnf) | ((with_reducible refine HInt.mk _ (wrap_u8 (by omega)) ?_); conv => whnf) | ((with_reducible refine HInt.mk _ (wrap_u32 (by omega)) ?_); conv => whnf))))
  refine new_var (e := 25) zeroD rfl ?_
  intro h7 b7 o7 x7 z7 hb7
  ((conv => whnf); (repeat (first | ((with_reducible refine HSeq.go ?_); conv => whnf) | ((with_reducible refine HMust.mk (by decide) ?_); conv => whnf) | ((with_reducible refine HIf.yes (by first | rfl | assumption | decide) ?_); conv => whnf) | ((with_reducible refine HIf.no (by first | rfl | assumption | decide) ?_); conv => whnf) | ((with_reducible refine HInt.mk _ (wrap_i64 (by omega)) ?_); conv => whnf) | ((refine HMust.mk (by rfl) ?_); conv => whnf) | ((with_reducible refine blk_ld (by assumption) rfl ?_); conv => whnf) | ((with_reducible refine blk_ldN (by assumption) rfl ?_); conv => whnf) | ((with_reducible refine HInt.mk _ (wrap_u64 (by omega)) ?_); conv => whnf) | ((with_reducible refine HInt.mk _ (wrap_u8 (by omega)) ?_); conv => whnf) | ((with_reducible refine HInt.mk _ (wrap_u32 (by omega)) ?_); conv => whnf))))
  refine HMust.mk (by simpa using hc6) ?_
  refine store_new o7 (by simp [hc6]) (by simpa using rn6.get.one) ?_
  intro h8 f8 z8 o8
  have x48 : Ext h4 h8 := ((x5.trans x6).trans x7).offNew f8 (by have := x5.1; have := x6.1; omega)
  have s8 := s4.ext x48
  have o38 := o34.ext x48
  ((conv => whnf); (repeat (first | ((with_reducible refine HSeq.go ?_); conv => whnf) | ((with_reducible refine HMust.mk (by decide) ?_); conv => whnf) | ((with_reducible refine HIf.yes (by first | rfl | assumption | decide) ?_); conv => whnf) | ((with_reducible refine HIf.no (by first | rfl | assumption | decide) ?_); conv => whnf) | ((with_reducible refine HInt.mk _ (wrap_i64 (by omega)) ?_); conv => whnf) | ((refine HMust.mk (by rfl) ?_); conv => whnf) | ((with_reducible refine blk_ld (by assumption) rfl ?_); conv => whnf) | ((with_reducible refine blk_ldN (by assumption) rfl ?_); conv => whnf) | ((with_reducible refine HInt.mk _ (wrap_u64 (by omega)) ?_); conv => whnf) | ((with_reducible refine HInt.mk _ (wrap_u8 (by omega)) ?_); conv => whnf) | ((with_reducible refine HInt.mk _ (wrap_u32 (by omega)) ?_); conv => whnf))))
  refine HCall.mk ((Decode_spec h8 _ _ _ s8 hl4).mono ?_)
  rintro e h9 ⟨cs9, rfl, rn9, x9⟩
  rw [enc_live, dec_live] at rn9
  have hd9 : (dec (enc liveT)).2 = 0 := by rw [enc_live, dec_live]
  rw [hd9]
  have hc9 := rn9.get.len
  have o39 := o38.ext x9
  ((conv => whnf); (repeat (first | ((with_reducible refine HSeq.go ?_); conv => whnf) | ((with_reducible refine HMust.mk (by decide) ?_); conv => whnf) | ((with_reducible refine HIf.yes (by first | rfl | assumption | decide) ?_); conv => whnf) | ((with_reducible refine HIf.no (by first | rfl | assumption | decide) ?_); conv => whnf) | ((with_reducible refine HInt.mk _ (wrap_i64 (by omega)) ?_); conv => whnf) | ((refine HMust.mk (by rfl) ?_); conv => whnf) | ((with_reducible refine blk_ld (by assumption) rfl ?_); conv => whnf) | ((with_reducible refine blk_ldN (by assumption) rfl ?_); conv => whnf) | ((with_reducible refine HInt.mk _ (wrap_u64 (by omega)) ?_); conv => whnf) | ((with_reducible refine HInt.mk _ (wrap_u8 (by omega)) ?_); conv => whnf) | ((with_reducible refine HInt.mk _ (wrap_u32 (by omega)) ?_); conv => whnf))))
  refine new_var (e := 25) zeroD rfl ?_
  intro h10 b10 o10 x10 z10 hb10
  have o310 := o39.ext x10
  ((conv => whnf); (repeat (first | ((with_reducible refine HSeq.go ?_); conv => whnf) | ((with_reducible refine HMust.mk (by decide) ?_); conv => whnf) | ((with_reducible refine HIf.yes (by first | rfl | assumption | decide) ?_); conv => whnf) | ((with_reducible refine HIf.no (by first | rfl | assumption | decide) ?_); conv => whnf) | ((with_reducible refine HInt.mk _ (wrap_i64 (by omega)) ?_); conv => whnf) | ((refine HMust.mk (by rfl) ?_); conv => whnf) | ((with_reducible refine blk_ld (by assumption) rfl ?_); conv => whnf) | ((with_reducible refine blk_ldN (by assumption) rfl ?_); conv => whnf) | ((with_reducible refine HInt.mk _ (wrap_u64 (by omega)) ?_); conv => whnf) | ((with_reducible refine HInt.mk _ (wrap_u8 (by omega)) ?_); conv => whnf) | ((with_reducible refine HInt.mk _ (wrap_u32 (by omega)) ?_); conv => whnf))))
  refine HMust.mk (by simpa using hc9) ?_
  refine store_new o10 (by simp [hc9]) (by simpa using rn9.get.one) ?_
  intro h11 f11 z11 o11
  have x911 : Ext h9 h11 := x10.offNew f11 (by omega)
  have o311 := o39.ext x911
  have s11 := s8.ext (x9.trans x911)
  have r11 := Rep.ext x911 _ _ rn9.get
  have rl11 := Rep.ext (x48.trans (x9.trans x911)) _ _ rl4
  ((conv => whnf); (repeat (first | ((with_reducible refine HSeq.go ?_); conv => whnf) | ((with_reducible refine HMust.mk (by decide) ?_); conv => whnf) | ((with_reducible refine HIf.yes (by first | rfl | assumption | decide) ?_); conv => whnf) | ((with_reducible refine HIf.no (by first | rfl | assumption | decide) ?_); conv => whnf) | ((with_reducible refine HInt.mk _ (wrap_i64 (by omega)) ?_); conv => whnf) | ((refine HMust.mk (by rfl) ?_); conv => whnf) | ((with_reducible refine blk_ld (by assumption) rfl ?_); conv => whnf) | ((with_reducible refine blk_ldN (by assumption) rfl ?_); conv => whnf) | ((with_reducible refine HInt.mk _ (wrap_u64 (by omega)) ?_); conv => whnf) | ((with_reducible refine HInt.mk _ (wrap_u8 (by omega)) ?_); conv => whnf) | ((with_reducible refine HInt.mk _ (wrap_u32 (by omega)) ?_); conv => whnf))))
  refine new_own (e := 5) 1 6 (List.map byteV [7, 2, 4, 1, 5, 0]) rfl rfl ?_
  intro h12 b12 o12 x12 z12 _
  have o312 := o311.ext x12
  have o1112 := o11.ext x12
  have r12 := Rep.ext x12 _ _ r11
  have rl12 := Rep.ext x12 _ _ rl11
  ((conv => whnf); (repeat (first | ((with_reducible refine HSeq.go ?_); conv => whnf) | ((with_reducible refine HMust.mk (by decide) ?_); conv => whnf) | ((with_reducible refine HIf.yes (by first | rfl | assumption | decide) ?_); conv => whnf) | ((with_reducible refine HIf.no (by first | rfl | assumption | decide) ?_); conv => whnf) | ((with_reducible refine HInt.mk _ (wrap_i64 (by omega)) ?_); conv => whnf) | ((refine HMust.mk (by rfl) ?_); conv => whnf) | ((with_reducible refine blk_ld (by assumption) rfl ?_); conv => whnf) | ((with_reducible refine blk_ldN (by assumption) rfl ?_); conv => whnf) | ((with_reducible refine HInt.mk _ (wrap_u64 (by omega)) ?_); conv => whnf) | ((with_reducible refine HInt.mk _ (wrap_u8 (by omega)) ?_); conv => whnf) | ((with_reducible refine HInt.mk _ (wrap_u32 (by omega)) ?_); conv => whnf))))
  refine HCall.mk ((same_spec (s11.ext x12) o12.sl).mono ?_)
  rintro e h12 ⟨rfl, rfl⟩
  rw [enc_live]
  ((conv => whnf); (repeat (first | ((with_reducible refine HSeq.go ?_); conv => whnf) | ((with_reducible refine HMust.mk (by decide) ?_); conv => whnf) | ((with_reducible refine HIf.yes (by first | rfl | assumption | decide) ?_); conv => whnf) | ((with_reducible refine HIf.no (by first | rfl | assumption | decide) ?_); conv => whnf) | ((with_reducible refine HInt.mk _ (wrap_i64 (by omega)) ?_); conv => whnf) | ((refine HMust.mk (by rfl) ?_); conv => whnf) | ((with_reducible refine blk_ld (by assumption) rfl ?_); conv => whnf) | ((with_reducible refine blk_ldN (by assumption) rfl ?_); conv => whnf) | ((with_reducible refine HInt.mk _ (wrap_u64 (by omega)) ?_); conv => whnf) | ((with_reducible refine HInt.mk _ (wrap_u8 (by omega)) ?_); conv => whnf) | ((with_reducible refine HInt.mk _ (wrap_u32 (by omega)) ?_); conv => whnf))))
  refine blk_ldN o1112 (by simpa using hc9) ?_
  ((conv => whnf); (repeat (first | ((with_reducible refine HSeq.go ?_); conv => whnf) | ((with_reducible refine HMust.mk (by decide) ?_); conv => whnf) | ((with_reducible refine HIf.yes (by first | rfl | assumption | decide) ?_); conv => whnf) | ((with_reducible refine HIf.no (by first | rfl | assumption | decide) ?_); conv => whnf) | ((with_reducible refine HInt.mk _ (wrap_i64 (by omega)) ?_); conv => whnf) | ((refine HMust.mk (by rfl) ?_); conv => whnf) | ((with_reducible refine blk_ld (by assumption) rfl ?_); conv => whnf) | ((with_reducible refine blk_ldN (by assumption) rfl ?_); conv => whnf) | ((with_reducible refine HInt.mk _ (wrap_u64 (by omega)) ?_); conv => whnf) | ((with_reducible refine HInt.mk _ (wrap_u8 (by omega)) ?_); conv => whnf) | ((with_reducible refine HInt.mk _ (wrap_u32 (by omega)) ?_); conv => whnf))))
  refine HCall.mk ((rsame_spec _ _ h12 _ _ (by simpa using r12) rl12).mono ?_)
  rintro e h13 ⟨r, rfl, hr, x13⟩
  have hrt : r = true := hr.2 rfl
  subst hrt
  ((conv => whnf); (repeat (first | ((with_reducible refine HSeq.go ?_); conv => whnf) | ((with_reducible refine HMust.mk (by decide) ?_); conv => whnf) | ((with_reducible refine HIf.yes (by first | rfl | assumption | decide) ?_); conv => whnf) | ((with_reducible refine HIf.no (by first | rfl | assumption | decide) ?_); conv => whnf) | ((with_reducible refine HInt.mk _ (wrap_i64 (by omega)) ?_); conv => whnf) | ((refine HMust.mk (by rfl) ?_); conv => whnf) | ((with_reducible refine blk_ld (by assumption) rfl ?_); conv => whnf) | ((with_reducible refine blk_ldN (by assumption) rfl ?_); conv => whnf) | ((with_reducible refine HInt.mk _ (wrap_u64 (by omega)) ?_); conv => whnf) | ((with_reducible refine HInt.mk _ (wrap_u8 (by omega)) ?_); conv => whnf) | ((with_reducible refine HInt.mk _ (wrap_u32 (by omega)) ?_); conv => whnf))))
  exact ⟨rfl, x03.trans (x4.trans (x48.trans (x9.trans (x911.trans (x12.trans x13)))))⟩

end Go.Proofs.Ytkcnjcdggbifeaa.Hc
