import Derived.Test.YtgmlbaikeepniaaOC
set_option linter.unusedVariables false
set_option linter.unusedSimpArgs false
namespace Go.Proofs.Ytgmlbaikeepniaa.Hc
open Go Go.H Go.Proofs
set_option maxRecDepth 100000

/-- What stands in some bytes as a frame. -/
def unf (l : List UInt8) (most : Int) : List UInt8 × Nat × Nat :=
  if l.length < 8 then ([], 0, 20)
  else if (wordN l : Int) > most then ([], 0, 22)
  else if wordN l > l.length - 8 then ([], 0, 20)
  else if crc (l.take 4 ++ (l.drop 8).take (wordN l)) ≠ wordN (l.drop 4) then ([], 0, 21)
  else ((l.drop 8).take (wordN l), 8 + wordN l, 0)
def Unf (t : List UInt8 × Nat × Nat) (h : Heap) (e : Ending) (h' : Heap) : Prop :=
  ∃ a c, e = .returned (.tuple #[.slice a t.1.length c, .int .i64 t.2.1, .int .i64 t.2.2]) ∧ Own h' h.size 5 1 a t.1.length c (t.1.map byteV) ∧ Ext h h'
theorem Unf.bad {h : Heap} (k : Nat) : Unf ([], 0, k) h (.returned (.tuple #[.slice none 0 0, .int .i64 0, .int .i64 k])) h := ⟨none, 0, rfl, Own.nil _ _ _ _, Ext.refl _⟩

theorem unframe_spec {a : Option Addr} {n c : Nat} {l : List UInt8} {h : Heap} (x : Sl h 1 a n c (l.map byteV)) (hn : n ≤ 281474976710656) (most : Int)
    (hm : -9223372036854775808 ≤ most ∧ most ≤ 9223372036854775807) : HCalls Try.prog 22 #[.slice a n c, .int .i64 most] h (Unf (unf l most) h) := by
  have hl : l.length = n := by simpa using x.1
  have hc := x.2.1
  have hw := wordN_lt l
  have hw4 := wordN_lt (l.drop 4)
  unfold unf
  obtain ⟨m, hN⟩ : ∃ m, wordN l = m := ⟨_, rfl⟩
  rw [hN] at hw ⊢
  refine c22 (by simp) ?_
  ((conv => whnf); (repeat (first | ((with_reducible refine HSeq.go ?_); conv => whnf) | ((with_reducible refine HMust.mk (by decide) ?_); conv => whnf) | ((with_reducible refine HIf.yes (by first | rfl | assumption | decide) ?_); conv => whnf) | ((with_reducible refine HIf.no (by first | rfl | assumption | decide) ?_); conv => whnf) | ((with_reducible refine HInt.mk _ (wrap_i64 (by omega)) ?_); conv => whnf))))
  refine HIf.mk (fun h8 => ?_) (fun h8 => ?_)
  · have h8' := of_decide_eq_true h8
    ((conv => whnf); (repeat (first | ((with_reducible refine HSeq.go ?_); conv => whnf) | ((with_reducible refine HMust.mk (by decide) ?_); conv => whnf) | ((with_reducible refine HIf.yes (by first | rfl | assumption | decide) ?_); conv => whnf) | ((with_reducible refine HIf.no (by first | rfl | assumption | decide) ?_); conv => whnf) | ((with_reducible refine HInt.mk _ (wrap_i64 (by omega)) ?_); conv => whnf))))
    rw [if_pos (by omega)]
    exact Unf.bad 20
  · have h8' := of_decide_eq_false h8
    rw [if_neg (show ¬ l.length < 8 by omega)]
    ((conv => whnf); (repeat (first | ((with_reducible refine HSeq.go ?_); conv => whnf) | ((with_reducible refine HMust.mk (by decide) ?_); conv => whnf) | ((with_reducible refine HIf.yes (by first | rfl | assumption | decide) ?_); conv => whnf) | ((with_reducible refine HIf.no (by first | rfl | assumption | decide) ?_); conv => whnf) | ((with_reducible refine HInt.mk _ (wrap_i64 (by omega)) ?_); conv => whnf))))
    refine HCall.mk ((word_spec x (by omega)).mono ?_)
    rintro e h' ⟨rfl, he⟩
    rw [hN] at he
    subst he
    ((conv => whnf); (repeat (first | ((with_reducible refine HSeq.go ?_); conv => whnf) | ((with_reducible refine HMust.mk (by decide) ?_); conv => whnf) | ((with_reducible refine HIf.yes (by first | rfl | assumption | decide) ?_); conv => whnf) | ((with_reducible refine HIf.no (by first | rfl | assumption | decide) ?_); conv => whnf) | ((with_reducible refine HInt.mk _ (wrap_i64 (by omega)) ?_); conv => whnf))))
    refine HIf.mk (fun hmo => ?_) (fun hmo => ?_)
    · have hmo' := of_decide_eq_true hmo
      ((conv => whnf); (repeat (first | ((with_reducible refine HSeq.go ?_); conv => whnf) | ((with_reducible refine HMust.mk (by decide) ?_); conv => whnf) | ((with_reducible refine HIf.yes (by first | rfl | assumption | decide) ?_); conv => whnf) | ((with_reducible refine HIf.no (by first | rfl | assumption | decide) ?_); conv => whnf) | ((with_reducible refine HInt.mk _ (wrap_i64 (by omega)) ?_); conv => whnf))))
      rw [if_pos hmo']
      exact Unf.bad 22
    · have hmo' := of_decide_eq_false hmo
      rw [if_neg hmo']
      ((conv => whnf); (repeat (first | ((with_reducible refine HSeq.go ?_); conv => whnf) | ((with_reducible refine HMust.mk (by decide) ?_); conv => whnf) | ((with_reducible refine HIf.yes (by first | rfl | assumption | decide) ?_); conv => whnf) | ((with_reducible refine HIf.no (by first | rfl | assumption | decide) ?_); conv => whnf) | ((with_reducible refine HInt.mk _ (wrap_i64 (by omega)) ?_); conv => whnf))))
      refine HIf.mk (fun hsh => ?_) (fun hsh => ?_)
      · have hsh' := of_decide_eq_true hsh
        ((conv => whnf); (repeat (first | ((with_reducible refine HSeq.go ?_); conv => whnf) | ((with_reducible refine HMust.mk (by decide) ?_); conv => whnf) | ((with_reducible refine HIf.yes (by first | rfl | assumption | decide) ?_); conv => whnf) | ((with_reducible refine HIf.no (by first | rfl | assumption | decide) ?_); conv => whnf) | ((with_reducible refine HInt.mk _ (wrap_i64 (by omega)) ?_); conv => whnf))))
        rw [if_pos (show m > l.length - 8 by omega)]
        exact Unf.bad 20
      · have hsh' := of_decide_eq_false hsh
        have hle : 8 + m ≤ n := by omega
        rw [if_neg (show ¬ m > l.length - 8 by omega)]
        ((conv => whnf); (repeat (first | ((with_reducible refine HSeq.go ?_); conv => whnf) | ((with_reducible refine HMust.mk (by decide) ?_); conv => whnf) | ((with_reducible refine HIf.yes (by first | rfl | assumption | decide) ?_); conv => whnf) | ((with_reducible refine HIf.no (by first | rfl | assumption | decide) ?_); conv => whnf) | ((with_reducible refine HInt.mk _ (wrap_i64 (by omega)) ?_); conv => whnf))))
        refine HBound.mk 4 rfl (by omega) ?_
        ((conv => whnf); (repeat (first | ((with_reducible refine HSeq.go ?_); conv => whnf) | ((with_reducible refine HMust.mk (by decide) ?_); conv => whnf) | ((with_reducible refine HIf.yes (by first | rfl | assumption | decide) ?_); conv => whnf) | ((with_reducible refine HIf.no (by first | rfl | assumption | decide) ?_); conv => whnf) | ((with_reducible refine HInt.mk _ (wrap_i64 (by omega)) ?_); conv => whnf))))
        refine HBound.mk (8 + m) (by omega) (by omega) ?_
        refine HBound.mk 8 rfl (by omega) ?_
        ((conv => whnf); (repeat (first | ((with_reducible refine HSeq.go ?_); conv => whnf) | ((with_reducible refine HMust.mk (by decide) ?_); conv => whnf) | ((with_reducible refine HIf.yes (by first | rfl | assumption | decide) ?_); conv => whnf) | ((with_reducible refine HIf.no (by first | rfl | assumption | decide) ?_); conv => whnf) | ((with_reducible refine HInt.mk _ (wrap_i64 (by omega)) ?_); conv => whnf))))
        refine HBound.mk 4 rfl (by omega) ?_
        ((conv => whnf); (repeat (first | ((with_reducible refine HSeq.go ?_); conv => whnf) | ((with_reducible refine HMust.mk (by decide) ?_); conv => whnf) | ((with_reducible refine HIf.yes (by first | rfl | assumption | decide) ?_); conv => whnf) | ((with_reducible refine HIf.no (by first | rfl | assumption | decide) ?_); conv => whnf) | ((with_reducible refine HInt.mk _ (wrap_i64 (by omega)) ?_); conv => whnf))))
        have s1 : Sl h' 1 (a.map fun p => movedTo p c 0 1) 4 (c - 0) ((l.take 4).map byteV) := by
          have := x.slice (i := 0) (j := 4) (by omega) (by omega)
          rw [bytesV_slice] at this; simpa using this
        have s2 : Sl h' 1 (a.map fun p => movedTo p c 8 1) (8 + m - 8) (c - 8) (((l.drop 8).take (m)).map byteV) := by
          have := x.slice (i := 8) (j := 8 + m) (by omega) (by omega)
          rw [bytesV_slice, take_drop_eq] at this; exact this
        have s3 : Sl h' 1 (a.map fun p => movedTo p c 4 1) (n - 4) (c - 4) ((l.drop 4).map byteV) := by
          have := x.slice (i := 4) (j := n) (by omega) (by omega)
          rw [bytesV_slice, List.take_of_length_le (by omega)] at this; exact this
        refine HCall.mk ((sum_spec (BitVec.allOnes 32) s1 (by omega)).mono ?_)
        rintro e h2 ⟨rfl, rfl⟩
        ((conv => whnf); (repeat (first | ((with_reducible refine HSeq.go ?_); conv => whnf) | ((with_reducible refine HMust.mk (by decide) ?_); conv => whnf) | ((with_reducible refine HIf.yes (by first | rfl | assumption | decide) ?_); conv => whnf) | ((with_reducible refine HIf.no (by first | rfl | assumption | decide) ?_); conv => whnf) | ((with_reducible refine HInt.mk _ (wrap_i64 (by omega)) ?_); conv => whnf))))
        refine HCall.mk ((sum_spec _ s2 (by omega)).mono ?_)
        rintro e h3 ⟨rfl, rfl⟩
        rw [crcL_append]
        ((conv => whnf); (repeat (first | ((with_reducible refine HSeq.go ?_); conv => whnf) | ((with_reducible refine HMust.mk (by decide) ?_); conv => whnf) | ((with_reducible refine HIf.yes (by first | rfl | assumption | decide) ?_); conv => whnf) | ((with_reducible refine HIf.no (by first | rfl | assumption | decide) ?_); conv => whnf) | ((with_reducible refine HInt.mk _ (wrap_i64 (by omega)) ?_); conv => whnf))))
        rw [not32, w32_crc]
        refine HCall.mk ((word_spec s3 (by omega)).mono ?_)
        rintro e h4 ⟨rfl, rfl⟩
        ((conv => whnf); (repeat (first | ((with_reducible refine HSeq.go ?_); conv => whnf) | ((with_reducible refine HMust.mk (by decide) ?_); conv => whnf) | ((with_reducible refine HIf.yes (by first | rfl | assumption | decide) ?_); conv => whnf) | ((with_reducible refine HIf.no (by first | rfl | assumption | decide) ?_); conv => whnf) | ((with_reducible refine HInt.mk _ (wrap_i64 (by omega)) ?_); conv => whnf))))
        refine HIf.mk (fun hne => ?_) (fun hne => ?_)
        · have hne' : crc (l.take 4 ++ (l.drop 8).take (m)) ≠ wordN (l.drop 4) := by
            have := bne_iff_ne.1 hne
            intro e; exact this (by rw [e])
          ((conv => whnf); (repeat (first | ((with_reducible refine HSeq.go ?_); conv => whnf) | ((with_reducible refine HMust.mk (by decide) ?_); conv => whnf) | ((with_reducible refine HIf.yes (by first | rfl | assumption | decide) ?_); conv => whnf) | ((with_reducible refine HIf.no (by first | rfl | assumption | decide) ?_); conv => whnf) | ((with_reducible refine HInt.mk _ (wrap_i64 (by omega)) ?_); conv => whnf))))
          rw [if_pos hne']
          exact Unf.bad 21
        · have hne' : crc (l.take 4 ++ (l.drop 8).take (m)) = wordN (l.drop 4) := by
            have := (Bool.eq_false_iff.1 hne)
            simp only [ne_eq, bne_iff_ne, Decidable.not_not] at this
            exact Int.ofNat.inj this
          rw [if_neg (by simpa using hne')]
          ((conv => whnf); (repeat (first | ((with_reducible refine HSeq.go ?_); conv => whnf) | ((with_reducible refine HMust.mk (by decide) ?_); conv => whnf) | ((with_reducible refine HIf.yes (by first | rfl | assumption | decide) ?_); conv => whnf) | ((with_reducible refine HIf.no (by first | rfl | assumption | decide) ?_); conv => whnf) | ((with_reducible refine HInt.mk _ (wrap_i64 (by omega)) ?_); conv => whnf))))
          refine HBound.mk (m) (by omega) (by omega) ?_
          refine HBound.mk (m) (by omega) (by omega) ?_
          refine HMust.mk ⟨Nat.le_refl _, by omega⟩ ?_
          refine new_var (e := 5) (List.replicate (m) (.int .u8 0)) (by rw [← zeroCells_one]) ?_
          intro h5 b y5 x5 z5 hb
          ((conv => whnf); (repeat (first | ((with_reducible refine HSeq.go ?_); conv => whnf) | ((with_reducible refine HMust.mk (by decide) ?_); conv => whnf) | ((with_reducible refine HIf.yes (by first | rfl | assumption | decide) ?_); conv => whnf) | ((with_reducible refine HIf.no (by first | rfl | assumption | decide) ?_); conv => whnf) | ((with_reducible refine HInt.mk _ (wrap_i64 (by omega)) ?_); conv => whnf))))
          refine HBound.mk 8 rfl (by omega) ?_
          ((conv => whnf); (repeat (first | ((with_reducible refine HSeq.go ?_); conv => whnf) | ((with_reducible refine HMust.mk (by decide) ?_); conv => whnf) | ((with_reducible refine HIf.yes (by first | rfl | assumption | decide) ?_); conv => whnf) | ((with_reducible refine HIf.no (by first | rfl | assumption | decide) ?_); conv => whnf) | ((with_reducible refine HInt.mk _ (wrap_i64 (by omega)) ?_); conv => whnf))))
          have em : Nat.min (n - 8) (m) = m := Nat.min_eq_right (by omega)
          rw [em]
          have s4 : Sl h5 1 (a.map fun p => movedTo p c 8 1) (n - 8) (c - 8) ((l.drop 8).map byteV) := by
            have := (x.ext x5).slice (i := 8) (j := n) (by omega) (by omega)
            rw [bytesV_slice, List.take_of_length_le (by omega)] at this; exact this
          refine s4.cellsTake (by omega) ?_
          have e7 : ((l.drop 8).map byteV).take (m * 1) = ((l.drop 8).take (m)).map byteV := by rw [Nat.mul_one, List.map_take]
          rw [e7]
          refine HStoreO.mk _ rfl ?_
          have hlt : ((l.drop 8).take (m)).length = m := by simp; omega
          refine store_blk y5 (by simp; omega) bytesV_one ?_
          intro h6 f6 z6 y6
          ((conv => whnf); (repeat (first | ((with_reducible refine HSeq.go ?_); conv => whnf) | ((with_reducible refine HMust.mk (by decide) ?_); conv => whnf) | ((with_reducible refine HIf.yes (by first | rfl | assumption | decide) ?_); conv => whnf) | ((with_reducible refine HIf.no (by first | rfl | assumption | decide) ?_); conv => whnf) | ((with_reducible refine HInt.mk _ (wrap_i64 (by omega)) ?_); conv => whnf))))
          have y7 : BlkW h6 b 5 (((l.drop 8).take (m)).map byteV) := by
            have e8 : (List.replicate (m) (Value.int .u8 0)).drop (0 + (((l.drop 8).take (m)).map byteV).length) = [] := by
              apply List.drop_of_length_le; simp; omega
            rw [e8] at y6
            simpa using y6
          have o7 := y7.own (B := h4.size) (by omega)
          rw [List.length_map, hlt] at o7
          refine ⟨some ⟨b, 0, none⟩, m, ?_, ?_, x5.offNew f6 (by omega)⟩
          · simp only [hlt]; rw [show ((8 + m : Nat) : Int) = 8 + (m : Int) by omega]; rfl
          · simp only [hlt]; exact o7

end Go.Proofs.Ytgmlbaikeepniaa.Hc
