import Derived.Test.YtgmlbaikeepniaaOD
set_option linter.unusedVariables false
set_option linter.unusedSimpArgs false
namespace Go.Proofs.Ytgmlbaikeepniaa.Hc
open Go Go.H Go.Proofs
set_option maxRecDepth 100000

theorem runframe_spec {a : Option Addr} {n c : Nat} {l : List UInt8} {h : Heap} (x : Sl h 1 a n c (l.map byteV)) (hn : n ≤ 140737488355000) (most : Int)
    (hm : -9223372036854775808 ≤ most ∧ most ≤ 9223372036854775807) : HCalls Try.prog 23 #[.slice a n c, .int .i64 most] h (Unf (unf l most) h) := by
  have hl : l.length = n := by simpa using x.1
  have hc := x.2.1
  have hw := wordN_lt l
  have hw4 := wordN_lt (l.drop 4)
  unfold unf
  obtain ⟨m, hN⟩ : ∃ m, wordN l = m := ⟨_, rfl⟩
  rw [hN] at hw ⊢
  refine c23 (by simp) ?_
  ((conv => whnf); (repeat (first | ((with_reducible refine HSeq.go ?_); conv => whnf) | ((with_reducible refine HMust.mk (by decide) ?_); conv => whnf) | ((with_reducible refine HIf.yes (by first | rfl | assumption | decide) ?_); conv => whnf) | ((with_reducible refine HIf.no (by first | rfl | assumption | decide) ?_); conv => whnf) | ((with_reducible refine HInt.mk _ (wrap_i64 (by omega)) ?_); conv => whnf))))
  refine HIf.mk (fun h8 => ?_) (fun h8 => ?_)
  · have h8' := of_decide_eq_true h8
    ((conv => whnf); (repeat (first | ((with_reducible refine HSeq.go ?_); conv => whnf) | ((with_reducible refine HMust.mk (by decide) ?_); conv => whnf) | ((with_reducible refine HIf.yes (by first | rfl | assumption | decide) ?_); conv => whnf) | ((with_reducible refine HIf.no (by first | rfl | assumption | decide) ?_); conv => whnf) | ((with_reducible refine HInt.mk _ (wrap_i64 (by omega)) ?_); conv => whnf))))
    rw [if_pos (by omega)]
    exact Unf.bad 20
  · have h8' := of_decide_eq_false h8
    rw [if_neg (show ¬ l.length < 8 by omega)]
    ((conv => whnf); (repeat (first | ((with_reducible refine HSeq.go ?_); conv => whnf) | ((with_reducible refine HMust.mk (by decide) ?_); conv => whnf) | ((with_reducible refine HIf.yes (by first | rfl | assumption | decide) ?_); conv => whnf) | ((with_reducible refine HIf.no (by first | rfl | assumption | decide) ?_); conv => whnf) | ((with_reducible refine HInt.mk _ (wrap_i64 (by omega)) ?_); conv => whnf))))
    refine HCall.mk ((rword_spec x (by omega)).mono ?_)
    rintro e h' ⟨rfl, he⟩
    rw [hN] at he
    subst he
    ((conv => whnf); (repeat (first | ((with_reducible refine HSeq.go ?_); conv => whnf) | ((with_reducible refine HMust.mk (by decide) ?_); conv => whnf) | ((with_reducible refine HIf.yes (by first | rfl | assumption | decide) ?_); conv => whnf) | ((with_reducible refine HIf.no (by first | rfl | assumption | decide) ?_); conv => whnf) | ((with_reducible refine HInt.mk _ (wrap_i64 (by omega)) ?_); conv => whnf))))
    refine HIf.mk (fun hneg => ?_) (fun hneg => ?_)
    · have hneg' := of_decide_eq_true hneg
      ((conv => whnf); (repeat (first | ((with_reducible refine HSeq.go ?_); conv => whnf) | ((with_reducible refine HMust.mk (by decide) ?_); conv => whnf) | ((with_reducible refine HIf.yes (by first | rfl | assumption | decide) ?_); conv => whnf) | ((with_reducible refine HIf.no (by first | rfl | assumption | decide) ?_); conv => whnf) | ((with_reducible refine HInt.mk _ (wrap_i64 (by omega)) ?_); conv => whnf))))
      rw [if_pos (by omega)]
      exact Unf.bad 22
    · have hneg' := of_decide_eq_false hneg
      ((conv => whnf); (repeat (first | ((with_reducible refine HSeq.go ?_); conv => whnf) | ((with_reducible refine HMust.mk (by decide) ?_); conv => whnf) | ((with_reducible refine HIf.yes (by first | rfl | assumption | decide) ?_); conv => whnf) | ((with_reducible refine HIf.no (by first | rfl | assumption | decide) ?_); conv => whnf) | ((with_reducible refine HInt.mk _ (wrap_i64 (by omega)) ?_); conv => whnf))))
      refine HInt.mk _ (wrap_u64 (by omega)) ?_
      ((conv => whnf); (repeat (first | ((with_reducible refine HSeq.go ?_); conv => whnf) | ((with_reducible refine HMust.mk (by decide) ?_); conv => whnf) | ((with_reducible refine HIf.yes (by first | rfl | assumption | decide) ?_); conv => whnf) | ((with_reducible refine HIf.no (by first | rfl | assumption | decide) ?_); conv => whnf) | ((with_reducible refine HInt.mk _ (wrap_i64 (by omega)) ?_); conv => whnf))))
      refine HInt.mk _ (wrap_u64 (by omega)) ?_
      ((conv => whnf); (repeat (first | ((with_reducible refine HSeq.go ?_); conv => whnf) | ((with_reducible refine HMust.mk (by decide) ?_); conv => whnf) | ((with_reducible refine HIf.yes (by first | rfl | assumption | decide) ?_); conv => whnf) | ((with_reducible refine HIf.no (by first | rfl | assumption | decide) ?_); conv => whnf) | ((with_reducible refine HInt.mk _ (wrap_i64 (by omega)) ?_); conv => whnf))))
      refine HIf.mk (fun hmo => ?_) (fun hmo => ?_)
      · have hmo' := of_decide_eq_true hmo
        ((conv => whnf); (repeat (first | ((with_reducible refine HSeq.go ?_); conv => whnf) | ((with_reducible refine HMust.mk (by decide) ?_); conv => whnf) | ((with_reducible refine HIf.yes (by first | rfl | assumption | decide) ?_); conv => whnf) | ((with_reducible refine HIf.no (by first | rfl | assumption | decide) ?_); conv => whnf) | ((with_reducible refine HInt.mk _ (wrap_i64 (by omega)) ?_); conv => whnf))))
        rw [if_pos hmo']
        exact Unf.bad 22
      · have hmo' := of_decide_eq_false hmo
        rw [if_neg hmo']
        ((conv => whnf); (repeat (first | ((with_reducible refine HSeq.go ?_); conv => whnf) | ((with_reducible refine HMust.mk (by decide) ?_); conv => whnf) | ((with_reducible refine HIf.yes (by first | rfl | assumption | decide) ?_); conv => whnf) | ((with_reducible refine HIf.no (by first | rfl | assumption | decide) ?_); conv => whnf) | ((with_reducible refine HInt.mk _ (wrap_i64 (by omega)) ?_); conv => whnf))))
        refine HInt.mk _ (wrap_u64 (by omega)) ?_
        ((conv => whnf); (repeat (first | ((with_reducible refine HSeq.go ?_); conv => whnf) | ((with_reducible refine HMust.mk (by decide) ?_); conv => whnf) | ((with_reducible refine HIf.yes (by first | rfl | assumption | decide) ?_); conv => whnf) | ((with_reducible refine HIf.no (by first | rfl | assumption | decide) ?_); conv => whnf) | ((with_reducible refine HInt.mk _ (wrap_i64 (by omega)) ?_); conv => whnf))))
        refine HInt.mk _ (wrap_u64 (by omega)) ?_
        ((conv => whnf); (repeat (first | ((with_reducible refine HSeq.go ?_); conv => whnf) | ((with_reducible refine HMust.mk (by decide) ?_); conv => whnf) | ((with_reducible refine HIf.yes (by first | rfl | assumption | decide) ?_); conv => whnf) | ((with_reducible refine HIf.no (by first | rfl | assumption | decide) ?_); conv => whnf) | ((with_reducible refine HInt.mk _ (wrap_i64 (by omega)) ?_); conv => whnf))))
        refine HIf.mk (fun hsh => ?_) (fun hsh => ?_)
        · have hsh' := of_decide_eq_true hsh
          ((conv => whnf); (repeat (first | ((with_reducible refine HSeq.go ?_); conv => whnf) | ((with_reducible refine HMust.mk (by decide) ?_); conv => whnf) | ((with_reducible refine HIf.yes (by first | rfl | assumption | decide) ?_); conv => whnf) | ((with_reducible refine HIf.no (by first | rfl | assumption | decide) ?_); conv => whnf) | ((with_reducible refine HInt.mk _ (wrap_i64 (by omega)) ?_); conv => whnf))))
          rw [if_pos (show m > l.length - 8 by omega)]
          exact Unf.bad 20
        · have hsh' := of_decide_eq_false hsh
          have hle : 8 + m ≤ n := by omega
          rw [if_neg (show ¬ m > l.length - 8 by omega)]
          ((conv => whnf); (repeat (first | ((with_reducible refine HSeq.go ?_); conv => whnf) | ((with_reducible refine HMust.mk (by decide) ?_); conv => whnf) | ((with_reducible refine HIf.yes (by first | rfl | assumption | decide) ?_); conv => whnf) | ((with_reducible refine HIf.no (by first | rfl | assumption | decide) ?_); conv => whnf) | ((with_reducible refine HInt.mk _ (wrap_i64 (by omega)) ?_); conv => whnf))))
          refine HBound.mk (8 + m) (by omega) (by omega) ?_
          refine HBound.mk 8 rfl (by omega) ?_
          ((conv => whnf); (repeat (first | ((with_reducible refine HSeq.go ?_); conv => whnf) | ((with_reducible refine HMust.mk (by decide) ?_); conv => whnf) | ((with_reducible refine HIf.yes (by first | rfl | assumption | decide) ?_); conv => whnf) | ((with_reducible refine HIf.no (by first | rfl | assumption | decide) ?_); conv => whnf) | ((with_reducible refine HInt.mk _ (wrap_i64 (by omega)) ?_); conv => whnf))))
          have s1 : Sl h' 1 (a.map fun p => movedTo p c 0 1) 4 (c - 0) ((l.take 4).map byteV) := by
            have := x.slice (i := 0) (j := 4) (by omega) (by omega)
            rw [bytesV_slice] at this; simpa using this
          have s2 : Sl h' 1 (a.map fun p => movedTo p c 8 1) (8 + m - 8) (c - 8) (((l.drop 8).take m).map byteV) := by
            have := x.slice (i := 8) (j := 8 + m) (by omega) (by omega)
            rw [bytesV_slice, take_drop_eq] at this; exact this
          have s3 : Sl h' 1 (a.map fun p => movedTo p c 4 1) (n - 4) (c - 4) ((l.drop 4).map byteV) := by
            have := x.slice (i := 4) (j := n) (by omega) (by omega)
            rw [bytesV_slice, List.take_of_length_le (by omega)] at this; exact this
          have hlt : ((l.drop 8).take m).length = m := by simp; omega
          refine s2.cells ?_
          refine (Own.nil h' h'.size 5 1).append (m := 8 + m - 8) (Nat.le_refl _) rfl (by simp; omega) bytesV_one (by omega) ?_
          intro h2 a2 c2 o2 k2 _ _
          have x2 : Ext h' h2 := k2
          ((conv => whnf); (repeat (first | ((with_reducible refine HSeq.go ?_); conv => whnf) | ((with_reducible refine HMust.mk (by decide) ?_); conv => whnf) | ((with_reducible refine HIf.yes (by first | rfl | assumption | decide) ?_); conv => whnf) | ((with_reducible refine HIf.no (by first | rfl | assumption | decide) ?_); conv => whnf) | ((with_reducible refine HInt.mk _ (wrap_i64 (by omega)) ?_); conv => whnf))))
          refine HBound.mk 4 rfl (by omega) ?_
          ((conv => whnf); (repeat (first | ((with_reducible refine HSeq.go ?_); conv => whnf) | ((with_reducible refine HMust.mk (by decide) ?_); conv => whnf) | ((with_reducible refine HIf.yes (by first | rfl | assumption | decide) ?_); conv => whnf) | ((with_reducible refine HIf.no (by first | rfl | assumption | decide) ?_); conv => whnf) | ((with_reducible refine HInt.mk _ (wrap_i64 (by omega)) ?_); conv => whnf))))
          refine HBound.mk 4 rfl (by omega) ?_
          ((conv => whnf); (repeat (first | ((with_reducible refine HSeq.go ?_); conv => whnf) | ((with_reducible refine HMust.mk (by decide) ?_); conv => whnf) | ((with_reducible refine HIf.yes (by first | rfl | assumption | decide) ?_); conv => whnf) | ((with_reducible refine HIf.no (by first | rfl | assumption | decide) ?_); conv => whnf) | ((with_reducible refine HInt.mk _ (wrap_i64 (by omega)) ?_); conv => whnf))))
          refine (s1.ext x2).cells ?_
          refine (Own.nil h2 h2.size 5 1).append (m := 4) (Nat.le_refl _) rfl (by simp; omega) bytesV_one (by omega) ?_
          intro h3 a3 c3 o3 k3 _ _
          have x3 : Ext h2 h3 := k3
          ((conv => whnf); (repeat (first | ((with_reducible refine HSeq.go ?_); conv => whnf) | ((with_reducible refine HMust.mk (by decide) ?_); conv => whnf) | ((with_reducible refine HIf.yes (by first | rfl | assumption | decide) ?_); conv => whnf) | ((with_reducible refine HIf.no (by first | rfl | assumption | decide) ?_); conv => whnf) | ((with_reducible refine HInt.mk _ (wrap_i64 (by omega)) ?_); conv => whnf))))
          refine (o2.ext x3).sl.cells ?_
          refine o3.append (m := 0 + (8 + m - 8)) x3.1 rfl (by simp; omega) (by intro v hv; rw [List.nil_append] at hv; exact bytesV_one v hv) (by omega) ?_
          intro h4 a4 c4 o4 k4 _ _
          have x4 : Ext h2 h4 := Ext.keep x3 k4
          have o4' : Own h4 h2.size 5 1 a4 (0 + 4 + (0 + (8 + m - 8))) c4 ((l.take 4 ++ (l.drop 8).take m).map byteV) := by simpa using o4
          ((conv => whnf); (repeat (first | ((with_reducible refine HSeq.go ?_); conv => whnf) | ((with_reducible refine HMust.mk (by decide) ?_); conv => whnf) | ((with_reducible refine HIf.yes (by first | rfl | assumption | decide) ?_); conv => whnf) | ((with_reducible refine HIf.no (by first | rfl | assumption | decide) ?_); conv => whnf) | ((with_reducible refine HInt.mk _ (wrap_i64 (by omega)) ?_); conv => whnf))))
          refine HCall.mk ((rsum_spec o4'.sl (by omega)).mono ?_)
          rintro e h5 ⟨rfl, rfl⟩
          rw [w32_crc]
          ((conv => whnf); (repeat (first | ((with_reducible refine HSeq.go ?_); conv => whnf) | ((with_reducible refine HMust.mk (by decide) ?_); conv => whnf) | ((with_reducible refine HIf.yes (by first | rfl | assumption | decide) ?_); conv => whnf) | ((with_reducible refine HIf.no (by first | rfl | assumption | decide) ?_); conv => whnf) | ((with_reducible refine HInt.mk _ (wrap_i64 (by omega)) ?_); conv => whnf))))
          refine HCall.mk ((rword_spec (s3.ext (x2.trans x4)) (by omega)).mono ?_)
          rintro e h5 ⟨rfl, rfl⟩
          ((conv => whnf); (repeat (first | ((with_reducible refine HSeq.go ?_); conv => whnf) | ((with_reducible refine HMust.mk (by decide) ?_); conv => whnf) | ((with_reducible refine HIf.yes (by first | rfl | assumption | decide) ?_); conv => whnf) | ((with_reducible refine HIf.no (by first | rfl | assumption | decide) ?_); conv => whnf) | ((with_reducible refine HInt.mk _ (wrap_i64 (by omega)) ?_); conv => whnf))))
          refine HIf.mk (fun hne => ?_) (fun hne => ?_)
          · have hne' : crc (l.take 4 ++ (l.drop 8).take m) ≠ wordN (l.drop 4) := by
              have := bne_iff_ne.1 hne
              intro e; exact this (by rw [e])
            ((conv => whnf); (repeat (first | ((with_reducible refine HSeq.go ?_); conv => whnf) | ((with_reducible refine HMust.mk (by decide) ?_); conv => whnf) | ((with_reducible refine HIf.yes (by first | rfl | assumption | decide) ?_); conv => whnf) | ((with_reducible refine HIf.no (by first | rfl | assumption | decide) ?_); conv => whnf) | ((with_reducible refine HInt.mk _ (wrap_i64 (by omega)) ?_); conv => whnf))))
            rw [if_pos hne']
            exact ⟨none, 0, rfl, Own.nil _ _ _ _, x2.trans x4⟩
          · have hne' : crc (l.take 4 ++ (l.drop 8).take m) = wordN (l.drop 4) := by
              have := (Bool.eq_false_iff.1 hne)
              simp only [ne_eq, bne_iff_ne, Decidable.not_not] at this
              exact Int.ofNat.inj this
            rw [if_neg (by simpa using hne')]
            ((conv => whnf); (repeat (first | ((with_reducible refine HSeq.go ?_); conv => whnf) | ((with_reducible refine HMust.mk (by decide) ?_); conv => whnf) | ((with_reducible refine HIf.yes (by first | rfl | assumption | decide) ?_); conv => whnf) | ((with_reducible refine HIf.no (by first | rfl | assumption | decide) ?_); conv => whnf) | ((with_reducible refine HInt.mk _ (wrap_i64 (by omega)) ?_); conv => whnf))))
            have o9 := o2.ext x4
            have e9 : 0 + (8 + m - 8) = m := by omega
            rw [e9] at o9
            refine ⟨a2, c2, ?_, ?_, x2.trans x4⟩
            · simp only [hlt]; rw [show ((8 + m : Nat) : Int) = 8 + (m : Int) by omega]
              show Ending.returned (.tuple #[.slice a2 (0 + (8 + m - 8)) c2, _, _]) = _
              rw [e9]; rfl
            · simp only [hlt]; simpa using o9

theorem framed_spec (h : Heap) : HCalls Try.prog 20 #[] h fun e h' => e = .returned (.bool true) ∧ Ext h h' := by
  refine c20 (by simp) ?_
  ((conv => whnf); (repeat (first | ((with_reducible refine HSeq.go ?_); conv => whnf) | ((with_reducible refine HMust.mk (by decide) ?_); conv => whnf) | ((with_reducible refine HIf.yes (by first | rfl | assumption | decide) ?_); conv => whnf) | ((with_reducible refine HIf.no (by first | rfl | assumption | decide) ?_); conv => whnf) | ((with_reducible refine HInt.mk _ (wrap_i64 (by omega)) ?_); conv => whnf))))
  refine new_own (e := 5) 1 1 (List.map byteV [97]) rfl rfl ?_
  intro h1 b1 o1 x1 _ _
  ((conv => whnf); (repeat (first | ((with_reducible refine HSeq.go ?_); conv => whnf) | ((with_reducible refine HMust.mk (by decide) ?_); conv => whnf) | ((with_reducible refine HIf.yes (by first | rfl | assumption | decide) ?_); conv => whnf) | ((with_reducible refine HIf.no (by first | rfl | assumption | decide) ?_); conv => whnf) | ((with_reducible refine HInt.mk _ (wrap_i64 (by omega)) ?_); conv => whnf))))
  refine HCall.mk ((frame_spec o1.sl (by omega)).mono ?_)
  rintro e h2 ⟨b2, rfl, hb2, y2, x2⟩
  ((conv => whnf); (repeat (first | ((with_reducible refine HSeq.go ?_); conv => whnf) | ((with_reducible refine HMust.mk (by decide) ?_); conv => whnf) | ((with_reducible refine HIf.yes (by first | rfl | assumption | decide) ?_); conv => whnf) | ((with_reducible refine HIf.no (by first | rfl | assumption | decide) ?_); conv => whnf) | ((with_reducible refine HInt.mk _ (wrap_i64 (by omega)) ?_); conv => whnf))))
  have y3 := y2.sl
  rw [show ((frameL [97]).map byteV).length = 8 + 1 from rfl] at y3
  refine HCall.mk ((unframe_spec y3 (by omega) 9 (by omega)).mono ?_)
  rw [show unf (frameL [97]) 9 = ([97], 9, 0) by decide +kernel]
  rintro e h3 ⟨a3, c3, rfl, o3, x3⟩
  ((conv => whnf); (repeat (first | ((with_reducible refine HSeq.go ?_); conv => whnf) | ((with_reducible refine HMust.mk (by decide) ?_); conv => whnf) | ((with_reducible refine HIf.yes (by first | rfl | assumption | decide) ?_); conv => whnf) | ((with_reducible refine HIf.no (by first | rfl | assumption | decide) ?_); conv => whnf) | ((with_reducible refine HInt.mk _ (wrap_i64 (by omega)) ?_); conv => whnf))))
  refine new_own (e := 5) 1 1 (List.map byteV [97]) rfl rfl ?_
  intro h4 b4 o4 x4 _ _
  ((conv => whnf); (repeat (first | ((with_reducible refine HSeq.go ?_); conv => whnf) | ((with_reducible refine HMust.mk (by decide) ?_); conv => whnf) | ((with_reducible refine HIf.yes (by first | rfl | assumption | decide) ?_); conv => whnf) | ((with_reducible refine HIf.no (by first | rfl | assumption | decide) ?_); conv => whnf) | ((with_reducible refine HInt.mk _ (wrap_i64 (by omega)) ?_); conv => whnf))))
  refine HCall.mk ((same_spec (o3.sl.ext x4) o4.sl).mono ?_)
  rintro e0 h' ⟨rfl, he⟩
  rw [beq_self_eq_true] at he
  subst he
  ((conv => whnf); (repeat (first | ((with_reducible refine HSeq.go ?_); conv => whnf) | ((with_reducible refine HMust.mk (by decide) ?_); conv => whnf) | ((with_reducible refine HIf.yes (by first | rfl | assumption | decide) ?_); conv => whnf) | ((with_reducible refine HIf.no (by first | rfl | assumption | decide) ?_); conv => whnf) | ((with_reducible refine HInt.mk _ (wrap_i64 (by omega)) ?_); conv => whnf))))
  exact ⟨rfl, x1.trans (x2.trans (x3.trans x4))⟩

end Go.Proofs.Ytgmlbaikeepniaa.Hc
