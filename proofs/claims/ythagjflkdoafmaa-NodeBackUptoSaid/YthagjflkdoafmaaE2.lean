import Derived.Test.YthagjflkdoafmaaE1
set_option linter.unusedVariables false
set_option linter.unusedSimpArgs false
namespace Go.Proofs.Ythagjflkdoafmaa.Hc
open Go Go.H Go.Proofs
set_option maxRecDepth 100000

theorem crcL_append (s : BitVec 32) (a b : List UInt8) : crcL (crcL s a) b = crcL s (a ++ b) := by unfold crcL; rw [List.foldl_append]
/-- The sum of some bytes. -/
def crc (l : List UInt8) : Nat := (~~~(crcL (BitVec.allOnes 32) l)).toNat
theorem crc_lt (l : List UInt8) : crc l < 2 ^ 32 := BitVec.isLt _
theorem w32_crc (l : List UInt8) : w32 (~~~(crcL (BitVec.allOnes 32) l)) = ((crc l : Nat) : Int) := rfl
def head4 (l : List UInt8) : List UInt8 := be32 (l.length % 4294967296)
def frameL (l : List UInt8) : List UInt8 := head4 l ++ (be32 (crc (head4 l ++ l)) ++ l)
theorem be32_len (m : Nat) : (be32 m).length = 4 := rfl
theorem head4_len (l : List UInt8) : (head4 l).length = 4 := rfl
theorem frameL_len (l : List UInt8) : (frameL l).length = 8 + l.length := by simp [frameL, head4_len, be32_len]; omega

theorem frame_spec {a : Option Addr} {n c : Nat} {l : List UInt8} {h : Heap} (x : Sl h 1 a n c (l.map byteV)) (hn : n ≤ 140737488355000) :
    HCalls Try.prog 26 #[.slice a n c] h fun e h' => ∃ b, e = .returned (.slice (some ⟨b, 0, none⟩) (8 + n) (8 + n)) ∧ h.size ≤ b ∧ BlkW h' b 5 ((frameL l).map byteV) ∧ Ext h h' := by
  have hl : l.length = n := by simpa using x.1
  refine c26 (by simp) ?_
  ((conv=>whnf);repeat((first|(with_reducible first|refine Z1 ?_|refine Z2 ?_|refine Z3 ?_|refine Z4 ?_|refine Z5 ?_));(conv=>whnf)))
  refine HBound.mk (8 + n) (by omega) (by omega) ?_
  refine HBound.mk (8 + n) (by omega) (by omega) ?_
  refine HMust.mk ⟨Nat.le_refl _, by omega⟩ ?_
  refine new_var (e := 5) (List.replicate (8 + n) (.int .u8 0)) (by rw [← zeroCells_one]) ?_
  intro h1 b y1 x1 z1 hb
  ((conv=>whnf);repeat((first|(with_reducible first|refine Z1 ?_|refine Z2 ?_|refine Z3 ?_|refine Z4 ?_|refine Z5 ?_));(conv=>whnf)))
  refine HInt.mk ((n % 4294967296 : Nat) : Int) (by rw [wrap_u32']; rfl) ?_
  ((conv=>whnf);repeat((first|(with_reducible first|refine Z1 ?_|refine Z2 ?_|refine Z3 ?_|refine Z4 ?_|refine Z5 ?_));(conv=>whnf)))
  refine HCall.mk ((put_spec (o := 0) (n := 8 + n) (n % 4294967296) (by omega) y1 (by simp; omega) (by omega)).mono ?_)
  rintro e h2 ⟨rfl, f2, z2, y2⟩
  have y2' : BlkW h2 b 5 ((head4 l).map byteV ++ List.replicate (4 + n) (.int .u8 0)) := by
    have : (8 + n) - 4 = 4 + n := by omega
    simpa [head4, hl, this] using y2
  have x2 := x1.offNew f2 (by omega)
  ((conv=>whnf);repeat((first|(with_reducible first|refine Z1 ?_|refine Z2 ?_|refine Z3 ?_|refine Z4 ?_|refine Z5 ?_));(conv=>whnf)))
  refine HBound.mk 8 rfl (by omega) ?_
  ((conv=>whnf);repeat((first|(with_reducible first|refine Z1 ?_|refine Z2 ?_|refine Z3 ?_|refine Z4 ?_|refine Z5 ?_));(conv=>whnf)))
  have em : Nat.min n (8 + n - 8) = n := by rw [show 8 + n - 8 = n by omega]; exact Nat.min_self n
  rw [em]
  refine (x.ext x2).cells ?_
  refine HStoreO.mk _ rfl ?_
  refine store_moved y2' (by simp [head4_len]; omega) (by simp; omega) bytesV_one ?_
  intro h3 f3 z3 y3
  have y3' : BlkW h3 b 5 ((head4 l).map byteV ++ (List.replicate 4 (Value.int .u8 0) ++ l.map byteV)) := by
    have e1 : ((head4 l).map byteV ++ List.replicate (4 + n) (Value.int .u8 0)).take 8 = (head4 l).map byteV ++ List.replicate 4 (.int .u8 0) := by
      rw [List.take_append, List.take_of_length_le (by simp [head4_len]), List.length_map, head4_len, List.take_replicate, Nat.min_eq_left (by omega)]
    have e2 : ((head4 l).map byteV ++ List.replicate (4 + n) (Value.int .u8 0)).drop (8 + (l.map byteV).length) = [] := by
      apply List.drop_of_length_le; simp [head4_len]; omega
    rw [e1, e2] at y3
    simpa using y3
  have x3 := x2.offNew f3 (by omega)
  ((conv=>whnf);repeat((first|(with_reducible first|refine Z1 ?_|refine Z2 ?_|refine Z3 ?_|refine Z4 ?_|refine Z5 ?_));(conv=>whnf)))
  refine HBound.mk 4 rfl (by omega) ?_
  ((conv=>whnf);repeat((first|(with_reducible first|refine Z1 ?_|refine Z2 ?_|refine Z3 ?_|refine Z4 ?_|refine Z5 ?_));(conv=>whnf)))
  refine HBound.mk 4 rfl (by omega) ?_
  ((conv=>whnf);repeat((first|(with_reducible first|refine Z1 ?_|refine Z2 ?_|refine Z3 ?_|refine Z4 ?_|refine Z5 ?_));(conv=>whnf)))
  have len3 : ((head4 l).map byteV ++ (List.replicate 4 (Value.int .u8 0) ++ l.map byteV)).length = 8 + n := by simp [head4_len]; omega
  have s1 : Sl h3 1 (some (movedTo ⟨b, 0, none⟩ (8 + n) 0 1)) 4 (8 + n) ((head4 l).map byteV) := by
    have := y3'.sl.slice (i := 0) (j := 4) (by omega) (by omega)
    rw [len3] at this
    have e3 : (((head4 l).map byteV ++ (List.replicate 4 (Value.int .u8 0) ++ l.map byteV)).take (4 * 1)).drop (0 * 1) = (head4 l).map byteV := by
      simp [List.take_append, head4_len, List.take_of_length_le]
    rw [e3] at this
    exact this
  refine HCall.mk ((sum_spec (BitVec.allOnes 32) s1 (by omega)).mono ?_)
  rintro e h' ⟨rfl, rfl⟩
  ((conv=>whnf);repeat((first|(with_reducible first|refine Z1 ?_|refine Z2 ?_|refine Z3 ?_|refine Z4 ?_|refine Z5 ?_));(conv=>whnf)))
  refine HCall.mk ((sum_spec _ (x.ext x3) (by omega)).mono ?_)
  rintro e h' ⟨rfl, rfl⟩
  rw [crcL_append]
  ((conv=>whnf);repeat((first|(with_reducible first|refine Z1 ?_|refine Z2 ?_|refine Z3 ?_|refine Z4 ?_|refine Z5 ?_));(conv=>whnf)))
  rw [not32, w32_crc]
  have em4 : movedTo ⟨b, 0, none⟩ (8 + n) 4 1 = ⟨b, 4, none⟩ := by rw [movedTo_eq (by omega)]
  refine HCall.to #[.slice (some ⟨b, 4, none⟩) (8 + n - 4) (8 + n - 4), .int .u32 ((crc (head4 l ++ l) : Nat) : Int)] (by rw [← em4]; rfl) ?_
  refine (put_spec (o := 4) (n := 8 + n - 4) _ (crc_lt _) y3' (by omega) (by omega)).mono ?_
  rintro e h4 ⟨rfl, f4, z4, y4⟩
  have x4 := x3.offNew f4 (by omega)
  ((conv=>whnf);repeat((first|(with_reducible first|refine Z1 ?_|refine Z2 ?_|refine Z3 ?_|refine Z4 ?_|refine Z5 ?_));(conv=>whnf)))
  refine ⟨b, rfl, by omega, ?_, x4⟩
  have e5 : (((head4 l).map byteV ++ (List.replicate 4 (Value.int .u8 0) ++ l.map byteV)).take 4) = (head4 l).map byteV := by
    simp [List.take_append, head4_len, List.take_of_length_le]
  have e6 : (((head4 l).map byteV ++ (List.replicate 4 (Value.int .u8 0) ++ l.map byteV)).drop (4 + 4)) = l.map byteV := by
    simp [List.drop_append, head4_len]
  rw [e5, e6] at y4
  simpa [frameL] using y4

end Go.Proofs.Ythagjflkdoafmaa.Hc

namespace Go.Proofs.Ythagjflkdoafmaa.Hc
open Go Go.H Go.Proofs
set_option maxRecDepth 100000

theorem rframe_spec {a : Option Addr} {n c : Nat} {l : List UInt8} {h : Heap} (x : Sl h 1 a n c (l.map byteV)) (hn : n ≤ 140737488355000) :
    HCalls Try.prog 23 #[.slice a n c] h fun e h' => ∃ a' c', e = .returned (.slice a' (8 + n) c') ∧ Own h' h.size 5 1 a' (8 + n) c' ((frameL l).map byteV) ∧ Ext h h' := by
  have hl : l.length = n := by simpa using x.1
  refine c23 (by simp) ?_
  ((conv=>whnf);repeat((first|(with_reducible first|refine Z1 ?_|refine Z2 ?_|refine Z3 ?_|refine Z4 ?_|refine Z5 ?_));(conv=>whnf)))
  refine HInt.mk ((n % 4294967296 : Nat) : Int) (by rw [wrap_u32']; rfl) ?_
  ((conv=>whnf);repeat((first|(with_reducible first|refine Z1 ?_|refine Z2 ?_|refine Z3 ?_|refine Z4 ?_|refine Z5 ?_));(conv=>whnf)))
  refine HCall.mk ((four_spec (n % 4294967296) (by omega)).mono ?_)
  rintro e h1 ⟨b1, rfl, o1, x1⟩
  ((conv=>whnf);repeat((first|(with_reducible first|refine Z1 ?_|refine Z2 ?_|refine Z3 ?_|refine Z4 ?_|refine Z5 ?_));(conv=>whnf)))
  refine o1.sl.cells ?_
  refine (Own.nil h1 h1.size 5 1).append (m := 4) (Nat.le_refl _) rfl (by simp [be32]) bytesV_one (by omega) ?_
  intro h2 a2 c2 o2 k2 _ _
  ((conv=>whnf);repeat((first|(with_reducible first|refine Z1 ?_|refine Z2 ?_|refine Z3 ?_|refine Z4 ?_|refine Z5 ?_));(conv=>whnf)))
  refine (x.ext (x1.trans k2)).cells ?_
  refine o2.append (m := n) k2.1 rfl (by simp; omega) bytesV_one (by omega) ?_
  intro h3 a3 c3 o3 k3 _ _
  have x13 : Ext h1 h3 := Ext.keep k2 k3
  have o3' : Own h3 h1.size 5 1 a3 (0 + 4 + n) c3 ((head4 l ++ l).map byteV) := by simpa [head4, hl] using o3
  ((conv=>whnf);repeat((first|(with_reducible first|refine Z1 ?_|refine Z2 ?_|refine Z3 ?_|refine Z4 ?_|refine Z5 ?_));(conv=>whnf)))
  refine (o1.ext x13).sl.cells ?_
  refine (Own.nil h3 h3.size 5 1).append (m := 4) (Nat.le_refl _) rfl (by simp [be32]) bytesV_one (by omega) ?_
  intro h4 a4 c4 o4 k4 _ _
  ((conv=>whnf);repeat((first|(with_reducible first|refine Z1 ?_|refine Z2 ?_|refine Z3 ?_|refine Z4 ?_|refine Z5 ?_));(conv=>whnf)))
  refine HCall.mk ((rsum_spec (o3'.ext k4).sl (by omega)).mono ?_)
  rintro e h' ⟨rfl, rfl⟩
  rw [w32_crc]
  ((conv=>whnf);repeat((first|(with_reducible first|refine Z1 ?_|refine Z2 ?_|refine Z3 ?_|refine Z4 ?_|refine Z5 ?_));(conv=>whnf)))
  refine HCall.mk ((four_spec (crc (head4 l ++ l)) (crc_lt _)).mono ?_)
  rintro e h5 ⟨b5, rfl, o5, x5⟩
  ((conv=>whnf);repeat((first|(with_reducible first|refine Z1 ?_|refine Z2 ?_|refine Z3 ?_|refine Z4 ?_|refine Z5 ?_));(conv=>whnf)))
  refine o5.sl.cells ?_
  refine (o4.ext x5).append (m := 4) (Nat.le_trans k4.1 x5.1) rfl (by simp [be32]) bytesV_one (by omega) ?_
  intro h6 a6 c6 o6 k6 _ _
  have x36 : Ext h3 h6 := Ext.keep (Ext.trans k4 x5) k6
  ((conv=>whnf);repeat((first|(with_reducible first|refine Z1 ?_|refine Z2 ?_|refine Z3 ?_|refine Z4 ?_|refine Z5 ?_));(conv=>whnf)))
  refine (x.ext (x1.trans (x13.trans x36))).cells ?_
  refine o6.append (m := n) x36.1 rfl (by simp; omega) bytesV_one (by omega) ?_
  intro h7 a7 c7 o7 k7 _ _
  ((conv=>whnf);repeat((first|(with_reducible first|refine Z1 ?_|refine Z2 ?_|refine Z3 ?_|refine Z4 ?_|refine Z5 ?_));(conv=>whnf)))
  refine ⟨a7, c7, by rw [show 8 + n = 0 + 4 + 4 + n by omega]; rfl, ?_, x1.trans (x13.trans (Ext.keep x36 k7))⟩
  have o8 := o7.lower (Nat.le_trans x1.1 x13.1)
  rw [show 8 + n = 0 + 4 + 4 + n by omega]
  simpa [frameL, head4, hl] using o8

end Go.Proofs.Ythagjflkdoafmaa.Hc

namespace Go.Proofs.Ythagjflkdoafmaa.Hc
open Go Go.H Go.Proofs
set_option maxRecDepth 100000

/-- What stands in some bytes as a frame. -/
def unf (l : List UInt8) (most : Int) : List UInt8 × Nat × Nat :=
  if l.length < 8 then ([], 0, 20)
  else if (wordN l : Int) > most then ([], 0, 22)
  else if wordN l > l.length - 8 then ([], 0, 20)
  else if crc (l.take 4 ++ (l.drop 8).take (wordN l)) ≠ wordN (l.drop 4) then ([], 0, 21)
  else ((l.drop 8).take (wordN l), 8 + wordN l, 0)
def Unf (t : List UInt8 × Nat × Nat) (h : Heap) (e : Ending) (h' : Heap) : Prop :=
  ∃ a c, e = .returned (.tuple #[.slice a t.1.length c, .int .i64 t.2.1, .int .i64 t.2.2]) ∧ Own h' h.size 5 1 a t.1.length c (t.1.map byteV) ∧ Ext h h'
theorem Unf.bad {h : Heap} (k : Nat) : Unf ([], 0, k) h (.returned (.tuple #[.slice none 0 0, .int .i64 0, .int .i64 k])) h := ⟨none, 0, rfl, Own.nil _ _ _ _, Ext.refl _⟩

theorem unframe_spec {a : Option Addr} {n c : Nat} {l : List UInt8} {h : Heap} (x : Sl h 1 a n c (l.map byteV)) (hn : n ≤ 281474976710656) (most : Int)
    (hm : -9223372036854775808 ≤ most ∧ most ≤ 9223372036854775807) : HCalls Try.prog 36 #[.slice a n c, .int .i64 most] h (Unf (unf l most) h) := by
  have hl : l.length = n := by simpa using x.1
  have hc := x.2.1
  have hw := wordN_lt l
  have hw4 := wordN_lt (l.drop 4)
  unfold unf
  obtain ⟨m, hN⟩ : ∃ m, wordN l = m := ⟨_, rfl⟩
  rw [hN] at hw ⊢
  refine c36 (by simp) ?_
  ((conv=>whnf);repeat((first|(with_reducible first|refine Z1 ?_|refine Z2 ?_|refine Z3 ?_|refine Z4 ?_|refine Z5 ?_));(conv=>whnf)))
  refine HIf.mk (fun h8 => ?_) (fun h8 => ?_)
  · have h8' := of_decide_eq_true h8
    ((conv=>whnf);repeat((first|(with_reducible first|refine Z1 ?_|refine Z2 ?_|refine Z3 ?_|refine Z4 ?_|refine Z5 ?_));(conv=>whnf)))
    rw [if_pos (by omega)]
    exact Unf.bad 20
  · have h8' := of_decide_eq_false h8
    rw [if_neg (show ¬ l.length < 8 by omega)]
    ((conv=>whnf);repeat((first|(with_reducible first|refine Z1 ?_|refine Z2 ?_|refine Z3 ?_|refine Z4 ?_|refine Z5 ?_));(conv=>whnf)))
    refine HCall.mk ((word_spec x (by omega)).mono ?_)
    rintro e h' ⟨rfl, he⟩
    rw [hN] at he
    subst he
    ((conv=>whnf);repeat((first|(with_reducible first|refine Z1 ?_|refine Z2 ?_|refine Z3 ?_|refine Z4 ?_|refine Z5 ?_));(conv=>whnf)))
    refine HIf.mk (fun hmo => ?_) (fun hmo => ?_)
    · have hmo' := of_decide_eq_true hmo
      ((conv=>whnf);repeat((first|(with_reducible first|refine Z1 ?_|refine Z2 ?_|refine Z3 ?_|refine Z4 ?_|refine Z5 ?_));(conv=>whnf)))
      rw [if_pos hmo']
      exact Unf.bad 22
    · have hmo' := of_decide_eq_false hmo
      rw [if_neg hmo']
      ((conv=>whnf);repeat((first|(with_reducible first|refine Z1 ?_|refine Z2 ?_|refine Z3 ?_|refine Z4 ?_|refine Z5 ?_));(conv=>whnf)))
      refine HIf.mk (fun hsh => ?_) (fun hsh => ?_)
      · have hsh' := of_decide_eq_true hsh
        ((conv=>whnf);repeat((first|(with_reducible first|refine Z1 ?_|refine Z2 ?_|refine Z3 ?_|refine Z4 ?_|refine Z5 ?_));(conv=>whnf)))
        rw [if_pos (show m > l.length - 8 by omega)]
        exact Unf.bad 20
      · have hsh' := of_decide_eq_false hsh
        have hle : 8 + m ≤ n := by omega
        rw [if_neg (show ¬ m > l.length - 8 by omega)]
        ((conv=>whnf);repeat((first|(with_reducible first|refine Z1 ?_|refine Z2 ?_|refine Z3 ?_|refine Z4 ?_|refine Z5 ?_));(conv=>whnf)))
        refine HBound.mk 4 rfl (by omega) ?_
        ((conv=>whnf);repeat((first|(with_reducible first|refine Z1 ?_|refine Z2 ?_|refine Z3 ?_|refine Z4 ?_|refine Z5 ?_));(conv=>whnf)))
        refine HBound.mk (8 + m) (by omega) (by omega) ?_
        refine HBound.mk 8 rfl (by omega) ?_
        ((conv=>whnf);repeat((first|(with_reducible first|refine Z1 ?_|refine Z2 ?_|refine Z3 ?_|refine Z4 ?_|refine Z5 ?_));(conv=>whnf)))
        refine HBound.mk 4 rfl (by omega) ?_
        ((conv=>whnf);repeat((first|(with_reducible first|refine Z1 ?_|refine Z2 ?_|refine Z3 ?_|refine Z4 ?_|refine Z5 ?_));(conv=>whnf)))
        have s1 : Sl h' 1 (a.map fun p => movedTo p c 0 1) 4 (c - 0) ((l.take 4).map byteV) := by
          have := x.slice (i := 0) (j := 4) (by omega) (by omega)
          rw [bytesV_slice] at this; simpa using this
        have s2 : Sl h' 1 (a.map fun p => movedTo p c 8 1) (8 + m - 8) (c - 8) (((l.drop 8).take (m)).map byteV) := by
          have := x.slice (i := 8) (j := 8 + m) (by omega) (by omega)
          rw [bytesV_slice, take_drop_eq] at this; exact this
        have s3 : Sl h' 1 (a.map fun p => movedTo p c 4 1) (n - 4) (c - 4) ((l.drop 4).map byteV) := by
          have := x.slice (i := 4) (j := n) (by omega) (by omega)
          rw [bytesV_slice, List.take_of_length_le (by omega)] at this; exact this
        refine HCall.mk ((sum_spec (BitVec.allOnes 32) s1 (by omega)).mono ?_)
        rintro e h2 ⟨rfl, rfl⟩
        ((conv=>whnf);repeat((first|(with_reducible first|refine Z1 ?_|refine Z2 ?_|refine Z3 ?_|refine Z4 ?_|refine Z5 ?_));(conv=>whnf)))
        refine HCall.mk ((sum_spec _ s2 (by omega)).mono ?_)
        rintro e h3 ⟨rfl, rfl⟩
        rw [crcL_append]
        ((conv=>whnf);repeat((first|(with_reducible first|refine Z1 ?_|refine Z2 ?_|refine Z3 ?_|refine Z4 ?_|refine Z5 ?_));(conv=>whnf)))
        rw [not32, w32_crc]
        refine HCall.mk ((word_spec s3 (by omega)).mono ?_)
        rintro e h4 ⟨rfl, rfl⟩
        ((conv=>whnf);repeat((first|(with_reducible first|refine Z1 ?_|refine Z2 ?_|refine Z3 ?_|refine Z4 ?_|refine Z5 ?_));(conv=>whnf)))
        refine HIf.mk (fun hne => ?_) (fun hne => ?_)
        · have hne' : crc (l.take 4 ++ (l.drop 8).take (m)) ≠ wordN (l.drop 4) := by
            have := bne_iff_ne.1 hne
            intro e; exact this (by rw [e])
          ((conv=>whnf);repeat((first|(with_reducible first|refine Z1 ?_|refine Z2 ?_|refine Z3 ?_|refine Z4 ?_|refine Z5 ?_));(conv=>whnf)))
          rw [if_pos hne']
          exact Unf.bad 21
        · have hne' : crc (l.take 4 ++ (l.drop 8).take (m)) = wordN (l.drop 4) := by
            have := (Bool.eq_false_iff.1 hne)
            simp only [ne_eq, bne_iff_ne, Decidable.not_not] at this
            exact Int.ofNat.inj this
          rw [if_neg (by simpa using hne')]
          ((conv=>whnf);repeat((first|(with_reducible first|refine Z1 ?_|refine Z2 ?_|refine Z3 ?_|refine Z4 ?_|refine Z5 ?_));(conv=>whnf)))
          refine HBound.mk (m) (by omega) (by omega) ?_
          refine HBound.mk (m) (by omega) (by omega) ?_
          refine HMust.mk ⟨Nat.le_refl _, by omega⟩ ?_
          refine new_var (e := 5) (List.replicate (m) (.int .u8 0)) (by rw [← zeroCells_one]) ?_
          intro h5 b y5 x5 z5 hb
          ((conv=>whnf);repeat((first|(with_reducible first|refine Z1 ?_|refine Z2 ?_|refine Z3 ?_|refine Z4 ?_|refine Z5 ?_));(conv=>whnf)))
          refine HBound.mk 8 rfl (by omega) ?_
          ((conv=>whnf);repeat((first|(with_reducible first|refine Z1 ?_|refine Z2 ?_|refine Z3 ?_|refine Z4 ?_|refine Z5 ?_));(conv=>whnf)))
          have em : Nat.min (n - 8) (m) = m := Nat.min_eq_right (by omega)
          rw [em]
          have s4 : Sl h5 1 (a.map fun p => movedTo p c 8 1) (n - 8) (c - 8) ((l.drop 8).map byteV) := by
            have := (x.ext x5).slice (i := 8) (j := n) (by omega) (by omega)
            rw [bytesV_slice, List.take_of_length_le (by omega)] at this; exact this
          refine s4.cellsTake (by omega) ?_
          have e7 : ((l.drop 8).map byteV).take (m * 1) = ((l.drop 8).take (m)).map byteV := by rw [Nat.mul_one, List.map_take]
          rw [e7]
          refine HStoreO.mk _ rfl ?_
          have hlt : ((l.drop 8).take (m)).length = m := by simp; omega
          refine store_blk y5 (by simp; omega) bytesV_one ?_
          intro h6 f6 z6 y6
          ((conv=>whnf);repeat((first|(with_reducible first|refine Z1 ?_|refine Z2 ?_|refine Z3 ?_|refine Z4 ?_|refine Z5 ?_));(conv=>whnf)))
          have y7 : BlkW h6 b 5 (((l.drop 8).take (m)).map byteV) := by
            have e8 : (List.replicate (m) (Value.int .u8 0)).drop (0 + (((l.drop 8).take (m)).map byteV).length) = [] := by
              apply List.drop_of_length_le; simp; omega
            rw [e8] at y6
            simpa using y6
          have o7 := y7.own (B := h4.size) (by omega)
          rw [List.length_map, hlt] at o7
          refine ⟨some ⟨b, 0, none⟩, m, ?_, ?_, x5.offNew f6 (by omega)⟩
          · simp only [hlt]; rw [show ((8 + m : Nat) : Int) = 8 + (m : Int) by omega]; rfl
          · simp only [hlt]; exact o7

end Go.Proofs.Ythagjflkdoafmaa.Hc

namespace Go.Proofs.Ythagjflkdoafmaa.Hc
open Go Go.H Go.Proofs
set_option maxRecDepth 100000

theorem runframe_spec {a : Option Addr} {n c : Nat} {l : List UInt8} {h : Heap} (x : Sl h 1 a n c (l.map byteV)) (hn : n ≤ 140737488355000) (most : Int)
    (hm : -9223372036854775808 ≤ most ∧ most ≤ 9223372036854775807) : HCalls Try.prog 41 #[.slice a n c, .int .i64 most] h (Unf (unf l most) h) := by
  have hl : l.length = n := by simpa using x.1
  have hc := x.2.1
  have hw := wordN_lt l
  have hw4 := wordN_lt (l.drop 4)
  unfold unf
  obtain ⟨m, hN⟩ : ∃ m, wordN l = m := ⟨_, rfl⟩
  rw [hN] at hw ⊢
  refine c41 (by simp) ?_
  ((conv=>whnf);repeat((first|(with_reducible first|refine Z1 ?_|refine Z2 ?_|refine Z3 ?_|refine Z4 ?_|refine Z5 ?_));(conv=>whnf)))
  refine HIf.mk (fun h8 => ?_) (fun h8 => ?_)
  · have h8' := of_decide_eq_true h8
    ((conv=>whnf);repeat((first|(with_reducible first|refine Z1 ?_|refine Z2 ?_|refine Z3 ?_|refine Z4 ?_|refine Z5 ?_));(conv=>whnf)))
    rw [if_pos (by omega)]
    exact Unf.bad 20
  · have h8' := of_decide_eq_false h8
    rw [if_neg (show ¬ l.length < 8 by omega)]
    ((conv=>whnf);repeat((first|(with_reducible first|refine Z1 ?_|refine Z2 ?_|refine Z3 ?_|refine Z4 ?_|refine Z5 ?_));(conv=>whnf)))
    refine HCall.mk ((rword_spec x (by omega)).mono ?_)
    rintro e h' ⟨rfl, he⟩
    rw [hN] at he
    subst he
    ((conv=>whnf);repeat((first|(with_reducible first|refine Z1 ?_|refine Z2 ?_|refine Z3 ?_|refine Z4 ?_|refine Z5 ?_));(conv=>whnf)))
    refine HIf.mk (fun hneg => ?_) (fun hneg => ?_)
    · have hneg' := of_decide_eq_true hneg
      ((conv=>whnf);repeat((first|(with_reducible first|refine Z1 ?_|refine Z2 ?_|refine Z3 ?_|refine Z4 ?_|refine Z5 ?_));(conv=>whnf)))
      rw [if_pos (by omega)]
      exact Unf.bad 22
    · have hneg' := of_decide_eq_false hneg
      ((conv=>whnf);repeat((first|(with_reducible first|refine Z1 ?_|refine Z2 ?_|refine Z3 ?_|refine Z4 ?_|refine Z5 ?_));(conv=>whnf)))
      refine HInt.mk _ (wrap_u64 (by omega)) ?_
      ((conv=>whnf);repeat((first|(with_reducible first|refine Z1 ?_|refine Z2 ?_|refine Z3 ?_|refine Z4 ?_|refine Z5 ?_));(conv=>whnf)))
      refine HInt.mk _ (wrap_u64 (by omega)) ?_
      ((conv=>whnf);repeat((first|(with_reducible first|refine Z1 ?_|refine Z2 ?_|refine Z3 ?_|refine Z4 ?_|refine Z5 ?_));(conv=>whnf)))
      refine HIf.mk (fun hmo => ?_) (fun hmo => ?_)
      · have hmo' := of_decide_eq_true hmo
        ((conv=>whnf);repeat((first|(with_reducible first|refine Z1 ?_|refine Z2 ?_|refine Z3 ?_|refine Z4 ?_|refine Z5 ?_));(conv=>whnf)))
        rw [if_pos hmo']
        exact Unf.bad 22
      · have hmo' := of_decide_eq_false hmo
        rw [if_neg hmo']
        ((conv=>whnf);repeat((first|(with_reducible first|refine Z1 ?_|refine Z2 ?_|refine Z3 ?_|refine Z4 ?_|refine Z5 ?_));(conv=>whnf)))
        refine HInt.mk _ (wrap_u64 (by omega)) ?_
        ((conv=>whnf);repeat((first|(with_reducible first|refine Z1 ?_|refine Z2 ?_|refine Z3 ?_|refine Z4 ?_|refine Z5 ?_));(conv=>whnf)))
        refine HInt.mk _ (wrap_u64 (by omega)) ?_
        ((conv=>whnf);repeat((first|(with_reducible first|refine Z1 ?_|refine Z2 ?_|refine Z3 ?_|refine Z4 ?_|refine Z5 ?_));(conv=>whnf)))
        refine HIf.mk (fun hsh => ?_) (fun hsh => ?_)
        · have hsh' := of_decide_eq_true hsh
          ((conv=>whnf);repeat((first|(with_reducible first|refine Z1 ?_|refine Z2 ?_|refine Z3 ?_|refine Z4 ?_|refine Z5 ?_));(conv=>whnf)))
          rw [if_pos (show m > l.length - 8 by omega)]
          exact Unf.bad 20
        · have hsh' := of_decide_eq_false hsh
          have hle : 8 + m ≤ n := by omega
          rw [if_neg (show ¬ m > l.length - 8 by omega)]
          ((conv=>whnf);repeat((first|(with_reducible first|refine Z1 ?_|refine Z2 ?_|refine Z3 ?_|refine Z4 ?_|refine Z5 ?_));(conv=>whnf)))
          refine HBound.mk (8 + m) (by omega) (by omega) ?_
          refine HBound.mk 8 rfl (by omega) ?_
          ((conv=>whnf);repeat((first|(with_reducible first|refine Z1 ?_|refine Z2 ?_|refine Z3 ?_|refine Z4 ?_|refine Z5 ?_));(conv=>whnf)))
          have s1 : Sl h' 1 (a.map fun p => movedTo p c 0 1) 4 (c - 0) ((l.take 4).map byteV) := by
            have := x.slice (i := 0) (j := 4) (by omega) (by omega)
            rw [bytesV_slice] at this; simpa using this
          have s2 : Sl h' 1 (a.map fun p => movedTo p c 8 1) (8 + m - 8) (c - 8) (((l.drop 8).take m).map byteV) := by
            have := x.slice (i := 8) (j := 8 + m) (by omega) (by omega)
            rw [bytesV_slice, take_drop_eq] at this; exact this
          have s3 : Sl h' 1 (a.map fun p => movedTo p c 4 1) (n - 4) (c - 4) ((l.drop 4).map byteV) := by
            have := x.slice (i := 4) (j := n) (by omega) (by omega)
            rw [bytesV_slice, List.take_of_length_le (by omega)] at this; exact this
          have hlt : ((l.drop 8).take m).length = m := by simp; omega
          refine s2.cells ?_
          refine (Own.nil h' h'.size 5 1).append (m := 8 + m - 8) (Nat.le_refl _) rfl (by simp; omega) bytesV_one (by omega) ?_
          intro h2 a2 c2 o2 k2 _ _
          have x2 : Ext h' h2 := k2
          ((conv=>whnf);repeat((first|(with_reducible first|refine Z1 ?_|refine Z2 ?_|refine Z3 ?_|refine Z4 ?_|refine Z5 ?_));(conv=>whnf)))
          refine HBound.mk 4 rfl (by omega) ?_
          ((conv=>whnf);repeat((first|(with_reducible first|refine Z1 ?_|refine Z2 ?_|refine Z3 ?_|refine Z4 ?_|refine Z5 ?_));(conv=>whnf)))
          refine HBound.mk 4 rfl (by omega) ?_
          ((conv=>whnf);repeat((first|(with_reducible first|refine Z1 ?_|refine Z2 ?_|refine Z3 ?_|refine Z4 ?_|refine Z5 ?_));(conv=>whnf)))
          refine (s1.ext x2).cells ?_
          refine (Own.nil h2 h2.size 5 1).append (m := 4) (Nat.le_refl _) rfl (by simp; omega) bytesV_one (by omega) ?_
          intro h3 a3 c3 o3 k3 _ _
          have x3 : Ext h2 h3 := k3
          ((conv=>whnf);repeat((first|(with_reducible first|refine Z1 ?_|refine Z2 ?_|refine Z3 ?_|refine Z4 ?_|refine Z5 ?_));(conv=>whnf)))
          refine (o2.ext x3).sl.cells ?_
          refine o3.append (m := 0 + (8 + m - 8)) x3.1 rfl (by simp; omega) (by intro v hv; rw [List.nil_append] at hv; exact bytesV_one v hv) (by omega) ?_
          intro h4 a4 c4 o4 k4 _ _
          have x4 : Ext h2 h4 := Ext.keep x3 k4
          have o4' : Own h4 h2.size 5 1 a4 (0 + 4 + (0 + (8 + m - 8))) c4 ((l.take 4 ++ (l.drop 8).take m).map byteV) := by simpa using o4
          ((conv=>whnf);repeat((first|(with_reducible first|refine Z1 ?_|refine Z2 ?_|refine Z3 ?_|refine Z4 ?_|refine Z5 ?_));(conv=>whnf)))
          refine HCall.mk ((rsum_spec o4'.sl (by omega)).mono ?_)
          rintro e h5 ⟨rfl, rfl⟩
          rw [w32_crc]
          ((conv=>whnf);repeat((first|(with_reducible first|refine Z1 ?_|refine Z2 ?_|refine Z3 ?_|refine Z4 ?_|refine Z5 ?_));(conv=>whnf)))
          refine HCall.mk ((rword_spec (s3.ext (x2.trans x4)) (by omega)).mono ?_)
          rintro e h5 ⟨rfl, rfl⟩
          ((conv=>whnf);repeat((first|(with_reducible first|refine Z1 ?_|refine Z2 ?_|refine Z3 ?_|refine Z4 ?_|refine Z5 ?_));(conv=>whnf)))
          refine HIf.mk (fun hne => ?_) (fun hne => ?_)
          · have hne' : crc (l.take 4 ++ (l.drop 8).take m) ≠ wordN (l.drop 4) := by
              have := bne_iff_ne.1 hne
              intro e; exact this (by rw [e])
            ((conv=>whnf);repeat((first|(with_reducible first|refine Z1 ?_|refine Z2 ?_|refine Z3 ?_|refine Z4 ?_|refine Z5 ?_));(conv=>whnf)))
            rw [if_pos hne']
            exact ⟨none, 0, rfl, Own.nil _ _ _ _, x2.trans x4⟩
          · have hne' : crc (l.take 4 ++ (l.drop 8).take m) = wordN (l.drop 4) := by
              have := (Bool.eq_false_iff.1 hne)
              simp only [ne_eq, bne_iff_ne, Decidable.not_not] at this
              exact Int.ofNat.inj this
            rw [if_neg (by simpa using hne')]
            ((conv=>whnf);repeat((first|(with_reducible first|refine Z1 ?_|refine Z2 ?_|refine Z3 ?_|refine Z4 ?_|refine Z5 ?_));(conv=>whnf)))
            have o9 := o2.ext x4
            have e9 : 0 + (8 + m - 8) = m := by omega
            rw [e9] at o9
            refine ⟨a2, c2, ?_, ?_, x2.trans x4⟩
            · simp only [hlt]; rw [show ((8 + m : Nat) : Int) = 8 + (m : Int) by omega]
              show Ending.returned (.tuple #[.slice a2 (0 + (8 + m - 8)) c2, _, _]) = _
              rw [e9]; rfl
            · simp only [hlt]; simpa using o9

end Go.Proofs.Ythagjflkdoafmaa.Hc
