import Derived.Test.YtgmlbaikeepniaaO8
set_option linter.unusedVariables false
set_option linter.unusedSimpArgs false
namespace Go.Proofs.Ytgmlbaikeepniaa.Hc
open Go Go.H Go.Proofs
set_option maxRecDepth 100000

/-- Four bytes of a number. -/
def be32 (m : Nat) : List UInt8 := [UInt8.ofNat (m / 16777216), UInt8.ofNat (m / 65536), UInt8.ofNat (m / 256), UInt8.ofNat m]
def wordN (l : List UInt8) : Nat := ((l.getD 0 0).toNat * 16777216 + (l.getD 1 0).toNat * 65536 + (l.getD 2 0).toNat * 256) + (l.getD 3 0).toNat
theorem wordN_lt (l : List UInt8) : wordN l < 2 ^ 32 := by
  unfold wordN
  have h0 := (l.getD 0 0).toNat_lt; have h1 := (l.getD 1 0).toNat_lt; have h2 := (l.getD 2 0).toNat_lt; have h3 := (l.getD 3 0).toNat_lt
  omega
theorem wordN_be32 (m : Nat) (hm : m < 2 ^ 32) (r : List UInt8) : wordN (be32 m ++ r) = m := by
  unfold wordN be32
  simp
  omega

theorem shrN (m k : Nat) (hk : k ≤ 32) : ((m : Nat) : Int).fdiv (2 ^ (min (Int.toNat (k : Int)) (IntKind.bits .u32))) = ((m / 2 ^ k : Nat) : Int) := by
  have e : min (Int.toNat (k : Int)) (IntKind.bits .u32) = k := by simp [IntKind.bits]; omega
  rw [e, Int.fdiv_eq_ediv_of_nonneg _ (Int.le_of_lt (Int.pow_pos (by omega)))]
  simp
theorem shr24 (m : Nat) : ((m : Nat) : Int).fdiv (2 ^ (min (Int.toNat 24) (IntKind.bits .u32))) = ((m / 16777216 : Nat) : Int) := shrN m 24 (by omega)
theorem shr16 (m : Nat) : ((m : Nat) : Int).fdiv (2 ^ (min (Int.toNat 16) (IntKind.bits .u32))) = ((m / 65536 : Nat) : Int) := shrN m 16 (by omega)
theorem shr8 (m : Nat) : ((m : Nat) : Int).fdiv (2 ^ (min (Int.toNat 8) (IntKind.bits .u32))) = ((m / 256 : Nat) : Int) := shrN m 8 (by omega)
theorem byteV_mod (n : Nat) : Value.int .u8 (((n : Nat) : Int) % 256) = byteV (UInt8.ofNat n) := by rw [byteV_ofNat]; rfl

theorem set4 (cs : List Value) (o : Nat) (a b c d : Value) (h : o + 4 ≤ cs.length) : (((cs.set o a).set (o + 1) b).set (o + 2) c).set (o + 3) d = cs.take o ++ ([a, b, c, d] ++ cs.drop (o + 4)) := by
  apply List.ext_getElem?
  intro i
  simp only [List.getElem?_set, List.getElem?_append, List.length_take, List.length_set, List.length_cons, List.length_nil]
  rw [Nat.min_eq_left (by omega)]
  by_cases h0 : i < o
  · rw [if_pos h0, List.getElem?_take, if_pos h0, if_neg (by omega), if_neg (by omega), if_neg (by omega), if_neg (by omega)]
  · rw [if_neg h0]
    by_cases h1 : i = o
    · subst h1; simp; omega
    · by_cases h2 : i = o + 1
      · subst h2; simp; omega
      · by_cases h3 : i = o + 2
        · subst h3; simp; omega
        · by_cases h4 : i = o + 3
          · subst h4; simp; omega
          · rw [if_neg (by omega), if_neg (by omega), if_neg (by omega), if_neg (by omega), if_neg (by omega), List.getElem?_drop]
            congr 1; omega

theorem put_spec {b o n c : Nat} {cs : List Value} {h : Heap} (m : Nat) (hm : m < 2 ^ 32) (x : BlkW h b 5 cs) (ho : o + 4 ≤ cs.length) (hn : 4 ≤ n) :
    HCalls Try.prog 27 #[.slice (some ⟨b, o, none⟩) n c, .int .u32 m] h fun e h' => e = .returned (.tuple #[]) ∧ Off b h h' ∧ h'.size = h.size ∧
      BlkW h' b 5 (cs.take o ++ ((be32 m).map byteV ++ cs.drop (o + 4))) := by
  refine c27 (by simp) ?_
  ((conv => whnf); (repeat (first | ((with_reducible refine HSeq.go ?_); conv => whnf) | ((with_reducible refine HMust.mk (by decide) ?_); conv => whnf) | ((with_reducible refine HIf.yes (by first | rfl | assumption | decide) ?_); conv => whnf) | ((with_reducible refine HIf.no (by first | rfl | assumption | decide) ?_); conv => whnf) | ((with_reducible refine HInt.mk _ (wrap_i64 (by omega)) ?_); conv => whnf))))
  rw [shr24]
  refine HInt.mk _ wrap_u8' ?_
  ((conv => whnf); (repeat (first | ((with_reducible refine HSeq.go ?_); conv => whnf) | ((with_reducible refine HMust.mk (by decide) ?_); conv => whnf) | ((with_reducible refine HIf.yes (by first | rfl | assumption | decide) ?_); conv => whnf) | ((with_reducible refine HIf.no (by first | rfl | assumption | decide) ?_); conv => whnf) | ((with_reducible refine HInt.mk _ (wrap_i64 (by omega)) ?_); conv => whnf))))
  rw [shr16]
  refine HInt.mk _ wrap_u8' ?_
  ((conv => whnf); (repeat (first | ((with_reducible refine HSeq.go ?_); conv => whnf) | ((with_reducible refine HMust.mk (by decide) ?_); conv => whnf) | ((with_reducible refine HIf.yes (by first | rfl | assumption | decide) ?_); conv => whnf) | ((with_reducible refine HIf.no (by first | rfl | assumption | decide) ?_); conv => whnf) | ((with_reducible refine HInt.mk _ (wrap_i64 (by omega)) ?_); conv => whnf))))
  rw [shr8]
  refine HInt.mk _ wrap_u8' ?_
  ((conv => whnf); (repeat (first | ((with_reducible refine HSeq.go ?_); conv => whnf) | ((with_reducible refine HMust.mk (by decide) ?_); conv => whnf) | ((with_reducible refine HIf.yes (by first | rfl | assumption | decide) ?_); conv => whnf) | ((with_reducible refine HIf.no (by first | rfl | assumption | decide) ?_); conv => whnf) | ((with_reducible refine HInt.mk _ (wrap_i64 (by omega)) ?_); conv => whnf))))
  refine HInt.mk _ wrap_u8' ?_
  ((conv => whnf); (repeat (first | ((with_reducible refine HSeq.go ?_); conv => whnf) | ((with_reducible refine HMust.mk (by decide) ?_); conv => whnf) | ((with_reducible refine HIf.yes (by first | rfl | assumption | decide) ?_); conv => whnf) | ((with_reducible refine HIf.no (by first | rfl | assumption | decide) ?_); conv => whnf) | ((with_reducible refine HInt.mk _ (wrap_i64 (by omega)) ?_); conv => whnf))))
  refine HIdx.mk 0 rfl (by omega) ?_
  refine HSome.mk _ rfl ?_
  ((conv => whnf); (repeat (first | ((with_reducible refine HSeq.go ?_); conv => whnf) | ((with_reducible refine HMust.mk (by decide) ?_); conv => whnf) | ((with_reducible refine HIf.yes (by first | rfl | assumption | decide) ?_); conv => whnf) | ((with_reducible refine HIf.no (by first | rfl | assumption | decide) ?_); conv => whnf) | ((with_reducible refine HInt.mk _ (wrap_i64 (by omega)) ?_); conv => whnf))))
  refine store1_blk (o := o) x (by omega) rfl ?_
  intro h1 f1 z1 x1
  ((conv => whnf); (repeat (first | ((with_reducible refine HSeq.go ?_); conv => whnf) | ((with_reducible refine HMust.mk (by decide) ?_); conv => whnf) | ((with_reducible refine HIf.yes (by first | rfl | assumption | decide) ?_); conv => whnf) | ((with_reducible refine HIf.no (by first | rfl | assumption | decide) ?_); conv => whnf) | ((with_reducible refine HInt.mk _ (wrap_i64 (by omega)) ?_); conv => whnf))))
  refine HIdx.mk 1 rfl (by omega) ?_
  refine HSome.mk _ rfl ?_
  ((conv => whnf); (repeat (first | ((with_reducible refine HSeq.go ?_); conv => whnf) | ((with_reducible refine HMust.mk (by decide) ?_); conv => whnf) | ((with_reducible refine HIf.yes (by first | rfl | assumption | decide) ?_); conv => whnf) | ((with_reducible refine HIf.no (by first | rfl | assumption | decide) ?_); conv => whnf) | ((with_reducible refine HInt.mk _ (wrap_i64 (by omega)) ?_); conv => whnf))))
  refine store1_blk (o := o + 1) x1 (by simp; omega) rfl ?_
  intro h2 f2 z2 x2
  ((conv => whnf); (repeat (first | ((with_reducible refine HSeq.go ?_); conv => whnf) | ((with_reducible refine HMust.mk (by decide) ?_); conv => whnf) | ((with_reducible refine HIf.yes (by first | rfl | assumption | decide) ?_); conv => whnf) | ((with_reducible refine HIf.no (by first | rfl | assumption | decide) ?_); conv => whnf) | ((with_reducible refine HInt.mk _ (wrap_i64 (by omega)) ?_); conv => whnf))))
  refine HIdx.mk 2 rfl (by omega) ?_
  refine HSome.mk _ rfl ?_
  ((conv => whnf); (repeat (first | ((with_reducible refine HSeq.go ?_); conv => whnf) | ((with_reducible refine HMust.mk (by decide) ?_); conv => whnf) | ((with_reducible refine HIf.yes (by first | rfl | assumption | decide) ?_); conv => whnf) | ((with_reducible refine HIf.no (by first | rfl | assumption | decide) ?_); conv => whnf) | ((with_reducible refine HInt.mk _ (wrap_i64 (by omega)) ?_); conv => whnf))))
  refine store1_blk (o := o + 2) x2 (by simp; omega) rfl ?_
  intro h3 f3 z3 x3
  ((conv => whnf); (repeat (first | ((with_reducible refine HSeq.go ?_); conv => whnf) | ((with_reducible refine HMust.mk (by decide) ?_); conv => whnf) | ((with_reducible refine HIf.yes (by first | rfl | assumption | decide) ?_); conv => whnf) | ((with_reducible refine HIf.no (by first | rfl | assumption | decide) ?_); conv => whnf) | ((with_reducible refine HInt.mk _ (wrap_i64 (by omega)) ?_); conv => whnf))))
  refine HIdx.mk 3 rfl (by omega) ?_
  refine HSome.mk _ rfl ?_
  ((conv => whnf); (repeat (first | ((with_reducible refine HSeq.go ?_); conv => whnf) | ((with_reducible refine HMust.mk (by decide) ?_); conv => whnf) | ((with_reducible refine HIf.yes (by first | rfl | assumption | decide) ?_); conv => whnf) | ((with_reducible refine HIf.no (by first | rfl | assumption | decide) ?_); conv => whnf) | ((with_reducible refine HInt.mk _ (wrap_i64 (by omega)) ?_); conv => whnf))))
  refine store1_blk (o := o + 3) x3 (by simp; omega) rfl ?_
  intro h4 f4 z4 x4
  ((conv => whnf); (repeat (first | ((with_reducible refine HSeq.go ?_); conv => whnf) | ((with_reducible refine HMust.mk (by decide) ?_); conv => whnf) | ((with_reducible refine HIf.yes (by first | rfl | assumption | decide) ?_); conv => whnf) | ((with_reducible refine HIf.no (by first | rfl | assumption | decide) ?_); conv => whnf) | ((with_reducible refine HInt.mk _ (wrap_i64 (by omega)) ?_); conv => whnf))))
  refine ⟨rfl, f1.trans (f2.trans (f3.trans f4)), by omega, ?_⟩
  have x5 := x4
  change BlkW h4 b 5 ((((cs.set o (Value.int .u8 (((m / 16777216 : Nat) : Int) % 256))).set (o + 1) (Value.int .u8 (((m / 65536 : Nat) : Int) % 256))).set (o + 2) (Value.int .u8 (((m / 256 : Nat) : Int) % 256))).set (o + 3) (Value.int .u8 ((m : Int) % 256))) at x5
  rw [set4 _ _ _ _ _ _ ho, byteV_mod, byteV_mod, byteV_mod, byteV_mod] at x5
  exact x5

theorem four_spec {h : Heap} (m : Nat) (hm : m < 2 ^ 32) : HCalls Try.prog 31 #[.int .u32 m] h fun e h' => ∃ b, e = .returned (.slice (some ⟨b, 0, none⟩) 4 4) ∧ Own h' h.size 5 1 (some ⟨b, 0, none⟩) 4 4 ((be32 m).map byteV) ∧ Ext h h' := by
  refine c31 (by simp) ?_
  ((conv => whnf); (repeat (first | ((with_reducible refine HSeq.go ?_); conv => whnf) | ((with_reducible refine HMust.mk (by decide) ?_); conv => whnf) | ((with_reducible refine HIf.yes (by first | rfl | assumption | decide) ?_); conv => whnf) | ((with_reducible refine HIf.no (by first | rfl | assumption | decide) ?_); conv => whnf) | ((with_reducible refine HInt.mk _ (wrap_i64 (by omega)) ?_); conv => whnf))))
  rw [shr24]
  refine HInt.mk _ wrap_u8' ?_
  ((conv => whnf); (repeat (first | ((with_reducible refine HSeq.go ?_); conv => whnf) | ((with_reducible refine HMust.mk (by decide) ?_); conv => whnf) | ((with_reducible refine HIf.yes (by first | rfl | assumption | decide) ?_); conv => whnf) | ((with_reducible refine HIf.no (by first | rfl | assumption | decide) ?_); conv => whnf) | ((with_reducible refine HInt.mk _ (wrap_i64 (by omega)) ?_); conv => whnf))))
  rw [shr16]
  refine HInt.mk _ wrap_u8' ?_
  ((conv => whnf); (repeat (first | ((with_reducible refine HSeq.go ?_); conv => whnf) | ((with_reducible refine HMust.mk (by decide) ?_); conv => whnf) | ((with_reducible refine HIf.yes (by first | rfl | assumption | decide) ?_); conv => whnf) | ((with_reducible refine HIf.no (by first | rfl | assumption | decide) ?_); conv => whnf) | ((with_reducible refine HInt.mk _ (wrap_i64 (by omega)) ?_); conv => whnf))))
  rw [shr8]
  refine HInt.mk _ wrap_u8' ?_
  ((conv => whnf); (repeat (first | ((with_reducible refine HSeq.go ?_); conv => whnf) | ((with_reducible refine HMust.mk (by decide) ?_); conv => whnf) | ((with_reducible refine HIf.yes (by first | rfl | assumption | decide) ?_); conv => whnf) | ((with_reducible refine HIf.no (by first | rfl | assumption | decide) ?_); conv => whnf) | ((with_reducible refine HInt.mk _ (wrap_i64 (by omega)) ?_); conv => whnf))))
  refine HInt.mk _ wrap_u8' ?_
  ((conv => whnf); (repeat (first | ((with_reducible refine HSeq.go ?_); conv => whnf) | ((with_reducible refine HMust.mk (by decide) ?_); conv => whnf) | ((with_reducible refine HIf.yes (by first | rfl | assumption | decide) ?_); conv => whnf) | ((with_reducible refine HIf.no (by first | rfl | assumption | decide) ?_); conv => whnf) | ((with_reducible refine HInt.mk _ (wrap_i64 (by omega)) ?_); conv => whnf))))
  refine new_own (e := 5) 1 4 ((be32 m).map byteV) (by simp only [be32, List.map_cons, List.map_nil, ← byteV_mod]) rfl ?_
  intro h1 b1 o1 x1 _ _
  ((conv => whnf); (repeat (first | ((with_reducible refine HSeq.go ?_); conv => whnf) | ((with_reducible refine HMust.mk (by decide) ?_); conv => whnf) | ((with_reducible refine HIf.yes (by first | rfl | assumption | decide) ?_); conv => whnf) | ((with_reducible refine HIf.no (by first | rfl | assumption | decide) ?_); conv => whnf) | ((with_reducible refine HInt.mk _ (wrap_i64 (by omega)) ?_); conv => whnf))))
  exact ⟨b1, rfl, o1, x1⟩

theorem or_u32 {a b : Nat} (ha : a < 2 ^ 32) (hb : b < 2 ^ 32) : ibits .or .u32 (a : Int) (b : Int) = ((a ||| b : Nat) : Int) := by
  have e1 : ((BitVec.ofInt 32 (a : Int)) ||| (BitVec.ofInt 32 (b : Int))).toNat = a ||| b := by
    rw [BitVec.toNat_or, BitVec.ofInt_natCast, BitVec.ofInt_natCast, BitVec.toNat_ofNat, BitVec.toNat_ofNat, Nat.mod_eq_of_lt ha, Nat.mod_eq_of_lt hb]
  show IntKind.u32.wrap (((BitVec.ofInt 32 (a : Int)) ||| (BitVec.ofInt 32 (b : Int))).toNat : Int) = _
  rw [e1]
  have : a ||| b < 2 ^ 32 := Nat.or_lt_two_pow ha hb
  exact wrap_u32 (by omega)
theorem or_add' {a x k : Nat} (ha : a < 2 ^ k) : (x * 2 ^ k) ||| a = x * 2 ^ k + a := by rw [Nat.or_comm, or_add ha, Nat.add_comm]
theorem or_parts (a b c d : Nat) (ha : a < 256) (hb : b < 256) (hc : c < 256) (hd : d < 256) :
    ibits .or .u32 ((a * 16777216 : Nat) : Int) ((b * 65536 : Nat) : Int) = ((a * 16777216 + b * 65536 : Nat) : Int) ∧
    ibits .or .u32 ((a * 16777216 + b * 65536 : Nat) : Int) ((c * 256 : Nat) : Int) = ((a * 16777216 + b * 65536 + c * 256 : Nat) : Int) ∧
    ibits .or .u32 ((a * 16777216 + b * 65536 + c * 256 : Nat) : Int) ((d : Nat) : Int) = ((a * 16777216 + b * 65536 + c * 256 + d : Nat) : Int) := by
  refine ⟨?_, ?_, ?_⟩
  · rw [or_u32 (by omega) (by omega)]
    have := @or_add' (b * 65536) a 24 (by omega)
    rw [show (2 : Nat) ^ 24 = 16777216 from rfl] at this
    rw [this]
  · rw [or_u32 (by omega) (by omega)]
    have := @or_add' (c * 256) (a * 256 + b) 16 (by omega)
    rw [show (2 : Nat) ^ 16 = 65536 from rfl, show (a * 256 + b) * 65536 = a * 16777216 + b * 65536 by omega] at this
    rw [this]
  · rw [or_u32 (by omega) (by omega)]
    have := @or_add' d (a * 65536 + b * 256 + c) 8 (by omega)
    rw [show (2 : Nat) ^ 8 = 256 from rfl, show (a * 65536 + b * 256 + c) * 256 = a * 16777216 + b * 65536 + c * 256 by omega] at this
    rw [this]
theorem shl_u32 (x k : Nat) (hx : x * 2 ^ k < 2 ^ 32) (hk : k ≤ 32) : IntKind.u32.wrap (((x : Nat) : Int) * 2 ^ (min (Int.toNat (k : Int)) (IntKind.bits .u32))) = ((x * 2 ^ k : Nat) : Int) := by
  have e : min (Int.toNat (k : Int)) (IntKind.bits .u32) = k := by simp [IntKind.bits]; omega
  rw [e, show ((x : Nat) : Int) * 2 ^ k = ((x * 2 ^ k : Nat) : Int) by simp]
  exact wrap_u32 (by omega)

end Go.Proofs.Ytgmlbaikeepniaa.Hc
