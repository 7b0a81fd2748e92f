/- Texts quoted, by the program. -/
import Derived.Test.YtmibnfjjlibpgaaDoorT0
set_option linter.unusedVariables false
set_option linter.unusedSimpArgs false
namespace Go.Proofs.YtmibnfjjlibpgaaDoor.Hc
open Go Go.H Go.Proofs
set_option maxRecDepth 100000
set_option maxHeartbeats 4000000

theorem idx_txt (l : List UInt8) {i : Nat} (hi : i < l.length) : (⟨l.toArray⟩ : ByteArray).data[i]! = l[i] := by
  show l.toArray[i]! = _
  rw [getElem!_pos l.toArray i (by simpa using hi)]; simp
theorem byteV_ofNat (n : Nat) : byteV (UInt8.ofNat n) = .int .u8 ((n % 256 : Nat) : Int) := by simp [byteV]
/-- A string's units. -/
def ulist : List UInt8 → List Nat
  | a :: b :: r => (a.toNat * 256 + b.toNat) :: ulist r
  | _ => []
theorem ulist_len : ∀ (l : List UInt8), (ulist l).length = l.length / 2
  | [] => rfl
  | [_] => by simp [ulist]
  | a :: b :: r => by simp only [ulist, List.length_cons, ulist_len r]; omega
theorem ulist_get : ∀ (l : List UInt8) (i : Nat) (h : i < (ulist l).length) (h1 : 2 * i + 1 < l.length), (ulist l)[i] = (l[2 * i]'(by omega)).toNat * 256 + (l[2 * i + 1]).toNat
  | [], i, h, h1 => by simp at h1
  | [_], i, h, h1 => by simp at h1
  | a :: b :: r, 0, h, h1 => by simp [ulist]
  | a :: b :: r, i + 1, h, h1 => by
    have ih := ulist_get r i (by simpa [ulist] using h) (by simp only [List.length_cons] at h1; omega)
    simp only [ulist, List.getElem_cons_succ]
    rw [ih]
    congr 2
theorem ulist_lt (l : List UInt8) : ∀ n ∈ ulist l, n < 65536 := by
  intro n hn
  obtain ⟨i, hi, rfl⟩ := List.getElem_of_mem hn
  have hl := ulist_len l
  rw [ulist_get l i hi (by omega)]
  have h1 := (l[2 * i]'(by omega)).toNat_lt
  have h2 := (l[2 * i + 1]'(by omega)).toNat_lt
  omega
theorem and1_i64 (n : Nat) (hn : n < 9223372036854775808) : ibits .and .i64 (n : Int) 1 = ((n % 2 : Nat) : Int) := by
  unfold ibits
  have e1 : BitVec.ofInt (IntKind.bits .i64) (n : Int) = BitVec.ofNat 64 n := by rw [BitVec.ofInt_natCast]; rfl
  have e3 : ((BitVec.ofNat 64 n) &&& (BitVec.ofNat 64 1)).toNat = n % 2 := by
    rw [BitVec.toNat_and, BitVec.toNat_ofNat, BitVec.toNat_ofNat, Nat.mod_eq_of_lt (by omega)]
    exact Nat.and_two_pow_sub_one_eq_mod n 1
  show IntKind.i64.wrap (((BitVec.ofInt (IntKind.bits .i64) (n : Int)) &&& (BitVec.ofInt (IntKind.bits .i64) 1)).toNat : Int) = _
  rw [e1]
  show IntKind.i64.wrap ((((BitVec.ofNat 64 n) &&& (BitVec.ofNat 64 1)).toNat : Nat) : Int) = _
  rw [e3]
  exact wrap_i64 (by omega)
theorem or_i64 (a b : Nat) (ha : a < 256) (hb : b < 256) : ibits .or .i64 ((a * 256 : Nat) : Int) (b : Int) = ((a * 256 + b : Nat) : Int) := by
  unfold ibits
  have e1 : BitVec.ofInt (IntKind.bits .i64) ((a * 256 : Nat) : Int) = BitVec.ofNat 64 (a * 256) := by rw [BitVec.ofInt_natCast]; rfl
  have e2 : BitVec.ofInt (IntKind.bits .i64) (b : Int) = BitVec.ofNat 64 b := by rw [BitVec.ofInt_natCast]; rfl
  have e3 : ((BitVec.ofNat 64 (a * 256)) ||| (BitVec.ofNat 64 b)).toNat = a * 256 + b := by
    rw [BitVec.toNat_or, BitVec.toNat_ofNat, BitVec.toNat_ofNat, Nat.mod_eq_of_lt (by omega), Nat.mod_eq_of_lt (by omega)]
    have := Nat.shiftLeft_add_eq_or_of_lt (i := 8) (b := b) (by omega) a
    rw [Nat.shiftLeft_eq] at this
    have e : a * 2 ^ 8 = a * 256 := rfl
    rw [e] at this
    exact this.symm
  show IntKind.i64.wrap (((BitVec.ofInt (IntKind.bits .i64) ((a * 256 : Nat) : Int)) ||| (BitVec.ofInt (IntKind.bits .i64) (b : Int))).toNat : Int) = _
  rw [e1, e2]
  show IntKind.i64.wrap ((((BitVec.ofNat 64 (a * 256)) ||| (BitVec.ofNat 64 b)).toNat : Nat) : Int) = _
  rw [e3]
  exact wrap_i64 (by omega)

theorem ucheck_spec (l : List UInt8) (hl : l.length ≤ 2097152) (h : Heap) : HCalls Tryd.prog 36 #[.string ⟨l.toArray⟩] h fun e h' => e = .returned (.bool (decide (l.length % 2 = 0))) ∧ h' = h := by
  refine c36 (by simp) ?_
  ((conv=>whnf);repeat((first|(with_reducible first|refine Z1 ?_|refine Z2 ?_|refine Z3 ?_|refine Z4 ?_|refine Z5 ?_|refine Z9 (by assumption) rfl ?_|refine ZA (by assumption) rfl ?_|refine ZB (by assumption) rfl ?_|refine Z6 ?_|refine Z7 ?_|refine Z8 ?_)|((with_reducible refine ZM ?_ ?_);(focus rfl)));(conv=>whnf)))
  refine ⟨?_, rfl⟩
  have e1 := and1_i64 l.length (by omega)
  show Ending.returned (.bool (ibits .and .i64 (l.length : Int) 1 == 0)) = _
  rw [e1]
  by_cases h : l.length % 2 = 0
  · rw [h]; rfl
  · rw [decide_eq_false h]
    congr 2
    rw [beq_eq_false_iff_ne]; omega
theorem ulen_spec (l : List UInt8) (hl : l.length ≤ 2097152) (h : Heap) : HCalls Tryd.prog 58 #[.string ⟨l.toArray⟩] h fun e h' => e = .returned (.int .i64 (l.length / 2 : Nat)) ∧ h' = h := by
  have hs : (⟨l.toArray⟩ : ByteArray).size = l.length := rfl
  have e2 : ((l.length : Nat) : Int).tdiv 2 = ((l.length / 2 : Nat) : Int) := (Int.ofNat_tdiv l.length 2).symm
  refine c58 (by simp) ?_
  ((conv=>whnf);repeat((first|(with_reducible first|refine Z1 ?_|refine Z2 ?_|refine Z3 ?_|refine Z4 ?_|refine Z5 ?_|refine Z9 (by assumption) rfl ?_|refine ZA (by assumption) rfl ?_|refine ZB (by assumption) rfl ?_|refine Z6 ?_|refine Z7 ?_|refine Z8 ?_)|((with_reducible refine ZM ?_ ?_);(focus rfl)));(conv=>whnf)))
  refine HInt.mk (l.length / 2 : Nat) (by rw [hs, e2]; exact wrap_i64 (by omega)) ?_
  ((conv=>whnf);repeat((first|(with_reducible first|refine Z1 ?_|refine Z2 ?_|refine Z3 ?_|refine Z4 ?_|refine Z5 ?_|refine Z9 (by assumption) rfl ?_|refine ZA (by assumption) rfl ?_|refine ZB (by assumption) rfl ?_|refine Z6 ?_|refine Z7 ?_|refine Z8 ?_)|((with_reducible refine ZM ?_ ?_);(focus rfl)));(conv=>whnf)))
  exact ⟨rfl, rfl⟩
theorem at_spec (l : List UInt8) (hl : l.length ≤ 2097152) (i : Nat) (hi : i < (ulist l).length) (h : Heap) : HCalls Tryd.prog 59 #[.string ⟨l.toArray⟩, .int .i64 i] h fun e h' => e = .returned (.int .i64 ((ulist l)[i] : Nat)) ∧ h' = h := by
  have hs : (⟨l.toArray⟩ : ByteArray).size = l.length := rfl
  have hll := ulist_len l
  have h1 : 2 * i + 1 < l.length := by omega
  have h0 : 2 * i < l.length := by omega
  have eg := ulist_get l i hi h1
  have x0 := idx_txt l h0
  have x1 := idx_txt l h1
  have b0 := (l[2 * i]).toNat_lt
  have b1 := (l[2 * i + 1]).toNat_lt
  refine c59 (by simp) ?_
  have q1 : decide ((i : Int) < 0) = false := decide_eq_false (by omega)
  have q2 : decide ((i : Int) ≥ ((l.length / 2 : Nat) : Int)) = false := decide_eq_false (by omega)
  ((conv=>whnf);repeat((first|(with_reducible first|refine Z1 ?_|refine Z2 ?_|refine Z3 ?_|refine Z4 ?_|refine Z5 ?_|refine Z9 (by assumption) rfl ?_|refine ZA (by assumption) rfl ?_|refine ZB (by assumption) rfl ?_|refine Z6 ?_|refine Z7 ?_|refine Z8 ?_)|((with_reducible refine ZM ?_ ?_);(focus rfl)));(conv=>whnf)))
  refine HCall.mk ((ulen_spec l hl _).mono ?_)
  rintro e _ ⟨rfl, rfl⟩
  ((conv=>whnf);repeat((first|(with_reducible first|refine Z1 ?_|refine Z2 ?_|refine Z3 ?_|refine Z4 ?_|refine Z5 ?_|refine Z9 (by assumption) rfl ?_|refine ZA (by assumption) rfl ?_|refine ZB (by assumption) rfl ?_|refine Z6 ?_|refine Z7 ?_|refine Z8 ?_)|((with_reducible refine ZM ?_ ?_);(focus rfl)));(conv=>whnf)))
  refine HIdx.mk (2 * i) (by omega) h0 ?_
  rw [x0]
  ((conv=>whnf);repeat((first|(with_reducible first|refine Z1 ?_|refine Z2 ?_|refine Z3 ?_|refine Z4 ?_|refine Z5 ?_|refine Z9 (by assumption) rfl ?_|refine ZA (by assumption) rfl ?_|refine ZB (by assumption) rfl ?_|refine Z6 ?_|refine Z7 ?_|refine Z8 ?_)|((with_reducible refine ZM ?_ ?_);(focus rfl)));(conv=>whnf)))
  refine HInt.mk ((l[2 * i].toNat * 256 : Nat) : Int) ?_ ?_
  · have e : (2 : Int) ^ (min (Int.toNat 8) (IntKind.bits .i64)) = 256 := by decide
    rw [e, show ((l[2 * i].toNat : Nat) : Int) * 256 = ((l[2 * i].toNat * 256 : Nat) : Int) by omega]
    exact wrap_i64 (by omega)
  ((conv=>whnf);repeat((first|(with_reducible first|refine Z1 ?_|refine Z2 ?_|refine Z3 ?_|refine Z4 ?_|refine Z5 ?_|refine Z9 (by assumption) rfl ?_|refine ZA (by assumption) rfl ?_|refine ZB (by assumption) rfl ?_|refine Z6 ?_|refine Z7 ?_|refine Z8 ?_)|((with_reducible refine ZM ?_ ?_);(focus rfl)));(conv=>whnf)))
  refine HIdx.mk (2 * i + 1) (by omega) h1 ?_
  rw [x1]
  ((conv=>whnf);repeat((first|(with_reducible first|refine Z1 ?_|refine Z2 ?_|refine Z3 ?_|refine Z4 ?_|refine Z5 ?_|refine Z9 (by assumption) rfl ?_|refine ZA (by assumption) rfl ?_|refine ZB (by assumption) rfl ?_|refine Z6 ?_|refine Z7 ?_|refine Z8 ?_)|((with_reducible refine ZM ?_ ?_);(focus rfl)));(conv=>whnf)))
  refine ⟨?_, rfl⟩
  rw [eg, ← or_i64 _ _ (by omega) (by omega)]
  rfl

theorem extract_one (c : UInt8) (l : List UInt8) : (⟨(c :: l).toArray⟩ : ByteArray).extract 1 (⟨(c :: l).toArray⟩ : ByteArray).size = ⟨l.toArray⟩ := by
  apply ByteArray.ext
  rw [ByteArray.data_extract]
  show ((c :: l).toArray).extract 1 (c :: l).toArray.size = l.toArray
  simp
theorem ulist_elt (l : List UInt8) {i : Nat} (hi : i < (ulist l).length) : (ulist l)[i] < 65536 := ulist_lt l _ (List.getElem_mem hi)
/-- A unit's signs. -/
def quoted1 (n : Nat) : List UInt8 :=
  if n = 34 ∨ n = 92 then [92, UInt8.ofNat n]
  else if n = 8 then [92, 98] else if n = 9 then [92, 116] else if n = 10 then [92, 110] else if n = 12 then [92, 102] else if n = 13 then [92, 114]
  else if n < 32 ∨ 126 < n then 92 :: 117 :: hexT n 4
  else [UInt8.ofNat n]
theorem quoted1_len (n : Nat) : (quoted1 n).length ≤ 6 := by
  unfold quoted1
  repeat' split
  all_goals simp [hexT_len]
def quoteL (l : List UInt8) : List UInt8 := 34 :: ((ulist l).flatMap quoted1 ++ [34])
theorem flat_q_len : ∀ (l : List Nat), (l.flatMap quoted1).length ≤ 6 * l.length
  | [] => by simp
  | n :: l => by have := flat_q_len l; have := quoted1_len n; simp only [List.flatMap_cons, List.length_append, List.length_cons]; omega
theorem quoteL_len (l : List UInt8) : (quoteL l).length ≤ 3 * l.length + 2 := by
  have := flat_q_len (ulist l)
  have := ulist_len l
  simp only [quoteL, List.length_append, List.length_cons, List.length_nil]; omega
def at8 (n : Nat) : Int := if n = 8 then 0 else if n = 9 then 1 else if n = 10 then 2 else if n = 12 then 3 else if n = 13 then 4 else -1
theorem at8_eq : ∀ n, n < 128 → Lib.indexByte [8, 9, 10, 12, 13] (UInt8.ofNat n) = at8 n := by decide
theorem or64k (n : Nat) (hn : n < 65536) : ibits .or .i64 (n : Int) 65536 = ((65536 + n : Nat) : Int) := by
  unfold ibits
  have e1 : BitVec.ofInt (IntKind.bits .i64) (n : Int) = BitVec.ofNat 64 n := by rw [BitVec.ofInt_natCast]; rfl
  have e3 : ((BitVec.ofNat 64 n) ||| (BitVec.ofNat 64 65536)).toNat = 65536 + n := by
    rw [BitVec.toNat_or, BitVec.toNat_ofNat, BitVec.toNat_ofNat, Nat.mod_eq_of_lt (by omega), Nat.mod_eq_of_lt (by omega)]
    have := Nat.shiftLeft_add_eq_or_of_lt (i := 16) (b := n) (by omega) 1
    rw [Nat.shiftLeft_eq] at this
    have e : 1 * 2 ^ 16 = 65536 := rfl
    rw [e] at this
    rw [Nat.or_comm]
    exact this.symm
  show IntKind.i64.wrap (((BitVec.ofInt (IntKind.bits .i64) (n : Int)) ||| (BitVec.ofInt (IntKind.bits .i64) 65536)).toNat : Int) = _
  rw [e1]
  show IntKind.i64.wrap ((((BitVec.ofNat 64 n) ||| (BitVec.ofNat 64 65536)).toNat : Nat) : Int) = _
  rw [e3]
  exact wrap_i64 (by omega)
theorem hexT_64k (n : Nat) (hn : n < 65536) : hexT (65536 + n) 4 = hexT n 4 := by
  simp only [hexT]
  have h1 : (65536 + n) / 16 ^ 3 % 16 = n / 16 ^ 3 % 16 := by omega
  have h2 : (65536 + n) / 16 ^ 2 % 16 = n / 16 ^ 2 % 16 := by omega
  have h3 : (65536 + n) / 16 ^ 1 % 16 = n / 16 ^ 1 % 16 := by omega
  have h4 : (65536 + n) / 16 ^ 0 % 16 = n / 16 ^ 0 % 16 := by omega
  rw [h1, h2, h3, h4]

theorem quote_spec (l : List UInt8) (hl : l.length ≤ 2097152) (hev : l.length % 2 = 0) (h : Heap) (t : Tz h) : HCalls Tryd.prog 50 #[.string ⟨l.toArray⟩] h fun e h' =>
    e = .returned (.tuple #[.string ⟨(quoteL l).toArray⟩, .int .i64 0]) ∧ Ext h h' := by
  have hll := ulist_len l
  refine c50 (by simp) ?_
  ((conv=>whnf);repeat((first|(with_reducible first|refine Z1 ?_|refine Z2 ?_|refine Z3 ?_|refine Z4 ?_|refine Z5 ?_|refine Z9 (by assumption) rfl ?_|refine ZA (by assumption) rfl ?_|refine ZB (by assumption) rfl ?_|refine Z6 ?_|refine Z7 ?_|refine Z8 ?_)|((with_reducible refine ZM ?_ ?_);(focus rfl)));(conv=>whnf)))
  refine HCall.mk ((ucheck_spec l hl h).mono ?_)
  rintro e h ⟨rfl, rfl⟩
  rw [decide_eq_true hev]
  ((conv=>whnf);repeat((first|(with_reducible first|refine Z1 ?_|refine Z2 ?_|refine Z3 ?_|refine Z4 ?_|refine Z5 ?_|refine Z9 (by assumption) rfl ?_|refine ZA (by assumption) rfl ?_|refine ZB (by assumption) rfl ?_|refine Z6 ?_|refine Z7 ?_|refine Z8 ?_)|((with_reducible refine ZM ?_ ?_);(focus rfl)));(conv=>whnf)))
  refine new_own (e := 5) 1 1 [byteV 34] rfl rfl ?_
  intro h1 b1 w1 x1 z1 hb1
  ((conv=>whnf);repeat((first|(with_reducible first|refine Z1 ?_|refine Z2 ?_|refine Z3 ?_|refine Z4 ?_|refine Z5 ?_|refine Z9 (by assumption) rfl ?_|refine ZA (by assumption) rfl ?_|refine ZB (by assumption) rfl ?_|refine Z6 ?_|refine Z7 ?_|refine Z8 ?_)|((with_reducible refine ZM ?_ ?_);(focus rfl)));(conv=>whnf)))
  refine HCall.mk ((ulen_spec l hl _).mono ?_)
  rintro e _ ⟨rfl, rfl⟩
  rw [← hll]
  ((conv=>whnf);repeat((first|(with_reducible first|refine Z1 ?_|refine Z2 ?_|refine Z3 ?_|refine Z4 ?_|refine Z5 ?_|refine Z9 (by assumption) rfl ?_|refine ZA (by assumption) rfl ?_|refine ZB (by assumption) rfl ?_|refine Z6 ?_|refine Z7 ?_|refine Z8 ?_)|((with_reducible refine ZM ?_ ?_);(focus rfl)));(conv=>whnf)))
  refine loop_rule [4, 15] (fun vs h' => ∃ (i : Nat) (a' : Option Addr) (c' : Nat) (bs : List UInt8), vs = [.slice a' bs.length c', .int .i64 i] ∧ i ≤ (ulist l).length ∧ bs = 34 :: ((ulist l).take i).flatMap quoted1 ∧ Own h' h.size 5 1 a' bs.length c' (bs.map byteV) ∧ Ext h h')
    (fun vs _ => match vs with | [_, .int _ i] => (ulist l).length - i.toNat | _ => 0) rfl ?_ ?_
  · exact ⟨0, _, _, [34], rfl, by omega, by simp, w1, x1⟩
  intro u h2 v4 v15
  rintro ⟨i, a', c', bs, e, hi, hbs, w2, x2⟩
  cases e
  have hbl : bs.length ≤ 1 + 6 * 2097152 := by
    have := flat_q_len ((ulist l).take i)
    rw [List.length_take] at this
    rw [hbs, List.length_cons]; omega
  ((conv=>whnf);repeat((first|(with_reducible first|refine Z1 ?_|refine Z2 ?_|refine Z3 ?_|refine Z4 ?_|refine Z5 ?_|refine Z9 (by assumption) rfl ?_|refine ZA (by assumption) rfl ?_|refine ZB (by assumption) rfl ?_|refine Z6 ?_|refine Z7 ?_|refine Z8 ?_)|((with_reducible refine ZM ?_ ?_);(focus rfl)));(conv=>whnf)))
  refine HIf.mk (fun hlt => ?_) (fun hlt => ?_)
  · have hi1 : i < (ulist l).length := by have := of_decide_eq_true hlt; omega
    have hmu : (ulist l).length - ((i : Int) + 1).toNat < (ulist l).length - ((i : Int)).toNat := by omega
    have h16 := ulist_elt l hi1
    have htk : (ulist l).take (i + 1) = (ulist l).take i ++ [(ulist l)[i]] := by rw [List.take_add_one, List.getElem?_eq_getElem hi1]; rfl
    have done : ∀ (h' : Heap) (a4 : Option Addr) (c4 : Nat) (more : List UInt8), more = quoted1 (ulist l)[i] → Own h' h.size 5 1 a4 (bs ++ more).length c4 ((bs ++ more).map byteV) → Ext h h' →
        (∃ (i1 : Nat) (a' : Option Addr) (c' : Nat) (bs' : List UInt8), [Value.slice a4 (bs ++ more).length c4, Value.int .i64 ((i : Int) + 1)] = [.slice a' bs'.length c', .int .i64 i1] ∧ i1 ≤ (ulist l).length ∧ bs' = 34 :: ((ulist l).take i1).flatMap quoted1 ∧ Own h' h.size 5 1 a' bs'.length c' (bs'.map byteV) ∧ Ext h h') := by
      intro h' a4 c4 more hm ow ex
      refine ⟨i + 1, a4, c4, _, rfl, by omega, ?_, ow, ex⟩
      rw [htk, List.flatMap_append, hbs, hm]; simp
    ((conv=>whnf);repeat((first|(with_reducible first|refine Z1 ?_|refine Z2 ?_|refine Z3 ?_|refine Z4 ?_|refine Z5 ?_|refine Z9 (by assumption) rfl ?_|refine ZA (by assumption) rfl ?_|refine ZB (by assumption) rfl ?_|refine Z6 ?_|refine Z7 ?_|refine Z8 ?_)|((with_reducible refine ZM ?_ ?_);(focus rfl)));(conv=>whnf)))
    refine HCall.mk ((at_spec l hl i hi1 h2).mono ?_)
    rintro e h2 ⟨rfl, rfl⟩
    generalize (ulist l)[i] = n at *
    have hs2 := x2.1
    refine cut_rule [7] (fun vs h' => vs = [.int .i64 (at8 n)] ∧ h' = h2) rfl ?_ ?_
    · ((conv=>whnf);repeat((first|(with_reducible first|refine Z1 ?_|refine Z2 ?_|refine Z3 ?_|refine Z4 ?_|refine Z5 ?_|refine Z9 (by assumption) rfl ?_|refine ZA (by assumption) rfl ?_|refine ZB (by assumption) rfl ?_|refine Z6 ?_|refine Z7 ?_|refine Z8 ?_)|((with_reducible refine ZM ?_ ?_);(focus rfl)));(conv=>whnf)))
      refine HIf.mk (fun h128 => ?_) (fun h128 => ?_)
      · have h128' := of_decide_eq_true h128
        ((conv=>whnf);repeat((first|(with_reducible first|refine Z2 ?_|refine Z3 ?_|refine Z4 ?_|refine Z5 ?_|refine Z9 (by assumption) rfl ?_|refine ZA (by assumption) rfl ?_|refine ZB (by assumption) rfl ?_|refine Z6 ?_|refine Z7 ?_|refine Z8 ?_)|((with_reducible refine ZM ?_ ?_);(focus rfl)));(conv=>whnf)))
        refine HCall.mk ((index_spec _ _ h2).mono ?_)
        rintro e h2 ⟨rfl, rfl⟩
        have := at8_eq n (by omega)
        ((conv=>whnf);repeat((first|(with_reducible first|refine Z2 ?_|refine Z3 ?_|refine Z4 ?_|refine Z5 ?_|refine Z9 (by assumption) rfl ?_|refine ZA (by assumption) rfl ?_|refine ZB (by assumption) rfl ?_|refine Z6 ?_|refine Z7 ?_|refine Z8 ?_)|((with_reducible refine ZM ?_ ?_);(focus rfl)));(conv=>whnf)))
        refine ⟨?_, rfl⟩
        rw [← this]; rfl
      · have h128' := of_decide_eq_false h128
        ((conv=>whnf);repeat((first|(with_reducible first|refine Z2 ?_|refine Z3 ?_|refine Z4 ?_|refine Z5 ?_|refine Z9 (by assumption) rfl ?_|refine ZA (by assumption) rfl ?_|refine ZB (by assumption) rfl ?_|refine Z6 ?_|refine Z7 ?_|refine Z8 ?_)|((with_reducible refine ZM ?_ ?_);(focus rfl)));(conv=>whnf)))
        refine ⟨?_, rfl⟩
        unfold at8
        rw [if_neg (by omega), if_neg (by omega), if_neg (by omega), if_neg (by omega), if_neg (by omega)]
        rfl
    intro u h2 v7
    rintro ⟨e, rfl⟩
    cases e
    by_cases hA : n = 34 ∨ n = 92
    · rcases hA with rfl | rfl
      · ((conv=>whnf);repeat((first|(with_reducible first|refine Z1 ?_|refine Z2 ?_|refine Z3 ?_|refine Z4 ?_|refine Z5 ?_|refine Z9 (by assumption) rfl ?_|refine ZA (by assumption) rfl ?_|refine ZB (by assumption) rfl ?_|refine Z6 ?_|refine Z7 ?_|refine Z8 ?_)|((with_reducible refine ZM ?_ ?_);(focus rfl)));(conv=>whnf)))
        refine new_own (e := 5) 1 2 [byteV 92, byteV 34] rfl rfl ?_
        intro h3 b3 w3 x3 z3 hb3
        ((conv=>whnf);repeat((first|(with_reducible first|refine Z1 ?_|refine Z2 ?_|refine Z3 ?_|refine Z4 ?_|refine Z5 ?_|refine Z9 (by assumption) rfl ?_|refine ZA (by assumption) rfl ?_|refine ZB (by assumption) rfl ?_|refine Z6 ?_|refine Z7 ?_|refine Z8 ?_)|((with_reducible refine ZM ?_ ?_);(focus rfl)));(conv=>whnf)))
        refine w3.sl.cells ?_
        refine Own.bytes (more := [92, 34]) (w2.ext x3) (by have := x3.1; omega) (by simp only [List.length_cons, List.length_nil]; omega) ?_
        intro h4 a4 c4 w4 g4
        ((conv=>whnf);repeat((first|(with_reducible first|refine Z1 ?_|refine Z2 ?_|refine Z3 ?_|refine Z4 ?_|refine Z5 ?_|refine Z9 (by assumption) rfl ?_|refine ZA (by assumption) rfl ?_|refine ZB (by assumption) rfl ?_|refine Z6 ?_|refine Z7 ?_|refine Z8 ?_)|((with_reducible refine ZM ?_ ?_);(focus rfl)));(conv=>whnf)))
        exact ⟨done h4 a4 c4 _ rfl w4 ((x2.trans x3).keep (g4.kept (by have := x3.1; omega) fun p ep => (w2.lt p ep).1)), hmu⟩
      · ((conv=>whnf);repeat((first|(with_reducible first|refine Z1 ?_|refine Z2 ?_|refine Z3 ?_|refine Z4 ?_|refine Z5 ?_|refine Z9 (by assumption) rfl ?_|refine ZA (by assumption) rfl ?_|refine ZB (by assumption) rfl ?_|refine Z6 ?_|refine Z7 ?_|refine Z8 ?_)|((with_reducible refine ZM ?_ ?_);(focus rfl)));(conv=>whnf)))
        refine new_own (e := 5) 1 2 [byteV 92, byteV 92] rfl rfl ?_
        intro h3 b3 w3 x3 z3 hb3
        ((conv=>whnf);repeat((first|(with_reducible first|refine Z1 ?_|refine Z2 ?_|refine Z3 ?_|refine Z4 ?_|refine Z5 ?_|refine Z9 (by assumption) rfl ?_|refine ZA (by assumption) rfl ?_|refine ZB (by assumption) rfl ?_|refine Z6 ?_|refine Z7 ?_|refine Z8 ?_)|((with_reducible refine ZM ?_ ?_);(focus rfl)));(conv=>whnf)))
        refine w3.sl.cells ?_
        refine Own.bytes (more := [92, 92]) (w2.ext x3) (by have := x3.1; omega) (by simp only [List.length_cons, List.length_nil]; omega) ?_
        intro h4 a4 c4 w4 g4
        ((conv=>whnf);repeat((first|(with_reducible first|refine Z1 ?_|refine Z2 ?_|refine Z3 ?_|refine Z4 ?_|refine Z5 ?_|refine Z9 (by assumption) rfl ?_|refine ZA (by assumption) rfl ?_|refine ZB (by assumption) rfl ?_|refine Z6 ?_|refine Z7 ?_|refine Z8 ?_)|((with_reducible refine ZM ?_ ?_);(focus rfl)));(conv=>whnf)))
        exact ⟨done h4 a4 c4 _ rfl w4 ((x2.trans x3).keep (g4.kept (by have := x3.1; omega) fun p ep => (w2.lt p ep).1)), hmu⟩
    by_cases hB : n = 8 ∨ n = 9 ∨ n = 10 ∨ n = 12 ∨ n = 13
    · rcases hB with rfl | rfl | rfl | rfl | rfl
      · ((conv=>whnf);repeat((first|(with_reducible first|refine Z1 ?_|refine Z2 ?_|refine Z3 ?_|refine Z4 ?_|refine Z5 ?_|refine Z9 (by assumption) rfl ?_|refine ZA (by assumption) rfl ?_|refine ZB (by assumption) rfl ?_|refine Z6 ?_|refine Z7 ?_|refine Z8 ?_)|((with_reducible refine ZM ?_ ?_);(focus rfl)));(conv=>whnf)))
        refine HIdx.mk 0 rfl (by decide) ?_
        ((conv=>whnf);repeat((first|(with_reducible first|refine Z1 ?_|refine Z2 ?_|refine Z3 ?_|refine Z4 ?_|refine Z5 ?_|refine Z9 (by assumption) rfl ?_|refine ZA (by assumption) rfl ?_|refine ZB (by assumption) rfl ?_|refine Z6 ?_|refine Z7 ?_|refine Z8 ?_)|((with_reducible refine ZM ?_ ?_);(focus rfl)));(conv=>whnf)))
        refine new_own (e := 5) 1 2 [byteV 92, byteV 98] rfl rfl ?_
        intro h3 b3 w3 x3 z3 hb3
        ((conv=>whnf);repeat((first|(with_reducible first|refine Z1 ?_|refine Z2 ?_|refine Z3 ?_|refine Z4 ?_|refine Z5 ?_|refine Z9 (by assumption) rfl ?_|refine ZA (by assumption) rfl ?_|refine ZB (by assumption) rfl ?_|refine Z6 ?_|refine Z7 ?_|refine Z8 ?_)|((with_reducible refine ZM ?_ ?_);(focus rfl)));(conv=>whnf)))
        refine w3.sl.cells ?_
        refine Own.bytes (more := [92, 98]) (w2.ext x3) (by have := x3.1; omega) (by simp only [List.length_cons, List.length_nil]; omega) ?_
        intro h4 a4 c4 w4 g4
        ((conv=>whnf);repeat((first|(with_reducible first|refine Z1 ?_|refine Z2 ?_|refine Z3 ?_|refine Z4 ?_|refine Z5 ?_|refine Z9 (by assumption) rfl ?_|refine ZA (by assumption) rfl ?_|refine ZB (by assumption) rfl ?_|refine Z6 ?_|refine Z7 ?_|refine Z8 ?_)|((with_reducible refine ZM ?_ ?_);(focus rfl)));(conv=>whnf)))
        exact ⟨done h4 a4 c4 _ rfl w4 ((x2.trans x3).keep (g4.kept (by have := x3.1; omega) fun p ep => (w2.lt p ep).1)), hmu⟩
      · ((conv=>whnf);repeat((first|(with_reducible first|refine Z1 ?_|refine Z2 ?_|refine Z3 ?_|refine Z4 ?_|refine Z5 ?_|refine Z9 (by assumption) rfl ?_|refine ZA (by assumption) rfl ?_|refine ZB (by assumption) rfl ?_|refine Z6 ?_|refine Z7 ?_|refine Z8 ?_)|((with_reducible refine ZM ?_ ?_);(focus rfl)));(conv=>whnf)))
        refine HIdx.mk 1 rfl (by decide) ?_
        ((conv=>whnf);repeat((first|(with_reducible first|refine Z1 ?_|refine Z2 ?_|refine Z3 ?_|refine Z4 ?_|refine Z5 ?_|refine Z9 (by assumption) rfl ?_|refine ZA (by assumption) rfl ?_|refine ZB (by assumption) rfl ?_|refine Z6 ?_|refine Z7 ?_|refine Z8 ?_)|((with_reducible refine ZM ?_ ?_);(focus rfl)));(conv=>whnf)))
        refine new_own (e := 5) 1 2 [byteV 92, byteV 116] rfl rfl ?_
        intro h3 b3 w3 x3 z3 hb3
        ((conv=>whnf);repeat((first|(with_reducible first|refine Z1 ?_|refine Z2 ?_|refine Z3 ?_|refine Z4 ?_|refine Z5 ?_|refine Z9 (by assumption) rfl ?_|refine ZA (by assumption) rfl ?_|refine ZB (by assumption) rfl ?_|refine Z6 ?_|refine Z7 ?_|refine Z8 ?_)|((with_reducible refine ZM ?_ ?_);(focus rfl)));(conv=>whnf)))
        refine w3.sl.cells ?_
        refine Own.bytes (more := [92, 116]) (w2.ext x3) (by have := x3.1; omega) (by simp only [List.length_cons, List.length_nil]; omega) ?_
        intro h4 a4 c4 w4 g4
        ((conv=>whnf);repeat((first|(with_reducible first|refine Z1 ?_|refine Z2 ?_|refine Z3 ?_|refine Z4 ?_|refine Z5 ?_|refine Z9 (by assumption) rfl ?_|refine ZA (by assumption) rfl ?_|refine ZB (by assumption) rfl ?_|refine Z6 ?_|refine Z7 ?_|refine Z8 ?_)|((with_reducible refine ZM ?_ ?_);(focus rfl)));(conv=>whnf)))
        exact ⟨done h4 a4 c4 _ rfl w4 ((x2.trans x3).keep (g4.kept (by have := x3.1; omega) fun p ep => (w2.lt p ep).1)), hmu⟩
      · ((conv=>whnf);repeat((first|(with_reducible first|refine Z1 ?_|refine Z2 ?_|refine Z3 ?_|refine Z4 ?_|refine Z5 ?_|refine Z9 (by assumption) rfl ?_|refine ZA (by assumption) rfl ?_|refine ZB (by assumption) rfl ?_|refine Z6 ?_|refine Z7 ?_|refine Z8 ?_)|((with_reducible refine ZM ?_ ?_);(focus rfl)));(conv=>whnf)))
        refine HIdx.mk 2 rfl (by decide) ?_
        ((conv=>whnf);repeat((first|(with_reducible first|refine Z1 ?_|refine Z2 ?_|refine Z3 ?_|refine Z4 ?_|refine Z5 ?_|refine Z9 (by assumption) rfl ?_|refine ZA (by assumption) rfl ?_|refine ZB (by assumption) rfl ?_|refine Z6 ?_|refine Z7 ?_|refine Z8 ?_)|((with_reducible refine ZM ?_ ?_);(focus rfl)));(conv=>whnf)))
        refine new_own (e := 5) 1 2 [byteV 92, byteV 110] rfl rfl ?_
        intro h3 b3 w3 x3 z3 hb3
        ((conv=>whnf);repeat((first|(with_reducible first|refine Z1 ?_|refine Z2 ?_|refine Z3 ?_|refine Z4 ?_|refine Z5 ?_|refine Z9 (by assumption) rfl ?_|refine ZA (by assumption) rfl ?_|refine ZB (by assumption) rfl ?_|refine Z6 ?_|refine Z7 ?_|refine Z8 ?_)|((with_reducible refine ZM ?_ ?_);(focus rfl)));(conv=>whnf)))
        refine w3.sl.cells ?_
        refine Own.bytes (more := [92, 110]) (w2.ext x3) (by have := x3.1; omega) (by simp only [List.length_cons, List.length_nil]; omega) ?_
        intro h4 a4 c4 w4 g4
        ((conv=>whnf);repeat((first|(with_reducible first|refine Z1 ?_|refine Z2 ?_|refine Z3 ?_|refine Z4 ?_|refine Z5 ?_|refine Z9 (by assumption) rfl ?_|refine ZA (by assumption) rfl ?_|refine ZB (by assumption) rfl ?_|refine Z6 ?_|refine Z7 ?_|refine Z8 ?_)|((with_reducible refine ZM ?_ ?_);(focus rfl)));(conv=>whnf)))
        exact ⟨done h4 a4 c4 _ rfl w4 ((x2.trans x3).keep (g4.kept (by have := x3.1; omega) fun p ep => (w2.lt p ep).1)), hmu⟩
      · ((conv=>whnf);repeat((first|(with_reducible first|refine Z1 ?_|refine Z2 ?_|refine Z3 ?_|refine Z4 ?_|refine Z5 ?_|refine Z9 (by assumption) rfl ?_|refine ZA (by assumption) rfl ?_|refine ZB (by assumption) rfl ?_|refine Z6 ?_|refine Z7 ?_|refine Z8 ?_)|((with_reducible refine ZM ?_ ?_);(focus rfl)));(conv=>whnf)))
        refine HIdx.mk 3 rfl (by decide) ?_
        ((conv=>whnf);repeat((first|(with_reducible first|refine Z1 ?_|refine Z2 ?_|refine Z3 ?_|refine Z4 ?_|refine Z5 ?_|refine Z9 (by assumption) rfl ?_|refine ZA (by assumption) rfl ?_|refine ZB (by assumption) rfl ?_|refine Z6 ?_|refine Z7 ?_|refine Z8 ?_)|((with_reducible refine ZM ?_ ?_);(focus rfl)));(conv=>whnf)))
        refine new_own (e := 5) 1 2 [byteV 92, byteV 102] rfl rfl ?_
        intro h3 b3 w3 x3 z3 hb3
        ((conv=>whnf);repeat((first|(with_reducible first|refine Z1 ?_|refine Z2 ?_|refine Z3 ?_|refine Z4 ?_|refine Z5 ?_|refine Z9 (by assumption) rfl ?_|refine ZA (by assumption) rfl ?_|refine ZB (by assumption) rfl ?_|refine Z6 ?_|refine Z7 ?_|refine Z8 ?_)|((with_reducible refine ZM ?_ ?_);(focus rfl)));(conv=>whnf)))
        refine w3.sl.cells ?_
        refine Own.bytes (more := [92, 102]) (w2.ext x3) (by have := x3.1; omega) (by simp only [List.length_cons, List.length_nil]; omega) ?_
        intro h4 a4 c4 w4 g4
        ((conv=>whnf);repeat((first|(with_reducible first|refine Z1 ?_|refine Z2 ?_|refine Z3 ?_|refine Z4 ?_|refine Z5 ?_|refine Z9 (by assumption) rfl ?_|refine ZA (by assumption) rfl ?_|refine ZB (by assumption) rfl ?_|refine Z6 ?_|refine Z7 ?_|refine Z8 ?_)|((with_reducible refine ZM ?_ ?_);(focus rfl)));(conv=>whnf)))
        exact ⟨done h4 a4 c4 _ rfl w4 ((x2.trans x3).keep (g4.kept (by have := x3.1; omega) fun p ep => (w2.lt p ep).1)), hmu⟩
      · ((conv=>whnf);repeat((first|(with_reducible first|refine Z1 ?_|refine Z2 ?_|refine Z3 ?_|refine Z4 ?_|refine Z5 ?_|refine Z9 (by assumption) rfl ?_|refine ZA (by assumption) rfl ?_|refine ZB (by assumption) rfl ?_|refine Z6 ?_|refine Z7 ?_|refine Z8 ?_)|((with_reducible refine ZM ?_ ?_);(focus rfl)));(conv=>whnf)))
        refine HIdx.mk 4 rfl (by decide) ?_
        ((conv=>whnf);repeat((first|(with_reducible first|refine Z1 ?_|refine Z2 ?_|refine Z3 ?_|refine Z4 ?_|refine Z5 ?_|refine Z9 (by assumption) rfl ?_|refine ZA (by assumption) rfl ?_|refine ZB (by assumption) rfl ?_|refine Z6 ?_|refine Z7 ?_|refine Z8 ?_)|((with_reducible refine ZM ?_ ?_);(focus rfl)));(conv=>whnf)))
        refine new_own (e := 5) 1 2 [byteV 92, byteV 114] rfl rfl ?_
        intro h3 b3 w3 x3 z3 hb3
        ((conv=>whnf);repeat((first|(with_reducible first|refine Z1 ?_|refine Z2 ?_|refine Z3 ?_|refine Z4 ?_|refine Z5 ?_|refine Z9 (by assumption) rfl ?_|refine ZA (by assumption) rfl ?_|refine ZB (by assumption) rfl ?_|refine Z6 ?_|refine Z7 ?_|refine Z8 ?_)|((with_reducible refine ZM ?_ ?_);(focus rfl)));(conv=>whnf)))
        refine w3.sl.cells ?_
        refine Own.bytes (more := [92, 114]) (w2.ext x3) (by have := x3.1; omega) (by simp only [List.length_cons, List.length_nil]; omega) ?_
        intro h4 a4 c4 w4 g4
        ((conv=>whnf);repeat((first|(with_reducible first|refine Z1 ?_|refine Z2 ?_|refine Z3 ?_|refine Z4 ?_|refine Z5 ?_|refine Z9 (by assumption) rfl ?_|refine ZA (by assumption) rfl ?_|refine ZB (by assumption) rfl ?_|refine Z6 ?_|refine Z7 ?_|refine Z8 ?_)|((with_reducible refine ZM ?_ ?_);(focus rfl)));(conv=>whnf)))
        exact ⟨done h4 a4 c4 _ rfl w4 ((x2.trans x3).keep (g4.kept (by have := x3.1; omega) fun p ep => (w2.lt p ep).1)), hmu⟩
    have e8 : at8 n = -1 := by unfold at8; rw [if_neg (by omega), if_neg (by omega), if_neg (by omega), if_neg (by omega), if_neg (by omega)]
    rw [e8]
    have q33 : ((n : Int) == 34) = false := beq_eq_false_iff_ne.2 (by omega)
    have q36 : ((n : Int) == 92) = false := beq_eq_false_iff_ne.2 (by omega)
    have eC : quoted1 n = if n < 32 ∨ 126 < n then 92 :: 117 :: hexT n 4 else [UInt8.ofNat n] := by
      unfold quoted1
      rw [if_neg hA, if_neg (by omega), if_neg (by omega), if_neg (by omega), if_neg (by omega), if_neg (by omega)]
    by_cases hC : n < 32 ∨ 126 < n
    · rw [if_pos hC] at eC
      by_cases h32 : n < 32
      · have q53 : decide ((n : Int) < 32) = true := decide_eq_true (by omega)
        ((conv=>whnf);repeat((first|(with_reducible first|refine Z1 ?_|refine Z2 ?_|refine Z3 ?_|refine Z4 ?_|refine Z5 ?_|refine Z9 (by assumption) rfl ?_|refine ZA (by assumption) rfl ?_|refine ZB (by assumption) rfl ?_|refine Z6 ?_|refine Z7 ?_|refine Z8 ?_)|((with_reducible refine ZM ?_ ?_);(focus rfl)));(conv=>whnf)))
        refine HCall.to #[.int .i64 (65536 + n : Nat), .int .i64 16] (by rw [← or64k n h16]; rfl) ((fmt16_spec (65536 + n) (by omega) (by omega) h2 (t.ext x2)).mono ?_)
        rintro e h3 ⟨rfl, x3⟩
        rw [hexT_64k n h16]
        have hsz : (⟨(49 :: hexT n 4).toArray⟩ : ByteArray).size = 5 := by show (49 :: hexT n 4).length = 5; simp [hexT_len]
        ((conv=>whnf);repeat((first|(with_reducible first|refine Z1 ?_|refine Z2 ?_|refine Z3 ?_|refine Z4 ?_|refine Z5 ?_|refine Z9 (by assumption) rfl ?_|refine ZA (by assumption) rfl ?_|refine ZB (by assumption) rfl ?_|refine Z6 ?_|refine Z7 ?_|refine Z8 ?_)|((with_reducible refine ZM ?_ ?_);(focus rfl)));(conv=>whnf)))
        refine HBound.mk 1 rfl (by rw [hsz]; decide) ?_
        rw [extract_one]
        ((conv=>whnf);repeat((first|(with_reducible first|refine Z1 ?_|refine Z2 ?_|refine Z3 ?_|refine Z4 ?_|refine Z5 ?_|refine Z9 (by assumption) rfl ?_|refine ZA (by assumption) rfl ?_|refine ZB (by assumption) rfl ?_|refine Z6 ?_|refine Z7 ?_|refine Z8 ?_)|((with_reducible refine ZM ?_ ?_);(focus rfl)));(conv=>whnf)))
        refine HMust.mk (by show 2 + (hexT n 4).length ≤ 9223372036854775807; rw [hexT_len]; decide) ?_
        ((conv=>whnf);repeat((first|(with_reducible first|refine Z1 ?_|refine Z2 ?_|refine Z3 ?_|refine Z4 ?_|refine Z5 ?_|refine Z9 (by assumption) rfl ?_|refine ZA (by assumption) rfl ?_|refine ZB (by assumption) rfl ?_|refine Z6 ?_|refine Z7 ?_|refine Z8 ?_)|((with_reducible refine ZM ?_ ?_);(focus rfl)));(conv=>whnf)))
        refine Own.bytes (more := 92 :: 117 :: hexT n 4) (w2.ext x3) (by have := x3.1; omega) (by simp only [List.length_cons, hexT_len]; omega) ?_
        intro h4 a4 c4 w4 g4
        ((conv=>whnf);repeat((first|(with_reducible first|refine Z1 ?_|refine Z2 ?_|refine Z3 ?_|refine Z4 ?_|refine Z5 ?_|refine Z9 (by assumption) rfl ?_|refine ZA (by assumption) rfl ?_|refine ZB (by assumption) rfl ?_|refine Z6 ?_|refine Z7 ?_|refine Z8 ?_)|((with_reducible refine ZM ?_ ?_);(focus rfl)));(conv=>whnf)))
        exact ⟨done h4 a4 c4 _ eC.symm w4 ((x2.trans x3).keep (g4.kept (by have := x3.1; omega) fun p ep => (w2.lt p ep).1)), hmu⟩
      · have q53 : decide ((n : Int) < 32) = false := decide_eq_false (by omega)
        have q56 : decide ((n : Int) > 126) = true := decide_eq_true (by omega)
        ((conv=>whnf);repeat((first|(with_reducible first|refine Z1 ?_|refine Z2 ?_|refine Z3 ?_|refine Z4 ?_|refine Z5 ?_|refine Z9 (by assumption) rfl ?_|refine ZA (by assumption) rfl ?_|refine ZB (by assumption) rfl ?_|refine Z6 ?_|refine Z7 ?_|refine Z8 ?_)|((with_reducible refine ZM ?_ ?_);(focus rfl)));(conv=>whnf)))
        refine HCall.to #[.int .i64 (65536 + n : Nat), .int .i64 16] (by rw [← or64k n h16]; rfl) ((fmt16_spec (65536 + n) (by omega) (by omega) h2 (t.ext x2)).mono ?_)
        rintro e h3 ⟨rfl, x3⟩
        rw [hexT_64k n h16]
        have hsz : (⟨(49 :: hexT n 4).toArray⟩ : ByteArray).size = 5 := by show (49 :: hexT n 4).length = 5; simp [hexT_len]
        ((conv=>whnf);repeat((first|(with_reducible first|refine Z1 ?_|refine Z2 ?_|refine Z3 ?_|refine Z4 ?_|refine Z5 ?_|refine Z9 (by assumption) rfl ?_|refine ZA (by assumption) rfl ?_|refine ZB (by assumption) rfl ?_|refine Z6 ?_|refine Z7 ?_|refine Z8 ?_)|((with_reducible refine ZM ?_ ?_);(focus rfl)));(conv=>whnf)))
        refine HBound.mk 1 rfl (by rw [hsz]; decide) ?_
        rw [extract_one]
        ((conv=>whnf);repeat((first|(with_reducible first|refine Z1 ?_|refine Z2 ?_|refine Z3 ?_|refine Z4 ?_|refine Z5 ?_|refine Z9 (by assumption) rfl ?_|refine ZA (by assumption) rfl ?_|refine ZB (by assumption) rfl ?_|refine Z6 ?_|refine Z7 ?_|refine Z8 ?_)|((with_reducible refine ZM ?_ ?_);(focus rfl)));(conv=>whnf)))
        refine HMust.mk (by show 2 + (hexT n 4).length ≤ 9223372036854775807; rw [hexT_len]; decide) ?_
        ((conv=>whnf);repeat((first|(with_reducible first|refine Z1 ?_|refine Z2 ?_|refine Z3 ?_|refine Z4 ?_|refine Z5 ?_|refine Z9 (by assumption) rfl ?_|refine ZA (by assumption) rfl ?_|refine ZB (by assumption) rfl ?_|refine Z6 ?_|refine Z7 ?_|refine Z8 ?_)|((with_reducible refine ZM ?_ ?_);(focus rfl)));(conv=>whnf)))
        refine Own.bytes (more := 92 :: 117 :: hexT n 4) (w2.ext x3) (by have := x3.1; omega) (by simp only [List.length_cons, hexT_len]; omega) ?_
        intro h4 a4 c4 w4 g4
        ((conv=>whnf);repeat((first|(with_reducible first|refine Z1 ?_|refine Z2 ?_|refine Z3 ?_|refine Z4 ?_|refine Z5 ?_|refine Z9 (by assumption) rfl ?_|refine ZA (by assumption) rfl ?_|refine ZB (by assumption) rfl ?_|refine Z6 ?_|refine Z7 ?_|refine Z8 ?_)|((with_reducible refine ZM ?_ ?_);(focus rfl)));(conv=>whnf)))
        exact ⟨done h4 a4 c4 _ eC.symm w4 ((x2.trans x3).keep (g4.kept (by have := x3.1; omega) fun p ep => (w2.lt p ep).1)), hmu⟩
    · rw [if_neg hC] at eC
      have q53 : decide ((n : Int) < 32) = false := decide_eq_false (by omega)
      have q56 : decide ((n : Int) > 126) = false := decide_eq_false (by omega)
      ((conv=>whnf);repeat((first|(with_reducible first|refine Z1 ?_|refine Z2 ?_|refine Z3 ?_|refine Z4 ?_|refine Z5 ?_|refine Z9 (by assumption) rfl ?_|refine ZA (by assumption) rfl ?_|refine ZB (by assumption) rfl ?_|refine Z6 ?_|refine Z7 ?_|refine Z8 ?_)|((with_reducible refine ZM ?_ ?_);(focus rfl)));(conv=>whnf)))
      refine new_own (e := 5) 1 1 [byteV (UInt8.ofNat n)] (by rw [byteV_ofNat, Nat.mod_eq_of_lt (by omega)]) rfl ?_
      intro h3 b3 w3 x3 z3 hb3
      ((conv=>whnf);repeat((first|(with_reducible first|refine Z1 ?_|refine Z2 ?_|refine Z3 ?_|refine Z4 ?_|refine Z5 ?_|refine Z9 (by assumption) rfl ?_|refine ZA (by assumption) rfl ?_|refine ZB (by assumption) rfl ?_|refine Z6 ?_|refine Z7 ?_|refine Z8 ?_)|((with_reducible refine ZM ?_ ?_);(focus rfl)));(conv=>whnf)))
      refine w3.sl.cells ?_
      refine Own.bytes (more := [UInt8.ofNat n]) (w2.ext x3) (by have := x3.1; omega) (by simp only [List.length_cons, List.length_nil]; omega) ?_
      intro h4 a4 c4 w4 g4
      ((conv=>whnf);repeat((first|(with_reducible first|refine Z1 ?_|refine Z2 ?_|refine Z3 ?_|refine Z4 ?_|refine Z5 ?_|refine Z9 (by assumption) rfl ?_|refine ZA (by assumption) rfl ?_|refine ZB (by assumption) rfl ?_|refine Z6 ?_|refine Z7 ?_|refine Z8 ?_)|((with_reducible refine ZM ?_ ?_);(focus rfl)));(conv=>whnf)))
      exact ⟨done h4 a4 c4 _ eC.symm w4 ((x2.trans x3).keep (g4.kept (by have := x3.1; omega) fun p ep => (w2.lt p ep).1)), hmu⟩
  · have hge := of_decide_eq_false hlt
    obtain rfl : i = (ulist l).length := by omega
    rw [List.take_length] at hbs
    have hs2 := x2.1
    ((conv=>whnf);repeat((first|(with_reducible first|refine Z1 ?_|refine Z2 ?_|refine Z3 ?_|refine Z4 ?_|refine Z5 ?_|refine Z9 (by assumption) rfl ?_|refine ZA (by assumption) rfl ?_|refine ZB (by assumption) rfl ?_|refine Z6 ?_|refine Z7 ?_|refine Z8 ?_)|((with_reducible refine ZM ?_ ?_);(focus rfl)));(conv=>whnf)))
    refine new_own (e := 5) 1 1 [byteV 34] rfl rfl ?_
    intro h3 b3 w3 x3 z3 hb3
    ((conv=>whnf);repeat((first|(with_reducible first|refine Z1 ?_|refine Z2 ?_|refine Z3 ?_|refine Z4 ?_|refine Z5 ?_|refine Z9 (by assumption) rfl ?_|refine ZA (by assumption) rfl ?_|refine ZB (by assumption) rfl ?_|refine Z6 ?_|refine Z7 ?_|refine Z8 ?_)|((with_reducible refine ZM ?_ ?_);(focus rfl)));(conv=>whnf)))
    refine w3.sl.cells ?_
    refine Own.bytes (more := [34]) (w2.ext x3) (by have := x3.1; omega) (by simp only [List.length_cons, List.length_nil]; omega) ?_
    intro h4 a4 c4 w4 g4
    have eq : bs ++ [34] = quoteL l := by rw [hbs]; rfl
    have s4 := w4.sl
    ((conv=>whnf);repeat((first|(with_reducible first|refine Z1 ?_|refine Z2 ?_|refine Z3 ?_|refine Z4 ?_|refine Z5 ?_|refine Z9 (by assumption) rfl ?_|refine ZA (by assumption) rfl ?_|refine ZB (by assumption) rfl ?_|refine Z6 ?_|refine Z7 ?_|refine Z8 ?_)|((with_reducible refine ZM ?_ ?_);(focus rfl)));(conv=>whnf)))
    refine s4.bytes ?_
    rw [eq]
    ((conv=>whnf);repeat((first|(with_reducible first|refine Z1 ?_|refine Z2 ?_|refine Z3 ?_|refine Z4 ?_|refine Z5 ?_|refine Z9 (by assumption) rfl ?_|refine ZA (by assumption) rfl ?_|refine ZB (by assumption) rfl ?_|refine Z6 ?_|refine Z7 ?_|refine Z8 ?_)|((with_reducible refine ZM ?_ ?_);(focus rfl)));(conv=>whnf)))
    exact ⟨rfl, (x2.trans x3).keep (g4.kept (by have := x3.1; omega) fun p ep => (w2.lt p ep).1)⟩
theorem quoted_spec (l : List UInt8) (hl : l.length ≤ 2097152) (hev : l.length % 2 = 0) (h : Heap) (t : Tz h) : HCalls Tryd.prog 42 #[.string ⟨l.toArray⟩] h fun e h' =>
    e = .returned (.string ⟨(quoteL l).toArray⟩) ∧ Ext h h' := by
  refine c42 (by simp) ?_
  ((conv=>whnf);repeat((first|(with_reducible first|refine Z1 ?_|refine Z2 ?_|refine Z3 ?_|refine Z4 ?_|refine Z5 ?_|refine Z9 (by assumption) rfl ?_|refine ZA (by assumption) rfl ?_|refine ZB (by assumption) rfl ?_|refine Z6 ?_|refine Z7 ?_|refine Z8 ?_)|((with_reducible refine ZM ?_ ?_);(focus rfl)));(conv=>whnf)))
  refine HCall.mk ((quote_spec l hl hev h t).mono ?_)
  rintro e h2 ⟨rfl, x2⟩
  ((conv=>whnf);repeat((first|(with_reducible first|refine Z1 ?_|refine Z2 ?_|refine Z3 ?_|refine Z4 ?_|refine Z5 ?_|refine Z9 (by assumption) rfl ?_|refine ZA (by assumption) rfl ?_|refine ZB (by assumption) rfl ?_|refine Z6 ?_|refine Z7 ?_|refine Z8 ?_)|((with_reducible refine ZM ?_ ?_);(focus rfl)));(conv=>whnf)))
  exact ⟨rfl, x2⟩

end Go.Proofs.YtmibnfjjlibpgaaDoor.Hc
