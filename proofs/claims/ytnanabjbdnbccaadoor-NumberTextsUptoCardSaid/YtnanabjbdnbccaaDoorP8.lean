/- Numbers read: units, blanks. -/
import Derived.Test.YtnanabjbdnbccaaDoorP7
set_option linter.unusedVariables false
set_option linter.unusedSimpArgs false
namespace Go.Proofs.YtnanabjbdnbccaaDoor.Hc
open Go Go.H Go.Proofs
set_option maxRecDepth 100000
set_option maxHeartbeats 4000000

/-- A string's units. -/
def ulist : List UInt8 → List Nat
  | a :: b :: r => (a.toNat * 256 + b.toNat) :: ulist r
  | _ => []
theorem ulist_len : ∀ (l : List UInt8), (ulist l).length = l.length / 2
  | [] => rfl
  | [_] => by simp [ulist]
  | a :: b :: r => by simp only [ulist, List.length_cons, ulist_len r]; omega
theorem ulist_get : ∀ (l : List UInt8) (i : Nat) (h : i < (ulist l).length) (h1 : 2 * i + 1 < l.length), (ulist l)[i] = (l[2 * i]'(by omega)).toNat * 256 + (l[2 * i + 1]).toNat
  | [], i, h, h1 => by simp at h1
  | [_], i, h, h1 => by simp at h1
  | a :: b :: r, 0, h, h1 => by simp [ulist]
  | a :: b :: r, i + 1, h, h1 => by
    have ih := ulist_get r i (by simpa [ulist] using h) (by simp only [List.length_cons] at h1; omega)
    simp only [ulist, List.getElem_cons_succ]
    rw [ih]
    congr 2
theorem ulist_lt (l : List UInt8) : ∀ n ∈ ulist l, n < 65536 := by
  intro n hn
  obtain ⟨i, hi, rfl⟩ := List.getElem_of_mem hn
  have hl := ulist_len l
  rw [ulist_get l i hi (by omega)]
  have h1 := (l[2 * i]'(by omega)).toNat_lt
  have h2 := (l[2 * i + 1]'(by omega)).toNat_lt
  omega
def blankN (n : Nat) : Bool := decide (n = 32 ∨ n = 160 ∨ n = 8232 ∨ n = 8233 ∨ n = 65279 ∨ (9 ≤ n ∧ n ≤ 13))
theorem blankN_iff (n : Nat) : blankN n = true ↔ (n = 32 ∨ n = 160 ∨ n = 8232 ∨ n = 8233 ∨ n = 65279 ∨ (9 ≤ n ∧ n ≤ 13)) := by unfold blankN; rw [decide_eq_true_eq]

theorem and1_i64 (n : Nat) (hn : n < 9223372036854775808) : ibits .and .i64 (n : Int) 1 = ((n % 2 : Nat) : Int) := by
  unfold ibits
  have e1 : BitVec.ofInt (IntKind.bits .i64) (n : Int) = BitVec.ofNat 64 n := by rw [BitVec.ofInt_natCast]; rfl
  have e3 : ((BitVec.ofNat 64 n) &&& (BitVec.ofNat 64 1)).toNat = n % 2 := by
    rw [BitVec.toNat_and, BitVec.toNat_ofNat, BitVec.toNat_ofNat, Nat.mod_eq_of_lt (by omega)]
    exact Nat.and_two_pow_sub_one_eq_mod n 1
  show IntKind.i64.wrap (((BitVec.ofInt (IntKind.bits .i64) (n : Int)) &&& (BitVec.ofInt (IntKind.bits .i64) 1)).toNat : Int) = _
  rw [e1]
  show IntKind.i64.wrap ((((BitVec.ofNat 64 n) &&& (BitVec.ofNat 64 1)).toNat : Nat) : Int) = _
  rw [e3]
  exact wrap_i64 (by omega)
theorem or_i64 (a b : Nat) (ha : a < 256) (hb : b < 256) : ibits .or .i64 ((a * 256 : Nat) : Int) (b : Int) = ((a * 256 + b : Nat) : Int) := by
  unfold ibits
  have e1 : BitVec.ofInt (IntKind.bits .i64) ((a * 256 : Nat) : Int) = BitVec.ofNat 64 (a * 256) := by rw [BitVec.ofInt_natCast]; rfl
  have e2 : BitVec.ofInt (IntKind.bits .i64) (b : Int) = BitVec.ofNat 64 b := by rw [BitVec.ofInt_natCast]; rfl
  have e3 : ((BitVec.ofNat 64 (a * 256)) ||| (BitVec.ofNat 64 b)).toNat = a * 256 + b := by
    rw [BitVec.toNat_or, BitVec.toNat_ofNat, BitVec.toNat_ofNat, Nat.mod_eq_of_lt (by omega), Nat.mod_eq_of_lt (by omega)]
    have := Nat.shiftLeft_add_eq_or_of_lt (i := 8) (b := b) (by omega) a
    rw [Nat.shiftLeft_eq] at this
    have e : a * 2 ^ 8 = a * 256 := rfl
    rw [e] at this
    exact this.symm
  show IntKind.i64.wrap (((BitVec.ofInt (IntKind.bits .i64) ((a * 256 : Nat) : Int)) ||| (BitVec.ofInt (IntKind.bits .i64) (b : Int))).toNat : Int) = _
  rw [e1, e2]
  show IntKind.i64.wrap ((((BitVec.ofNat 64 (a * 256)) ||| (BitVec.ofNat 64 b)).toNat : Nat) : Int) = _
  rw [e3]
  exact wrap_i64 (by omega)

theorem ucheck_spec (l : List UInt8) (hl : l.length ≤ 2097152) (h : Heap) : HCalls Tryd.prog 26 #[.string ⟨l.toArray⟩] h fun e h' => e = .returned (.bool (decide (l.length % 2 = 0))) ∧ h' = h := by
  refine c26 (by simp) ?_
  ((conv=>whnf);repeat((first|(with_reducible first|refine Z1 ?_|refine Z2 ?_|refine Z3 ?_|refine Z4 ?_|refine Z5 ?_|refine Z9 (by assumption) rfl ?_|refine ZA (by assumption) rfl ?_|refine ZB (by assumption) rfl ?_|refine Z6 ?_|refine Z7 ?_|refine Z8 ?_)|((with_reducible refine ZM ?_ ?_);(focus rfl)));(conv=>whnf)))
  refine ⟨?_, rfl⟩
  have e1 := and1_i64 l.length (by omega)
  show Ending.returned (.bool (ibits .and .i64 (l.length : Int) 1 == 0)) = _
  rw [e1]
  by_cases h : l.length % 2 = 0
  · rw [h]; rfl
  · rw [decide_eq_false h]
    congr 2
    rw [beq_eq_false_iff_ne]; omega
theorem ulen_spec (l : List UInt8) (hl : l.length ≤ 2097152) (h : Heap) : HCalls Tryd.prog 27 #[.string ⟨l.toArray⟩] h fun e h' => e = .returned (.int .i64 (l.length / 2 : Nat)) ∧ h' = h := by
  have hs : (⟨l.toArray⟩ : ByteArray).size = l.length := rfl
  have e2 : ((l.length : Nat) : Int).tdiv 2 = ((l.length / 2 : Nat) : Int) := (Int.ofNat_tdiv l.length 2).symm
  refine c27 (by simp) ?_
  ((conv=>whnf);repeat((first|(with_reducible first|refine Z1 ?_|refine Z2 ?_|refine Z3 ?_|refine Z4 ?_|refine Z5 ?_|refine Z9 (by assumption) rfl ?_|refine ZA (by assumption) rfl ?_|refine ZB (by assumption) rfl ?_|refine Z6 ?_|refine Z7 ?_|refine Z8 ?_)|((with_reducible refine ZM ?_ ?_);(focus rfl)));(conv=>whnf)))
  refine HInt.mk (l.length / 2 : Nat) (by rw [hs, e2]; exact wrap_i64 (by omega)) ?_
  ((conv=>whnf);repeat((first|(with_reducible first|refine Z1 ?_|refine Z2 ?_|refine Z3 ?_|refine Z4 ?_|refine Z5 ?_|refine Z9 (by assumption) rfl ?_|refine ZA (by assumption) rfl ?_|refine ZB (by assumption) rfl ?_|refine Z6 ?_|refine Z7 ?_|refine Z8 ?_)|((with_reducible refine ZM ?_ ?_);(focus rfl)));(conv=>whnf)))
  exact ⟨rfl, rfl⟩
theorem at_spec (l : List UInt8) (hl : l.length ≤ 2097152) (i : Nat) (hi : i < (ulist l).length) (h : Heap) : HCalls Tryd.prog 28 #[.string ⟨l.toArray⟩, .int .i64 i] h fun e h' => e = .returned (.int .i64 ((ulist l)[i] : Nat)) ∧ h' = h := by
  have hs : (⟨l.toArray⟩ : ByteArray).size = l.length := rfl
  have hll := ulist_len l
  have h1 : 2 * i + 1 < l.length := by omega
  have h0 : 2 * i < l.length := by omega
  have eg := ulist_get l i hi h1
  have x0 := idx_txt l h0
  have x1 := idx_txt l h1
  have b0 := (l[2 * i]).toNat_lt
  have b1 := (l[2 * i + 1]).toNat_lt
  refine c28 (by simp) ?_
  have q1 : decide ((i : Int) < 0) = false := decide_eq_false (by omega)
  have q2 : decide ((i : Int) ≥ ((l.length / 2 : Nat) : Int)) = false := decide_eq_false (by omega)
  ((conv=>whnf);repeat((first|(with_reducible first|refine Z1 ?_|refine Z2 ?_|refine Z3 ?_|refine Z4 ?_|refine Z5 ?_|refine Z9 (by assumption) rfl ?_|refine ZA (by assumption) rfl ?_|refine ZB (by assumption) rfl ?_|refine Z6 ?_|refine Z7 ?_|refine Z8 ?_)|((with_reducible refine ZM ?_ ?_);(focus rfl)));(conv=>whnf)))
  refine HCall.mk ((ulen_spec l hl _).mono ?_)
  rintro e _ ⟨rfl, rfl⟩
  ((conv=>whnf);repeat((first|(with_reducible first|refine Z1 ?_|refine Z2 ?_|refine Z3 ?_|refine Z4 ?_|refine Z5 ?_|refine Z9 (by assumption) rfl ?_|refine ZA (by assumption) rfl ?_|refine ZB (by assumption) rfl ?_|refine Z6 ?_|refine Z7 ?_|refine Z8 ?_)|((with_reducible refine ZM ?_ ?_);(focus rfl)));(conv=>whnf)))
  refine HIdx.mk (2 * i) (by omega) h0 ?_
  rw [x0]
  ((conv=>whnf);repeat((first|(with_reducible first|refine Z1 ?_|refine Z2 ?_|refine Z3 ?_|refine Z4 ?_|refine Z5 ?_|refine Z9 (by assumption) rfl ?_|refine ZA (by assumption) rfl ?_|refine ZB (by assumption) rfl ?_|refine Z6 ?_|refine Z7 ?_|refine Z8 ?_)|((with_reducible refine ZM ?_ ?_);(focus rfl)));(conv=>whnf)))
  refine HInt.mk ((l[2 * i].toNat * 256 : Nat) : Int) ?_ ?_
  · have e : (2 : Int) ^ (min (Int.toNat 8) (IntKind.bits .i64)) = 256 := by decide
    rw [e, show ((l[2 * i].toNat : Nat) : Int) * 256 = ((l[2 * i].toNat * 256 : Nat) : Int) by omega]
    exact wrap_i64 (by omega)
  ((conv=>whnf);repeat((first|(with_reducible first|refine Z1 ?_|refine Z2 ?_|refine Z3 ?_|refine Z4 ?_|refine Z5 ?_|refine Z9 (by assumption) rfl ?_|refine ZA (by assumption) rfl ?_|refine ZB (by assumption) rfl ?_|refine Z6 ?_|refine Z7 ?_|refine Z8 ?_)|((with_reducible refine ZM ?_ ?_);(focus rfl)));(conv=>whnf)))
  refine HIdx.mk (2 * i + 1) (by omega) h1 ?_
  rw [x1]
  ((conv=>whnf);repeat((first|(with_reducible first|refine Z1 ?_|refine Z2 ?_|refine Z3 ?_|refine Z4 ?_|refine Z5 ?_|refine Z9 (by assumption) rfl ?_|refine ZA (by assumption) rfl ?_|refine ZB (by assumption) rfl ?_|refine Z6 ?_|refine Z7 ?_|refine Z8 ?_)|((with_reducible refine ZM ?_ ?_);(focus rfl)));(conv=>whnf)))
  refine ⟨?_, rfl⟩
  rw [eg, ← or_i64 _ _ (by omega) (by omega)]
  rfl
theorem blank_spec (n : Nat) (h : Heap) : HCalls Tryd.prog 30 #[.int .i64 n] h fun e h' => e = .returned (.bool (blankN n)) ∧ h' = h := by
  refine c30 (by simp) ?_
  have fin : ∀ b : Bool, (b = true ↔ (n = 32 ∨ n = 160 ∨ n = 8232 ∨ n = 8233 ∨ n = 65279 ∨ (9 ≤ n ∧ n ≤ 13))) → b = blankN n := by
    intro b hb; rw [Bool.eq_iff_iff, hb, blankN_iff]
  ((conv=>whnf);repeat'(first|((with_reducible refine ZM ?_ ?_);(focus rfl);(conv=>whnf))|((with_reducible first|refine Z1 ?_|refine Z2 ?_|refine Z3 ?_|refine Z4 ?_|refine Z9 (by assumption) rfl ?_|refine Z5 ?_);(conv=>whnf))|((with_reducible refine HIf.mk (fun q=> ?_) (fun q=> ?_))<;>(conv=>whnf))))
  all_goals
    refine ⟨?_, rfl⟩
    refine congrArg (fun b => Ending.returned (.bool b)) (fin _ ?_)
    simp only [decide_eq_true_eq, decide_eq_false_iff_not, beq_iff_eq, beq_eq_false_iff_ne, Bool.false_eq_true, ne_eq, true_iff, false_iff] at *
    omega
theorem solid_spec (n : Nat) (h : Heap) : HCalls Tryd.prog 29 #[.int .i64 n] h fun e h' => e = .returned (.bool (!blankN n)) ∧ h' = h := by
  refine c29 (by simp) ?_
  ((conv=>whnf);repeat((first|(with_reducible first|refine Z1 ?_|refine Z2 ?_|refine Z3 ?_|refine Z4 ?_|refine Z5 ?_|refine Z9 (by assumption) rfl ?_|refine ZA (by assumption) rfl ?_|refine ZB (by assumption) rfl ?_|refine Z6 ?_|refine Z7 ?_|refine Z8 ?_)|((with_reducible refine ZM ?_ ?_);(focus rfl)));(conv=>whnf)))
  refine HCall.mk ((blank_spec n h).mono ?_)
  rintro e _ ⟨rfl, rfl⟩
  ((conv=>whnf);repeat((first|(with_reducible first|refine Z1 ?_|refine Z2 ?_|refine Z3 ?_|refine Z4 ?_|refine Z5 ?_|refine Z9 (by assumption) rfl ?_|refine ZA (by assumption) rfl ?_|refine ZB (by assumption) rfl ?_|refine Z6 ?_|refine Z7 ?_|refine Z8 ?_)|((with_reducible refine ZM ?_ ?_);(focus rfl)));(conv=>whnf)))
  exact ⟨rfl, rfl⟩
theorem ixFunc_spec {a : Option Addr} {c : Nat} {l : List Nat} {h : Heap} (x : Sl h 1 a l.length c (l.map natV)) (hn : l.length ≤ 2097152) :
    HCalls Tryd.prog 31 #[.slice a l.length c, .func (.func 29) #[] #[]] h fun e h' => h' = h ∧ ((l.dropWhile blankN = [] ∧ e = .returned (.int .i64 (-1))) ∨ (∃ i : Nat, i < l.length ∧ e = .returned (.int .i64 i) ∧ l.dropWhile blankN = l.drop i ∧ ∃ hi : i < l.length, blankN l[i] = false)) := by
  refine c31 (by simp) ?_
  ((conv=>whnf);repeat((first|(with_reducible first|refine Z1 ?_|refine Z2 ?_|refine Z3 ?_|refine Z4 ?_|refine Z5 ?_|refine Z9 (by assumption) rfl ?_|refine ZA (by assumption) rfl ?_|refine ZB (by assumption) rfl ?_|refine Z6 ?_|refine Z7 ?_|refine Z8 ?_)|((with_reducible refine ZM ?_ ?_);(focus rfl)));(conv=>whnf)))
  refine loop_rule [8] (fun vs h' => ∃ (i : Nat), vs = [.int .i64 i] ∧ i ≤ l.length ∧ l.dropWhile blankN = (l.drop i).dropWhile blankN ∧ h' = h)
    (fun vs _ => match vs with | [.int _ i] => l.length - i.toNat | _ => 0) rfl ?_ ?_
  · exact ⟨0, rfl, by omega, rfl, rfl⟩
  intro u h1 v8
  rintro ⟨i, e, hi, hz, rfl⟩
  cases e
  ((conv=>whnf);repeat((first|(with_reducible first|refine Z1 ?_|refine Z2 ?_|refine Z3 ?_|refine Z4 ?_|refine Z5 ?_|refine Z9 (by assumption) rfl ?_|refine ZA (by assumption) rfl ?_|refine ZB (by assumption) rfl ?_|refine Z6 ?_|refine Z7 ?_|refine Z8 ?_)|((with_reducible refine ZM ?_ ?_);(focus rfl)));(conv=>whnf)))
  refine HIf.mk (fun hlt => ?_) (fun hlt => ?_)
  · have hi1 : i < l.length := by have := of_decide_eq_true hlt; omega
    have hmu : l.length - ((i : Int) + 1).toNat < l.length - ((i : Int)).toNat := by omega
    have hdrop : l.drop i = l[i] :: l.drop (i + 1) := List.drop_eq_getElem_cons hi1
    ((conv=>whnf);repeat((first|(with_reducible first|refine Z1 ?_|refine Z2 ?_|refine Z3 ?_|refine Z4 ?_|refine Z5 ?_|refine Z9 (by assumption) rfl ?_|refine ZA (by assumption) rfl ?_|refine ZB (by assumption) rfl ?_|refine Z6 ?_|refine Z7 ?_|refine Z8 ?_)|((with_reducible refine ZM ?_ ?_);(focus rfl)));(conv=>whnf)))
    refine HIdx.mk i rfl hi1 ?_
    refine sl_some x hi1 fun p ep => ?_
    ((conv=>whnf);repeat((first|(with_reducible first|refine Z1 ?_|refine Z2 ?_|refine Z3 ?_|refine Z4 ?_|refine Z5 ?_|refine Z9 (by assumption) rfl ?_|refine ZA (by assumption) rfl ?_|refine ZB (by assumption) rfl ?_|refine Z6 ?_|refine Z7 ?_|refine Z8 ?_)|((with_reducible refine ZM ?_ ?_);(focus rfl)));(conv=>whnf)))
    refine x.load ep (by simpa using hi1) ?_
    rw [List.getElem_map]
    unfold natV
    ((conv=>whnf);repeat((first|(with_reducible first|refine Z1 ?_|refine Z2 ?_|refine Z3 ?_|refine Z4 ?_|refine Z5 ?_|refine Z9 (by assumption) rfl ?_|refine ZA (by assumption) rfl ?_|refine ZB (by assumption) rfl ?_|refine Z6 ?_|refine Z7 ?_|refine Z8 ?_)|((with_reducible refine ZM ?_ ?_);(focus rfl)));(conv=>whnf)))
    refine HCall.mk ((solid_spec l[i] _).mono ?_)
    rintro e _ ⟨rfl, rfl⟩
    cases hb : blankN l[i]
    · ((conv=>whnf);repeat((first|(with_reducible first|refine Z1 ?_|refine Z2 ?_|refine Z3 ?_|refine Z4 ?_|refine Z5 ?_|refine Z9 (by assumption) rfl ?_|refine ZA (by assumption) rfl ?_|refine ZB (by assumption) rfl ?_|refine Z6 ?_|refine Z7 ?_|refine Z8 ?_)|((with_reducible refine ZM ?_ ?_);(focus rfl)));(conv=>whnf)))
      refine ⟨rfl, .inr ⟨i, hi1, rfl, ?_, hi1, hb⟩⟩
      rw [hz, hdrop, List.dropWhile_cons, hb]; simp
    · ((conv=>whnf);repeat((first|(with_reducible first|refine Z1 ?_|refine Z2 ?_|refine Z3 ?_|refine Z4 ?_|refine Z5 ?_|refine Z9 (by assumption) rfl ?_|refine ZA (by assumption) rfl ?_|refine ZB (by assumption) rfl ?_|refine Z6 ?_|refine Z7 ?_|refine Z8 ?_)|((with_reducible refine ZM ?_ ?_);(focus rfl)));(conv=>whnf)))
      refine ⟨⟨i + 1, rfl, by omega, ?_, rfl⟩, hmu⟩
      rw [hz, hdrop, List.dropWhile_cons, hb]; simp
  · have hge := of_decide_eq_false hlt
    obtain rfl : i = l.length := by omega
    rw [List.drop_length] at hz
    ((conv=>whnf);repeat((first|(with_reducible first|refine Z1 ?_|refine Z2 ?_|refine Z3 ?_|refine Z4 ?_|refine Z5 ?_|refine Z9 (by assumption) rfl ?_|refine ZA (by assumption) rfl ?_|refine ZB (by assumption) rfl ?_|refine Z6 ?_|refine Z7 ?_|refine Z8 ?_)|((with_reducible refine ZM ?_ ?_);(focus rfl)));(conv=>whnf)))
    exact ⟨rfl, .inl ⟨hz, rfl⟩⟩

end Go.Proofs.YtnanabjbdnbccaaDoor.Hc
