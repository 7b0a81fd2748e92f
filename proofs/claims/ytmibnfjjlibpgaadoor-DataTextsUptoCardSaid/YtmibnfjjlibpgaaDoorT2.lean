/- Texts quoted and digits, by the references. -/
import Derived.Test.YtmibnfjjlibpgaaDoorT1
import Derived.Test.YtmibnfjjlibpgaaDoorA0
set_option linter.unusedVariables false
set_option linter.unusedSimpArgs false
namespace Go.Proofs.YtmibnfjjlibpgaaDoor.Hc
open Go Go.H Go.Proofs
set_option maxRecDepth 100000
set_option maxHeartbeats 4000000

theorem app_ba (a b : List UInt8) : (⟨a.toArray⟩ : ByteArray) ++ (⟨b.toArray⟩ : ByteArray) = ⟨(a ++ b).toArray⟩ := by
  apply ByteArray.ext
  rw [ByteArray.data_append]
  show a.toArray ++ b.toArray = (a ++ b).toArray
  simp
theorem ba_size (a : List UInt8) : (⟨a.toArray⟩ : ByteArray).size = a.length := rfl
def natV (n : Nat) : Value := .int .i64 n
theorem natV_one {l : List Nat} : ∀ v ∈ l.map natV, isOne v = true := by simp [natV, isOne]

theorem rlist_spec (l : List UInt8) (hl : l.length ≤ 2097152) (h : Heap) : HCalls Tryd.prog 51 #[.string ⟨l.toArray⟩] h fun e h' =>
    ∃ (a : Option Addr) (c : Nat), e = .returned (.slice a (ulist l).length c) ∧ Sl h' 1 a (ulist l).length c ((ulist l).map natV) ∧ Ext h h' := by
  have hs : (⟨l.toArray⟩ : ByteArray).size = l.length := rfl
  have hll := ulist_len l
  refine c51 (by simp) ?_
  ((conv=>whnf);repeat((first|(with_reducible first|refine Z1 ?_|refine Z2 ?_|refine Z3 ?_|refine Z4 ?_|refine Z5 ?_|refine Z9 (by assumption) rfl ?_|refine ZA (by assumption) rfl ?_|refine ZB (by assumption) rfl ?_|refine Z6 ?_|refine Z7 ?_|refine Z8 ?_)|((with_reducible refine ZM ?_ ?_);(focus rfl)));(conv=>whnf)))
  refine loop_rule [3, 4] (fun vs h' => ∃ (i : Nat) (a' : Option Addr) (c' : Nat), vs = [.slice a' i c', .int .i64 (2 * i : Nat)] ∧ i ≤ (ulist l).length ∧ Own h' h.size 3 1 a' i c' (((ulist l).take i).map natV) ∧ Ext h h')
    (fun vs _ => match vs with | [_, .int _ i] => l.length - i.toNat | _ => 0) rfl ?_ ?_
  · exact ⟨0, none, 0, rfl, by omega, Own.nil _ _ _ _, Ext.refl _⟩
  intro u h2 v3 v4
  rintro ⟨i, a', c', e, hi, w2, x2⟩
  cases e
  ((conv=>whnf);repeat((first|(with_reducible first|refine Z1 ?_|refine Z2 ?_|refine Z3 ?_|refine Z4 ?_|refine Z5 ?_|refine Z9 (by assumption) rfl ?_|refine ZA (by assumption) rfl ?_|refine ZB (by assumption) rfl ?_|refine Z6 ?_|refine Z7 ?_|refine Z8 ?_)|((with_reducible refine ZM ?_ ?_);(focus rfl)));(conv=>whnf)))
  refine HIf.mk (fun hlt => ?_) (fun hlt => ?_)
  · have hlt1 := of_decide_eq_true hlt
    rw [hs] at hlt1
    have hi1 : i < (ulist l).length := by omega
    have h1 : 2 * i + 1 < l.length := by omega
    have h0 : 2 * i < l.length := by omega
    have hmu : l.length - (((2 * i : Nat) : Int) + 2).toNat < l.length - ((2 * i : Nat) : Int).toNat := by omega
    have eg := ulist_get l i hi1 h1
    have y0 := idx_txt l h0
    have y1 := idx_txt l h1
    have b0 := (l[2 * i]).toNat_lt
    have b1 := (l[2 * i + 1]).toNat_lt
    have hx2 := x2.1
    ((conv=>whnf);repeat((first|(with_reducible first|refine Z1 ?_|refine Z2 ?_|refine Z3 ?_|refine Z4 ?_|refine Z5 ?_|refine Z9 (by assumption) rfl ?_|refine ZA (by assumption) rfl ?_|refine ZB (by assumption) rfl ?_|refine Z6 ?_|refine Z7 ?_|refine Z8 ?_)|((with_reducible refine ZM ?_ ?_);(focus rfl)));(conv=>whnf)))
    refine HIdx.mk (2 * i) rfl h0 ?_
    rw [y0]
    ((conv=>whnf);repeat((first|(with_reducible first|refine Z1 ?_|refine Z2 ?_|refine Z3 ?_|refine Z4 ?_|refine Z5 ?_|refine Z9 (by assumption) rfl ?_|refine ZA (by assumption) rfl ?_|refine ZB (by assumption) rfl ?_|refine Z6 ?_|refine Z7 ?_|refine Z8 ?_)|((with_reducible refine ZM ?_ ?_);(focus rfl)));(conv=>whnf)))
    refine HIdx.mk (2 * i + 1) (by omega) h1 ?_
    rw [y1]
    ((conv=>whnf);repeat((first|(with_reducible first|refine Z1 ?_|refine Z2 ?_|refine Z3 ?_|refine Z4 ?_|refine Z5 ?_|refine Z9 (by assumption) rfl ?_|refine ZA (by assumption) rfl ?_|refine ZB (by assumption) rfl ?_|refine Z6 ?_|refine Z7 ?_|refine Z8 ?_)|((with_reducible refine ZM ?_ ?_);(focus rfl)));(conv=>whnf)))
    refine new_own (e := 3) 1 1 [natV (ulist l)[i]] (by rw [eg]; rfl) rfl ?_
    intro h3 b3 w3 x3 z3 hb3
    ((conv=>whnf);repeat((first|(with_reducible first|refine Z1 ?_|refine Z2 ?_|refine Z3 ?_|refine Z4 ?_|refine Z5 ?_|refine Z9 (by assumption) rfl ?_|refine ZA (by assumption) rfl ?_|refine ZB (by assumption) rfl ?_|refine Z6 ?_|refine Z7 ?_|refine Z8 ?_)|((with_reducible refine ZM ?_ ?_);(focus rfl)));(conv=>whnf)))
    refine w3.sl.cells ?_
    refine Own.grow (w2.ext x3) (by have := x3.1; omega) rfl rfl (by intro v hv; simp only [List.mem_singleton] at hv; subst hv; rfl) (by omega) ?_
    intro h4 a4 c4 w4 g4
    have htk : (ulist l).take (i + 1) = (ulist l).take i ++ [(ulist l)[i]] := by rw [List.take_add_one, List.getElem?_eq_getElem hi1]; rfl
    have ew : ((ulist l).take i).map natV ++ [natV (ulist l)[i]] = ((ulist l).take (i + 1)).map natV := by rw [htk, List.map_append]; rfl
    rw [ew] at w4
    ((conv=>whnf);repeat((first|(with_reducible first|refine Z1 ?_|refine Z2 ?_|refine Z3 ?_|refine Z4 ?_|refine Z5 ?_|refine Z9 (by assumption) rfl ?_|refine ZA (by assumption) rfl ?_|refine ZB (by assumption) rfl ?_|refine Z6 ?_|refine Z7 ?_|refine Z8 ?_)|((with_reducible refine ZM ?_ ?_);(focus rfl)));(conv=>whnf)))
    exact ⟨⟨i + 1, a4, c4, rfl, by omega, w4, (x2.trans x3).keep (g4.kept (by have := x3.1; omega) fun p ep => (w2.lt p ep).1)⟩, hmu⟩
  · have hge := of_decide_eq_false hlt
    rw [hs] at hge
    obtain rfl : i = (ulist l).length := by omega
    rw [List.take_length] at w2
    ((conv=>whnf);repeat((first|(with_reducible first|refine Z1 ?_|refine Z2 ?_|refine Z3 ?_|refine Z4 ?_|refine Z5 ?_|refine Z9 (by assumption) rfl ?_|refine ZA (by assumption) rfl ?_|refine ZB (by assumption) rfl ?_|refine Z6 ?_|refine Z7 ?_|refine Z8 ?_)|((with_reducible refine ZM ?_ ?_);(focus rfl)));(conv=>whnf)))
    exact ⟨_, _, rfl, w2.sl, x2⟩
theorem rhex_spec (k : Nat) (hk : k < 16) (h : Heap) : HCalls Tryd.prog 61 #[.int .i64 k] h fun e h' => e = .returned (byteV (hexd k)) ∧ h' = h := by
  refine c61 (by simp) ?_
  unfold hexd
  by_cases h10 : k < 10
  · have q : decide ((k : Int) < 10) = true := decide_eq_true (by omega)
    rw [if_pos h10, byteV_ofNat, Nat.mod_eq_of_lt (by omega)]
    ((conv=>whnf);repeat((first|(with_reducible first|refine Z1 ?_|refine Z2 ?_|refine Z3 ?_|refine Z4 ?_|refine Z5 ?_|refine Z9 (by assumption) rfl ?_|refine ZA (by assumption) rfl ?_|refine ZB (by assumption) rfl ?_|refine Z6 ?_|refine Z7 ?_|refine Z8 ?_)|((with_reducible refine ZM ?_ ?_);(focus rfl)));(conv=>whnf)))
    exact ⟨rfl, rfl⟩
  · have q : decide ((k : Int) < 10) = false := decide_eq_false (by omega)
    rw [if_neg h10, byteV_ofNat, Nat.mod_eq_of_lt (by omega)]
    ((conv=>whnf);repeat((first|(with_reducible first|refine Z1 ?_|refine Z2 ?_|refine Z3 ?_|refine Z4 ?_|refine Z5 ?_|refine Z9 (by assumption) rfl ?_|refine ZA (by assumption) rfl ?_|refine ZB (by assumption) rfl ?_|refine Z6 ?_|refine Z7 ?_|refine Z8 ?_)|((with_reducible refine ZM ?_ ?_);(focus rfl)));(conv=>whnf)))
    exact ⟨congrArg (fun z => Ending.returned (.int .u8 z)) (by omega : (97 : Int) + (k : Int) - 10 = ((87 + k : Nat) : Int)), rfl⟩
theorem rquoted_spec (n : Nat) (hn : n < 65536) (h : Heap) : HCalls Tryd.prog 52 #[.int .i64 n] h fun e h' => e = .returned (.string ⟨(quoted1 n).toArray⟩) ∧ Ext h h' := by
  refine c52 (by simp) ?_
  by_cases hA : n = 34 ∨ n = 92 ∨ n = 8 ∨ n = 9 ∨ n = 10 ∨ n = 12 ∨ n = 13
  · rcases hA with rfl | rfl | rfl | rfl | rfl | rfl | rfl
    all_goals
      ((conv=>whnf);repeat((first|(with_reducible first|refine Z1 ?_|refine Z2 ?_|refine Z3 ?_|refine Z4 ?_|refine Z5 ?_|refine Z9 (by assumption) rfl ?_|refine ZA (by assumption) rfl ?_|refine ZB (by assumption) rfl ?_|refine Z6 ?_|refine Z7 ?_|refine Z8 ?_)|((with_reducible refine ZM ?_ ?_);(focus rfl)));(conv=>whnf)))
      exact ⟨rfl, Ext.refl _⟩
  have q34 : ((n : Int) == 34) = false := beq_eq_false_iff_ne.2 (by omega)
  have q92 : ((n : Int) == 92) = false := beq_eq_false_iff_ne.2 (by omega)
  have q8 : ((n : Int) == 8) = false := beq_eq_false_iff_ne.2 (by omega)
  have q9 : ((n : Int) == 9) = false := beq_eq_false_iff_ne.2 (by omega)
  have q10 : ((n : Int) == 10) = false := beq_eq_false_iff_ne.2 (by omega)
  have q12 : ((n : Int) == 12) = false := beq_eq_false_iff_ne.2 (by omega)
  have q13 : ((n : Int) == 13) = false := beq_eq_false_iff_ne.2 (by omega)
  have eC : quoted1 n = if n < 32 ∨ 126 < n then 92 :: 117 :: hexT n 4 else [UInt8.ofNat n] := by
    unfold quoted1
    rw [if_neg (by omega), if_neg (by omega), if_neg (by omega), if_neg (by omega), if_neg (by omega), if_neg (by omega)]
  by_cases hC : n < 32 ∨ 126 < n
  · rw [if_pos hC] at eC
    have eH : hexT n 4 = [hexd (n / 4096), hexd (n / 256 % 16), hexd (n / 16 % 16), hexd (n % 16)] := by
      simp only [hexT]
      have h1 : n / 16 ^ 3 % 16 = n / 4096 := by omega
      have h2 : n / 16 ^ 2 % 16 = n / 256 % 16 := by omega
      have h3 : n / 16 ^ 1 % 16 = n / 16 % 16 := by omega
      have h4 : n / 16 ^ 0 % 16 = n % 16 := by omega
      rw [h1, h2, h3, h4]
    rw [eC, eH]
    have d1 : (n : Int).tdiv 4096 = ((n / 4096 : Nat) : Int) := (Int.ofNat_tdiv n 4096).symm
    have d2 : (n : Int).tdiv 256 = ((n / 256 : Nat) : Int) := (Int.ofNat_tdiv n 256).symm
    have d3 : (n : Int).tdiv 16 = ((n / 16 : Nat) : Int) := (Int.ofNat_tdiv n 16).symm
    have m2 : ((n / 256 : Nat) : Int).tmod 16 = ((n / 256 % 16 : Nat) : Int) := (Int.ofNat_tmod (n / 256) 16).symm
    have m3 : ((n / 16 : Nat) : Int).tmod 16 = ((n / 16 % 16 : Nat) : Int) := (Int.ofNat_tmod (n / 16) 16).symm
    have m4 : (n : Int).tmod 16 = ((n % 16 : Nat) : Int) := (Int.ofNat_tmod n 16).symm
    by_cases h32 : n < 32
    · have q53 : decide ((n : Int) < 32) = true := decide_eq_true (by omega)
      ((conv=>whnf);repeat((first|(with_reducible first|refine Z1 ?_|refine Z2 ?_|refine Z3 ?_|refine Z4 ?_|refine Z5 ?_|refine Z9 (by assumption) rfl ?_|refine ZA (by assumption) rfl ?_|refine ZB (by assumption) rfl ?_|refine Z6 ?_|refine Z7 ?_|refine Z8 ?_)|((with_reducible refine ZM ?_ ?_);(focus rfl)));(conv=>whnf)))
      refine HCall.to #[.int .i64 (n / 4096 : Nat)] (by rw [← d1]; rfl) ((rhex_spec (n / 4096) (by omega) h).mono ?_)
      rintro e h ⟨rfl, rfl⟩
      ((conv=>whnf);repeat((first|(with_reducible first|refine Z1 ?_|refine Z2 ?_|refine Z3 ?_|refine Z4 ?_|refine Z5 ?_|refine Z9 (by assumption) rfl ?_|refine ZA (by assumption) rfl ?_|refine ZB (by assumption) rfl ?_|refine Z6 ?_|refine Z7 ?_|refine Z8 ?_)|((with_reducible refine ZM ?_ ?_);(focus rfl)));(conv=>whnf)))
      refine HCall.to #[.int .i64 (n / 256 % 16 : Nat)] (by rw [← m2, ← d2]; rfl) ((rhex_spec (n / 256 % 16) (by omega) h).mono ?_)
      rintro e h ⟨rfl, rfl⟩
      ((conv=>whnf);repeat((first|(with_reducible first|refine Z1 ?_|refine Z2 ?_|refine Z3 ?_|refine Z4 ?_|refine Z5 ?_|refine Z9 (by assumption) rfl ?_|refine ZA (by assumption) rfl ?_|refine ZB (by assumption) rfl ?_|refine Z6 ?_|refine Z7 ?_|refine Z8 ?_)|((with_reducible refine ZM ?_ ?_);(focus rfl)));(conv=>whnf)))
      refine HCall.to #[.int .i64 (n / 16 % 16 : Nat)] (by rw [← m3, ← d3]; rfl) ((rhex_spec (n / 16 % 16) (by omega) h).mono ?_)
      rintro e h ⟨rfl, rfl⟩
      ((conv=>whnf);repeat((first|(with_reducible first|refine Z1 ?_|refine Z2 ?_|refine Z3 ?_|refine Z4 ?_|refine Z5 ?_|refine Z9 (by assumption) rfl ?_|refine ZA (by assumption) rfl ?_|refine ZB (by assumption) rfl ?_|refine Z6 ?_|refine Z7 ?_|refine Z8 ?_)|((with_reducible refine ZM ?_ ?_);(focus rfl)));(conv=>whnf)))
      refine HCall.to #[.int .i64 (n % 16 : Nat)] (by rw [← m4]; rfl) ((rhex_spec (n % 16) (by omega) h).mono ?_)
      rintro e h ⟨rfl, rfl⟩
      ((conv=>whnf);repeat((first|(with_reducible first|refine Z1 ?_|refine Z2 ?_|refine Z3 ?_|refine Z4 ?_|refine Z5 ?_|refine Z9 (by assumption) rfl ?_|refine ZA (by assumption) rfl ?_|refine ZB (by assumption) rfl ?_|refine Z6 ?_|refine Z7 ?_|refine Z8 ?_)|((with_reducible refine ZM ?_ ?_);(focus rfl)));(conv=>whnf)))
      refine new_own (e := 5) 1 6 ([92, 117, hexd (n / 4096), hexd (n / 256 % 16), hexd (n / 16 % 16), hexd (n % 16)].map byteV) rfl rfl ?_
      intro h3 b3 w3 x3 z3 hb3
      have s3 := w3.sl
      ((conv=>whnf);repeat((first|(with_reducible first|refine Z1 ?_|refine Z2 ?_|refine Z3 ?_|refine Z4 ?_|refine Z5 ?_|refine Z9 (by assumption) rfl ?_|refine ZA (by assumption) rfl ?_|refine ZB (by assumption) rfl ?_|refine Z6 ?_|refine Z7 ?_|refine Z8 ?_)|((with_reducible refine ZM ?_ ?_);(focus rfl)));(conv=>whnf)))
      refine s3.bytes ?_
      ((conv=>whnf);repeat((first|(with_reducible first|refine Z1 ?_|refine Z2 ?_|refine Z3 ?_|refine Z4 ?_|refine Z5 ?_|refine Z9 (by assumption) rfl ?_|refine ZA (by assumption) rfl ?_|refine ZB (by assumption) rfl ?_|refine Z6 ?_|refine Z7 ?_|refine Z8 ?_)|((with_reducible refine ZM ?_ ?_);(focus rfl)));(conv=>whnf)))
      exact ⟨rfl, x3⟩
    · have q53 : decide ((n : Int) < 32) = false := decide_eq_false (by omega)
      have q56 : decide ((n : Int) > 126) = true := decide_eq_true (by omega)
      ((conv=>whnf);repeat((first|(with_reducible first|refine Z1 ?_|refine Z2 ?_|refine Z3 ?_|refine Z4 ?_|refine Z5 ?_|refine Z9 (by assumption) rfl ?_|refine ZA (by assumption) rfl ?_|refine ZB (by assumption) rfl ?_|refine Z6 ?_|refine Z7 ?_|refine Z8 ?_)|((with_reducible refine ZM ?_ ?_);(focus rfl)));(conv=>whnf)))
      refine HCall.to #[.int .i64 (n / 4096 : Nat)] (by rw [← d1]; rfl) ((rhex_spec (n / 4096) (by omega) h).mono ?_)
      rintro e h ⟨rfl, rfl⟩
      ((conv=>whnf);repeat((first|(with_reducible first|refine Z1 ?_|refine Z2 ?_|refine Z3 ?_|refine Z4 ?_|refine Z5 ?_|refine Z9 (by assumption) rfl ?_|refine ZA (by assumption) rfl ?_|refine ZB (by assumption) rfl ?_|refine Z6 ?_|refine Z7 ?_|refine Z8 ?_)|((with_reducible refine ZM ?_ ?_);(focus rfl)));(conv=>whnf)))
      refine HCall.to #[.int .i64 (n / 256 % 16 : Nat)] (by rw [← m2, ← d2]; rfl) ((rhex_spec (n / 256 % 16) (by omega) h).mono ?_)
      rintro e h ⟨rfl, rfl⟩
      ((conv=>whnf);repeat((first|(with_reducible first|refine Z1 ?_|refine Z2 ?_|refine Z3 ?_|refine Z4 ?_|refine Z5 ?_|refine Z9 (by assumption) rfl ?_|refine ZA (by assumption) rfl ?_|refine ZB (by assumption) rfl ?_|refine Z6 ?_|refine Z7 ?_|refine Z8 ?_)|((with_reducible refine ZM ?_ ?_);(focus rfl)));(conv=>whnf)))
      refine HCall.to #[.int .i64 (n / 16 % 16 : Nat)] (by rw [← m3, ← d3]; rfl) ((rhex_spec (n / 16 % 16) (by omega) h).mono ?_)
      rintro e h ⟨rfl, rfl⟩
      ((conv=>whnf);repeat((first|(with_reducible first|refine Z1 ?_|refine Z2 ?_|refine Z3 ?_|refine Z4 ?_|refine Z5 ?_|refine Z9 (by assumption) rfl ?_|refine ZA (by assumption) rfl ?_|refine ZB (by assumption) rfl ?_|refine Z6 ?_|refine Z7 ?_|refine Z8 ?_)|((with_reducible refine ZM ?_ ?_);(focus rfl)));(conv=>whnf)))
      refine HCall.to #[.int .i64 (n % 16 : Nat)] (by rw [← m4]; rfl) ((rhex_spec (n % 16) (by omega) h).mono ?_)
      rintro e h ⟨rfl, rfl⟩
      ((conv=>whnf);repeat((first|(with_reducible first|refine Z1 ?_|refine Z2 ?_|refine Z3 ?_|refine Z4 ?_|refine Z5 ?_|refine Z9 (by assumption) rfl ?_|refine ZA (by assumption) rfl ?_|refine ZB (by assumption) rfl ?_|refine Z6 ?_|refine Z7 ?_|refine Z8 ?_)|((with_reducible refine ZM ?_ ?_);(focus rfl)));(conv=>whnf)))
      refine new_own (e := 5) 1 6 ([92, 117, hexd (n / 4096), hexd (n / 256 % 16), hexd (n / 16 % 16), hexd (n % 16)].map byteV) rfl rfl ?_
      intro h3 b3 w3 x3 z3 hb3
      have s3 := w3.sl
      ((conv=>whnf);repeat((first|(with_reducible first|refine Z1 ?_|refine Z2 ?_|refine Z3 ?_|refine Z4 ?_|refine Z5 ?_|refine Z9 (by assumption) rfl ?_|refine ZA (by assumption) rfl ?_|refine ZB (by assumption) rfl ?_|refine Z6 ?_|refine Z7 ?_|refine Z8 ?_)|((with_reducible refine ZM ?_ ?_);(focus rfl)));(conv=>whnf)))
      refine s3.bytes ?_
      ((conv=>whnf);repeat((first|(with_reducible first|refine Z1 ?_|refine Z2 ?_|refine Z3 ?_|refine Z4 ?_|refine Z5 ?_|refine Z9 (by assumption) rfl ?_|refine ZA (by assumption) rfl ?_|refine ZB (by assumption) rfl ?_|refine Z6 ?_|refine Z7 ?_|refine Z8 ?_)|((with_reducible refine ZM ?_ ?_);(focus rfl)));(conv=>whnf)))
      exact ⟨rfl, x3⟩
  · rw [if_neg hC] at eC
    have q53 : decide ((n : Int) < 32) = false := decide_eq_false (by omega)
    have q56 : decide ((n : Int) > 126) = false := decide_eq_false (by omega)
    rw [eC]
    ((conv=>whnf);repeat((first|(with_reducible first|refine Z1 ?_|refine Z2 ?_|refine Z3 ?_|refine Z4 ?_|refine Z5 ?_|refine Z9 (by assumption) rfl ?_|refine ZA (by assumption) rfl ?_|refine ZB (by assumption) rfl ?_|refine Z6 ?_|refine Z7 ?_|refine Z8 ?_)|((with_reducible refine ZM ?_ ?_);(focus rfl)));(conv=>whnf)))
    refine new_own (e := 5) 1 1 [byteV (UInt8.ofNat n)] (by rw [byteV_ofNat, Nat.mod_eq_of_lt (by omega)]) rfl ?_
    intro h3 b3 w3 x3 z3 hb3
    have s3 : Sl h3 1 (some ⟨b3, 0, none⟩) 1 1 ([UInt8.ofNat n].map byteV) := w3.sl
    ((conv=>whnf);repeat((first|(with_reducible first|refine Z1 ?_|refine Z2 ?_|refine Z3 ?_|refine Z4 ?_|refine Z5 ?_|refine Z9 (by assumption) rfl ?_|refine ZA (by assumption) rfl ?_|refine ZB (by assumption) rfl ?_|refine Z6 ?_|refine Z7 ?_|refine Z8 ?_)|((with_reducible refine ZM ?_ ?_);(focus rfl)));(conv=>whnf)))
    refine s3.bytes ?_
    ((conv=>whnf);repeat((first|(with_reducible first|refine Z1 ?_|refine Z2 ?_|refine Z3 ?_|refine Z4 ?_|refine Z5 ?_|refine Z9 (by assumption) rfl ?_|refine ZA (by assumption) rfl ?_|refine ZB (by assumption) rfl ?_|refine Z6 ?_|refine Z7 ?_|refine Z8 ?_)|((with_reducible refine ZM ?_ ?_);(focus rfl)));(conv=>whnf)))
    exact ⟨rfl, x3⟩
theorem rquote_spec (l : List UInt8) (hl : l.length ≤ 2097152) (hev : l.length % 2 = 0) (h : Heap) : HCalls Tryd.prog 44 #[.string ⟨l.toArray⟩] h fun e h' =>
    e = .returned (.tuple #[.string ⟨(quoteL l).toArray⟩, .int .i64 0]) ∧ Ext h h' := by
  have hll := ulist_len l
  refine c44 (by simp) ?_
  ((conv=>whnf);repeat((first|(with_reducible first|refine Z1 ?_|refine Z2 ?_|refine Z3 ?_|refine Z4 ?_|refine Z5 ?_|refine Z9 (by assumption) rfl ?_|refine ZA (by assumption) rfl ?_|refine ZB (by assumption) rfl ?_|refine Z6 ?_|refine Z7 ?_|refine Z8 ?_)|((with_reducible refine ZM ?_ ?_);(focus rfl)));(conv=>whnf)))
  refine HCall.mk ((rcheck_spec ⟨l.toArray⟩ h (by show l.length ≤ _; omega)).mono ?_)
  rintro e h ⟨rfl, rfl⟩
  have qe : decide ((⟨l.toArray⟩ : ByteArray).size % 2 = 0) = true := decide_eq_true hev
  rw [qe]
  ((conv=>whnf);repeat((first|(with_reducible first|refine Z1 ?_|refine Z2 ?_|refine Z3 ?_|refine Z4 ?_|refine Z5 ?_|refine Z9 (by assumption) rfl ?_|refine ZA (by assumption) rfl ?_|refine ZB (by assumption) rfl ?_|refine Z6 ?_|refine Z7 ?_|refine Z8 ?_)|((with_reducible refine ZM ?_ ?_);(focus rfl)));(conv=>whnf)))
  refine HCall.mk ((rlist_spec l hl h).mono ?_)
  rintro e h2 ⟨a, c, rfl, s2, x2⟩
  ((conv=>whnf);repeat((first|(with_reducible first|refine Z1 ?_|refine Z2 ?_|refine Z3 ?_|refine Z4 ?_|refine Z5 ?_|refine Z9 (by assumption) rfl ?_|refine ZA (by assumption) rfl ?_|refine ZB (by assumption) rfl ?_|refine Z6 ?_|refine Z7 ?_|refine Z8 ?_)|((with_reducible refine ZM ?_ ?_);(focus rfl)));(conv=>whnf)))
  refine loop_rule [4, 13] (fun vs h' => ∃ (i : Nat), vs = [.string ⟨(34 :: ((ulist l).take i).flatMap quoted1).toArray⟩, .int .i64 i] ∧ i ≤ (ulist l).length ∧ Ext h2 h')
    (fun vs _ => match vs with | [_, .int _ i] => (ulist l).length - i.toNat | _ => 0) rfl ?_ ?_
  · exact ⟨0, rfl, by omega, Ext.refl _⟩
  intro u h3 v4 v13
  rintro ⟨i, e, hi, x3⟩
  cases e
  have hbl : (34 :: ((ulist l).take i).flatMap quoted1).length ≤ 1 + 6 * 2097152 := by
    have := flat_q_len ((ulist l).take i)
    rw [List.length_take] at this
    rw [List.length_cons]; omega
  ((conv=>whnf);repeat((first|(with_reducible first|refine Z1 ?_|refine Z2 ?_|refine Z3 ?_|refine Z4 ?_|refine Z5 ?_|refine Z9 (by assumption) rfl ?_|refine ZA (by assumption) rfl ?_|refine ZB (by assumption) rfl ?_|refine Z6 ?_|refine Z7 ?_|refine Z8 ?_)|((with_reducible refine ZM ?_ ?_);(focus rfl)));(conv=>whnf)))
  refine HIf.mk (fun hlt => ?_) (fun hlt => ?_)
  · have hi1 : i < (ulist l).length := by have := of_decide_eq_true hlt; omega
    have hmu : (ulist l).length - ((i : Int) + 1).toNat < (ulist l).length - ((i : Int)).toNat := by omega
    have h16 := ulist_elt l hi1
    have hq := quoted1_len (ulist l)[i]
    have htk : 34 :: ((ulist l).take (i + 1)).flatMap quoted1 = 34 :: ((ulist l).take i).flatMap quoted1 ++ quoted1 (ulist l)[i] := by
      have htk0 : (ulist l).take (i + 1) = (ulist l).take i ++ [(ulist l)[i]] := by rw [List.take_add_one, List.getElem?_eq_getElem hi1]; rfl
      rw [htk0, List.flatMap_append]
      simp only [List.flatMap_cons, List.flatMap_nil, List.append_nil, List.cons_append]
    ((conv=>whnf);repeat((first|(with_reducible first|refine Z1 ?_|refine Z2 ?_|refine Z3 ?_|refine Z4 ?_|refine Z5 ?_|refine Z9 (by assumption) rfl ?_|refine ZA (by assumption) rfl ?_|refine ZB (by assumption) rfl ?_|refine Z6 ?_|refine Z7 ?_|refine Z8 ?_)|((with_reducible refine ZM ?_ ?_);(focus rfl)));(conv=>whnf)))
    refine HIdx.mk i rfl hi1 ?_
    refine sl_some s2 hi1 fun p ep => ?_
    ((conv=>whnf);repeat((first|(with_reducible first|refine Z1 ?_|refine Z2 ?_|refine Z3 ?_|refine Z4 ?_|refine Z5 ?_|refine Z9 (by assumption) rfl ?_|refine ZA (by assumption) rfl ?_|refine ZB (by assumption) rfl ?_|refine Z6 ?_|refine Z7 ?_|refine Z8 ?_)|((with_reducible refine ZM ?_ ?_);(focus rfl)));(conv=>whnf)))
    refine (s2.ext x3).load ep (by simpa using hi1) ?_
    rw [List.getElem_map]
    unfold natV
    ((conv=>whnf);repeat((first|(with_reducible first|refine Z1 ?_|refine Z2 ?_|refine Z3 ?_|refine Z4 ?_|refine Z5 ?_|refine Z9 (by assumption) rfl ?_|refine ZA (by assumption) rfl ?_|refine ZB (by assumption) rfl ?_|refine Z6 ?_|refine Z7 ?_|refine Z8 ?_)|((with_reducible refine ZM ?_ ?_);(focus rfl)));(conv=>whnf)))
    refine HCall.mk ((rquoted_spec (ulist l)[i] h16 h3).mono ?_)
    rintro e h4 ⟨rfl, x4⟩
    ((conv=>whnf);repeat((first|(with_reducible first|refine Z1 ?_|refine Z2 ?_|refine Z3 ?_|refine Z4 ?_|refine Z5 ?_|refine Z9 (by assumption) rfl ?_|refine ZA (by assumption) rfl ?_|refine ZB (by assumption) rfl ?_|refine Z6 ?_|refine Z7 ?_|refine Z8 ?_)|((with_reducible refine ZM ?_ ?_);(focus rfl)));(conv=>whnf)))
    refine HMust.mk (by rw [ba_size, ba_size]; omega) ?_
    ((conv=>whnf);repeat((first|(with_reducible first|refine Z1 ?_|refine Z2 ?_|refine Z3 ?_|refine Z4 ?_|refine Z5 ?_|refine Z9 (by assumption) rfl ?_|refine ZA (by assumption) rfl ?_|refine ZB (by assumption) rfl ?_|refine Z6 ?_|refine Z7 ?_|refine Z8 ?_)|((with_reducible refine ZM ?_ ?_);(focus rfl)));(conv=>whnf)))
    refine ⟨⟨i + 1, ?_, by omega, x3.trans x4⟩, hmu⟩
    rw [htk, ← app_ba]; rfl
  · have hge := of_decide_eq_false hlt
    obtain rfl : i = (ulist l).length := by omega
    rw [List.take_length] at hbl ⊢
    ((conv=>whnf);repeat((first|(with_reducible first|refine Z1 ?_|refine Z2 ?_|refine Z3 ?_|refine Z4 ?_|refine Z5 ?_|refine Z9 (by assumption) rfl ?_|refine ZA (by assumption) rfl ?_|refine ZB (by assumption) rfl ?_|refine Z6 ?_|refine Z7 ?_|refine Z8 ?_)|((with_reducible refine ZM ?_ ?_);(focus rfl)));(conv=>whnf)))
    refine HMust.mk (by rw [ba_size]; show _ + 1 ≤ _; omega) ?_
    ((conv=>whnf);repeat((first|(with_reducible first|refine Z1 ?_|refine Z2 ?_|refine Z3 ?_|refine Z4 ?_|refine Z5 ?_|refine Z9 (by assumption) rfl ?_|refine ZA (by assumption) rfl ?_|refine ZB (by assumption) rfl ?_|refine Z6 ?_|refine Z7 ?_|refine Z8 ?_)|((with_reducible refine ZM ?_ ?_);(focus rfl)));(conv=>whnf)))
    refine ⟨?_, x2.trans x3⟩
    unfold quoteL
    have := app_ba (34 :: (ulist l).flatMap quoted1) [34]
    rw [List.cons_append] at this
    rw [← this]; rfl

theorem rdig0_spec (n : Nat) : ∀ (h : Heap), n < 2 ^ 63 → HCalls Tryd.prog 43 #[.int .i64 n] h fun e h' => e = .returned (.string ⟨(Lib.decDigits n).toArray⟩) ∧ Ext h h' := by
  induction n using Nat.strongRecOn with
  | ind n ih =>
  intro h hn
  have e1 : ((n : Nat) : Int).tmod 10 = ((n % 10 : Nat) : Int) := (Int.ofNat_tmod n 10).symm
  have e2 : ((n : Nat) : Int).tdiv 10 = ((n / 10 : Nat) : Int) := (Int.ofNat_tdiv n 10).symm
  have q0 : decide ((n : Int) < 0) = false := decide_eq_false (by omega)
  refine c43 (by simp) ?_
  ((conv=>whnf);repeat((first|(with_reducible first|refine Z1 ?_|refine Z2 ?_|refine Z3 ?_|refine Z4 ?_|refine Z5 ?_|refine Z9 (by assumption) rfl ?_|refine ZA (by assumption) rfl ?_|refine ZB (by assumption) rfl ?_|refine Z6 ?_|refine Z7 ?_|refine Z8 ?_)|((with_reducible refine ZM ?_ ?_);(focus rfl)));(conv=>whnf)))
  refine new_own (e := 5) 1 1 [byteV (UInt8.ofNat (48 + n % 10))] (by rw [byteV_ofNat, Nat.mod_eq_of_lt (by omega), e1]; rfl) rfl ?_
  intro h1 b1 w1 x1 z1 hb1
  have s1 : Sl h1 1 (some ⟨b1, 0, none⟩) 1 1 ([UInt8.ofNat (48 + n % 10)].map byteV) := w1.sl
  ((conv=>whnf);repeat((first|(with_reducible first|refine Z1 ?_|refine Z2 ?_|refine Z3 ?_|refine Z4 ?_|refine Z5 ?_|refine Z9 (by assumption) rfl ?_|refine ZA (by assumption) rfl ?_|refine ZB (by assumption) rfl ?_|refine Z6 ?_|refine Z7 ?_|refine Z8 ?_)|((with_reducible refine ZM ?_ ?_);(focus rfl)));(conv=>whnf)))
  refine s1.bytes ?_
  by_cases hs : n < 10
  · have q : decide (((n : Nat) : Int) < 10) = true := decide_eq_true (by omega)
    have ed : Lib.decDigits n = [UInt8.ofNat (48 + n % 10)] := by rw [Lib.decDigits, dif_pos hs, Nat.mod_eq_of_lt hs]
    rw [ed]
    ((conv=>whnf);repeat((first|(with_reducible first|refine Z1 ?_|refine Z2 ?_|refine Z3 ?_|refine Z4 ?_|refine Z5 ?_|refine Z9 (by assumption) rfl ?_|refine ZA (by assumption) rfl ?_|refine ZB (by assumption) rfl ?_|refine Z6 ?_|refine Z7 ?_|refine Z8 ?_)|((with_reducible refine ZM ?_ ?_);(focus rfl)));(conv=>whnf)))
    exact ⟨rfl, x1⟩
  · have q : decide (((n : Nat) : Int) < 10) = false := decide_eq_false (by omega)
    have ed : Lib.decDigits n = Lib.decDigits (n / 10) ++ [UInt8.ofNat (48 + n % 10)] := by rw [Lib.decDigits, dif_neg hs]
    rw [ed]
    ((conv=>whnf);repeat((first|(with_reducible first|refine Z1 ?_|refine Z2 ?_|refine Z3 ?_|refine Z4 ?_|refine Z5 ?_|refine Z9 (by assumption) rfl ?_|refine ZA (by assumption) rfl ?_|refine ZB (by assumption) rfl ?_|refine Z6 ?_|refine Z7 ?_|refine Z8 ?_)|((with_reducible refine ZM ?_ ?_);(focus rfl)));(conv=>whnf)))
    refine HCall.to #[.int .i64 (n / 10 : Nat)] (by rw [← e2]; rfl) ((ih (n / 10) (by omega) h1 (by omega)).mono ?_)
    rintro e h2 ⟨rfl, x2⟩
    have hl := dec_len (n / 10) 19 (by have hp : (10 : Nat) ^ 20 = 100000000000000000000 := by decide
                                       rw [hp]; omega)
    ((conv=>whnf);repeat((first|(with_reducible first|refine Z1 ?_|refine Z2 ?_|refine Z3 ?_|refine Z4 ?_|refine Z5 ?_|refine Z9 (by assumption) rfl ?_|refine ZA (by assumption) rfl ?_|refine ZB (by assumption) rfl ?_|refine Z6 ?_|refine Z7 ?_|refine Z8 ?_)|((with_reducible refine ZM ?_ ?_);(focus rfl)));(conv=>whnf)))
    refine HMust.mk ?_ ?_
    · show (Lib.decDigits (n / 10)).length + 1 ≤ 9223372036854775807
      omega
    ((conv=>whnf);repeat((first|(with_reducible first|refine Z1 ?_|refine Z2 ?_|refine Z3 ?_|refine Z4 ?_|refine Z5 ?_|refine Z9 (by assumption) rfl ?_|refine ZA (by assumption) rfl ?_|refine ZB (by assumption) rfl ?_|refine Z6 ?_|refine Z7 ?_|refine Z8 ?_)|((with_reducible refine ZM ?_ ?_);(focus rfl)));(conv=>whnf)))
    refine ⟨?_, x1.trans x2⟩
    congr 2
theorem rdig_spec (n : Int) (h0 : -9007199254740991 ≤ n) (h1 : n ≤ 9007199254740991) (h : Heap) : HCalls Tryd.prog 43 #[.int .i64 n] h fun e h' => e = .returned (.string ⟨(Lib.itoa n).toArray⟩) ∧ Ext h h' := by
  have hil := itoa_len n (by omega) (by omega)
  by_cases hz : n < 0
  · have q := decide_eq_true hz
    have ei : Lib.itoa n = 45 :: Lib.decDigits n.natAbs := by unfold Lib.itoa; rw [if_pos hz]
    have hdl : (Lib.decDigits n.natAbs).length ≤ 20 := by rw [ei] at hil; simp at hil; omega
    refine c43 (by simp) ?_
    ((conv=>whnf);repeat((first|(with_reducible first|refine Z1 ?_|refine Z2 ?_|refine Z3 ?_|refine Z4 ?_|refine Z5 ?_|refine Z9 (by assumption) rfl ?_|refine ZA (by assumption) rfl ?_|refine ZB (by assumption) rfl ?_|refine Z6 ?_|refine Z7 ?_|refine Z8 ?_)|((with_reducible refine ZM ?_ ?_);(focus rfl)));(conv=>whnf)))
    refine HCall.to #[.int .i64 (n.natAbs : Nat)] (by have : ((n.natAbs : Nat) : Int) = 0 - n := by omega
                                                      rw [this]; rfl) ((rdig0_spec n.natAbs h (by omega)).mono ?_)
    rintro e h2 ⟨rfl, x2⟩
    ((conv=>whnf);repeat((first|(with_reducible first|refine Z1 ?_|refine Z2 ?_|refine Z3 ?_|refine Z4 ?_|refine Z5 ?_|refine Z9 (by assumption) rfl ?_|refine ZA (by assumption) rfl ?_|refine ZB (by assumption) rfl ?_|refine Z6 ?_|refine Z7 ?_|refine Z8 ?_)|((with_reducible refine ZM ?_ ?_);(focus rfl)));(conv=>whnf)))
    refine HMust.mk (by show 1 + (Lib.decDigits n.natAbs).length ≤ 9223372036854775807; omega) ?_
    ((conv=>whnf);repeat((first|(with_reducible first|refine Z1 ?_|refine Z2 ?_|refine Z3 ?_|refine Z4 ?_|refine Z5 ?_|refine Z9 (by assumption) rfl ?_|refine ZA (by assumption) rfl ?_|refine ZB (by assumption) rfl ?_|refine Z6 ?_|refine Z7 ?_|refine Z8 ?_)|((with_reducible refine ZM ?_ ?_);(focus rfl)));(conv=>whnf)))
    refine ⟨?_, x2⟩
    rw [ei]
    exact congrArg (fun s => Ending.returned (.string s)) (app_ba [45] _)
  · have ei : Lib.itoa n = Lib.decDigits n.toNat := by unfold Lib.itoa; rw [if_neg hz]
    have := rdig0_spec n.toNat h (by omega)
    rw [Int.toNat_of_nonneg (by omega)] at this
    rw [ei]; exact this

end Go.Proofs.YtmibnfjjlibpgaaDoor.Hc
