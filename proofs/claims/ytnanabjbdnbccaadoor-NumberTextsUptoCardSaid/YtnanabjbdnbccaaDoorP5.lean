/- Numbers read: ParseUint, ParseInt at base 10 and 16. -/
import Derived.Test.YtnanabjbdnbccaaDoorP4
set_option linter.unusedVariables false
set_option linter.unusedSimpArgs false
namespace Go.Proofs.YtnanabjbdnbccaaDoor.Hc
open Go Go.H Go.Proofs
set_option maxRecDepth 100000
set_option maxHeartbeats 4000000

/-- A digit's value. -/
def dv (c : UInt8) : Nat := if 48 ≤ c.toNat ∧ c.toNat ≤ 57 then c.toNat - 48 else if 97 ≤ (c ||| 32).toNat ∧ (c ||| 32).toNat ≤ 122 then (c ||| 32).toNat - 87 else 99
/-- Digits' number, where it fits. -/
def pdig (base : Nat) : List UInt8 → Nat → Option Nat
  | [], acc => some acc
  | c :: r, acc => if dv c < base ∧ acc * base + dv c < 18446744073709551616 then pdig base r (acc * base + dv c) else none
theorem or8 (a b : UInt8) : ibits .or .u8 (a.toNat : Int) (b.toNat : Int) = ((a ||| b).toNat : Nat) := by
  unfold ibits
  have e1 : BitVec.ofInt 8 (a.toNat : Int) = a.toBitVec := by rw [BitVec.ofInt_natCast]; exact BitVec.eq_of_toNat_eq (by simp)
  have e2 : BitVec.ofInt 8 (b.toNat : Int) = b.toBitVec := by rw [BitVec.ofInt_natCast]; exact BitVec.eq_of_toNat_eq (by simp)
  show IntKind.u8.wrap (((BitVec.ofInt 8 (a.toNat : Int)) ||| (BitVec.ofInt 8 (b.toNat : Int))).toNat : Int) = _
  rw [e1, e2, ← UInt8.toBitVec_or]
  have := (a ||| b).toNat_lt
  exact wrap_u8 (by show (0 : Int) ≤ ((a ||| b).toNat : Int) ∧ ((a ||| b).toNat : Int) ≤ 255; omega)
theorem lower_spec (c : UInt8) (h : Heap) : HCalls Tryd.prog 61 #[.int .u8 (c.toNat : Nat)] h fun e h' => e = .returned (.int .u8 ((c ||| 32).toNat : Nat)) ∧ h' = h := by
  refine c61 (by simp) ?_
  ((conv=>whnf);repeat((first|(with_reducible first|refine Z1 ?_|refine Z2 ?_|refine Z3 ?_|refine Z4 ?_|refine Z5 ?_|refine Z9 (by assumption) rfl ?_|refine ZA (by assumption) rfl ?_|refine ZB (by assumption) rfl ?_|refine Z6 ?_|refine Z7 ?_|refine Z8 ?_)|((with_reducible refine ZM ?_ ?_);(focus rfl)));(conv=>whnf)))
  refine ⟨?_, rfl⟩
  rw [← or8 c 32]
  rfl
/-- A text's bytes. -/
theorem new_bytes {h : Heap} {s : ByteArray} {e c : Nat} {fz : Nat × Nat} {K : Nat → Heap → Prop} (hc : s.size ≤ c)
    (k : ∀ h' b, Sl h' 1 (some ⟨b, 0, none⟩) s.size c (s.data.toList.map byteV) → Ext h h' → K b h') :
    HNew h (.cells ((s.data.map fun b => Value.int .u8 b.toNat) ++ Array.replicate (c - s.size) (.int .u8 0)) e fz) K := by
  refine ⟨k _ _ ⟨by simp, hc, fun e => (by cases e), ?_⟩ (Ext.push _ _)⟩
  intro p ep i hi
  cases ep
  rw [Nat.mul_one] at hi
  have hi' : i < s.data.size := hi
  have ea : ((⟨h.size, 0, none⟩ : Addr).add i) = ⟨h.size, i, none⟩ := by rw [add_mk, Nat.zero_add]
  rw [ea]
  unfold hcell
  simp only [Array.getElem?_push_size, Option.isSome_none, Bool.false_eq_true, if_false]
  rw [Array.getElem?_append_left (by simpa using hi')]
  simp only [Array.getElem?_map, List.getElem?_map, Array.getElem?_toList]
  cases s.data[i]? <;> rfl
theorem idx_txt (l : List UInt8) {i : Nat} (hi : i < l.length) : (⟨l.toArray⟩ : ByteArray).data[i]! = l[i] := by
  show l.toArray[i]! = _
  rw [getElem!_pos l.toArray i (by simpa using hi)]; simp

/-- What ParseUint answers. -/
def PU (base : Nat) (l : List UInt8) (v : Nat) (er : Value) : Prop :=
  (l ≠ [] ∧ pdig base l 0 = some v ∧ er = .nilIface) ∨ ((l = [] ∨ pdig base l 0 = none) ∧ (er = .iface 63 (.int .i64 2) ∨ (er = .iface 63 (.int .i64 1) ∧ v = 18446744073709551615)))

theorem puint10_spec (l : List UInt8) (hl : l.length ≤ 1048576) (h : Heap) : HCalls Tryd.prog 51 #[.string ⟨l.toArray⟩, .int .i64 10, .int .i64 64] h fun e h' =>
    ∃ (v : Nat) (er : Value), e = .returned (.tuple #[.int .u64 v, er]) ∧ PU 10 l v er ∧ v < 18446744073709551616 ∧ Ext h h' := by
  have hs : (⟨l.toArray⟩ : ByteArray).size = l.length := rfl
  refine c51 (by simp) ?_
  by_cases hz : l = []
  · subst hz
    have q0 : strEq (⟨([] : List UInt8).toArray⟩ : ByteArray) ⟨#[]⟩ = true := by rw [strEq_nil]; exact decide_eq_true rfl
    ((conv=>whnf);repeat((first|(with_reducible first|refine Z1 ?_|refine Z2 ?_|refine Z3 ?_|refine Z4 ?_|refine Z5 ?_|refine Z9 (by assumption) rfl ?_|refine ZA (by assumption) rfl ?_|refine ZB (by assumption) rfl ?_|refine Z6 ?_|refine Z7 ?_|refine Z8 ?_)|((with_reducible refine ZM ?_ ?_);(focus rfl)));(conv=>whnf)))
    exact ⟨0, _, rfl, .inr ⟨.inl rfl, .inl rfl⟩, by omega, Ext.refl _⟩
  have hne : strEq (⟨l.toArray⟩ : ByteArray) ⟨#[]⟩ = false := by
    rw [strEq_nil]
    refine decide_eq_false fun e => hz ?_
    have := congrArg ByteArray.size e
    exact List.length_eq_zero_iff.1 (by rw [hs] at this; exact this)
  ((conv=>whnf);repeat((first|(with_reducible first|refine Z1 ?_|refine Z2 ?_|refine Z3 ?_|refine Z4 ?_|refine Z5 ?_|refine Z9 (by assumption) rfl ?_|refine ZA (by assumption) rfl ?_|refine ZB (by assumption) rfl ?_|refine Z6 ?_|refine Z7 ?_|refine Z8 ?_)|((with_reducible refine ZM ?_ ?_);(focus rfl)));(conv=>whnf)))
  refine HInt.mk 0 (by decide) ?_
  ((conv=>whnf);repeat((first|(with_reducible first|refine Z1 ?_|refine Z2 ?_|refine Z3 ?_|refine Z4 ?_|refine Z5 ?_|refine Z9 (by assumption) rfl ?_|refine ZA (by assumption) rfl ?_|refine ZB (by assumption) rfl ?_|refine Z6 ?_|refine Z7 ?_|refine Z8 ?_)|((with_reducible refine ZM ?_ ?_);(focus rfl)));(conv=>whnf)))
  refine HInt.mk 18446744073709551615 (by decide) ?_
  ((conv=>whnf);repeat((first|(with_reducible first|refine Z1 ?_|refine Z2 ?_|refine Z3 ?_|refine Z4 ?_|refine Z5 ?_|refine Z9 (by assumption) rfl ?_|refine ZA (by assumption) rfl ?_|refine ZB (by assumption) rfl ?_|refine Z6 ?_|refine Z7 ?_|refine Z8 ?_)|((with_reducible refine ZM ?_ ?_);(focus rfl)));(conv=>whnf)))
  refine HMust.mk (by omega) ?_
  intro cp hcp
  refine new_bytes hcp ?_
  intro h1 b1 s1 x1
  ((conv=>whnf);repeat((first|(with_reducible first|refine Z1 ?_|refine Z2 ?_|refine Z3 ?_|refine Z4 ?_|refine Z5 ?_|refine Z9 (by assumption) rfl ?_|refine ZA (by assumption) rfl ?_|refine ZB (by assumption) rfl ?_|refine Z6 ?_|refine Z7 ?_|refine Z8 ?_)|((with_reducible refine ZM ?_ ?_);(focus rfl)));(conv=>whnf)))
  refine loop_rule [12, 13, 101] (fun vs h' => ∃ (i n : Nat), vs = [.bool false, .int .u64 n, .int .i64 i] ∧ i ≤ l.length ∧ n < 18446744073709551616 ∧ pdig 10 l 0 = pdig 10 (l.drop i) n ∧ h' = h1)
    (fun vs _ => match vs with | [_, _, .int _ i] => l.length - i.toNat | _ => 0) rfl ?_ ?_
  · exact ⟨0, 0, rfl, by omega, by omega, rfl, rfl⟩
  intro u h1 v12 v13 v101
  rintro ⟨i, n, e, hi, hn, hp, rfl⟩
  cases e
  ((conv=>whnf);repeat((first|(with_reducible first|refine Z1 ?_|refine Z2 ?_|refine Z3 ?_|refine Z4 ?_|refine Z5 ?_|refine Z9 (by assumption) rfl ?_|refine ZA (by assumption) rfl ?_|refine ZB (by assumption) rfl ?_|refine Z6 ?_|refine Z7 ?_|refine Z8 ?_)|((with_reducible refine ZM ?_ ?_);(focus rfl)));(conv=>whnf)))
  refine HIf.mk (fun hlt => ?_) (fun hlt => ?_)
  · have hi1 : i < l.length := by have := of_decide_eq_true hlt; omega
    have hmu : l.length - ((i : Int) + 1).toNat < l.length - ((i : Int)).toNat := by omega
    have hdrop : l.drop i = l[i] :: l.drop (i + 1) := List.drop_eq_getElem_cons hi1
    rw [hdrop] at hp
    simp only [pdig] at hp
    have hlt8 := l[i].toNat_lt
    have hlt32 := (l[i] ||| 32).toNat_lt
    have bad : ∀ er : Value, (er = .iface 63 (.int .i64 2)) → ¬ (dv l[i] < 10 ∧ n * 10 + dv l[i] < 18446744073709551616) → PU 10 l 0 er := fun er he hc => .inr ⟨.inr (by rw [hp, if_neg hc]), .inl he⟩
    have badr : ∀ er : Value, (er = .iface 63 (.int .i64 1)) → ¬ (dv l[i] < 10 ∧ n * 10 + dv l[i] < 18446744073709551616) → PU 10 l 18446744073709551615 er := fun er he hc => .inr ⟨.inr (by rw [hp, if_neg hc]), .inr ⟨he, rfl⟩⟩
    ((conv=>whnf);repeat((first|(with_reducible first|refine Z1 ?_|refine Z2 ?_|refine Z3 ?_|refine Z4 ?_|refine Z5 ?_|refine Z9 (by assumption) rfl ?_|refine ZA (by assumption) rfl ?_|refine ZB (by assumption) rfl ?_|refine Z6 ?_|refine Z7 ?_|refine Z8 ?_)|((with_reducible refine ZM ?_ ?_);(focus rfl)));(conv=>whnf)))
    refine HIdx.mk i rfl hi1 ?_
    refine sl_some s1 hi1 fun p ep => ?_
    ((conv=>whnf);repeat((first|(with_reducible first|refine Z1 ?_|refine Z2 ?_|refine Z3 ?_|refine Z4 ?_|refine Z5 ?_|refine Z9 (by assumption) rfl ?_|refine ZA (by assumption) rfl ?_|refine ZB (by assumption) rfl ?_|refine Z6 ?_|refine Z7 ?_|refine Z8 ?_)|((with_reducible refine ZM ?_ ?_);(focus rfl)));(conv=>whnf)))
    refine sl_get s1 ep hi1 ?_
    have fin : ∀ d : Nat, dv l[i] = d → d < 10 → n < 1844674407370955162 → ¬ (n * 10 + d > 18446744073709551615) → pdig 10 l 0 = pdig 10 (l.drop (i + 1)) (n * 10 + d) := by
      intro d hd h1 h2 h3
      rw [hp, hd, if_pos ⟨h1, by omega⟩]
    generalize hcn : l[i].toNat = c at *
    have hdvc : dv l[i] = if 48 ≤ c ∧ c ≤ 57 then c - 48 else if 97 ≤ (l[i] ||| 32).toNat ∧ (l[i] ||| 32).toNat ≤ 122 then (l[i] ||| 32).toNat - 87 else 99 := by unfold dv; rw [hcn]
    have lows := fun h => lower_spec l[i] h
    rw [hcn] at lows
    generalize (l[i] ||| 32).toNat = w at hdvc hlt32 lows
    generalize dv l[i] = d at hdvc hp bad badr fin
    clear hdrop hcn
    cases hq : ((c : Int) == 95)
    all_goals
      by_cases hd1 : 48 ≤ c
      · have q1 : decide ((48 : Int) ≤ (c : Int)) = true := decide_eq_true (by omega)
        by_cases hd2 : c ≤ 57
        · have q2 : decide ((c : Int) ≤ 57) = true := decide_eq_true (by omega)
          rw [if_pos ⟨hd1, hd2⟩] at hdvc
          by_cases hdb : d < 10
          · have q3 : decide ((((c : Int) - 48 : Int)) ≥ 10) = false := decide_eq_false (by omega)
            by_cases hcut : n < 1844674407370955162
            · have q4 : decide ((n : Int) ≥ 1844674407370955162) = false := decide_eq_false (by omega)
              have q5 : decide ((n : Int) * 10 + ((c : Int) - 48) < (n : Int) * 10) = false := decide_eq_false (by omega)
              by_cases hov : n * 10 + d > 18446744073709551615
              · first
                  | (exfalso; omega)
                  | (((conv=>whnf);repeat((first|(with_reducible first|refine Z1 ?_|refine Z2 ?_|refine Z3 ?_|refine Z4 ?_|refine Z5 ?_|refine Z9 (by assumption) rfl ?_|refine ZA (by assumption) rfl ?_|refine ZB (by assumption) rfl ?_|refine Z6 ?_|refine Z7 ?_|refine Z8 ?_)|((with_reducible refine ZM ?_ ?_);(focus rfl)));(conv=>whnf)))
                     refine HInt.mk ((n : Int) * 10 + ((c : Int) - 48) - 18446744073709551616) (by rw [wrap_u64']; omega) ?_
                     have q7 : decide ((n : Int) * 10 + ((c : Int) - 48) - 18446744073709551616 < (n : Int) * 10) = true := decide_eq_true (by omega)
                     ((conv=>whnf);repeat((first|(with_reducible first|refine Z1 ?_|refine Z2 ?_|refine Z3 ?_|refine Z4 ?_|refine Z5 ?_|refine Z9 (by assumption) rfl ?_|refine ZA (by assumption) rfl ?_|refine ZB (by assumption) rfl ?_|refine Z6 ?_|refine Z7 ?_|refine Z8 ?_)|((with_reducible refine ZM ?_ ?_);(focus rfl)));(conv=>whnf)))
                     exact ⟨18446744073709551615, _, rfl, badr _ rfl (by omega), by omega, x1⟩)
              · have q6 : decide ((n : Int) * 10 + ((c : Int) - 48) > 18446744073709551615) = false := decide_eq_false (by omega)
                ((conv=>whnf);repeat((first|(with_reducible first|refine Z1 ?_|refine Z2 ?_|refine Z3 ?_|refine Z4 ?_|refine Z5 ?_|refine Z9 (by assumption) rfl ?_|refine ZA (by assumption) rfl ?_|refine ZB (by assumption) rfl ?_|refine Z6 ?_|refine Z7 ?_|refine Z8 ?_)|((with_reducible refine ZM ?_ ?_);(focus rfl)));(conv=>whnf)))
                refine ⟨⟨i + 1, n * 10 + d, ?_, by omega, by omega, fin d rfl hdb hcut hov, rfl⟩, hmu⟩
                have e1 : ((n * 10 + d : Nat) : Int) = (n : Int) * 10 + ((c : Int) - 48) := by omega
                rw [e1]; rfl
            · have q4 : decide ((n : Int) ≥ 1844674407370955162) = true := decide_eq_true (by omega)
              ((conv=>whnf);repeat((first|(with_reducible first|refine Z1 ?_|refine Z2 ?_|refine Z3 ?_|refine Z4 ?_|refine Z5 ?_|refine Z9 (by assumption) rfl ?_|refine ZA (by assumption) rfl ?_|refine ZB (by assumption) rfl ?_|refine Z6 ?_|refine Z7 ?_|refine Z8 ?_)|((with_reducible refine ZM ?_ ?_);(focus rfl)));(conv=>whnf)))
              exact ⟨18446744073709551615, _, rfl, badr _ rfl (by omega), by omega, x1⟩
          · have q3 : decide ((((c : Int) - 48 : Int)) ≥ 10) = true := decide_eq_true (by omega)
            ((conv=>whnf);repeat((first|(with_reducible first|refine Z1 ?_|refine Z2 ?_|refine Z3 ?_|refine Z4 ?_|refine Z5 ?_|refine Z9 (by assumption) rfl ?_|refine ZA (by assumption) rfl ?_|refine ZB (by assumption) rfl ?_|refine Z6 ?_|refine Z7 ?_|refine Z8 ?_)|((with_reducible refine ZM ?_ ?_);(focus rfl)));(conv=>whnf)))
            exact ⟨0, _, rfl, bad _ rfl (by omega), by omega, x1⟩
        · have q2 : decide ((c : Int) ≤ 57) = false := decide_eq_false (by omega)
          rw [if_neg (by omega)] at hdvc
          ((conv=>whnf);repeat((first|(with_reducible first|refine Z1 ?_|refine Z2 ?_|refine Z3 ?_|refine Z4 ?_|refine Z5 ?_|refine Z9 (by assumption) rfl ?_|refine ZA (by assumption) rfl ?_|refine ZB (by assumption) rfl ?_|refine Z6 ?_|refine Z7 ?_|refine Z8 ?_)|((with_reducible refine ZM ?_ ?_);(focus rfl)));(conv=>whnf)))
          refine HCall.mk ((lows _).mono ?_)
          rintro e _ ⟨rfl, rfl⟩
          by_cases hw1 : 97 ≤ w
          · have q7 : decide ((97 : Int) ≤ (w : Int)) = true := decide_eq_true (by omega)
            ((conv=>whnf);repeat((first|(with_reducible first|refine Z1 ?_|refine Z2 ?_|refine Z3 ?_|refine Z4 ?_|refine Z5 ?_|refine Z9 (by assumption) rfl ?_|refine ZA (by assumption) rfl ?_|refine ZB (by assumption) rfl ?_|refine Z6 ?_|refine Z7 ?_|refine Z8 ?_)|((with_reducible refine ZM ?_ ?_);(focus rfl)));(conv=>whnf)))
            refine HCall.mk ((lows _).mono ?_)
            rintro e _ ⟨rfl, rfl⟩
            by_cases hw2 : w ≤ 122
            · have q8 : decide ((w : Int) ≤ 122) = true := decide_eq_true (by omega)
              rw [if_pos ⟨hw1, hw2⟩] at hdvc
              ((conv=>whnf);repeat((first|(with_reducible first|refine Z1 ?_|refine Z2 ?_|refine Z3 ?_|refine Z4 ?_|refine Z5 ?_|refine Z9 (by assumption) rfl ?_|refine ZA (by assumption) rfl ?_|refine ZB (by assumption) rfl ?_|refine Z6 ?_|refine Z7 ?_|refine Z8 ?_)|((with_reducible refine ZM ?_ ?_);(focus rfl)));(conv=>whnf)))
              refine HCall.mk ((lows _).mono ?_)
              rintro e _ ⟨rfl, rfl⟩
              by_cases hdb : d < 10
              · have q3 : decide ((((w : Int) - 97 + 10 : Int)) ≥ 10) = false := decide_eq_false (by omega)
                by_cases hcut : n < 1844674407370955162
                · have q4 : decide ((n : Int) ≥ 1844674407370955162) = false := decide_eq_false (by omega)
                  have q5 : decide ((n : Int) * 10 + ((w : Int) - 97 + 10) < (n : Int) * 10) = false := decide_eq_false (by omega)
                  by_cases hov : n * 10 + d > 18446744073709551615
                  · first
                      | (exfalso; omega)
                      | (((conv=>whnf);repeat((first|(with_reducible first|refine Z1 ?_|refine Z2 ?_|refine Z3 ?_|refine Z4 ?_|refine Z5 ?_|refine Z9 (by assumption) rfl ?_|refine ZA (by assumption) rfl ?_|refine ZB (by assumption) rfl ?_|refine Z6 ?_|refine Z7 ?_|refine Z8 ?_)|((with_reducible refine ZM ?_ ?_);(focus rfl)));(conv=>whnf)))
                         refine HInt.mk ((n : Int) * 10 + ((w : Int) - 97 + 10) - 18446744073709551616) (by rw [wrap_u64']; omega) ?_
                         have q7 : decide ((n : Int) * 10 + ((w : Int) - 97 + 10) - 18446744073709551616 < (n : Int) * 10) = true := decide_eq_true (by omega)
                         ((conv=>whnf);repeat((first|(with_reducible first|refine Z1 ?_|refine Z2 ?_|refine Z3 ?_|refine Z4 ?_|refine Z5 ?_|refine Z9 (by assumption) rfl ?_|refine ZA (by assumption) rfl ?_|refine ZB (by assumption) rfl ?_|refine Z6 ?_|refine Z7 ?_|refine Z8 ?_)|((with_reducible refine ZM ?_ ?_);(focus rfl)));(conv=>whnf)))
                         exact ⟨18446744073709551615, _, rfl, badr _ rfl (by omega), by omega, x1⟩)
                  · have q6 : decide ((n : Int) * 10 + ((w : Int) - 97 + 10) > 18446744073709551615) = false := decide_eq_false (by omega)
                    ((conv=>whnf);repeat((first|(with_reducible first|refine Z1 ?_|refine Z2 ?_|refine Z3 ?_|refine Z4 ?_|refine Z5 ?_|refine Z9 (by assumption) rfl ?_|refine ZA (by assumption) rfl ?_|refine ZB (by assumption) rfl ?_|refine Z6 ?_|refine Z7 ?_|refine Z8 ?_)|((with_reducible refine ZM ?_ ?_);(focus rfl)));(conv=>whnf)))
                    refine ⟨⟨i + 1, n * 10 + d, ?_, by omega, by omega, fin d rfl hdb hcut hov, rfl⟩, hmu⟩
                    have e1 : ((n * 10 + d : Nat) : Int) = (n : Int) * 10 + ((w : Int) - 97 + 10) := by omega
                    rw [e1]; rfl
                · have q4 : decide ((n : Int) ≥ 1844674407370955162) = true := decide_eq_true (by omega)
                  ((conv=>whnf);repeat((first|(with_reducible first|refine Z1 ?_|refine Z2 ?_|refine Z3 ?_|refine Z4 ?_|refine Z5 ?_|refine Z9 (by assumption) rfl ?_|refine ZA (by assumption) rfl ?_|refine ZB (by assumption) rfl ?_|refine Z6 ?_|refine Z7 ?_|refine Z8 ?_)|((with_reducible refine ZM ?_ ?_);(focus rfl)));(conv=>whnf)))
                  exact ⟨18446744073709551615, _, rfl, badr _ rfl (by omega), by omega, x1⟩
              · have q3 : decide ((((w : Int) - 97 + 10 : Int)) ≥ 10) = true := decide_eq_true (by omega)
                ((conv=>whnf);repeat((first|(with_reducible first|refine Z1 ?_|refine Z2 ?_|refine Z3 ?_|refine Z4 ?_|refine Z5 ?_|refine Z9 (by assumption) rfl ?_|refine ZA (by assumption) rfl ?_|refine ZB (by assumption) rfl ?_|refine Z6 ?_|refine Z7 ?_|refine Z8 ?_)|((with_reducible refine ZM ?_ ?_);(focus rfl)));(conv=>whnf)))
                exact ⟨0, _, rfl, bad _ rfl (by omega), by omega, x1⟩
            · have q8 : decide ((w : Int) ≤ 122) = false := decide_eq_false (by omega)
              rw [if_neg (by omega)] at hdvc
              ((conv=>whnf);repeat((first|(with_reducible first|refine Z1 ?_|refine Z2 ?_|refine Z3 ?_|refine Z4 ?_|refine Z5 ?_|refine Z9 (by assumption) rfl ?_|refine ZA (by assumption) rfl ?_|refine ZB (by assumption) rfl ?_|refine Z6 ?_|refine Z7 ?_|refine Z8 ?_)|((with_reducible refine ZM ?_ ?_);(focus rfl)));(conv=>whnf)))
              exact ⟨0, _, rfl, bad _ rfl (by omega), by omega, x1⟩
          · have q7 : decide ((97 : Int) ≤ (w : Int)) = false := decide_eq_false (by omega)
            rw [if_neg (by omega)] at hdvc
            ((conv=>whnf);repeat((first|(with_reducible first|refine Z1 ?_|refine Z2 ?_|refine Z3 ?_|refine Z4 ?_|refine Z5 ?_|refine Z9 (by assumption) rfl ?_|refine ZA (by assumption) rfl ?_|refine ZB (by assumption) rfl ?_|refine Z6 ?_|refine Z7 ?_|refine Z8 ?_)|((with_reducible refine ZM ?_ ?_);(focus rfl)));(conv=>whnf)))
            exact ⟨0, _, rfl, bad _ rfl (by omega), by omega, x1⟩
      · have q1 : decide ((48 : Int) ≤ (c : Int)) = false := decide_eq_false (by omega)
        rw [if_neg (by omega)] at hdvc
        ((conv=>whnf);repeat((first|(with_reducible first|refine Z1 ?_|refine Z2 ?_|refine Z3 ?_|refine Z4 ?_|refine Z5 ?_|refine Z9 (by assumption) rfl ?_|refine ZA (by assumption) rfl ?_|refine ZB (by assumption) rfl ?_|refine Z6 ?_|refine Z7 ?_|refine Z8 ?_)|((with_reducible refine ZM ?_ ?_);(focus rfl)));(conv=>whnf)))
        refine HCall.mk ((lows _).mono ?_)
        rintro e _ ⟨rfl, rfl⟩
        by_cases hw1 : 97 ≤ w
        · have q7 : decide ((97 : Int) ≤ (w : Int)) = true := decide_eq_true (by omega)
          ((conv=>whnf);repeat((first|(with_reducible first|refine Z1 ?_|refine Z2 ?_|refine Z3 ?_|refine Z4 ?_|refine Z5 ?_|refine Z9 (by assumption) rfl ?_|refine ZA (by assumption) rfl ?_|refine ZB (by assumption) rfl ?_|refine Z6 ?_|refine Z7 ?_|refine Z8 ?_)|((with_reducible refine ZM ?_ ?_);(focus rfl)));(conv=>whnf)))
          refine HCall.mk ((lows _).mono ?_)
          rintro e _ ⟨rfl, rfl⟩
          by_cases hw2 : w ≤ 122
          · have q8 : decide ((w : Int) ≤ 122) = true := decide_eq_true (by omega)
            rw [if_pos ⟨hw1, hw2⟩] at hdvc
            ((conv=>whnf);repeat((first|(with_reducible first|refine Z1 ?_|refine Z2 ?_|refine Z3 ?_|refine Z4 ?_|refine Z5 ?_|refine Z9 (by assumption) rfl ?_|refine ZA (by assumption) rfl ?_|refine ZB (by assumption) rfl ?_|refine Z6 ?_|refine Z7 ?_|refine Z8 ?_)|((with_reducible refine ZM ?_ ?_);(focus rfl)));(conv=>whnf)))
            refine HCall.mk ((lows _).mono ?_)
            rintro e _ ⟨rfl, rfl⟩
            by_cases hdb : d < 10
            · have q3 : decide ((((w : Int) - 97 + 10 : Int)) ≥ 10) = false := decide_eq_false (by omega)
              by_cases hcut : n < 1844674407370955162
              · have q4 : decide ((n : Int) ≥ 1844674407370955162) = false := decide_eq_false (by omega)
                have q5 : decide ((n : Int) * 10 + ((w : Int) - 97 + 10) < (n : Int) * 10) = false := decide_eq_false (by omega)
                by_cases hov : n * 10 + d > 18446744073709551615
                · first
                    | (exfalso; omega)
                    | (((conv=>whnf);repeat((first|(with_reducible first|refine Z1 ?_|refine Z2 ?_|refine Z3 ?_|refine Z4 ?_|refine Z5 ?_|refine Z9 (by assumption) rfl ?_|refine ZA (by assumption) rfl ?_|refine ZB (by assumption) rfl ?_|refine Z6 ?_|refine Z7 ?_|refine Z8 ?_)|((with_reducible refine ZM ?_ ?_);(focus rfl)));(conv=>whnf)))
                       refine HInt.mk ((n : Int) * 10 + ((w : Int) - 97 + 10) - 18446744073709551616) (by rw [wrap_u64']; omega) ?_
                       have q7 : decide ((n : Int) * 10 + ((w : Int) - 97 + 10) - 18446744073709551616 < (n : Int) * 10) = true := decide_eq_true (by omega)
                       ((conv=>whnf);repeat((first|(with_reducible first|refine Z1 ?_|refine Z2 ?_|refine Z3 ?_|refine Z4 ?_|refine Z5 ?_|refine Z9 (by assumption) rfl ?_|refine ZA (by assumption) rfl ?_|refine ZB (by assumption) rfl ?_|refine Z6 ?_|refine Z7 ?_|refine Z8 ?_)|((with_reducible refine ZM ?_ ?_);(focus rfl)));(conv=>whnf)))
                       exact ⟨18446744073709551615, _, rfl, badr _ rfl (by omega), by omega, x1⟩)
                · have q6 : decide ((n : Int) * 10 + ((w : Int) - 97 + 10) > 18446744073709551615) = false := decide_eq_false (by omega)
                  ((conv=>whnf);repeat((first|(with_reducible first|refine Z1 ?_|refine Z2 ?_|refine Z3 ?_|refine Z4 ?_|refine Z5 ?_|refine Z9 (by assumption) rfl ?_|refine ZA (by assumption) rfl ?_|refine ZB (by assumption) rfl ?_|refine Z6 ?_|refine Z7 ?_|refine Z8 ?_)|((with_reducible refine ZM ?_ ?_);(focus rfl)));(conv=>whnf)))
                  refine ⟨⟨i + 1, n * 10 + d, ?_, by omega, by omega, fin d rfl hdb hcut hov, rfl⟩, hmu⟩
                  have e1 : ((n * 10 + d : Nat) : Int) = (n : Int) * 10 + ((w : Int) - 97 + 10) := by omega
                  rw [e1]; rfl
              · have q4 : decide ((n : Int) ≥ 1844674407370955162) = true := decide_eq_true (by omega)
                ((conv=>whnf);repeat((first|(with_reducible first|refine Z1 ?_|refine Z2 ?_|refine Z3 ?_|refine Z4 ?_|refine Z5 ?_|refine Z9 (by assumption) rfl ?_|refine ZA (by assumption) rfl ?_|refine ZB (by assumption) rfl ?_|refine Z6 ?_|refine Z7 ?_|refine Z8 ?_)|((with_reducible refine ZM ?_ ?_);(focus rfl)));(conv=>whnf)))
                exact ⟨18446744073709551615, _, rfl, badr _ rfl (by omega), by omega, x1⟩
            · have q3 : decide ((((w : Int) - 97 + 10 : Int)) ≥ 10) = true := decide_eq_true (by omega)
              ((conv=>whnf);repeat((first|(with_reducible first|refine Z1 ?_|refine Z2 ?_|refine Z3 ?_|refine Z4 ?_|refine Z5 ?_|refine Z9 (by assumption) rfl ?_|refine ZA (by assumption) rfl ?_|refine ZB (by assumption) rfl ?_|refine Z6 ?_|refine Z7 ?_|refine Z8 ?_)|((with_reducible refine ZM ?_ ?_);(focus rfl)));(conv=>whnf)))
              exact ⟨0, _, rfl, bad _ rfl (by omega), by omega, x1⟩
          · have q8 : decide ((w : Int) ≤ 122) = false := decide_eq_false (by omega)
            rw [if_neg (by omega)] at hdvc
            ((conv=>whnf);repeat((first|(with_reducible first|refine Z1 ?_|refine Z2 ?_|refine Z3 ?_|refine Z4 ?_|refine Z5 ?_|refine Z9 (by assumption) rfl ?_|refine ZA (by assumption) rfl ?_|refine ZB (by assumption) rfl ?_|refine Z6 ?_|refine Z7 ?_|refine Z8 ?_)|((with_reducible refine ZM ?_ ?_);(focus rfl)));(conv=>whnf)))
            exact ⟨0, _, rfl, bad _ rfl (by omega), by omega, x1⟩
        · have q7 : decide ((97 : Int) ≤ (w : Int)) = false := decide_eq_false (by omega)
          rw [if_neg (by omega)] at hdvc
          ((conv=>whnf);repeat((first|(with_reducible first|refine Z1 ?_|refine Z2 ?_|refine Z3 ?_|refine Z4 ?_|refine Z5 ?_|refine Z9 (by assumption) rfl ?_|refine ZA (by assumption) rfl ?_|refine ZB (by assumption) rfl ?_|refine Z6 ?_|refine Z7 ?_|refine Z8 ?_)|((with_reducible refine ZM ?_ ?_);(focus rfl)));(conv=>whnf)))
          exact ⟨0, _, rfl, bad _ rfl (by omega), by omega, x1⟩
  · have hge := of_decide_eq_false hlt
    obtain rfl : i = l.length := by omega
    rw [List.drop_length] at hp
    ((conv=>whnf);repeat((first|(with_reducible first|refine Z1 ?_|refine Z2 ?_|refine Z3 ?_|refine Z4 ?_|refine Z5 ?_|refine Z9 (by assumption) rfl ?_|refine ZA (by assumption) rfl ?_|refine ZB (by assumption) rfl ?_|refine Z6 ?_|refine Z7 ?_|refine Z8 ?_)|((with_reducible refine ZM ?_ ?_);(focus rfl)));(conv=>whnf)))
    exact ⟨n, .nilIface, rfl, .inl ⟨hz, hp, rfl⟩, hn, x1⟩

theorem puint16_spec (l : List UInt8) (hl : l.length ≤ 1048576) (h : Heap) : HCalls Tryd.prog 51 #[.string ⟨l.toArray⟩, .int .i64 16, .int .i64 64] h fun e h' =>
    ∃ (v : Nat) (er : Value), e = .returned (.tuple #[.int .u64 v, er]) ∧ PU 16 l v er ∧ v < 18446744073709551616 ∧ Ext h h' := by
  have hs : (⟨l.toArray⟩ : ByteArray).size = l.length := rfl
  refine c51 (by simp) ?_
  by_cases hz : l = []
  · subst hz
    have q0 : strEq (⟨([] : List UInt8).toArray⟩ : ByteArray) ⟨#[]⟩ = true := by rw [strEq_nil]; exact decide_eq_true rfl
    ((conv=>whnf);repeat((first|(with_reducible first|refine Z1 ?_|refine Z2 ?_|refine Z3 ?_|refine Z4 ?_|refine Z5 ?_|refine Z9 (by assumption) rfl ?_|refine ZA (by assumption) rfl ?_|refine ZB (by assumption) rfl ?_|refine Z6 ?_|refine Z7 ?_|refine Z8 ?_)|((with_reducible refine ZM ?_ ?_);(focus rfl)));(conv=>whnf)))
    exact ⟨0, _, rfl, .inr ⟨.inl rfl, .inl rfl⟩, by omega, Ext.refl _⟩
  have hne : strEq (⟨l.toArray⟩ : ByteArray) ⟨#[]⟩ = false := by
    rw [strEq_nil]
    refine decide_eq_false fun e => hz ?_
    have := congrArg ByteArray.size e
    exact List.length_eq_zero_iff.1 (by rw [hs] at this; exact this)
  ((conv=>whnf);repeat((first|(with_reducible first|refine Z1 ?_|refine Z2 ?_|refine Z3 ?_|refine Z4 ?_|refine Z5 ?_|refine Z9 (by assumption) rfl ?_|refine ZA (by assumption) rfl ?_|refine ZB (by assumption) rfl ?_|refine Z6 ?_|refine Z7 ?_|refine Z8 ?_)|((with_reducible refine ZM ?_ ?_);(focus rfl)));(conv=>whnf)))
  refine HInt.mk 0 (by decide) ?_
  ((conv=>whnf);repeat((first|(with_reducible first|refine Z1 ?_|refine Z2 ?_|refine Z3 ?_|refine Z4 ?_|refine Z5 ?_|refine Z9 (by assumption) rfl ?_|refine ZA (by assumption) rfl ?_|refine ZB (by assumption) rfl ?_|refine Z6 ?_|refine Z7 ?_|refine Z8 ?_)|((with_reducible refine ZM ?_ ?_);(focus rfl)));(conv=>whnf)))
  refine HInt.mk 18446744073709551615 (by decide) ?_
  ((conv=>whnf);repeat((first|(with_reducible first|refine Z1 ?_|refine Z2 ?_|refine Z3 ?_|refine Z4 ?_|refine Z5 ?_|refine Z9 (by assumption) rfl ?_|refine ZA (by assumption) rfl ?_|refine ZB (by assumption) rfl ?_|refine Z6 ?_|refine Z7 ?_|refine Z8 ?_)|((with_reducible refine ZM ?_ ?_);(focus rfl)));(conv=>whnf)))
  refine HMust.mk (by omega) ?_
  intro cp hcp
  refine new_bytes hcp ?_
  intro h1 b1 s1 x1
  ((conv=>whnf);repeat((first|(with_reducible first|refine Z1 ?_|refine Z2 ?_|refine Z3 ?_|refine Z4 ?_|refine Z5 ?_|refine Z9 (by assumption) rfl ?_|refine ZA (by assumption) rfl ?_|refine ZB (by assumption) rfl ?_|refine Z6 ?_|refine Z7 ?_|refine Z8 ?_)|((with_reducible refine ZM ?_ ?_);(focus rfl)));(conv=>whnf)))
  refine loop_rule [12, 13, 101] (fun vs h' => ∃ (i n : Nat), vs = [.bool false, .int .u64 n, .int .i64 i] ∧ i ≤ l.length ∧ n < 18446744073709551616 ∧ pdig 16 l 0 = pdig 16 (l.drop i) n ∧ h' = h1)
    (fun vs _ => match vs with | [_, _, .int _ i] => l.length - i.toNat | _ => 0) rfl ?_ ?_
  · exact ⟨0, 0, rfl, by omega, by omega, rfl, rfl⟩
  intro u h1 v12 v13 v101
  rintro ⟨i, n, e, hi, hn, hp, rfl⟩
  cases e
  ((conv=>whnf);repeat((first|(with_reducible first|refine Z1 ?_|refine Z2 ?_|refine Z3 ?_|refine Z4 ?_|refine Z5 ?_|refine Z9 (by assumption) rfl ?_|refine ZA (by assumption) rfl ?_|refine ZB (by assumption) rfl ?_|refine Z6 ?_|refine Z7 ?_|refine Z8 ?_)|((with_reducible refine ZM ?_ ?_);(focus rfl)));(conv=>whnf)))
  refine HIf.mk (fun hlt => ?_) (fun hlt => ?_)
  · have hi1 : i < l.length := by have := of_decide_eq_true hlt; omega
    have hmu : l.length - ((i : Int) + 1).toNat < l.length - ((i : Int)).toNat := by omega
    have hdrop : l.drop i = l[i] :: l.drop (i + 1) := List.drop_eq_getElem_cons hi1
    rw [hdrop] at hp
    simp only [pdig] at hp
    have hlt8 := l[i].toNat_lt
    have hlt32 := (l[i] ||| 32).toNat_lt
    have bad : ∀ er : Value, (er = .iface 63 (.int .i64 2)) → ¬ (dv l[i] < 16 ∧ n * 16 + dv l[i] < 18446744073709551616) → PU 16 l 0 er := fun er he hc => .inr ⟨.inr (by rw [hp, if_neg hc]), .inl he⟩
    have badr : ∀ er : Value, (er = .iface 63 (.int .i64 1)) → ¬ (dv l[i] < 16 ∧ n * 16 + dv l[i] < 18446744073709551616) → PU 16 l 18446744073709551615 er := fun er he hc => .inr ⟨.inr (by rw [hp, if_neg hc]), .inr ⟨he, rfl⟩⟩
    ((conv=>whnf);repeat((first|(with_reducible first|refine Z1 ?_|refine Z2 ?_|refine Z3 ?_|refine Z4 ?_|refine Z5 ?_|refine Z9 (by assumption) rfl ?_|refine ZA (by assumption) rfl ?_|refine ZB (by assumption) rfl ?_|refine Z6 ?_|refine Z7 ?_|refine Z8 ?_)|((with_reducible refine ZM ?_ ?_);(focus rfl)));(conv=>whnf)))
    refine HIdx.mk i rfl hi1 ?_
    refine sl_some s1 hi1 fun p ep => ?_
    ((conv=>whnf);repeat((first|(with_reducible first|refine Z1 ?_|refine Z2 ?_|refine Z3 ?_|refine Z4 ?_|refine Z5 ?_|refine Z9 (by assumption) rfl ?_|refine ZA (by assumption) rfl ?_|refine ZB (by assumption) rfl ?_|refine Z6 ?_|refine Z7 ?_|refine Z8 ?_)|((with_reducible refine ZM ?_ ?_);(focus rfl)));(conv=>whnf)))
    refine sl_get s1 ep hi1 ?_
    have fin : ∀ d : Nat, dv l[i] = d → d < 16 → n < 1152921504606846976 → ¬ (n * 16 + d > 18446744073709551615) → pdig 16 l 0 = pdig 16 (l.drop (i + 1)) (n * 16 + d) := by
      intro d hd h1 h2 h3
      rw [hp, hd, if_pos ⟨h1, by omega⟩]
    generalize hcn : l[i].toNat = c at *
    have hdvc : dv l[i] = if 48 ≤ c ∧ c ≤ 57 then c - 48 else if 97 ≤ (l[i] ||| 32).toNat ∧ (l[i] ||| 32).toNat ≤ 122 then (l[i] ||| 32).toNat - 87 else 99 := by unfold dv; rw [hcn]
    have lows := fun h => lower_spec l[i] h
    rw [hcn] at lows
    generalize (l[i] ||| 32).toNat = w at hdvc hlt32 lows
    generalize dv l[i] = d at hdvc hp bad badr fin
    clear hdrop hcn
    cases hq : ((c : Int) == 95)
    all_goals
      by_cases hd1 : 48 ≤ c
      · have q1 : decide ((48 : Int) ≤ (c : Int)) = true := decide_eq_true (by omega)
        by_cases hd2 : c ≤ 57
        · have q2 : decide ((c : Int) ≤ 57) = true := decide_eq_true (by omega)
          rw [if_pos ⟨hd1, hd2⟩] at hdvc
          by_cases hdb : d < 16
          · have q3 : decide ((((c : Int) - 48 : Int)) ≥ 16) = false := decide_eq_false (by omega)
            by_cases hcut : n < 1152921504606846976
            · have q4 : decide ((n : Int) ≥ 1152921504606846976) = false := decide_eq_false (by omega)
              have q5 : decide ((n : Int) * 16 + ((c : Int) - 48) < (n : Int) * 16) = false := decide_eq_false (by omega)
              by_cases hov : n * 16 + d > 18446744073709551615
              · first
                  | (exfalso; omega)
                  | (((conv=>whnf);repeat((first|(with_reducible first|refine Z1 ?_|refine Z2 ?_|refine Z3 ?_|refine Z4 ?_|refine Z5 ?_|refine Z9 (by assumption) rfl ?_|refine ZA (by assumption) rfl ?_|refine ZB (by assumption) rfl ?_|refine Z6 ?_|refine Z7 ?_|refine Z8 ?_)|((with_reducible refine ZM ?_ ?_);(focus rfl)));(conv=>whnf)))
                     refine HInt.mk ((n : Int) * 16 + ((c : Int) - 48) - 18446744073709551616) (by rw [wrap_u64']; omega) ?_
                     have q7 : decide ((n : Int) * 16 + ((c : Int) - 48) - 18446744073709551616 < (n : Int) * 16) = true := decide_eq_true (by omega)
                     ((conv=>whnf);repeat((first|(with_reducible first|refine Z1 ?_|refine Z2 ?_|refine Z3 ?_|refine Z4 ?_|refine Z5 ?_|refine Z9 (by assumption) rfl ?_|refine ZA (by assumption) rfl ?_|refine ZB (by assumption) rfl ?_|refine Z6 ?_|refine Z7 ?_|refine Z8 ?_)|((with_reducible refine ZM ?_ ?_);(focus rfl)));(conv=>whnf)))
                     exact ⟨18446744073709551615, _, rfl, badr _ rfl (by omega), by omega, x1⟩)
              · have q6 : decide ((n : Int) * 16 + ((c : Int) - 48) > 18446744073709551615) = false := decide_eq_false (by omega)
                ((conv=>whnf);repeat((first|(with_reducible first|refine Z1 ?_|refine Z2 ?_|refine Z3 ?_|refine Z4 ?_|refine Z5 ?_|refine Z9 (by assumption) rfl ?_|refine ZA (by assumption) rfl ?_|refine ZB (by assumption) rfl ?_|refine Z6 ?_|refine Z7 ?_|refine Z8 ?_)|((with_reducible refine ZM ?_ ?_);(focus rfl)));(conv=>whnf)))
                refine ⟨⟨i + 1, n * 16 + d, ?_, by omega, by omega, fin d rfl hdb hcut hov, rfl⟩, hmu⟩
                have e1 : ((n * 16 + d : Nat) : Int) = (n : Int) * 16 + ((c : Int) - 48) := by omega
                rw [e1]; rfl
            · have q4 : decide ((n : Int) ≥ 1152921504606846976) = true := decide_eq_true (by omega)
              ((conv=>whnf);repeat((first|(with_reducible first|refine Z1 ?_|refine Z2 ?_|refine Z3 ?_|refine Z4 ?_|refine Z5 ?_|refine Z9 (by assumption) rfl ?_|refine ZA (by assumption) rfl ?_|refine ZB (by assumption) rfl ?_|refine Z6 ?_|refine Z7 ?_|refine Z8 ?_)|((with_reducible refine ZM ?_ ?_);(focus rfl)));(conv=>whnf)))
              exact ⟨18446744073709551615, _, rfl, badr _ rfl (by omega), by omega, x1⟩
          · have q3 : decide ((((c : Int) - 48 : Int)) ≥ 16) = true := decide_eq_true (by omega)
            ((conv=>whnf);repeat((first|(with_reducible first|refine Z1 ?_|refine Z2 ?_|refine Z3 ?_|refine Z4 ?_|refine Z5 ?_|refine Z9 (by assumption) rfl ?_|refine ZA (by assumption) rfl ?_|refine ZB (by assumption) rfl ?_|refine Z6 ?_|refine Z7 ?_|refine Z8 ?_)|((with_reducible refine ZM ?_ ?_);(focus rfl)));(conv=>whnf)))
            exact ⟨0, _, rfl, bad _ rfl (by omega), by omega, x1⟩
        · have q2 : decide ((c : Int) ≤ 57) = false := decide_eq_false (by omega)
          rw [if_neg (by omega)] at hdvc
          ((conv=>whnf);repeat((first|(with_reducible first|refine Z1 ?_|refine Z2 ?_|refine Z3 ?_|refine Z4 ?_|refine Z5 ?_|refine Z9 (by assumption) rfl ?_|refine ZA (by assumption) rfl ?_|refine ZB (by assumption) rfl ?_|refine Z6 ?_|refine Z7 ?_|refine Z8 ?_)|((with_reducible refine ZM ?_ ?_);(focus rfl)));(conv=>whnf)))
          refine HCall.mk ((lows _).mono ?_)
          rintro e _ ⟨rfl, rfl⟩
          by_cases hw1 : 97 ≤ w
          · have q7 : decide ((97 : Int) ≤ (w : Int)) = true := decide_eq_true (by omega)
            ((conv=>whnf);repeat((first|(with_reducible first|refine Z1 ?_|refine Z2 ?_|refine Z3 ?_|refine Z4 ?_|refine Z5 ?_|refine Z9 (by assumption) rfl ?_|refine ZA (by assumption) rfl ?_|refine ZB (by assumption) rfl ?_|refine Z6 ?_|refine Z7 ?_|refine Z8 ?_)|((with_reducible refine ZM ?_ ?_);(focus rfl)));(conv=>whnf)))
            refine HCall.mk ((lows _).mono ?_)
            rintro e _ ⟨rfl, rfl⟩
            by_cases hw2 : w ≤ 122
            · have q8 : decide ((w : Int) ≤ 122) = true := decide_eq_true (by omega)
              rw [if_pos ⟨hw1, hw2⟩] at hdvc
              ((conv=>whnf);repeat((first|(with_reducible first|refine Z1 ?_|refine Z2 ?_|refine Z3 ?_|refine Z4 ?_|refine Z5 ?_|refine Z9 (by assumption) rfl ?_|refine ZA (by assumption) rfl ?_|refine ZB (by assumption) rfl ?_|refine Z6 ?_|refine Z7 ?_|refine Z8 ?_)|((with_reducible refine ZM ?_ ?_);(focus rfl)));(conv=>whnf)))
              refine HCall.mk ((lows _).mono ?_)
              rintro e _ ⟨rfl, rfl⟩
              by_cases hdb : d < 16
              · have q3 : decide ((((w : Int) - 97 + 10 : Int)) ≥ 16) = false := decide_eq_false (by omega)
                by_cases hcut : n < 1152921504606846976
                · have q4 : decide ((n : Int) ≥ 1152921504606846976) = false := decide_eq_false (by omega)
                  have q5 : decide ((n : Int) * 16 + ((w : Int) - 97 + 10) < (n : Int) * 16) = false := decide_eq_false (by omega)
                  by_cases hov : n * 16 + d > 18446744073709551615
                  · first
                      | (exfalso; omega)
                      | (((conv=>whnf);repeat((first|(with_reducible first|refine Z1 ?_|refine Z2 ?_|refine Z3 ?_|refine Z4 ?_|refine Z5 ?_|refine Z9 (by assumption) rfl ?_|refine ZA (by assumption) rfl ?_|refine ZB (by assumption) rfl ?_|refine Z6 ?_|refine Z7 ?_|refine Z8 ?_)|((with_reducible refine ZM ?_ ?_);(focus rfl)));(conv=>whnf)))
                         refine HInt.mk ((n : Int) * 16 + ((w : Int) - 97 + 10) - 18446744073709551616) (by rw [wrap_u64']; omega) ?_
                         have q7 : decide ((n : Int) * 16 + ((w : Int) - 97 + 10) - 18446744073709551616 < (n : Int) * 16) = true := decide_eq_true (by omega)
                         ((conv=>whnf);repeat((first|(with_reducible first|refine Z1 ?_|refine Z2 ?_|refine Z3 ?_|refine Z4 ?_|refine Z5 ?_|refine Z9 (by assumption) rfl ?_|refine ZA (by assumption) rfl ?_|refine ZB (by assumption) rfl ?_|refine Z6 ?_|refine Z7 ?_|refine Z8 ?_)|((with_reducible refine ZM ?_ ?_);(focus rfl)));(conv=>whnf)))
                         exact ⟨18446744073709551615, _, rfl, badr _ rfl (by omega), by omega, x1⟩)
                  · have q6 : decide ((n : Int) * 16 + ((w : Int) - 97 + 10) > 18446744073709551615) = false := decide_eq_false (by omega)
                    ((conv=>whnf);repeat((first|(with_reducible first|refine Z1 ?_|refine Z2 ?_|refine Z3 ?_|refine Z4 ?_|refine Z5 ?_|refine Z9 (by assumption) rfl ?_|refine ZA (by assumption) rfl ?_|refine ZB (by assumption) rfl ?_|refine Z6 ?_|refine Z7 ?_|refine Z8 ?_)|((with_reducible refine ZM ?_ ?_);(focus rfl)));(conv=>whnf)))
                    refine ⟨⟨i + 1, n * 16 + d, ?_, by omega, by omega, fin d rfl hdb hcut hov, rfl⟩, hmu⟩
                    have e1 : ((n * 16 + d : Nat) : Int) = (n : Int) * 16 + ((w : Int) - 97 + 10) := by omega
                    rw [e1]; rfl
                · have q4 : decide ((n : Int) ≥ 1152921504606846976) = true := decide_eq_true (by omega)
                  ((conv=>whnf);repeat((first|(with_reducible first|refine Z1 ?_|refine Z2 ?_|refine Z3 ?_|refine Z4 ?_|refine Z5 ?_|refine Z9 (by assumption) rfl ?_|refine ZA (by assumption) rfl ?_|refine ZB (by assumption) rfl ?_|refine Z6 ?_|refine Z7 ?_|refine Z8 ?_)|((with_reducible refine ZM ?_ ?_);(focus rfl)));(conv=>whnf)))
                  exact ⟨18446744073709551615, _, rfl, badr _ rfl (by omega), by omega, x1⟩
              · have q3 : decide ((((w : Int) - 97 + 10 : Int)) ≥ 16) = true := decide_eq_true (by omega)
                ((conv=>whnf);repeat((first|(with_reducible first|refine Z1 ?_|refine Z2 ?_|refine Z3 ?_|refine Z4 ?_|refine Z5 ?_|refine Z9 (by assumption) rfl ?_|refine ZA (by assumption) rfl ?_|refine ZB (by assumption) rfl ?_|refine Z6 ?_|refine Z7 ?_|refine Z8 ?_)|((with_reducible refine ZM ?_ ?_);(focus rfl)));(conv=>whnf)))
                exact ⟨0, _, rfl, bad _ rfl (by omega), by omega, x1⟩
            · have q8 : decide ((w : Int) ≤ 122) = false := decide_eq_false (by omega)
              rw [if_neg (by omega)] at hdvc
              ((conv=>whnf);repeat((first|(with_reducible first|refine Z1 ?_|refine Z2 ?_|refine Z3 ?_|refine Z4 ?_|refine Z5 ?_|refine Z9 (by assumption) rfl ?_|refine ZA (by assumption) rfl ?_|refine ZB (by assumption) rfl ?_|refine Z6 ?_|refine Z7 ?_|refine Z8 ?_)|((with_reducible refine ZM ?_ ?_);(focus rfl)));(conv=>whnf)))
              exact ⟨0, _, rfl, bad _ rfl (by omega), by omega, x1⟩
          · have q7 : decide ((97 : Int) ≤ (w : Int)) = false := decide_eq_false (by omega)
            rw [if_neg (by omega)] at hdvc
            ((conv=>whnf);repeat((first|(with_reducible first|refine Z1 ?_|refine Z2 ?_|refine Z3 ?_|refine Z4 ?_|refine Z5 ?_|refine Z9 (by assumption) rfl ?_|refine ZA (by assumption) rfl ?_|refine ZB (by assumption) rfl ?_|refine Z6 ?_|refine Z7 ?_|refine Z8 ?_)|((with_reducible refine ZM ?_ ?_);(focus rfl)));(conv=>whnf)))
            exact ⟨0, _, rfl, bad _ rfl (by omega), by omega, x1⟩
      · have q1 : decide ((48 : Int) ≤ (c : Int)) = false := decide_eq_false (by omega)
        rw [if_neg (by omega)] at hdvc
        ((conv=>whnf);repeat((first|(with_reducible first|refine Z1 ?_|refine Z2 ?_|refine Z3 ?_|refine Z4 ?_|refine Z5 ?_|refine Z9 (by assumption) rfl ?_|refine ZA (by assumption) rfl ?_|refine ZB (by assumption) rfl ?_|refine Z6 ?_|refine Z7 ?_|refine Z8 ?_)|((with_reducible refine ZM ?_ ?_);(focus rfl)));(conv=>whnf)))
        refine HCall.mk ((lows _).mono ?_)
        rintro e _ ⟨rfl, rfl⟩
        by_cases hw1 : 97 ≤ w
        · have q7 : decide ((97 : Int) ≤ (w : Int)) = true := decide_eq_true (by omega)
          ((conv=>whnf);repeat((first|(with_reducible first|refine Z1 ?_|refine Z2 ?_|refine Z3 ?_|refine Z4 ?_|refine Z5 ?_|refine Z9 (by assumption) rfl ?_|refine ZA (by assumption) rfl ?_|refine ZB (by assumption) rfl ?_|refine Z6 ?_|refine Z7 ?_|refine Z8 ?_)|((with_reducible refine ZM ?_ ?_);(focus rfl)));(conv=>whnf)))
          refine HCall.mk ((lows _).mono ?_)
          rintro e _ ⟨rfl, rfl⟩
          by_cases hw2 : w ≤ 122
          · have q8 : decide ((w : Int) ≤ 122) = true := decide_eq_true (by omega)
            rw [if_pos ⟨hw1, hw2⟩] at hdvc
            ((conv=>whnf);repeat((first|(with_reducible first|refine Z1 ?_|refine Z2 ?_|refine Z3 ?_|refine Z4 ?_|refine Z5 ?_|refine Z9 (by assumption) rfl ?_|refine ZA (by assumption) rfl ?_|refine ZB (by assumption) rfl ?_|refine Z6 ?_|refine Z7 ?_|refine Z8 ?_)|((with_reducible refine ZM ?_ ?_);(focus rfl)));(conv=>whnf)))
            refine HCall.mk ((lows _).mono ?_)
            rintro e _ ⟨rfl, rfl⟩
            by_cases hdb : d < 16
            · have q3 : decide ((((w : Int) - 97 + 10 : Int)) ≥ 16) = false := decide_eq_false (by omega)
              by_cases hcut : n < 1152921504606846976
              · have q4 : decide ((n : Int) ≥ 1152921504606846976) = false := decide_eq_false (by omega)
                have q5 : decide ((n : Int) * 16 + ((w : Int) - 97 + 10) < (n : Int) * 16) = false := decide_eq_false (by omega)
                by_cases hov : n * 16 + d > 18446744073709551615
                · first
                    | (exfalso; omega)
                    | (((conv=>whnf);repeat((first|(with_reducible first|refine Z1 ?_|refine Z2 ?_|refine Z3 ?_|refine Z4 ?_|refine Z5 ?_|refine Z9 (by assumption) rfl ?_|refine ZA (by assumption) rfl ?_|refine ZB (by assumption) rfl ?_|refine Z6 ?_|refine Z7 ?_|refine Z8 ?_)|((with_reducible refine ZM ?_ ?_);(focus rfl)));(conv=>whnf)))
                       refine HInt.mk ((n : Int) * 16 + ((w : Int) - 97 + 10) - 18446744073709551616) (by rw [wrap_u64']; omega) ?_
                       have q7 : decide ((n : Int) * 16 + ((w : Int) - 97 + 10) - 18446744073709551616 < (n : Int) * 16) = true := decide_eq_true (by omega)
                       ((conv=>whnf);repeat((first|(with_reducible first|refine Z1 ?_|refine Z2 ?_|refine Z3 ?_|refine Z4 ?_|refine Z5 ?_|refine Z9 (by assumption) rfl ?_|refine ZA (by assumption) rfl ?_|refine ZB (by assumption) rfl ?_|refine Z6 ?_|refine Z7 ?_|refine Z8 ?_)|((with_reducible refine ZM ?_ ?_);(focus rfl)));(conv=>whnf)))
                       exact ⟨18446744073709551615, _, rfl, badr _ rfl (by omega), by omega, x1⟩)
                · have q6 : decide ((n : Int) * 16 + ((w : Int) - 97 + 10) > 18446744073709551615) = false := decide_eq_false (by omega)
                  ((conv=>whnf);repeat((first|(with_reducible first|refine Z1 ?_|refine Z2 ?_|refine Z3 ?_|refine Z4 ?_|refine Z5 ?_|refine Z9 (by assumption) rfl ?_|refine ZA (by assumption) rfl ?_|refine ZB (by assumption) rfl ?_|refine Z6 ?_|refine Z7 ?_|refine Z8 ?_)|((with_reducible refine ZM ?_ ?_);(focus rfl)));(conv=>whnf)))
                  refine ⟨⟨i + 1, n * 16 + d, ?_, by omega, by omega, fin d rfl hdb hcut hov, rfl⟩, hmu⟩
                  have e1 : ((n * 16 + d : Nat) : Int) = (n : Int) * 16 + ((w : Int) - 97 + 10) := by omega
                  rw [e1]; rfl
              · have q4 : decide ((n : Int) ≥ 1152921504606846976) = true := decide_eq_true (by omega)
                ((conv=>whnf);repeat((first|(with_reducible first|refine Z1 ?_|refine Z2 ?_|refine Z3 ?_|refine Z4 ?_|refine Z5 ?_|refine Z9 (by assumption) rfl ?_|refine ZA (by assumption) rfl ?_|refine ZB (by assumption) rfl ?_|refine Z6 ?_|refine Z7 ?_|refine Z8 ?_)|((with_reducible refine ZM ?_ ?_);(focus rfl)));(conv=>whnf)))
                exact ⟨18446744073709551615, _, rfl, badr _ rfl (by omega), by omega, x1⟩
            · have q3 : decide ((((w : Int) - 97 + 10 : Int)) ≥ 16) = true := decide_eq_true (by omega)
              ((conv=>whnf);repeat((first|(with_reducible first|refine Z1 ?_|refine Z2 ?_|refine Z3 ?_|refine Z4 ?_|refine Z5 ?_|refine Z9 (by assumption) rfl ?_|refine ZA (by assumption) rfl ?_|refine ZB (by assumption) rfl ?_|refine Z6 ?_|refine Z7 ?_|refine Z8 ?_)|((with_reducible refine ZM ?_ ?_);(focus rfl)));(conv=>whnf)))
              exact ⟨0, _, rfl, bad _ rfl (by omega), by omega, x1⟩
          · have q8 : decide ((w : Int) ≤ 122) = false := decide_eq_false (by omega)
            rw [if_neg (by omega)] at hdvc
            ((conv=>whnf);repeat((first|(with_reducible first|refine Z1 ?_|refine Z2 ?_|refine Z3 ?_|refine Z4 ?_|refine Z5 ?_|refine Z9 (by assumption) rfl ?_|refine ZA (by assumption) rfl ?_|refine ZB (by assumption) rfl ?_|refine Z6 ?_|refine Z7 ?_|refine Z8 ?_)|((with_reducible refine ZM ?_ ?_);(focus rfl)));(conv=>whnf)))
            exact ⟨0, _, rfl, bad _ rfl (by omega), by omega, x1⟩
        · have q7 : decide ((97 : Int) ≤ (w : Int)) = false := decide_eq_false (by omega)
          rw [if_neg (by omega)] at hdvc
          ((conv=>whnf);repeat((first|(with_reducible first|refine Z1 ?_|refine Z2 ?_|refine Z3 ?_|refine Z4 ?_|refine Z5 ?_|refine Z9 (by assumption) rfl ?_|refine ZA (by assumption) rfl ?_|refine ZB (by assumption) rfl ?_|refine Z6 ?_|refine Z7 ?_|refine Z8 ?_)|((with_reducible refine ZM ?_ ?_);(focus rfl)));(conv=>whnf)))
          exact ⟨0, _, rfl, bad _ rfl (by omega), by omega, x1⟩
  · have hge := of_decide_eq_false hlt
    obtain rfl : i = l.length := by omega
    rw [List.drop_length] at hp
    ((conv=>whnf);repeat((first|(with_reducible first|refine Z1 ?_|refine Z2 ?_|refine Z3 ?_|refine Z4 ?_|refine Z5 ?_|refine Z9 (by assumption) rfl ?_|refine ZA (by assumption) rfl ?_|refine ZB (by assumption) rfl ?_|refine Z6 ?_|refine Z7 ?_|refine Z8 ?_)|((with_reducible refine ZM ?_ ?_);(focus rfl)));(conv=>whnf)))
    exact ⟨n, .nilIface, rfl, .inl ⟨hz, hp, rfl⟩, hn, x1⟩

end Go.Proofs.YtnanabjbdnbccaaDoor.Hc
