/- Numbers read: ParseInt, the errors. -/
import Derived.Test.YtnanabjbdnbccaaDoorP5
import Derived.KernelRfl
set_option linter.unusedVariables false
set_option linter.unusedSimpArgs false
namespace Go.Proofs.YtnanabjbdnbccaaDoor.Hc
open Go Go.H Go.Proofs
set_option maxRecDepth 100000
set_option maxHeartbeats 4000000

/-- What ParseInt reads. -/
def pmag (base : Nat) (l : List UInt8) : Option Nat := if l = [] then none else pdig base l 0
def posI (o : Option Nat) : Option Int := match o with
  | some u => if u < 9223372036854775808 then some u else none
  | none => none
def negI (o : Option Nat) : Option Int := match o with
  | some u => if u ≤ 9223372036854775808 then some (-(u : Int)) else none
  | none => none
def pint (base : Nat) : List UInt8 → Option Int
  | [] => none
  | c :: r => if c.toNat = 43 then posI (pmag base r) else if c.toNat = 45 then negI (pmag base r) else posI (pmag base (c :: r))
theorem errT : Tryd.prog.info? 63 = some Tryd.t63 := by kernel_rfl
theorem errC : Tryd.t63.comparable = true := by kernel_rfl
theorem eqErr {a b : Int} {K : Bool → Prop} (k : K (a == b)) : HEqI Tryd.prog 63 (.int .i64 a) 63 (.int .i64 b) K :=
  .int _ .i64 .i64 a b rfl rfl rfl errT errC Tryd.underlying63 k
theorem extract_one (c : UInt8) (l : List UInt8) : (⟨(c :: l).toArray⟩ : ByteArray).extract 1 (⟨(c :: l).toArray⟩ : ByteArray).size = ⟨l.toArray⟩ := by
  apply ByteArray.ext
  rw [ByteArray.data_extract]
  show ((c :: l).toArray).extract 1 (c :: l).toArray.size = l.toArray
  simp

/-- What the inner ParseInt answers. -/
def PI (base : Nat) (l : List UInt8) (e : Ending) : Prop :=
  (∃ v, pint base l = some v ∧ e = .returned (.tuple #[.int .i64 v, .nilIface])) ∨ (pint base l = none ∧ ∃ (v k : Int), e = .returned (.tuple #[.int .i64 v, .iface 63 (.int .i64 k)]) ∧ (k = 1 ∨ k = 2))
theorem puint_spec (base : Nat) (hb : base = 10 ∨ base = 16) (l : List UInt8) (hl : l.length ≤ 1048576) (h : Heap) : HCalls Tryd.prog 51 #[.string ⟨l.toArray⟩, .int .i64 base, .int .i64 64] h fun e h' =>
    ∃ (v : Nat) (er : Value), e = .returned (.tuple #[.int .u64 v, er]) ∧ PU base l v er ∧ v < 18446744073709551616 ∧ Ext h h' := by
  rcases hb with rfl | rfl
  · exact puint10_spec l hl h
  · exact puint16_spec l hl h

theorem parseIntI_spec (base : Nat) (hb : base = 10 ∨ base = 16) (l : List UInt8) (hl : l.length ≤ 1048576) (h : Heap) : HCalls Tryd.prog 47 #[.string ⟨l.toArray⟩, .int .i64 base, .int .i64 64] h fun e h' => PI base l e ∧ Ext h h' := by
  have hs : (⟨l.toArray⟩ : ByteArray).size = l.length := rfl
  refine c47 (by simp) ?_
  cases l with
  | nil =>
    have q0 : strEq (⟨([] : List UInt8).toArray⟩ : ByteArray) ⟨#[]⟩ = true := by rw [strEq_nil]; exact decide_eq_true rfl
    ((conv=>whnf);repeat((first|(with_reducible first|refine Z1 ?_|refine Z2 ?_|refine Z3 ?_|refine Z4 ?_|refine Z5 ?_|refine Z9 (by assumption) rfl ?_|refine ZA (by assumption) rfl ?_|refine ZB (by assumption) rfl ?_|refine Z6 ?_|refine Z7 ?_|refine Z8 ?_)|((with_reducible refine ZM ?_ ?_);(focus rfl)));(conv=>whnf)))
    exact ⟨.inr ⟨rfl, 0, 2, rfl, .inr rfl⟩, Ext.refl _⟩
  | cons c r =>
  have hne : strEq (⟨(c :: r).toArray⟩ : ByteArray) ⟨#[]⟩ = false := by
    rw [strEq_nil]
    refine decide_eq_false fun e => ?_
    have := congrArg ByteArray.size e
    exact absurd this (by show (c :: r).length ≠ 0; simp)
  have hx := idx_txt (c :: r) (i := 0) (by simp)
  have hrl : r.length ≤ 1048576 := by simp only [List.length_cons] at hl; omega
  have hsz : 1 ≤ (⟨(c :: r).toArray⟩ : ByteArray).size := by rw [hs]; simp
  rw [List.getElem_cons_zero] at hx
  -- what is told of the number, at last
  have tailPos : ∀ (m : List UInt8), pint base (c :: r) = posI (pmag base m) → ∀ (v : Nat) (er : Value), PU base m v er → (er = .nilIface ∧ pmag base m = some v) ∨ (pint base (c :: r) = none ∧ (er = .iface 63 (.int .i64 2) ∨ (er = .iface 63 (.int .i64 1) ∧ v = 18446744073709551615))) := by
    intro m hm v er hpu
    rcases hpu with ⟨h1, h2, h3⟩ | ⟨h1, h2⟩
    · exact .inl ⟨h3, by unfold pmag; rw [if_neg h1, h2]⟩
    · refine .inr ⟨?_, h2⟩
      rw [hm]
      unfold pmag
      rcases h1 with h1 | h1
      · rw [if_pos h1]; rfl
      · rw [h1]; split <;> rfl
  have tailNeg : ∀ (m : List UInt8), pint base (c :: r) = negI (pmag base m) → ∀ (v : Nat) (er : Value), PU base m v er → (er = .nilIface ∧ pmag base m = some v) ∨ (pint base (c :: r) = none ∧ (er = .iface 63 (.int .i64 2) ∨ (er = .iface 63 (.int .i64 1) ∧ v = 18446744073709551615))) := by
    intro m hm v er hpu
    rcases hpu with ⟨h1, h2, h3⟩ | ⟨h1, h2⟩
    · exact .inl ⟨h3, by unfold pmag; rw [if_neg h1, h2]⟩
    · refine .inr ⟨?_, h2⟩
      rw [hm]
      unfold pmag
      rcases h1 with h1 | h1
      · rw [if_pos h1]; rfl
      · rw [h1]; split <;> rfl
  have hcb := c.toNat_lt
  have eext := extract_one c r
  ((conv=>whnf);repeat((first|(with_reducible first|refine Z2 ?_|refine Z3 ?_|refine Z4 ?_|refine Z5 ?_|refine Z9 (by assumption) rfl ?_|refine ZA (by assumption) rfl ?_|refine ZB (by assumption) rfl ?_|refine Z6 ?_|refine Z7 ?_|refine Z8 ?_)|((with_reducible refine ZM ?_ ?_);(focus rfl)));(conv=>whnf)))
  (refine HSeq.go ?_; conv => whnf)
  ((conv=>whnf);repeat((first|(with_reducible first|refine Z2 ?_|refine Z3 ?_|refine Z4 ?_|refine Z5 ?_|refine Z9 (by assumption) rfl ?_|refine ZA (by assumption) rfl ?_|refine ZB (by assumption) rfl ?_|refine Z6 ?_|refine Z7 ?_|refine Z8 ?_)|((with_reducible refine ZM ?_ ?_);(focus rfl)));(conv=>whnf)))
  refine cut_rule [0, 8] (fun vs h' => ∃ (m : List UInt8) (neg : Bool), vs = [.string ⟨m.toArray⟩, .bool neg] ∧ m.length ≤ 1048576 ∧ pint base (c :: r) = (match neg with | true => negI (pmag base m) | false => posI (pmag base m)) ∧ h' = h) rfl ?_ ?_
  · ((conv=>whnf);repeat((first|(with_reducible first|refine Z1 ?_|refine Z2 ?_|refine Z3 ?_|refine Z4 ?_|refine Z5 ?_|refine Z9 (by assumption) rfl ?_|refine ZA (by assumption) rfl ?_|refine ZB (by assumption) rfl ?_|refine Z6 ?_|refine Z7 ?_|refine Z8 ?_)|((with_reducible refine ZM ?_ ?_);(focus rfl)));(conv=>whnf)))
    refine HIdx.mk 0 rfl (by rw [hs]; simp) ?_
    rw [hx]
    by_cases h43 : c.toNat = 43
    · have q1 : ((c.toNat : Int) == 43) = true := by rw [h43]; rfl
      ((conv=>whnf);repeat((first|(with_reducible first|refine Z1 ?_|refine Z2 ?_|refine Z3 ?_|refine Z4 ?_|refine Z5 ?_|refine Z9 (by assumption) rfl ?_|refine ZA (by assumption) rfl ?_|refine ZB (by assumption) rfl ?_|refine Z6 ?_|refine Z7 ?_|refine Z8 ?_)|((with_reducible refine ZM ?_ ?_);(focus rfl)));(conv=>whnf)))
      refine HBound.mk 1 rfl hsz ?_
      rw [eext]
      ((conv=>whnf);repeat((first|(with_reducible first|refine Z1 ?_|refine Z2 ?_|refine Z3 ?_|refine Z4 ?_|refine Z5 ?_|refine Z9 (by assumption) rfl ?_|refine ZA (by assumption) rfl ?_|refine ZB (by assumption) rfl ?_|refine Z6 ?_|refine Z7 ?_|refine Z8 ?_)|((with_reducible refine ZM ?_ ?_);(focus rfl)));(conv=>whnf)))
      exact ⟨r, false, rfl, hrl, by simp only [pint]; rw [if_pos h43], rfl⟩
    · have q1 : ((c.toNat : Int) == 43) = false := by rw [beq_eq_false_iff_ne]; omega
      by_cases h45 : c.toNat = 45
      · have q2 : ((c.toNat : Int) == 45) = true := by rw [h45]; rfl
        ((conv=>whnf);repeat((first|(with_reducible first|refine Z1 ?_|refine Z2 ?_|refine Z3 ?_|refine Z4 ?_|refine Z5 ?_|refine Z9 (by assumption) rfl ?_|refine ZA (by assumption) rfl ?_|refine ZB (by assumption) rfl ?_|refine Z6 ?_|refine Z7 ?_|refine Z8 ?_)|((with_reducible refine ZM ?_ ?_);(focus rfl)));(conv=>whnf)))
        refine HBound.mk 1 rfl hsz ?_
        rw [eext]
        ((conv=>whnf);repeat((first|(with_reducible first|refine Z1 ?_|refine Z2 ?_|refine Z3 ?_|refine Z4 ?_|refine Z5 ?_|refine Z9 (by assumption) rfl ?_|refine ZA (by assumption) rfl ?_|refine ZB (by assumption) rfl ?_|refine Z6 ?_|refine Z7 ?_|refine Z8 ?_)|((with_reducible refine ZM ?_ ?_);(focus rfl)));(conv=>whnf)))
        exact ⟨r, true, rfl, hrl, by simp only [pint]; rw [if_neg h43, if_pos h45], rfl⟩
      · have q2 : ((c.toNat : Int) == 45) = false := by rw [beq_eq_false_iff_ne]; omega
        ((conv=>whnf);repeat((first|(with_reducible first|refine Z1 ?_|refine Z2 ?_|refine Z3 ?_|refine Z4 ?_|refine Z5 ?_|refine Z9 (by assumption) rfl ?_|refine ZA (by assumption) rfl ?_|refine ZB (by assumption) rfl ?_|refine Z6 ?_|refine Z7 ?_|refine Z8 ?_)|((with_reducible refine ZM ?_ ?_);(focus rfl)));(conv=>whnf)))
        exact ⟨c :: r, false, rfl, hl, by simp only [pint]; rw [if_neg h43, if_neg h45], rfl⟩
  intro u h1 v0 v8
  rintro ⟨m, neg, e, hml, hp, rfl⟩
  cases e
  ((conv=>whnf);repeat((first|(with_reducible first|refine Z1 ?_|refine Z2 ?_|refine Z3 ?_|refine Z4 ?_|refine Z5 ?_|refine Z9 (by assumption) rfl ?_|refine ZA (by assumption) rfl ?_|refine ZB (by assumption) rfl ?_|refine Z6 ?_|refine Z7 ?_|refine Z8 ?_)|((with_reducible refine ZM ?_ ?_);(focus rfl)));(conv=>whnf)))
  refine HCall.mk ((puint_spec base hb m hml _).mono ?_)
  rintro e h2 ⟨v, er, rfl, hpu, hv, x2⟩
  have bad : pint base (c :: r) = none → ∀ (a k : Int), (k = 1 ∨ k = 2) → PI base (c :: r) (.returned (.tuple #[.int .i64 a, .iface 63 (.int .i64 k)])) := fun hn a k hk => .inr ⟨hn, a, k, rfl, hk⟩
  cases neg with
  | false =>
    simp only at hp
    rcases tailPos m hp v er hpu with ⟨rfl, hm⟩ | ⟨hn, he⟩
    · rw [hm] at hp
      simp only [posI] at hp
      ((conv=>whnf);repeat((first|(with_reducible first|refine Z1 ?_|refine Z2 ?_|refine Z3 ?_|refine Z4 ?_|refine Z5 ?_|refine Z9 (by assumption) rfl ?_|refine ZA (by assumption) rfl ?_|refine ZB (by assumption) rfl ?_|refine Z6 ?_|refine Z7 ?_|refine Z8 ?_)|((with_reducible refine ZM ?_ ?_);(focus rfl)));(conv=>whnf)))
      refine HInt.mk 9223372036854775808 (by decide) ?_
      by_cases hb63 : v < 9223372036854775808
      · have q3 : decide ((v : Int) ≥ 9223372036854775808) = false := decide_eq_false (by omega)
        rw [if_pos hb63] at hp
        ((conv=>whnf);repeat((first|(with_reducible first|refine Z1 ?_|refine Z2 ?_|refine Z3 ?_|refine Z4 ?_|refine Z5 ?_|refine Z9 (by assumption) rfl ?_|refine ZA (by assumption) rfl ?_|refine ZB (by assumption) rfl ?_|refine Z6 ?_|refine Z7 ?_|refine Z8 ?_)|((with_reducible refine ZM ?_ ?_);(focus rfl)));(conv=>whnf)))
        exact ⟨.inl ⟨v, hp, rfl⟩, x2⟩
      · have q3 : decide ((v : Int) ≥ 9223372036854775808) = true := decide_eq_true (by omega)
        rw [if_neg hb63] at hp
        ((conv=>whnf);repeat((first|(with_reducible first|refine Z1 ?_|refine Z2 ?_|refine Z3 ?_|refine Z4 ?_|refine Z5 ?_|refine Z9 (by assumption) rfl ?_|refine ZA (by assumption) rfl ?_|refine ZB (by assumption) rfl ?_|refine Z6 ?_|refine Z7 ?_|refine Z8 ?_)|((with_reducible refine ZM ?_ ?_);(focus rfl)));(conv=>whnf)))
        exact ⟨bad hp _ 1 (.inl rfl), x2⟩
    · rcases he with rfl | ⟨rfl, rfl⟩
      · ((conv=>whnf);repeat((first|(with_reducible first|refine Z1 ?_|refine Z2 ?_|refine Z3 ?_|refine Z4 ?_|refine Z5 ?_|refine Z9 (by assumption) rfl ?_|refine ZA (by assumption) rfl ?_|refine ZB (by assumption) rfl ?_|refine Z6 ?_|refine Z7 ?_|refine Z8 ?_)|((with_reducible refine ZM ?_ ?_);(focus rfl)));(conv=>whnf)))
        refine eqErr ?_
        ((conv=>whnf);repeat((first|(with_reducible first|refine Z1 ?_|refine Z2 ?_|refine Z3 ?_|refine Z4 ?_|refine Z5 ?_|refine Z9 (by assumption) rfl ?_|refine ZA (by assumption) rfl ?_|refine ZB (by assumption) rfl ?_|refine Z6 ?_|refine Z7 ?_|refine Z8 ?_)|((with_reducible refine ZM ?_ ?_);(focus rfl)));(conv=>whnf)))
        exact ⟨bad hn 0 2 (.inr rfl), x2⟩
      · ((conv=>whnf);repeat((first|(with_reducible first|refine Z1 ?_|refine Z2 ?_|refine Z3 ?_|refine Z4 ?_|refine Z5 ?_|refine Z9 (by assumption) rfl ?_|refine ZA (by assumption) rfl ?_|refine ZB (by assumption) rfl ?_|refine Z6 ?_|refine Z7 ?_|refine Z8 ?_)|((with_reducible refine ZM ?_ ?_);(focus rfl)));(conv=>whnf)))
        refine eqErr ?_
        ((conv=>whnf);repeat((first|(with_reducible first|refine Z1 ?_|refine Z2 ?_|refine Z3 ?_|refine Z4 ?_|refine Z5 ?_|refine Z9 (by assumption) rfl ?_|refine ZA (by assumption) rfl ?_|refine ZB (by assumption) rfl ?_|refine Z6 ?_|refine Z7 ?_|refine Z8 ?_)|((with_reducible refine ZM ?_ ?_);(focus rfl)));(conv=>whnf)))
        refine HInt.mk 9223372036854775808 (by decide) ?_
        ((conv=>whnf);repeat((first|(with_reducible first|refine Z1 ?_|refine Z2 ?_|refine Z3 ?_|refine Z4 ?_|refine Z5 ?_|refine Z9 (by assumption) rfl ?_|refine ZA (by assumption) rfl ?_|refine ZB (by assumption) rfl ?_|refine Z6 ?_|refine Z7 ?_|refine Z8 ?_)|((with_reducible refine ZM ?_ ?_);(focus rfl)));(conv=>whnf)))
        exact ⟨bad hn _ 1 (.inl rfl), x2⟩
  | true =>
    simp only at hp
    rcases tailNeg m hp v er hpu with ⟨rfl, hm⟩ | ⟨hn, he⟩
    · rw [hm] at hp
      simp only [negI] at hp
      ((conv=>whnf);repeat((first|(with_reducible first|refine Z1 ?_|refine Z2 ?_|refine Z3 ?_|refine Z4 ?_|refine Z5 ?_|refine Z9 (by assumption) rfl ?_|refine ZA (by assumption) rfl ?_|refine ZB (by assumption) rfl ?_|refine Z6 ?_|refine Z7 ?_|refine Z8 ?_)|((with_reducible refine ZM ?_ ?_);(focus rfl)));(conv=>whnf)))
      refine HInt.mk 9223372036854775808 (by decide) ?_
      by_cases hb63 : v ≤ 9223372036854775808
      · have q3 : decide ((v : Int) > 9223372036854775808) = false := decide_eq_false (by omega)
        rw [if_pos hb63] at hp
        by_cases hlt : v < 9223372036854775808
        · ((conv=>whnf);repeat((first|(with_reducible first|refine Z1 ?_|refine Z2 ?_|refine Z3 ?_|refine Z4 ?_|refine Z5 ?_|refine Z9 (by assumption) rfl ?_|refine ZA (by assumption) rfl ?_|refine ZB (by assumption) rfl ?_|refine Z6 ?_|refine Z7 ?_|refine Z8 ?_)|((with_reducible refine ZM ?_ ?_);(focus rfl)));(conv=>whnf)))
          refine ⟨.inl ⟨-(v : Int), hp, ?_⟩, x2⟩
          have : (0 : Int) - v = -(v : Int) := by omega
          rw [← this]; rfl
        · obtain rfl : v = 9223372036854775808 := by omega
          ((conv=>whnf);repeat((first|(with_reducible first|refine Z1 ?_|refine Z2 ?_|refine Z3 ?_|refine Z4 ?_|refine Z5 ?_|refine Z9 (by assumption) rfl ?_|refine ZA (by assumption) rfl ?_|refine ZB (by assumption) rfl ?_|refine Z6 ?_|refine Z7 ?_|refine Z8 ?_)|((with_reducible refine ZM ?_ ?_);(focus rfl)));(conv=>whnf)))
          refine HInt.mk (-9223372036854775808) (by decide) ?_
          ((conv=>whnf);repeat((first|(with_reducible first|refine Z1 ?_|refine Z2 ?_|refine Z3 ?_|refine Z4 ?_|refine Z5 ?_|refine Z9 (by assumption) rfl ?_|refine ZA (by assumption) rfl ?_|refine ZB (by assumption) rfl ?_|refine Z6 ?_|refine Z7 ?_|refine Z8 ?_)|((with_reducible refine ZM ?_ ?_);(focus rfl)));(conv=>whnf)))
          refine HInt.mk (-9223372036854775808) (by decide) ?_
          ((conv=>whnf);repeat((first|(with_reducible first|refine Z1 ?_|refine Z2 ?_|refine Z3 ?_|refine Z4 ?_|refine Z5 ?_|refine Z9 (by assumption) rfl ?_|refine ZA (by assumption) rfl ?_|refine ZB (by assumption) rfl ?_|refine Z6 ?_|refine Z7 ?_|refine Z8 ?_)|((with_reducible refine ZM ?_ ?_);(focus rfl)));(conv=>whnf)))
          exact ⟨.inl ⟨-9223372036854775808, hp, rfl⟩, x2⟩
      · have q3 : decide ((v : Int) > 9223372036854775808) = true := decide_eq_true (by omega)
        rw [if_neg hb63] at hp
        ((conv=>whnf);repeat((first|(with_reducible first|refine Z1 ?_|refine Z2 ?_|refine Z3 ?_|refine Z4 ?_|refine Z5 ?_|refine Z9 (by assumption) rfl ?_|refine ZA (by assumption) rfl ?_|refine ZB (by assumption) rfl ?_|refine Z6 ?_|refine Z7 ?_|refine Z8 ?_)|((with_reducible refine ZM ?_ ?_);(focus rfl)));(conv=>whnf)))
        refine HInt.mk (-9223372036854775808) (by decide) ?_
        ((conv=>whnf);repeat((first|(with_reducible first|refine Z1 ?_|refine Z2 ?_|refine Z3 ?_|refine Z4 ?_|refine Z5 ?_|refine Z9 (by assumption) rfl ?_|refine ZA (by assumption) rfl ?_|refine ZB (by assumption) rfl ?_|refine Z6 ?_|refine Z7 ?_|refine Z8 ?_)|((with_reducible refine ZM ?_ ?_);(focus rfl)));(conv=>whnf)))
        refine HInt.mk (-9223372036854775808) (by decide) ?_
        ((conv=>whnf);repeat((first|(with_reducible first|refine Z1 ?_|refine Z2 ?_|refine Z3 ?_|refine Z4 ?_|refine Z5 ?_|refine Z9 (by assumption) rfl ?_|refine ZA (by assumption) rfl ?_|refine ZB (by assumption) rfl ?_|refine Z6 ?_|refine Z7 ?_|refine Z8 ?_)|((with_reducible refine ZM ?_ ?_);(focus rfl)));(conv=>whnf)))
        exact ⟨bad hp _ 1 (.inl rfl), x2⟩
    · rcases he with rfl | ⟨rfl, rfl⟩
      · ((conv=>whnf);repeat((first|(with_reducible first|refine Z1 ?_|refine Z2 ?_|refine Z3 ?_|refine Z4 ?_|refine Z5 ?_|refine Z9 (by assumption) rfl ?_|refine ZA (by assumption) rfl ?_|refine ZB (by assumption) rfl ?_|refine Z6 ?_|refine Z7 ?_|refine Z8 ?_)|((with_reducible refine ZM ?_ ?_);(focus rfl)));(conv=>whnf)))
        refine eqErr ?_
        ((conv=>whnf);repeat((first|(with_reducible first|refine Z1 ?_|refine Z2 ?_|refine Z3 ?_|refine Z4 ?_|refine Z5 ?_|refine Z9 (by assumption) rfl ?_|refine ZA (by assumption) rfl ?_|refine ZB (by assumption) rfl ?_|refine Z6 ?_|refine Z7 ?_|refine Z8 ?_)|((with_reducible refine ZM ?_ ?_);(focus rfl)));(conv=>whnf)))
        exact ⟨bad hn 0 2 (.inr rfl), x2⟩
      · ((conv=>whnf);repeat((first|(with_reducible first|refine Z1 ?_|refine Z2 ?_|refine Z3 ?_|refine Z4 ?_|refine Z5 ?_|refine Z9 (by assumption) rfl ?_|refine ZA (by assumption) rfl ?_|refine ZB (by assumption) rfl ?_|refine Z6 ?_|refine Z7 ?_|refine Z8 ?_)|((with_reducible refine ZM ?_ ?_);(focus rfl)));(conv=>whnf)))
        refine eqErr ?_
        ((conv=>whnf);repeat((first|(with_reducible first|refine Z1 ?_|refine Z2 ?_|refine Z3 ?_|refine Z4 ?_|refine Z5 ?_|refine Z9 (by assumption) rfl ?_|refine ZA (by assumption) rfl ?_|refine ZB (by assumption) rfl ?_|refine Z6 ?_|refine Z7 ?_|refine Z8 ?_)|((with_reducible refine ZM ?_ ?_);(focus rfl)));(conv=>whnf)))
        refine HInt.mk 9223372036854775808 (by decide) ?_
        ((conv=>whnf);repeat((first|(with_reducible first|refine Z1 ?_|refine Z2 ?_|refine Z3 ?_|refine Z4 ?_|refine Z5 ?_|refine Z9 (by assumption) rfl ?_|refine ZA (by assumption) rfl ?_|refine ZB (by assumption) rfl ?_|refine Z6 ?_|refine Z7 ?_|refine Z8 ?_)|((with_reducible refine ZM ?_ ?_);(focus rfl)));(conv=>whnf)))
        refine HInt.mk (-9223372036854775808) (by decide) ?_
        ((conv=>whnf);repeat((first|(with_reducible first|refine Z1 ?_|refine Z2 ?_|refine Z3 ?_|refine Z4 ?_|refine Z5 ?_|refine Z9 (by assumption) rfl ?_|refine ZA (by assumption) rfl ?_|refine ZB (by assumption) rfl ?_|refine Z6 ?_|refine Z7 ?_|refine Z8 ?_)|((with_reducible refine ZM ?_ ?_);(focus rfl)));(conv=>whnf)))
        refine HInt.mk (-9223372036854775808) (by decide) ?_
        ((conv=>whnf);repeat((first|(with_reducible first|refine Z1 ?_|refine Z2 ?_|refine Z3 ?_|refine Z4 ?_|refine Z5 ?_|refine Z9 (by assumption) rfl ?_|refine ZA (by assumption) rfl ?_|refine ZB (by assumption) rfl ?_|refine Z6 ?_|refine Z7 ?_|refine Z8 ?_)|((with_reducible refine ZM ?_ ?_);(focus rfl)));(conv=>whnf)))
        exact ⟨bad hn _ 1 (.inl rfl), x2⟩

end Go.Proofs.YtnanabjbdnbccaaDoor.Hc
