/- The reference's Read. -/
import Derived.Test.YtnanabjbdnbccaaDoorPH
set_option linter.unusedVariables false
set_option linter.unusedSimpArgs false
namespace Go.Proofs.YtnanabjbdnbccaaDoor.Hc
open Go Go.H Go.Proofs
set_option maxRecDepth 100000
set_option maxHeartbeats 4000000

/-- Digits, the reference's way. -/
def refD (base : Nat) : List Nat → Nat → Option Nat
  | [], acc => some acc
  | d :: r, acc => if rval d ≥ base ∨ acc > 9007199254740991 then none else refD base r (base * acc + rval d)
/-- Base, sign, and what is left. -/
def refB : List Nat → Nat × Int × List Nat
  | [] => (10, 1, [])
  | c :: r => if c = 43 then (10, 1, r) else if c = 45 then (10, -1, r) else match r with
    | [] => (10, 1, [c])
    | x :: r' => if c = 48 ∧ (x = 120 ∨ x = 88) then (16, 1, r') else (10, 1, c :: x :: r')
def refT (t : Nat × Int × List Nat) : Option Int := if t.2.2 = [] then none else match refD t.1 t.2.2 0 with
  | some v => nTold (t.2.1 * v) true
  | none => none
def refU (m : List Nat) : Option Int := if m = [] then some 0 else refT (refB m)
def refN (l : List UInt8) : Option Int := if l.length % 2 = 0 then refU (trimE ((ulist l).dropWhile blankN)) else none

theorem refB_ok (t : List Nat) (hl : t.length ≤ 1048576) (h16 : ∀ n ∈ t, n < 65536) : ((refB t).1 = 10 ∨ (refB t).1 = 16) ∧ ((refB t).2.1 = 1 ∨ (refB t).2.1 = -1) ∧ (refB t).2.2.length ≤ 1048576 ∧ ∀ n ∈ (refB t).2.2, n < 65536 := by
  match t, hl, h16 with
  | [], hl, h16 => exact ⟨.inl rfl, .inl rfl, hl, h16⟩
  | c :: r, hl, h16 =>
    have hr : r.length ≤ 1048576 := by simp only [List.length_cons] at hl; omega
    have hr16 : ∀ n ∈ r, n < 65536 := fun n hn => h16 n (List.mem_cons_of_mem _ hn)
    by_cases h43 : c = 43
    · rw [show refB (c :: r) = (10, 1, r) from if_pos h43]; exact ⟨.inl rfl, .inl rfl, hr, hr16⟩
    by_cases h45 : c = 45
    · rw [show refB (c :: r) = (10, -1, r) from (if_neg h43).trans (if_pos h45)]; exact ⟨.inl rfl, .inr rfl, hr, hr16⟩
    match r, hl, h16, hr, hr16 with
    | [], hl, h16, hr, hr16 => rw [show refB [c] = (10, 1, [c]) from (if_neg h43).trans (if_neg h45)]; exact ⟨.inl rfl, .inl rfl, hl, h16⟩
    | x :: r', hl, h16, hr, hr16 =>
      by_cases hx : c = 48 ∧ (x = 120 ∨ x = 88)
      · rw [show refB (c :: x :: r') = (16, 1, r') from ((if_neg h43).trans (if_neg h45)).trans (if_pos hx)]
        exact ⟨.inr rfl, .inl rfl, by show r'.length ≤ _; simp only [List.length_cons] at hr; omega, fun n hn => hr16 n (List.mem_cons_of_mem _ hn)⟩
      · rw [show refB (c :: x :: r') = (10, 1, c :: x :: r') from ((if_neg h43).trans (if_neg h45)).trans (if_neg hx)]
        exact ⟨.inl rfl, .inl rfl, hl, h16⟩

theorem rread_spec (l : List UInt8) (hl : l.length ≤ 2097152) (h : Heap) : HCalls Tryd.prog 9 #[.string ⟨l.toArray⟩] h fun e h' => e = .returned (numR (refN l)) ∧ Ext h h' := by
  have hul := ulist_len l
  have hlt16 := ulist_lt l
  refine c9 (by simp) ?_
  ((conv=>whnf);repeat((first|(with_reducible first|refine Z1 ?_|refine Z2 ?_|refine Z3 ?_|refine Z4 ?_|refine Z5 ?_|refine Z9 (by assumption) rfl ?_|refine ZA (by assumption) rfl ?_|refine ZB (by assumption) rfl ?_|refine Z6 ?_|refine Z7 ?_|refine Z8 ?_)|((with_reducible refine ZM ?_ ?_);(focus rfl)));(conv=>whnf)))
  refine HCall.mk ((rcheckU_spec l hl h).mono ?_)
  rintro e h ⟨rfl, rfl⟩
  by_cases hodd : ¬ l.length % 2 = 0
  · rw [decide_eq_false hodd]
    have er : refN l = none := by unfold refN; rw [if_neg hodd]
    rw [er]
    ((conv=>whnf);repeat((first|(with_reducible first|refine Z1 ?_|refine Z2 ?_|refine Z3 ?_|refine Z4 ?_|refine Z5 ?_|refine Z9 (by assumption) rfl ?_|refine ZA (by assumption) rfl ?_|refine ZB (by assumption) rfl ?_|refine Z6 ?_|refine Z7 ?_|refine Z8 ?_)|((with_reducible refine ZM ?_ ?_);(focus rfl)));(conv=>whnf)))
    exact ⟨rfl, Ext.refl _⟩
  have hodd := Decidable.not_not.1 hodd
  rw [decide_eq_true hodd]
  have er : refN l = refU (trimE ((ulist l).dropWhile blankN)) := by unfold refN; rw [if_pos hodd]
  rw [er]
  clear er
  ((conv=>whnf);repeat((first|(with_reducible first|refine Z1 ?_|refine Z2 ?_|refine Z3 ?_|refine Z4 ?_|refine Z5 ?_|refine Z9 (by assumption) rfl ?_|refine ZA (by assumption) rfl ?_|refine ZB (by assumption) rfl ?_|refine Z6 ?_|refine Z7 ?_|refine Z8 ?_)|((with_reducible refine ZM ?_ ?_);(focus rfl)));(conv=>whnf)))
  refine HCall.mk ((rlist_spec l hl _).mono ?_)
  rintro e h2 ⟨a, c, rfl, s2, x2⟩
  have hll : (ulist l).length ≤ 1048576 := by omega
  generalize ulist l = ul at *
  ((conv=>whnf);repeat((first|(with_reducible first|refine Z2 ?_|refine Z3 ?_|refine Z4 ?_|refine Z5 ?_|refine Z9 (by assumption) rfl ?_|refine ZA (by assumption) rfl ?_|refine ZB (by assumption) rfl ?_|refine Z6 ?_|refine Z7 ?_|refine Z8 ?_)|((with_reducible refine ZM ?_ ?_);(focus rfl)));(conv=>whnf)))
  refine cut_rule [4] (fun vs h' => ∃ (m : List Nat) (a4 : Option Addr) (c4 : Nat), vs = [.slice a4 m.length c4] ∧ m.length ≤ 1048576 ∧ (∀ n ∈ m, n < 65536) ∧ Sl h' 1 a4 m.length c4 (m.map natV) ∧ ul.dropWhile blankN = m ∧ h' = h2) rfl ?_ ?_
  · ((conv=>whnf);repeat((first|(with_reducible first|refine Z1 ?_|refine Z2 ?_|refine Z3 ?_|refine Z4 ?_|refine Z5 ?_|refine Z9 (by assumption) rfl ?_|refine ZA (by assumption) rfl ?_|refine ZB (by assumption) rfl ?_|refine Z6 ?_|refine Z7 ?_|refine Z8 ?_)|((with_reducible refine ZM ?_ ?_);(focus rfl)));(conv=>whnf)))
    refine loop_rule [4] (fun vs h' => ∃ (m : List Nat) (a4 : Option Addr) (c4 : Nat), vs = [.slice a4 m.length c4] ∧ m.length ≤ 1048576 ∧ (∀ n ∈ m, n < 65536) ∧ Sl h' 1 a4 m.length c4 (m.map natV) ∧ ul.dropWhile blankN = m.dropWhile blankN ∧ h' = h2)
      (fun vs _ => match vs with | [.slice _ n _] => n | _ => 0) rfl ?_ ?_
    · exact ⟨ul, a, c, rfl, hll, hlt16, s2, rfl, rfl⟩
    intro u h2 v4
    rintro ⟨m, a4, c4, e, hml, hm16, s4, hdr, rfl⟩
    cases e
    have hc4 := s4.2.1
    cases m with
    | nil =>
      have q : decide ((([] : List Nat).length : Int) > 0) = false := rfl
      ((conv=>whnf);repeat((first|(with_reducible first|refine Z1 ?_|refine Z2 ?_|refine Z3 ?_|refine Z4 ?_|refine Z5 ?_|refine Z9 (by assumption) rfl ?_|refine ZA (by assumption) rfl ?_|refine ZB (by assumption) rfl ?_|refine Z6 ?_|refine Z7 ?_|refine Z8 ?_)|((with_reducible refine ZM ?_ ?_);(focus rfl)));(conv=>whnf)))
      exact ⟨[], a4, c4, rfl, hml, hm16, s4, hdr, rfl⟩
    | cons d r =>
      have q : decide (((d :: r).length : Int) > 0) = true := decide_eq_true (by simp only [List.length_cons]; omega)
      have hi1 : 0 < (d :: r).length := by simp
      ((conv=>whnf);repeat((first|(with_reducible first|refine Z1 ?_|refine Z2 ?_|refine Z3 ?_|refine Z4 ?_|refine Z5 ?_|refine Z9 (by assumption) rfl ?_|refine ZA (by assumption) rfl ?_|refine ZB (by assumption) rfl ?_|refine Z6 ?_|refine Z7 ?_|refine Z8 ?_)|((with_reducible refine ZM ?_ ?_);(focus rfl)));(conv=>whnf)))
      refine HIdx.mk 0 rfl hi1 ?_
      refine sl_some s4 hi1 fun p ep => ?_
      ((conv=>whnf);repeat((first|(with_reducible first|refine Z1 ?_|refine Z2 ?_|refine Z3 ?_|refine Z4 ?_|refine Z5 ?_|refine Z9 (by assumption) rfl ?_|refine ZA (by assumption) rfl ?_|refine ZB (by assumption) rfl ?_|refine Z6 ?_|refine Z7 ?_|refine Z8 ?_)|((with_reducible refine ZM ?_ ?_);(focus rfl)));(conv=>whnf)))
      refine s4.load ep (by simp) ?_
      rw [List.getElem_map]
      unfold natV
      ((conv=>whnf);repeat((first|(with_reducible first|refine Z1 ?_|refine Z2 ?_|refine Z3 ?_|refine Z4 ?_|refine Z5 ?_|refine Z9 (by assumption) rfl ?_|refine ZA (by assumption) rfl ?_|refine ZB (by assumption) rfl ?_|refine Z6 ?_|refine Z7 ?_|refine Z8 ?_)|((with_reducible refine ZM ?_ ?_);(focus rfl)));(conv=>whnf)))
      refine HCall.mk ((rblank_spec d _).mono ?_)
      rintro e h2 ⟨rfl, rfl⟩
      cases hb : blankN d
      · ((conv=>whnf);repeat((first|(with_reducible first|refine Z1 ?_|refine Z2 ?_|refine Z3 ?_|refine Z4 ?_|refine Z5 ?_|refine Z9 (by assumption) rfl ?_|refine ZA (by assumption) rfl ?_|refine ZB (by assumption) rfl ?_|refine Z6 ?_|refine Z7 ?_|refine Z8 ?_)|((with_reducible refine ZM ?_ ?_);(focus rfl)));(conv=>whnf)))
        exact ⟨d :: r, a4, c4, rfl, hml, hm16, s4, by rw [hdr]; simp [hb], rfl⟩
      · ((conv=>whnf);repeat((first|(with_reducible first|refine Z1 ?_|refine Z2 ?_|refine Z3 ?_|refine Z4 ?_|refine Z5 ?_|refine Z9 (by assumption) rfl ?_|refine ZA (by assumption) rfl ?_|refine ZB (by assumption) rfl ?_|refine Z6 ?_|refine Z7 ?_|refine Z8 ?_)|((with_reducible refine ZM ?_ ?_);(focus rfl)));(conv=>whnf)))
        refine HBound.mk 1 rfl (by show 1 ≤ (d :: r).length; simp) ?_
        ((conv=>whnf);repeat((first|(with_reducible first|refine Z1 ?_|refine Z2 ?_|refine Z3 ?_|refine Z4 ?_|refine Z5 ?_|refine Z9 (by assumption) rfl ?_|refine ZA (by assumption) rfl ?_|refine ZB (by assumption) rfl ?_|refine Z6 ?_|refine Z7 ?_|refine Z8 ?_)|((with_reducible refine ZM ?_ ?_);(focus rfl)));(conv=>whnf)))
        have s5 := take_drop_sl s4 (i := 1) (j := (d :: r).length) (by omega) (by omega)
        rw [List.take_length] at s5
        refine ⟨⟨r, _, _, ?_, by simp only [List.length_cons] at hml; omega, fun n hn => hm16 n (List.mem_cons_of_mem _ hn), s5, by rw [hdr]; simp [hb], rfl⟩, ?_⟩
        · rfl
        · show r.length + 1 - 1 < r.length + 1
          omega
  intro u h2 v4
  rintro ⟨d, a3, c3, e, hdl, hd16, s3, hd, rfl⟩
  cases e
  rw [hd]
  clear hd s2 hlt16 hll hul
  ((conv=>whnf);repeat((first|(with_reducible first|refine Z2 ?_|refine Z3 ?_|refine Z4 ?_|refine Z5 ?_|refine Z9 (by assumption) rfl ?_|refine ZA (by assumption) rfl ?_|refine ZB (by assumption) rfl ?_|refine Z6 ?_|refine Z7 ?_|refine Z8 ?_)|((with_reducible refine ZM ?_ ?_);(focus rfl)));(conv=>whnf)))
  refine cut_rule [4] (fun vs h' => ∃ (m : List Nat) (a4 : Option Addr) (c4 : Nat), vs = [.slice a4 m.length c4] ∧ m.length ≤ 1048576 ∧ (∀ n ∈ m, n < 65536) ∧ Sl h' 1 a4 m.length c4 (m.map natV) ∧ trimE d = m ∧ h' = h2) rfl ?_ ?_
  · ((conv=>whnf);repeat((first|(with_reducible first|refine Z1 ?_|refine Z2 ?_|refine Z3 ?_|refine Z4 ?_|refine Z5 ?_|refine Z9 (by assumption) rfl ?_|refine ZA (by assumption) rfl ?_|refine ZB (by assumption) rfl ?_|refine Z6 ?_|refine Z7 ?_|refine Z8 ?_)|((with_reducible refine ZM ?_ ?_);(focus rfl)));(conv=>whnf)))
    refine loop_rule [4] (fun vs h' => ∃ (m : List Nat) (a4 : Option Addr) (c4 : Nat), vs = [.slice a4 m.length c4] ∧ m.length ≤ 1048576 ∧ (∀ n ∈ m, n < 65536) ∧ Sl h' 1 a4 m.length c4 (m.map natV) ∧ trimE d = trimE m ∧ h' = h2)
      (fun vs _ => match vs with | [.slice _ n _] => n | _ => 0) rfl ?_ ?_
    · exact ⟨d, a3, c3, rfl, hdl, hd16, s3, rfl, rfl⟩
    intro u h2 v4
    rintro ⟨m, a4, c4, e, hml, hm16, s4, htr, rfl⟩
    cases e
    have hc4 := s4.2.1
    by_cases hm0 : m = []
    · subst hm0
      have q : decide ((([] : List Nat).length : Int) > 0) = false := rfl
      ((conv=>whnf);repeat((first|(with_reducible first|refine Z1 ?_|refine Z2 ?_|refine Z3 ?_|refine Z4 ?_|refine Z5 ?_|refine Z9 (by assumption) rfl ?_|refine ZA (by assumption) rfl ?_|refine ZB (by assumption) rfl ?_|refine Z6 ?_|refine Z7 ?_|refine Z8 ?_)|((with_reducible refine ZM ?_ ?_);(focus rfl)));(conv=>whnf)))
      exact ⟨[], a4, c4, rfl, hml, hm16, s4, htr, rfl⟩
    have hpos := List.length_pos_iff.2 hm0
    have q : decide ((m.length : Int) > 0) = true := decide_eq_true (by omega)
    have hi1 : m.length - 1 < m.length := by omega
    have hsplit : m = m.take (m.length - 1) ++ [m[m.length - 1]] := by
      have := List.take_append_drop (m.length - 1) m
      have hd : m.drop (m.length - 1) = [m[m.length - 1]] := by rw [List.drop_eq_getElem_cons hi1, List.drop_of_length_le (by omega)]
      rw [hd] at this
      exact this.symm
    ((conv=>whnf);repeat((first|(with_reducible first|refine Z1 ?_|refine Z2 ?_|refine Z3 ?_|refine Z4 ?_|refine Z5 ?_|refine Z9 (by assumption) rfl ?_|refine ZA (by assumption) rfl ?_|refine ZB (by assumption) rfl ?_|refine Z6 ?_|refine Z7 ?_|refine Z8 ?_)|((with_reducible refine ZM ?_ ?_);(focus rfl)));(conv=>whnf)))
    refine HIdx.mk (m.length - 1) (by omega) hi1 ?_
    refine sl_some s4 hi1 fun p ep => ?_
    ((conv=>whnf);repeat((first|(with_reducible first|refine Z1 ?_|refine Z2 ?_|refine Z3 ?_|refine Z4 ?_|refine Z5 ?_|refine Z9 (by assumption) rfl ?_|refine ZA (by assumption) rfl ?_|refine ZB (by assumption) rfl ?_|refine Z6 ?_|refine Z7 ?_|refine Z8 ?_)|((with_reducible refine ZM ?_ ?_);(focus rfl)));(conv=>whnf)))
    refine s4.load ep (by simpa using hi1) ?_
    rw [List.getElem_map]
    unfold natV
    ((conv=>whnf);repeat((first|(with_reducible first|refine Z1 ?_|refine Z2 ?_|refine Z3 ?_|refine Z4 ?_|refine Z5 ?_|refine Z9 (by assumption) rfl ?_|refine ZA (by assumption) rfl ?_|refine ZB (by assumption) rfl ?_|refine Z6 ?_|refine Z7 ?_|refine Z8 ?_)|((with_reducible refine ZM ?_ ?_);(focus rfl)));(conv=>whnf)))
    refine HCall.mk ((rblank_spec m[m.length - 1] _).mono ?_)
    rintro e h2 ⟨rfl, rfl⟩
    cases hb : blankN m[m.length - 1]
    · ((conv=>whnf);repeat((first|(with_reducible first|refine Z1 ?_|refine Z2 ?_|refine Z3 ?_|refine Z4 ?_|refine Z5 ?_|refine Z9 (by assumption) rfl ?_|refine ZA (by assumption) rfl ?_|refine ZB (by assumption) rfl ?_|refine Z6 ?_|refine Z7 ?_|refine Z8 ?_)|((with_reducible refine ZM ?_ ?_);(focus rfl)));(conv=>whnf)))
      refine ⟨m, a4, c4, rfl, hml, hm16, s4, ?_, rfl⟩
      rw [htr]
      conv => lhs; rw [hsplit]
      rw [trimE_solid hb]
      exact hsplit.symm
    · ((conv=>whnf);repeat((first|(with_reducible first|refine Z1 ?_|refine Z2 ?_|refine Z3 ?_|refine Z4 ?_|refine Z5 ?_|refine Z9 (by assumption) rfl ?_|refine ZA (by assumption) rfl ?_|refine ZB (by assumption) rfl ?_|refine Z6 ?_|refine Z7 ?_|refine Z8 ?_)|((with_reducible refine ZM ?_ ?_);(focus rfl)));(conv=>whnf)))
      refine HBound.mk (m.length - 1) (by omega) (by omega) ?_
      ((conv=>whnf);repeat((first|(with_reducible first|refine Z1 ?_|refine Z2 ?_|refine Z3 ?_|refine Z4 ?_|refine Z5 ?_|refine Z9 (by assumption) rfl ?_|refine ZA (by assumption) rfl ?_|refine ZB (by assumption) rfl ?_|refine Z6 ?_|refine Z7 ?_|refine Z8 ?_)|((with_reducible refine ZM ?_ ?_);(focus rfl)));(conv=>whnf)))
      have s5 := take_drop_sl s4 (i := 0) (j := m.length - 1) (by omega) (by omega)
      rw [List.drop_zero] at s5
      have hlt' : (m.take (m.length - 1)).length = m.length - 1 := by rw [List.length_take]; omega
      refine ⟨⟨m.take (m.length - 1), _, _, by rw [hlt']; rfl, by omega, fun n hn => hm16 n (List.mem_of_mem_take hn), s5, ?_, rfl⟩, ?_⟩
      · rw [htr]
        conv => lhs; rw [hsplit]
        rw [trimE_blank hb]
      · show m.length - 1 - 0 < m.length
        omega
  intro u h2 v4
  rintro ⟨t, a4, c4, e, htl, ht16, s4, htr, rfl⟩
  cases e
  rw [htr]
  clear htr hd16 s3 hdl
  by_cases ht0 : t = []
  · subst ht0
    have q : ((([] : List Nat).length : Int) == 0) = true := rfl
    rw [show refU [] = some 0 from rfl]
    ((conv=>whnf);repeat((first|(with_reducible first|refine Z1 ?_|refine Z2 ?_|refine Z3 ?_|refine Z4 ?_|refine Z5 ?_|refine Z9 (by assumption) rfl ?_|refine ZA (by assumption) rfl ?_|refine ZB (by assumption) rfl ?_|refine Z6 ?_|refine Z7 ?_|refine Z8 ?_)|((with_reducible refine ZM ?_ ?_);(focus rfl)));(conv=>whnf)))
    exact ⟨rfl, x2⟩
  have hpos := List.length_pos_iff.2 ht0
  have q : ((t.length : Int) == 0) = false := by rw [beq_eq_false_iff_ne]; omega
  rw [show refU t = refT (refB t) from if_neg ht0]
  ((conv=>whnf);repeat((first|(with_reducible first|refine Z2 ?_|refine Z3 ?_|refine Z4 ?_|refine Z5 ?_|refine Z9 (by assumption) rfl ?_|refine ZA (by assumption) rfl ?_|refine ZB (by assumption) rfl ?_|refine Z6 ?_|refine Z7 ?_|refine Z8 ?_)|((with_reducible refine ZM ?_ ?_);(focus rfl)));(conv=>whnf)))
  refine Z1 ?_
  ((conv=>whnf);repeat((first|(with_reducible first|refine Z2 ?_|refine Z3 ?_|refine Z4 ?_|refine Z5 ?_|refine Z9 (by assumption) rfl ?_|refine ZA (by assumption) rfl ?_|refine ZB (by assumption) rfl ?_|refine Z6 ?_|refine Z7 ?_|refine Z8 ?_)|((with_reducible refine ZM ?_ ?_);(focus rfl)));(conv=>whnf)))
  refine cut_rule [4, 5, 6] (fun vs h' => ∃ (a5 : Option Addr) (c5 : Nat), vs = [.slice a5 (refB t).2.2.length c5, .int .i64 ((refB t).1 : Nat), .int .i64 (refB t).2.1] ∧ Sl h' 1 a5 (refB t).2.2.length c5 ((refB t).2.2.map natV) ∧ h' = h2) rfl ?_ ?_
  · have hc4 := s4.2.1
    cases t with
    | nil => exact absurd rfl ht0
    | cons d r =>
    have s5 := take_drop_sl s4 (i := 1) (j := (d :: r).length) (by omega) (by omega)
    rw [List.take_length] at s5
    have hi0 : 0 < (d :: r).length := by simp
    ((conv=>whnf);repeat((first|(with_reducible first|refine Z1 ?_|refine Z2 ?_|refine Z3 ?_|refine Z4 ?_|refine Z5 ?_|refine Z9 (by assumption) rfl ?_|refine ZA (by assumption) rfl ?_|refine ZB (by assumption) rfl ?_|refine Z6 ?_|refine Z7 ?_|refine Z8 ?_)|((with_reducible refine ZM ?_ ?_);(focus rfl)));(conv=>whnf)))
    refine HIdx.mk 0 rfl hi0 ?_
    refine sl_some s4 hi0 fun p ep => ?_
    ((conv=>whnf);repeat((first|(with_reducible first|refine Z1 ?_|refine Z2 ?_|refine Z3 ?_|refine Z4 ?_|refine Z5 ?_|refine Z9 (by assumption) rfl ?_|refine ZA (by assumption) rfl ?_|refine ZB (by assumption) rfl ?_|refine Z6 ?_|refine Z7 ?_|refine Z8 ?_)|((with_reducible refine ZM ?_ ?_);(focus rfl)));(conv=>whnf)))
    refine s4.load ep (by simp) ?_
    rw [List.getElem_map, List.getElem_cons_zero]
    unfold natV
    by_cases h43 : d = 43
    · have q1 : (((d : Nat) : Int) == 43) = true := by rw [h43]; rfl
      have q2 : (((d : Nat) : Int) == 45) = false := by rw [h43]; rfl
      have eB : refB (d :: r) = (10, 1, r) := if_pos h43
      rw [eB]
      ((conv=>whnf);repeat((first|(with_reducible first|refine Z1 ?_|refine Z2 ?_|refine Z3 ?_|refine Z4 ?_|refine Z5 ?_|refine Z9 (by assumption) rfl ?_|refine ZA (by assumption) rfl ?_|refine ZB (by assumption) rfl ?_|refine Z6 ?_|refine Z7 ?_|refine Z8 ?_)|((with_reducible refine ZM ?_ ?_);(focus rfl)));(conv=>whnf)))
      refine HIdx.mk 0 rfl hi0 ?_
      refine sl_some s4 hi0 fun p ep => ?_
      ((conv=>whnf);repeat((first|(with_reducible first|refine Z1 ?_|refine Z2 ?_|refine Z3 ?_|refine Z4 ?_|refine Z5 ?_|refine Z9 (by assumption) rfl ?_|refine ZA (by assumption) rfl ?_|refine ZB (by assumption) rfl ?_|refine Z6 ?_|refine Z7 ?_|refine Z8 ?_)|((with_reducible refine ZM ?_ ?_);(focus rfl)));(conv=>whnf)))
      refine s4.load ep (by simp) ?_
      rw [List.getElem_map, List.getElem_cons_zero]
      unfold natV
      ((conv=>whnf);repeat((first|(with_reducible first|refine Z1 ?_|refine Z2 ?_|refine Z3 ?_|refine Z4 ?_|refine Z5 ?_|refine Z9 (by assumption) rfl ?_|refine ZA (by assumption) rfl ?_|refine ZB (by assumption) rfl ?_|refine Z6 ?_|refine Z7 ?_|refine Z8 ?_)|((with_reducible refine ZM ?_ ?_);(focus rfl)));(conv=>whnf)))
      refine HBound.mk 1 rfl (by show 1 ≤ (d :: r).length; simp) ?_
      ((conv=>whnf);repeat((first|(with_reducible first|refine Z1 ?_|refine Z2 ?_|refine Z3 ?_|refine Z4 ?_|refine Z5 ?_|refine Z9 (by assumption) rfl ?_|refine ZA (by assumption) rfl ?_|refine ZB (by assumption) rfl ?_|refine Z6 ?_|refine Z7 ?_|refine Z8 ?_)|((with_reducible refine ZM ?_ ?_);(focus rfl)));(conv=>whnf)))
      exact ⟨_, _, rfl, s5, rfl⟩
    have q1 : (((d : Nat) : Int) == 43) = false := by rw [beq_eq_false_iff_ne]; omega
    by_cases h45 : d = 45
    · have q2 : (((d : Nat) : Int) == 45) = true := by rw [h45]; rfl
      have eB : refB (d :: r) = (10, -1, r) := (if_neg h43).trans (if_pos h45)
      rw [eB]
      ((conv=>whnf);repeat((first|(with_reducible first|refine Z1 ?_|refine Z2 ?_|refine Z3 ?_|refine Z4 ?_|refine Z5 ?_|refine Z9 (by assumption) rfl ?_|refine ZA (by assumption) rfl ?_|refine ZB (by assumption) rfl ?_|refine Z6 ?_|refine Z7 ?_|refine Z8 ?_)|((with_reducible refine ZM ?_ ?_);(focus rfl)));(conv=>whnf)))
      refine HIdx.mk 0 rfl hi0 ?_
      refine sl_some s4 hi0 fun p ep => ?_
      ((conv=>whnf);repeat((first|(with_reducible first|refine Z1 ?_|refine Z2 ?_|refine Z3 ?_|refine Z4 ?_|refine Z5 ?_|refine Z9 (by assumption) rfl ?_|refine ZA (by assumption) rfl ?_|refine ZB (by assumption) rfl ?_|refine Z6 ?_|refine Z7 ?_|refine Z8 ?_)|((with_reducible refine ZM ?_ ?_);(focus rfl)));(conv=>whnf)))
      refine s4.load ep (by simp) ?_
      rw [List.getElem_map, List.getElem_cons_zero]
      unfold natV
      ((conv=>whnf);repeat((first|(with_reducible first|refine Z1 ?_|refine Z2 ?_|refine Z3 ?_|refine Z4 ?_|refine Z5 ?_|refine Z9 (by assumption) rfl ?_|refine ZA (by assumption) rfl ?_|refine ZB (by assumption) rfl ?_|refine Z6 ?_|refine Z7 ?_|refine Z8 ?_)|((with_reducible refine ZM ?_ ?_);(focus rfl)));(conv=>whnf)))
      refine HIdx.mk 0 rfl hi0 ?_
      refine sl_some s4 hi0 fun p ep => ?_
      ((conv=>whnf);repeat((first|(with_reducible first|refine Z1 ?_|refine Z2 ?_|refine Z3 ?_|refine Z4 ?_|refine Z5 ?_|refine Z9 (by assumption) rfl ?_|refine ZA (by assumption) rfl ?_|refine ZB (by assumption) rfl ?_|refine Z6 ?_|refine Z7 ?_|refine Z8 ?_)|((with_reducible refine ZM ?_ ?_);(focus rfl)));(conv=>whnf)))
      refine s4.load ep (by simp) ?_
      rw [List.getElem_map, List.getElem_cons_zero]
      unfold natV
      ((conv=>whnf);repeat((first|(with_reducible first|refine Z1 ?_|refine Z2 ?_|refine Z3 ?_|refine Z4 ?_|refine Z5 ?_|refine Z9 (by assumption) rfl ?_|refine ZA (by assumption) rfl ?_|refine ZB (by assumption) rfl ?_|refine Z6 ?_|refine Z7 ?_|refine Z8 ?_)|((with_reducible refine ZM ?_ ?_);(focus rfl)));(conv=>whnf)))
      refine HBound.mk 1 rfl (by show 1 ≤ (d :: r).length; simp) ?_
      ((conv=>whnf);repeat((first|(with_reducible first|refine Z1 ?_|refine Z2 ?_|refine Z3 ?_|refine Z4 ?_|refine Z5 ?_|refine Z9 (by assumption) rfl ?_|refine ZA (by assumption) rfl ?_|refine ZB (by assumption) rfl ?_|refine Z6 ?_|refine Z7 ?_|refine Z8 ?_)|((with_reducible refine ZM ?_ ?_);(focus rfl)));(conv=>whnf)))
      exact ⟨_, _, rfl, s5, rfl⟩
    have q2 : (((d : Nat) : Int) == 45) = false := by rw [beq_eq_false_iff_ne]; omega
    ((conv=>whnf);repeat((first|(with_reducible first|refine Z1 ?_|refine Z2 ?_|refine Z3 ?_|refine Z4 ?_|refine Z5 ?_|refine Z9 (by assumption) rfl ?_|refine ZA (by assumption) rfl ?_|refine ZB (by assumption) rfl ?_|refine Z6 ?_|refine Z7 ?_|refine Z8 ?_)|((with_reducible refine ZM ?_ ?_);(focus rfl)));(conv=>whnf)))
    refine HIdx.mk 0 rfl hi0 ?_
    refine sl_some s4 hi0 fun p ep => ?_
    ((conv=>whnf);repeat((first|(with_reducible first|refine Z1 ?_|refine Z2 ?_|refine Z3 ?_|refine Z4 ?_|refine Z5 ?_|refine Z9 (by assumption) rfl ?_|refine ZA (by assumption) rfl ?_|refine ZB (by assumption) rfl ?_|refine Z6 ?_|refine Z7 ?_|refine Z8 ?_)|((with_reducible refine ZM ?_ ?_);(focus rfl)));(conv=>whnf)))
    refine s4.load ep (by simp) ?_
    rw [List.getElem_map, List.getElem_cons_zero]
    unfold natV
    cases r with
    | nil =>
      have q3 : decide ((([d] : List Nat).length : Int) > 1) = false := rfl
      have eB : refB [d] = (10, 1, [d]) := (if_neg h43).trans (if_neg h45)
      rw [eB]
      ((conv=>whnf);repeat((first|(with_reducible first|refine Z1 ?_|refine Z2 ?_|refine Z3 ?_|refine Z4 ?_|refine Z5 ?_|refine Z9 (by assumption) rfl ?_|refine ZA (by assumption) rfl ?_|refine ZB (by assumption) rfl ?_|refine Z6 ?_|refine Z7 ?_|refine Z8 ?_)|((with_reducible refine ZM ?_ ?_);(focus rfl)));(conv=>whnf)))
      exact ⟨_, _, rfl, s4, rfl⟩
    | cons x r' =>
      have q3 : decide (((d :: x :: r').length : Int) > 1) = true := decide_eq_true (by simp only [List.length_cons]; omega)
      have hi1 : 1 < (d :: x :: r').length := by simp
      have hyes : d = 48 ∧ (x = 120 ∨ x = 88) → refB (d :: x :: r') = (16, 1, r') := fun k => ((if_neg h43).trans (if_neg h45)).trans (if_pos k)
      have hno : ¬ (d = 48 ∧ (x = 120 ∨ x = 88)) → refB (d :: x :: r') = (10, 1, d :: x :: r') := fun k => ((if_neg h43).trans (if_neg h45)).trans (if_neg k)
      have s6 := take_drop_sl s4 (i := 2) (j := (d :: x :: r').length) (by simp) (by omega)
      rw [List.take_length] at s6
      ((conv=>whnf);repeat((first|(with_reducible first|refine Z1 ?_|refine Z2 ?_|refine Z3 ?_|refine Z4 ?_|refine Z5 ?_|refine Z9 (by assumption) rfl ?_|refine ZA (by assumption) rfl ?_|refine ZB (by assumption) rfl ?_|refine Z6 ?_|refine Z7 ?_|refine Z8 ?_)|((with_reducible refine ZM ?_ ?_);(focus rfl)));(conv=>whnf)))
      refine HIdx.mk 0 rfl hi0 ?_
      refine sl_some s4 hi0 fun p ep => ?_
      ((conv=>whnf);repeat((first|(with_reducible first|refine Z1 ?_|refine Z2 ?_|refine Z3 ?_|refine Z4 ?_|refine Z5 ?_|refine Z9 (by assumption) rfl ?_|refine ZA (by assumption) rfl ?_|refine ZB (by assumption) rfl ?_|refine Z6 ?_|refine Z7 ?_|refine Z8 ?_)|((with_reducible refine ZM ?_ ?_);(focus rfl)));(conv=>whnf)))
      refine s4.load ep (by simp) ?_
      rw [List.getElem_map, List.getElem_cons_zero]
      unfold natV
      by_cases h48 : d = 48
      · have q4 : (((d : Nat) : Int) == 48) = true := by rw [h48]; rfl
        ((conv=>whnf);repeat((first|(with_reducible first|refine Z1 ?_|refine Z2 ?_|refine Z3 ?_|refine Z4 ?_|refine Z5 ?_|refine Z9 (by assumption) rfl ?_|refine ZA (by assumption) rfl ?_|refine ZB (by assumption) rfl ?_|refine Z6 ?_|refine Z7 ?_|refine Z8 ?_)|((with_reducible refine ZM ?_ ?_);(focus rfl)));(conv=>whnf)))
        refine HIdx.mk 1 rfl hi1 ?_
        refine sl_some s4 hi1 fun p ep => ?_
        ((conv=>whnf);repeat((first|(with_reducible first|refine Z1 ?_|refine Z2 ?_|refine Z3 ?_|refine Z4 ?_|refine Z5 ?_|refine Z9 (by assumption) rfl ?_|refine ZA (by assumption) rfl ?_|refine ZB (by assumption) rfl ?_|refine Z6 ?_|refine Z7 ?_|refine Z8 ?_)|((with_reducible refine ZM ?_ ?_);(focus rfl)));(conv=>whnf)))
        refine s4.load ep (by simp) ?_
        rw [List.getElem_map, List.getElem_cons_succ, List.getElem_cons_zero]
        unfold natV
        by_cases hx : x = 120
        · have q5 : (((x : Nat) : Int) == 120) = true := by rw [hx]; rfl
          rw [hyes ⟨h48, .inl hx⟩]
          ((conv=>whnf);repeat((first|(with_reducible first|refine Z1 ?_|refine Z2 ?_|refine Z3 ?_|refine Z4 ?_|refine Z5 ?_|refine Z9 (by assumption) rfl ?_|refine ZA (by assumption) rfl ?_|refine ZB (by assumption) rfl ?_|refine Z6 ?_|refine Z7 ?_|refine Z8 ?_)|((with_reducible refine ZM ?_ ?_);(focus rfl)));(conv=>whnf)))
          refine HBound.mk 2 rfl (by show 2 ≤ (d :: x :: r').length; simp) ?_
          ((conv=>whnf);repeat((first|(with_reducible first|refine Z1 ?_|refine Z2 ?_|refine Z3 ?_|refine Z4 ?_|refine Z5 ?_|refine Z9 (by assumption) rfl ?_|refine ZA (by assumption) rfl ?_|refine ZB (by assumption) rfl ?_|refine Z6 ?_|refine Z7 ?_|refine Z8 ?_)|((with_reducible refine ZM ?_ ?_);(focus rfl)));(conv=>whnf)))
          exact ⟨_, _, rfl, s6, rfl⟩
        have q5 : (((x : Nat) : Int) == 120) = false := by rw [beq_eq_false_iff_ne]; omega
        ((conv=>whnf);repeat((first|(with_reducible first|refine Z1 ?_|refine Z2 ?_|refine Z3 ?_|refine Z4 ?_|refine Z5 ?_|refine Z9 (by assumption) rfl ?_|refine ZA (by assumption) rfl ?_|refine ZB (by assumption) rfl ?_|refine Z6 ?_|refine Z7 ?_|refine Z8 ?_)|((with_reducible refine ZM ?_ ?_);(focus rfl)));(conv=>whnf)))
        refine HIdx.mk 1 rfl hi1 ?_
        refine sl_some s4 hi1 fun p ep => ?_
        ((conv=>whnf);repeat((first|(with_reducible first|refine Z1 ?_|refine Z2 ?_|refine Z3 ?_|refine Z4 ?_|refine Z5 ?_|refine Z9 (by assumption) rfl ?_|refine ZA (by assumption) rfl ?_|refine ZB (by assumption) rfl ?_|refine Z6 ?_|refine Z7 ?_|refine Z8 ?_)|((with_reducible refine ZM ?_ ?_);(focus rfl)));(conv=>whnf)))
        refine s4.load ep (by simp) ?_
        rw [List.getElem_map, List.getElem_cons_succ, List.getElem_cons_zero]
        unfold natV
        by_cases hX : x = 88
        · have q6 : (((x : Nat) : Int) == 88) = true := by rw [hX]; rfl
          rw [hyes ⟨h48, .inr hX⟩]
          ((conv=>whnf);repeat((first|(with_reducible first|refine Z1 ?_|refine Z2 ?_|refine Z3 ?_|refine Z4 ?_|refine Z5 ?_|refine Z9 (by assumption) rfl ?_|refine ZA (by assumption) rfl ?_|refine ZB (by assumption) rfl ?_|refine Z6 ?_|refine Z7 ?_|refine Z8 ?_)|((with_reducible refine ZM ?_ ?_);(focus rfl)));(conv=>whnf)))
          refine HBound.mk 2 rfl (by show 2 ≤ (d :: x :: r').length; simp) ?_
          ((conv=>whnf);repeat((first|(with_reducible first|refine Z1 ?_|refine Z2 ?_|refine Z3 ?_|refine Z4 ?_|refine Z5 ?_|refine Z9 (by assumption) rfl ?_|refine ZA (by assumption) rfl ?_|refine ZB (by assumption) rfl ?_|refine Z6 ?_|refine Z7 ?_|refine Z8 ?_)|((with_reducible refine ZM ?_ ?_);(focus rfl)));(conv=>whnf)))
          exact ⟨_, _, rfl, s6, rfl⟩
        · have q6 : (((x : Nat) : Int) == 88) = false := by rw [beq_eq_false_iff_ne]; omega
          rw [hno (by omega)]
          ((conv=>whnf);repeat((first|(with_reducible first|refine Z1 ?_|refine Z2 ?_|refine Z3 ?_|refine Z4 ?_|refine Z5 ?_|refine Z9 (by assumption) rfl ?_|refine ZA (by assumption) rfl ?_|refine ZB (by assumption) rfl ?_|refine Z6 ?_|refine Z7 ?_|refine Z8 ?_)|((with_reducible refine ZM ?_ ?_);(focus rfl)));(conv=>whnf)))
          exact ⟨_, _, rfl, s4, rfl⟩
      · have q4 : (((d : Nat) : Int) == 48) = false := by rw [beq_eq_false_iff_ne]; omega
        rw [hno (by omega)]
        ((conv=>whnf);repeat((first|(with_reducible first|refine Z1 ?_|refine Z2 ?_|refine Z3 ?_|refine Z4 ?_|refine Z5 ?_|refine Z9 (by assumption) rfl ?_|refine ZA (by assumption) rfl ?_|refine ZB (by assumption) rfl ?_|refine Z6 ?_|refine Z7 ?_|refine Z8 ?_)|((with_reducible refine ZM ?_ ?_);(focus rfl)));(conv=>whnf)))
        exact ⟨_, _, rfl, s4, rfl⟩
  intro u h2 v4 v5 v6
  rintro ⟨a5, c5, e, s5, rfl⟩
  cases e
  obtain ⟨hb, hsg, hrl, hr16⟩ := refB_ok t htl ht16
  rw [show refT (refB t) = (if (refB t).2.2 = [] then none else match refD (refB t).1 (refB t).2.2 0 with | some v => nTold ((refB t).2.1 * v) true | none => none) from rfl]
  generalize (refB t).1 = base at *
  generalize (refB t).2.1 = sg at *
  generalize (refB t).2.2 = m at *
  clear s4 ht0 hpos q htl ht16 hodd
  by_cases hm : m = []
  · subst hm
    rw [if_pos rfl]
    have q : ((([] : List Nat).length : Int) == 0) = true := rfl
    ((conv=>whnf);repeat((first|(with_reducible first|refine Z1 ?_|refine Z2 ?_|refine Z3 ?_|refine Z4 ?_|refine Z5 ?_|refine Z9 (by assumption) rfl ?_|refine ZA (by assumption) rfl ?_|refine ZB (by assumption) rfl ?_|refine Z6 ?_|refine Z7 ?_|refine Z8 ?_)|((with_reducible refine ZM ?_ ?_);(focus rfl)));(conv=>whnf)))
    exact ⟨rfl, x2⟩
  have hpos := List.length_pos_iff.2 hm
  have q : ((m.length : Int) == 0) = false := by rw [beq_eq_false_iff_ne]; omega
  rw [if_neg hm]
  have s5c := s5.2.1
  rcases hb with rfl | rfl
  · ((conv=>whnf);repeat((first|(with_reducible first|refine Z1 ?_|refine Z2 ?_|refine Z3 ?_|refine Z4 ?_|refine Z5 ?_|refine Z9 (by assumption) rfl ?_|refine ZA (by assumption) rfl ?_|refine ZB (by assumption) rfl ?_|refine Z6 ?_|refine Z7 ?_|refine Z8 ?_)|((with_reducible refine ZM ?_ ?_);(focus rfl)));(conv=>whnf)))
    refine loop_rule [7, 92] (fun vs h' => ∃ (i acc : Nat), vs = [.int .i64 acc, .int .i64 i] ∧ i ≤ m.length ∧ acc ≤ 144115188075855888 ∧ refD 10 m 0 = refD 10 (m.drop i) acc ∧ h' = h2)
      (fun vs _ => match vs with | [_, .int _ i] => m.length - i.toNat | _ => 0) rfl ?_ ?_
    · exact ⟨0, 0, rfl, by omega, by omega, rfl, rfl⟩
    intro u h2 v7 v92
    rintro ⟨i, acc, e, hi, hacc, hrd, rfl⟩
    cases e
    rw [hrd]
    ((conv=>whnf);repeat((first|(with_reducible first|refine Z1 ?_|refine Z2 ?_|refine Z3 ?_|refine Z4 ?_|refine Z5 ?_|refine Z9 (by assumption) rfl ?_|refine ZA (by assumption) rfl ?_|refine ZB (by assumption) rfl ?_|refine Z6 ?_|refine Z7 ?_|refine Z8 ?_)|((with_reducible refine ZM ?_ ?_);(focus rfl)));(conv=>whnf)))
    refine HIf.mk (fun hlt => ?_) (fun hlt => ?_)
    · have hi1 : i < m.length := by have := of_decide_eq_true hlt; omega
      have hmu : m.length - ((i : Int) + 1).toNat < m.length - ((i : Int)).toNat := by omega
      have hdrop : m.drop i = m[i] :: m.drop (i + 1) := List.drop_eq_getElem_cons hi1
      have hu : refD 10 (m.drop i) acc = if rval m[i] ≥ 10 ∨ acc > 9007199254740991 then none else refD 10 (m.drop (i + 1)) (10 * acc + rval m[i]) := by rw [hdrop]; rfl
      have hd16 := hr16 _ (List.getElem_mem hi1)
      ((conv=>whnf);repeat((first|(with_reducible first|refine Z1 ?_|refine Z2 ?_|refine Z3 ?_|refine Z4 ?_|refine Z5 ?_|refine Z9 (by assumption) rfl ?_|refine ZA (by assumption) rfl ?_|refine ZB (by assumption) rfl ?_|refine Z6 ?_|refine Z7 ?_|refine Z8 ?_)|((with_reducible refine ZM ?_ ?_);(focus rfl)));(conv=>whnf)))
      refine HIdx.mk i rfl hi1 ?_
      refine sl_some s5 hi1 fun p ep => ?_
      ((conv=>whnf);repeat((first|(with_reducible first|refine Z1 ?_|refine Z2 ?_|refine Z3 ?_|refine Z4 ?_|refine Z5 ?_|refine Z9 (by assumption) rfl ?_|refine ZA (by assumption) rfl ?_|refine ZB (by assumption) rfl ?_|refine Z6 ?_|refine Z7 ?_|refine Z8 ?_)|((with_reducible refine ZM ?_ ?_);(focus rfl)));(conv=>whnf)))
      refine s5.load ep (by simpa using hi1) ?_
      rw [List.getElem_map]
      unfold natV
      ((conv=>whnf);repeat((first|(with_reducible first|refine Z1 ?_|refine Z2 ?_|refine Z3 ?_|refine Z4 ?_|refine Z5 ?_|refine Z9 (by assumption) rfl ?_|refine ZA (by assumption) rfl ?_|refine ZB (by assumption) rfl ?_|refine Z6 ?_|refine Z7 ?_|refine Z8 ?_)|((with_reducible refine ZM ?_ ?_);(focus rfl)));(conv=>whnf)))
      refine HCall.mk ((rval_spec m[i] hd16 _).mono ?_)
      rintro e h2 ⟨rfl, rfl⟩
      by_cases hv : rval m[i] ≥ 10
      · have q1 : decide (((rval m[i] : Nat) : Int) ≥ ((10 : Nat) : Int)) = true := decide_eq_true (by omega)
        rw [hu, if_pos (Or.inl hv)]
        ((conv=>whnf);repeat((first|(with_reducible first|refine Z1 ?_|refine Z2 ?_|refine Z3 ?_|refine Z4 ?_|refine Z5 ?_|refine Z9 (by assumption) rfl ?_|refine ZA (by assumption) rfl ?_|refine ZB (by assumption) rfl ?_|refine Z6 ?_|refine Z7 ?_|refine Z8 ?_)|((with_reducible refine ZM ?_ ?_);(focus rfl)));(conv=>whnf)))
        exact ⟨rfl, x2⟩
      have q1 : decide (((rval m[i] : Nat) : Int) ≥ ((10 : Nat) : Int)) = false := decide_eq_false (by omega)
      by_cases ha : acc > 9007199254740991
      · have q2 : decide (((acc : Nat) : Int) > 9007199254740991) = true := decide_eq_true (by omega)
        rw [hu, if_pos (Or.inr ha)]
        ((conv=>whnf);repeat((first|(with_reducible first|refine Z1 ?_|refine Z2 ?_|refine Z3 ?_|refine Z4 ?_|refine Z5 ?_|refine Z9 (by assumption) rfl ?_|refine ZA (by assumption) rfl ?_|refine ZB (by assumption) rfl ?_|refine Z6 ?_|refine Z7 ?_|refine Z8 ?_)|((with_reducible refine ZM ?_ ?_);(focus rfl)));(conv=>whnf)))
        exact ⟨rfl, x2⟩
      have q2 : decide (((acc : Nat) : Int) > 9007199254740991) = false := decide_eq_false (by omega)
      have hu2 := hu.trans (if_neg (by omega))
      ((conv=>whnf);repeat((first|(with_reducible first|refine Z1 ?_|refine Z2 ?_|refine Z3 ?_|refine Z4 ?_|refine Z5 ?_|refine Z9 (by assumption) rfl ?_|refine ZA (by assumption) rfl ?_|refine ZB (by assumption) rfl ?_|refine Z6 ?_|refine Z7 ?_|refine Z8 ?_)|((with_reducible refine ZM ?_ ?_);(focus rfl)));(conv=>whnf)))
      refine HCall.mk ((rval_spec m[i] hd16 _).mono ?_)
      rintro e h2 ⟨rfl, rfl⟩
      ((conv=>whnf);repeat((first|(with_reducible first|refine Z1 ?_|refine Z2 ?_|refine Z3 ?_|refine Z4 ?_|refine Z5 ?_|refine Z9 (by assumption) rfl ?_|refine ZA (by assumption) rfl ?_|refine ZB (by assumption) rfl ?_|refine Z6 ?_|refine Z7 ?_|refine Z8 ?_)|((with_reducible refine ZM ?_ ?_);(focus rfl)));(conv=>whnf)))
      exact ⟨⟨i + 1, 10 * acc + rval m[i], rfl, by omega, by omega, hu2, rfl⟩, hmu⟩
    have hge := of_decide_eq_false hlt
    obtain rfl : i = m.length := by omega
    rw [List.drop_length]
    show aexec _ _ _ _ _
    have es : (match refD 10 [] acc with | some v => nTold (sg * v) true | none => none) = nTold (sg * acc) true := rfl
    rw [es]
    have hsa : -144115188075855888 ≤ sg * (acc : Int) ∧ sg * (acc : Int) ≤ 144115188075855888 := by rcases hsg with rfl | rfl <;> omega
    ((conv=>whnf);repeat((first|(with_reducible first|refine Z1 ?_|refine Z2 ?_|refine Z3 ?_|refine Z4 ?_|refine Z5 ?_|refine Z9 (by assumption) rfl ?_|refine ZA (by assumption) rfl ?_|refine ZB (by assumption) rfl ?_|refine Z6 ?_|refine Z7 ?_|refine Z8 ?_)|((with_reducible refine ZM ?_ ?_);(focus rfl)));(conv=>whnf)))
    refine HCall.mk ((rtold_spec (sg * acc) _).mono ?_)
    rintro e h3 ⟨rfl, x3⟩
    cases nTold (sg * acc) true
    · ((conv=>whnf);repeat((first|(with_reducible first|refine Z1 ?_|refine Z2 ?_|refine Z3 ?_|refine Z4 ?_|refine Z5 ?_|refine Z9 (by assumption) rfl ?_|refine ZA (by assumption) rfl ?_|refine ZB (by assumption) rfl ?_|refine Z6 ?_|refine Z7 ?_|refine Z8 ?_)|((with_reducible refine ZM ?_ ?_);(focus rfl)));(conv=>whnf)))
      exact ⟨rfl, x2.trans x3⟩
    · ((conv=>whnf);repeat((first|(with_reducible first|refine Z1 ?_|refine Z2 ?_|refine Z3 ?_|refine Z4 ?_|refine Z5 ?_|refine Z9 (by assumption) rfl ?_|refine ZA (by assumption) rfl ?_|refine ZB (by assumption) rfl ?_|refine Z6 ?_|refine Z7 ?_|refine Z8 ?_)|((with_reducible refine ZM ?_ ?_);(focus rfl)));(conv=>whnf)))
      exact ⟨rfl, x2.trans x3⟩
  · ((conv=>whnf);repeat((first|(with_reducible first|refine Z1 ?_|refine Z2 ?_|refine Z3 ?_|refine Z4 ?_|refine Z5 ?_|refine Z9 (by assumption) rfl ?_|refine ZA (by assumption) rfl ?_|refine ZB (by assumption) rfl ?_|refine Z6 ?_|refine Z7 ?_|refine Z8 ?_)|((with_reducible refine ZM ?_ ?_);(focus rfl)));(conv=>whnf)))
    refine loop_rule [7, 92] (fun vs h' => ∃ (i acc : Nat), vs = [.int .i64 acc, .int .i64 i] ∧ i ≤ m.length ∧ acc ≤ 144115188075855888 ∧ refD 16 m 0 = refD 16 (m.drop i) acc ∧ h' = h2)
      (fun vs _ => match vs with | [_, .int _ i] => m.length - i.toNat | _ => 0) rfl ?_ ?_
    · exact ⟨0, 0, rfl, by omega, by omega, rfl, rfl⟩
    intro u h2 v7 v92
    rintro ⟨i, acc, e, hi, hacc, hrd, rfl⟩
    cases e
    rw [hrd]
    ((conv=>whnf);repeat((first|(with_reducible first|refine Z1 ?_|refine Z2 ?_|refine Z3 ?_|refine Z4 ?_|refine Z5 ?_|refine Z9 (by assumption) rfl ?_|refine ZA (by assumption) rfl ?_|refine ZB (by assumption) rfl ?_|refine Z6 ?_|refine Z7 ?_|refine Z8 ?_)|((with_reducible refine ZM ?_ ?_);(focus rfl)));(conv=>whnf)))
    refine HIf.mk (fun hlt => ?_) (fun hlt => ?_)
    · have hi1 : i < m.length := by have := of_decide_eq_true hlt; omega
      have hmu : m.length - ((i : Int) + 1).toNat < m.length - ((i : Int)).toNat := by omega
      have hdrop : m.drop i = m[i] :: m.drop (i + 1) := List.drop_eq_getElem_cons hi1
      have hu : refD 16 (m.drop i) acc = if rval m[i] ≥ 16 ∨ acc > 9007199254740991 then none else refD 16 (m.drop (i + 1)) (16 * acc + rval m[i]) := by rw [hdrop]; rfl
      have hd16 := hr16 _ (List.getElem_mem hi1)
      ((conv=>whnf);repeat((first|(with_reducible first|refine Z1 ?_|refine Z2 ?_|refine Z3 ?_|refine Z4 ?_|refine Z5 ?_|refine Z9 (by assumption) rfl ?_|refine ZA (by assumption) rfl ?_|refine ZB (by assumption) rfl ?_|refine Z6 ?_|refine Z7 ?_|refine Z8 ?_)|((with_reducible refine ZM ?_ ?_);(focus rfl)));(conv=>whnf)))
      refine HIdx.mk i rfl hi1 ?_
      refine sl_some s5 hi1 fun p ep => ?_
      ((conv=>whnf);repeat((first|(with_reducible first|refine Z1 ?_|refine Z2 ?_|refine Z3 ?_|refine Z4 ?_|refine Z5 ?_|refine Z9 (by assumption) rfl ?_|refine ZA (by assumption) rfl ?_|refine ZB (by assumption) rfl ?_|refine Z6 ?_|refine Z7 ?_|refine Z8 ?_)|((with_reducible refine ZM ?_ ?_);(focus rfl)));(conv=>whnf)))
      refine s5.load ep (by simpa using hi1) ?_
      rw [List.getElem_map]
      unfold natV
      ((conv=>whnf);repeat((first|(with_reducible first|refine Z1 ?_|refine Z2 ?_|refine Z3 ?_|refine Z4 ?_|refine Z5 ?_|refine Z9 (by assumption) rfl ?_|refine ZA (by assumption) rfl ?_|refine ZB (by assumption) rfl ?_|refine Z6 ?_|refine Z7 ?_|refine Z8 ?_)|((with_reducible refine ZM ?_ ?_);(focus rfl)));(conv=>whnf)))
      refine HCall.mk ((rval_spec m[i] hd16 _).mono ?_)
      rintro e h2 ⟨rfl, rfl⟩
      by_cases hv : rval m[i] ≥ 16
      · have q1 : decide (((rval m[i] : Nat) : Int) ≥ ((16 : Nat) : Int)) = true := decide_eq_true (by omega)
        rw [hu, if_pos (Or.inl hv)]
        ((conv=>whnf);repeat((first|(with_reducible first|refine Z1 ?_|refine Z2 ?_|refine Z3 ?_|refine Z4 ?_|refine Z5 ?_|refine Z9 (by assumption) rfl ?_|refine ZA (by assumption) rfl ?_|refine ZB (by assumption) rfl ?_|refine Z6 ?_|refine Z7 ?_|refine Z8 ?_)|((with_reducible refine ZM ?_ ?_);(focus rfl)));(conv=>whnf)))
        exact ⟨rfl, x2⟩
      have q1 : decide (((rval m[i] : Nat) : Int) ≥ ((16 : Nat) : Int)) = false := decide_eq_false (by omega)
      by_cases ha : acc > 9007199254740991
      · have q2 : decide (((acc : Nat) : Int) > 9007199254740991) = true := decide_eq_true (by omega)
        rw [hu, if_pos (Or.inr ha)]
        ((conv=>whnf);repeat((first|(with_reducible first|refine Z1 ?_|refine Z2 ?_|refine Z3 ?_|refine Z4 ?_|refine Z5 ?_|refine Z9 (by assumption) rfl ?_|refine ZA (by assumption) rfl ?_|refine ZB (by assumption) rfl ?_|refine Z6 ?_|refine Z7 ?_|refine Z8 ?_)|((with_reducible refine ZM ?_ ?_);(focus rfl)));(conv=>whnf)))
        exact ⟨rfl, x2⟩
      have q2 : decide (((acc : Nat) : Int) > 9007199254740991) = false := decide_eq_false (by omega)
      have hu2 := hu.trans (if_neg (by omega))
      ((conv=>whnf);repeat((first|(with_reducible first|refine Z1 ?_|refine Z2 ?_|refine Z3 ?_|refine Z4 ?_|refine Z5 ?_|refine Z9 (by assumption) rfl ?_|refine ZA (by assumption) rfl ?_|refine ZB (by assumption) rfl ?_|refine Z6 ?_|refine Z7 ?_|refine Z8 ?_)|((with_reducible refine ZM ?_ ?_);(focus rfl)));(conv=>whnf)))
      refine HCall.mk ((rval_spec m[i] hd16 _).mono ?_)
      rintro e h2 ⟨rfl, rfl⟩
      ((conv=>whnf);repeat((first|(with_reducible first|refine Z1 ?_|refine Z2 ?_|refine Z3 ?_|refine Z4 ?_|refine Z5 ?_|refine Z9 (by assumption) rfl ?_|refine ZA (by assumption) rfl ?_|refine ZB (by assumption) rfl ?_|refine Z6 ?_|refine Z7 ?_|refine Z8 ?_)|((with_reducible refine ZM ?_ ?_);(focus rfl)));(conv=>whnf)))
      exact ⟨⟨i + 1, 16 * acc + rval m[i], rfl, by omega, by omega, hu2, rfl⟩, hmu⟩
    have hge := of_decide_eq_false hlt
    obtain rfl : i = m.length := by omega
    rw [List.drop_length]
    show aexec _ _ _ _ _
    have es : (match refD 16 [] acc with | some v => nTold (sg * v) true | none => none) = nTold (sg * acc) true := rfl
    rw [es]
    have hsa : -144115188075855888 ≤ sg * (acc : Int) ∧ sg * (acc : Int) ≤ 144115188075855888 := by rcases hsg with rfl | rfl <;> omega
    ((conv=>whnf);repeat((first|(with_reducible first|refine Z1 ?_|refine Z2 ?_|refine Z3 ?_|refine Z4 ?_|refine Z5 ?_|refine Z9 (by assumption) rfl ?_|refine ZA (by assumption) rfl ?_|refine ZB (by assumption) rfl ?_|refine Z6 ?_|refine Z7 ?_|refine Z8 ?_)|((with_reducible refine ZM ?_ ?_);(focus rfl)));(conv=>whnf)))
    refine HCall.mk ((rtold_spec (sg * acc) _).mono ?_)
    rintro e h3 ⟨rfl, x3⟩
    cases nTold (sg * acc) true
    · ((conv=>whnf);repeat((first|(with_reducible first|refine Z1 ?_|refine Z2 ?_|refine Z3 ?_|refine Z4 ?_|refine Z5 ?_|refine Z9 (by assumption) rfl ?_|refine ZA (by assumption) rfl ?_|refine ZB (by assumption) rfl ?_|refine Z6 ?_|refine Z7 ?_|refine Z8 ?_)|((with_reducible refine ZM ?_ ?_);(focus rfl)));(conv=>whnf)))
      exact ⟨rfl, x2.trans x3⟩
    · ((conv=>whnf);repeat((first|(with_reducible first|refine Z1 ?_|refine Z2 ?_|refine Z3 ?_|refine Z4 ?_|refine Z5 ?_|refine Z9 (by assumption) rfl ?_|refine ZA (by assumption) rfl ?_|refine ZB (by assumption) rfl ?_|refine Z6 ?_|refine Z7 ?_|refine Z8 ?_)|((with_reducible refine ZM ?_ ?_);(focus rfl)));(conv=>whnf)))
      exact ⟨rfl, x2.trans x3⟩

end Go.Proofs.YtnanabjbdnbccaaDoor.Hc
