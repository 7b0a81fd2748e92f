import Derived.Test.YtadkdfecmpjmdaaGreatDoorPb
import Derived.Shelf.Strings.OnBuilder
import Derived.Ground.NamesProg
import Derived.Test.YtadkdfecmpjmdaaGreatDoorProg
set_option linter.unusedVariables false
set_option linter.unusedSimpArgs false
namespace Go.Proofs.YtadkdfecmpjmdaaGreatDoor.Hc
open Go Go.H Go.Proofs
set_option maxRecDepth 100000
open Go Go.H Go.Proofs
set_option maxRecDepth 100000
set_option maxHeartbeats 4000000

theorem rcheckU_spec (l : List UInt8) (hl : l.length ≤ 2097152) (h : Heap) : HCalls Tryz.prog 43 #[.string ⟨l.toArray⟩] h fun e h' => e = .returned (.bool (decide (l.length % 2 = 0))) ∧ h' = h := by
  have hs : (⟨l.toArray⟩ : ByteArray).size = l.length := rfl
  have e2 : ((l.length : Nat) : Int).tmod 2 = ((l.length % 2 : Nat) : Int) := (Int.ofNat_tmod l.length 2).symm
  refine c43 (by simp) ?_
  refine gA ?_
  refine ⟨?_, rfl⟩
  show Ending.returned (.bool (((l.length : Nat) : Int).tmod 2 == 0)) = _
  rw [e2]
  by_cases h : l.length % 2 = 0
  · rw [h]; rfl
  · rw [decide_eq_false h]
    congr 2
    rw [beq_eq_false_iff_ne]; omega
theorem rblank_spec (n : Nat) (h : Heap) : HCalls Tryz.prog 123 #[.int .i64 n] h fun e h' => e = .returned (.bool (blankN n)) ∧ h' = h := by
  refine c123 (by simp) ?_
  have fin : ∀ b : Bool, (b = true ↔ (n = 32 ∨ n = 160 ∨ n = 8232 ∨ n = 8233 ∨ n = 65279 ∨ (9 ≤ n ∧ n ≤ 13))) → b = blankN n := by
    intro b hb; rw [Bool.eq_iff_iff, hb, blankN_iff]
  ((conv=>whnf);repeat'(first|((with_reducible refine ZM ?_ ?_);(focus rfl);(conv=>whnf))|((with_reducible first|refine Z1 ?_|refine Z2 ?_|refine Z3 ?_|refine Z4 ?_|refine Z9 (by assumption) rfl ?_|refine Z5 ?_);(conv=>whnf))|((with_reducible refine HIf.mk (fun q=> ?_) (fun q=> ?_))<;>(conv=>whnf))))
  all_goals
    refine ⟨?_, rfl⟩
    refine congrArg (fun b => Ending.returned (.bool b)) (fin _ ?_)
    simp only [decide_eq_true_eq, decide_eq_false_iff_not, beq_iff_eq, beq_eq_false_iff_ne, Bool.false_eq_true, ne_eq, true_iff, false_iff] at *
    omega
def rval (n : Nat) : Nat := if 48 ≤ n ∧ n ≤ 57 then n - 48 else if 97 ≤ n ∧ n ≤ 102 then n - 97 + 10 else if 65 ≤ n ∧ n ≤ 70 then n - 65 + 10 else 99
theorem rval_spec (n : Nat) (hn : n < 65536) (h : Heap) : HCalls Tryz.prog 124 #[.int .i64 n] h fun e h' => e = .returned (.int .i64 (rval n : Nat)) ∧ h' = h := by
  refine c124 (by simp) ?_
  have fin : ∀ z : Int, z = (rval n : Nat) → Ending.returned (.int .i64 z) = .returned (.int .i64 (rval n : Nat)) := fun z hz => by rw [hz]
  unfold rval at fin ⊢
  ((conv=>whnf);repeat'(first|((with_reducible refine ZM ?_ ?_);(focus rfl);(conv=>whnf))|((with_reducible first|refine Z1 ?_|refine Z2 ?_|refine Z3 ?_|refine Z4 ?_|refine Z9 (by assumption) rfl ?_|refine Z5 ?_);(conv=>whnf))|((with_reducible refine HIf.mk (fun q=> ?_) (fun q=> ?_))<;>(conv=>whnf))))
  all_goals
    refine ⟨fin _ ?_, rfl⟩
    simp only [decide_eq_true_eq, decide_eq_false_iff_not, beq_iff_eq, beq_eq_false_iff_ne, Bool.false_eq_true, ne_eq, true_iff, false_iff] at *
    split
    · omega
    · split
      · omega
      · split <;> omega

theorem rlist_spec (l : List UInt8) (hl : l.length ≤ 2097152) (h : Heap) : HCalls Tryz.prog 89 #[.string ⟨l.toArray⟩] h fun e h' =>
    ∃ a c, e = .returned (.slice a (ulist l).length c) ∧ Sl h' 1 a (ulist l).length c ((ulist l).map natV) ∧ Ext h h' := by
  have hs : (⟨l.toArray⟩ : ByteArray).size = l.length := rfl
  have hll := ulist_len l
  refine c89 (by simp) ?_
  refine gA ?_
  refine loop_rule [3, 4] (fun vs h' => ∃ (i : Nat) (a : Option Addr) (c : Nat), vs = [.slice a i c, .int .i64 (2 * i : Nat)] ∧ i ≤ (ulist l).length ∧ Own h' h.size 3 1 a i c (((ulist l).take i).map natV) ∧ Ext h h')
    (fun vs _ => match vs with | [_, .int _ i] => l.length - i.toNat | _ => 0) rfl ?_ ?_
  · exact ⟨0, none, 0, rfl, by omega, Own.nil _ _ _ _, Ext.refl _⟩
  intro u h2 v3 v4
  rintro ⟨i, a, c, e, hi, w2, x2⟩
  cases e
  refine gA ?_
  refine HIf.mk (fun hlt => ?_) (fun hlt => ?_)
  · have hi1 : i < (ulist l).length := by have := of_decide_eq_true hlt; omega
    have h1 : 2 * i + 1 < l.length := by omega
    have h0 : 2 * i < l.length := by omega
    have eg := ulist_get l i hi1 h1
    have y0 := idx_txt l h0
    have y1 := idx_txt l h1
    have b0 := (l[2 * i]).toNat_lt
    have b1 := (l[2 * i + 1]).toNat_lt
    refine gA ?_
    refine HIdx.mk (2 * i) rfl h0 ?_
    rw [y0]
    refine gA ?_
    refine HIdx.mk (2 * i + 1) (by omega) h1 ?_
    rw [y1]
    refine gA ?_
    refine new_own (e := 3) 1 1 [natV (ulist l)[i]] (by rw [eg]; unfold natV; rw [show ((l[2 * i].toNat * 256 + l[2 * i + 1].toNat : Nat) : Int) = (l[2 * i].toNat : Int) * 256 + (l[2 * i + 1].toNat : Int) by omega]) rfl ?_
    intro h3 b3 w3 x3 z3 hb3
    refine gA ?_
    refine w3.sl.cells ?_
    refine Own.grow (w2.ext x3) (by have := x2.1; have := x3.1; omega) rfl rfl (by intro v hv; simp only [List.mem_singleton] at hv; subst hv; rfl) (by omega) ?_
    intro h4 a4 c4 w4 g4
    have htk : (ulist l).take (i + 1) = (ulist l).take i ++ [(ulist l)[i]] := by rw [List.take_add_one, List.getElem?_eq_getElem hi1]; rfl
    have ew : ((ulist l).take i).map natV ++ [natV (ulist l)[i]] = ((ulist l).take (i + 1)).map natV := by rw [htk, List.map_append]; rfl
    rw [ew] at w4
    refine gA ?_
    refine ⟨⟨i + 1, a4, c4, ?_, by omega, w4, (x2.trans x3).keep (g4.kept (by have := x2.1; have := x3.1; omega) fun p ep => (w2.lt p ep).1)⟩, ?_⟩
    · rfl
    · show l.length - (((2 * i : Nat) : Int) + 2).toNat < l.length - ((2 * i : Nat) : Int).toNat
      omega
  have hge := of_decide_eq_false hlt
  obtain rfl : i = (ulist l).length := by omega
  rw [List.take_length] at w2
  refine gA ?_
  exact ⟨a, c, rfl, w2.sl, x2⟩

set_option maxHeartbeats 4000000

def refD (base : Nat) : List Nat → Nat → Option Nat
  | [], acc => some acc
  | d :: r, acc => if rval d ≥ base ∨ acc > 9007199254740991 then none else refD base r (base * acc + rval d)
def refB : List Nat → Nat × Int × List Nat
  | [] => (10, 1, [])
  | c :: r => if c = 43 then (10, 1, r) else if c = 45 then (10, -1, r) else match r with
    | [] => (10, 1, [c])
    | x :: r' => if c = 48 ∧ (x = 120 ∨ x = 88) then (16, 1, r') else (10, 1, c :: x :: r')
def refT (t : Nat × Int × List Nat) : Option Int := if t.2.2 = [] then none else match refD t.1 t.2.2 0 with
  | some v => nTold (t.2.1 * v) true
  | none => none
def refU (m : List Nat) : Option Int := if m = [] then some 0 else refT (refB m)
def refN (l : List UInt8) : Option Int := if l.length % 2 = 0 then refU (trimE ((ulist l).dropWhile blankN)) else none

theorem refB_ok (t : List Nat) (hl : t.length ≤ 1048576) (h16 : ∀ n ∈ t, n < 65536) : ((refB t).1 = 10 ∨ (refB t).1 = 16) ∧ ((refB t).2.1 = 1 ∨ (refB t).2.1 = -1) ∧ (refB t).2.2.length ≤ 1048576 ∧ ∀ n ∈ (refB t).2.2, n < 65536 := by
  match t, hl, h16 with
  | [], hl, h16 => exact ⟨.inl rfl, .inl rfl, hl, h16⟩
  | c :: r, hl, h16 =>
    have hr : r.length ≤ 1048576 := by simp only [List.length_cons] at hl; omega
    have hr16 : ∀ n ∈ r, n < 65536 := fun n hn => h16 n (List.mem_cons_of_mem _ hn)
    by_cases h43 : c = 43
    · rw [show refB (c :: r) = (10, 1, r) from if_pos h43]; exact ⟨.inl rfl, .inl rfl, hr, hr16⟩
    by_cases h45 : c = 45
    · rw [show refB (c :: r) = (10, -1, r) from (if_neg h43).trans (if_pos h45)]; exact ⟨.inl rfl, .inr rfl, hr, hr16⟩
    match r, hl, h16, hr, hr16 with
    | [], hl, h16, hr, hr16 => rw [show refB [c] = (10, 1, [c]) from (if_neg h43).trans (if_neg h45)]; exact ⟨.inl rfl, .inl rfl, hl, h16⟩
    | x :: r', hl, h16, hr, hr16 =>
      by_cases hx : c = 48 ∧ (x = 120 ∨ x = 88)
      · rw [show refB (c :: x :: r') = (16, 1, r') from ((if_neg h43).trans (if_neg h45)).trans (if_pos hx)]
        exact ⟨.inr rfl, .inl rfl, by show r'.length ≤ _; simp only [List.length_cons] at hr; omega, fun n hn => hr16 n (List.mem_cons_of_mem _ hn)⟩
      · rw [show refB (c :: x :: r') = (10, 1, c :: x :: r') from ((if_neg h43).trans (if_neg h45)).trans (if_neg hx)]
        exact ⟨.inl rfl, .inl rfl, hl, h16⟩

theorem rread_spec (l : List UInt8) (hl : l.length ≤ 2097152) (h : Heap) : HCalls Tryz.prog 71 #[.string ⟨l.toArray⟩] h fun e h' => e = .returned (numR (refN l)) ∧ Ext h h' := by
  have hul := ulist_len l
  have hlt16 := ulist_lt l
  refine c71 (by simp) ?_
  refine gA ?_
  refine HCall.mk ((rcheckU_spec l hl h).mono ?_)
  rintro e h ⟨rfl, rfl⟩
  by_cases hodd : ¬ l.length % 2 = 0
  · rw [decide_eq_false hodd]
    have er : refN l = none := by unfold refN; rw [if_neg hodd]
    rw [er]
    refine gA ?_
    exact ⟨rfl, Ext.refl _⟩
  have hodd := Decidable.not_not.1 hodd
  rw [decide_eq_true hodd]
  have er : refN l = refU (trimE ((ulist l).dropWhile blankN)) := by unfold refN; rw [if_pos hodd]
  rw [er]
  clear er
  refine gA ?_
  refine HCall.mk ((rlist_spec l hl _).mono ?_)
  rintro e h2 ⟨a, c, rfl, s2, x2⟩
  have hll : (ulist l).length ≤ 1048576 := by omega
  generalize ulist l = ul at *
  refine gB ?_
  refine cut_rule [4] (fun vs h' => ∃ (m : List Nat) (a4 : Option Addr) (c4 : Nat), vs = [.slice a4 m.length c4] ∧ m.length ≤ 1048576 ∧ (∀ n ∈ m, n < 65536) ∧ Sl h' 1 a4 m.length c4 (m.map natV) ∧ ul.dropWhile blankN = m ∧ h' = h2) rfl ?_ ?_
  · refine gA ?_
    refine loop_rule [4] (fun vs h' => ∃ (m : List Nat) (a4 : Option Addr) (c4 : Nat), vs = [.slice a4 m.length c4] ∧ m.length ≤ 1048576 ∧ (∀ n ∈ m, n < 65536) ∧ Sl h' 1 a4 m.length c4 (m.map natV) ∧ ul.dropWhile blankN = m.dropWhile blankN ∧ h' = h2)
      (fun vs _ => match vs with | [.slice _ n _] => n | _ => 0) rfl ?_ ?_
    · exact ⟨ul, a, c, rfl, hll, hlt16, s2, rfl, rfl⟩
    intro u h2 v4
    rintro ⟨m, a4, c4, e, hml, hm16, s4, hdr, rfl⟩
    cases e
    have hc4 := s4.2.1
    cases m with
    | nil =>
      have q : decide ((([] : List Nat).length : Int) > 0) = false := rfl
      refine gA ?_
      exact ⟨[], a4, c4, rfl, hml, hm16, s4, hdr, rfl⟩
    | cons d r =>
      have q : decide (((d :: r).length : Int) > 0) = true := decide_eq_true (by simp only [List.length_cons]; omega)
      have hi1 : 0 < (d :: r).length := by simp
      refine gA ?_
      refine HIdx.mk 0 rfl hi1 ?_
      refine sl_some s4 hi1 fun p ep => ?_
      refine gA ?_
      refine s4.load ep (by simp) ?_
      rw [List.getElem_map]
      unfold natV
      refine gA ?_
      refine HCall.mk ((rblank_spec d _).mono ?_)
      rintro e h2 ⟨rfl, rfl⟩
      cases hb : blankN d
      · refine gA ?_
        exact ⟨d :: r, a4, c4, rfl, hml, hm16, s4, by rw [hdr]; simp [hb], rfl⟩
      · refine gA ?_
        refine HBound.mk 1 rfl (by show 1 ≤ (d :: r).length; simp) ?_
        refine gA ?_
        have s5 := take_drop_sl s4 (i := 1) (j := (d :: r).length) (by omega) (by omega)
        rw [List.take_length] at s5
        refine ⟨⟨r, _, _, ?_, by simp only [List.length_cons] at hml; omega, fun n hn => hm16 n (List.mem_cons_of_mem _ hn), s5, by rw [hdr]; simp [hb], rfl⟩, ?_⟩
        · rfl
        · show r.length + 1 - 1 < r.length + 1
          omega
  intro u h2 v4
  rintro ⟨d, a3, c3, e, hdl, hd16, s3, hd, rfl⟩
  cases e
  rw [hd]
  clear hd s2 hlt16 hll hul
  refine gB ?_
  refine cut_rule [4] (fun vs h' => ∃ (m : List Nat) (a4 : Option Addr) (c4 : Nat), vs = [.slice a4 m.length c4] ∧ m.length ≤ 1048576 ∧ (∀ n ∈ m, n < 65536) ∧ Sl h' 1 a4 m.length c4 (m.map natV) ∧ trimE d = m ∧ h' = h2) rfl ?_ ?_
  · refine gA ?_
    refine loop_rule [4] (fun vs h' => ∃ (m : List Nat) (a4 : Option Addr) (c4 : Nat), vs = [.slice a4 m.length c4] ∧ m.length ≤ 1048576 ∧ (∀ n ∈ m, n < 65536) ∧ Sl h' 1 a4 m.length c4 (m.map natV) ∧ trimE d = trimE m ∧ h' = h2)
      (fun vs _ => match vs with | [.slice _ n _] => n | _ => 0) rfl ?_ ?_
    · exact ⟨d, a3, c3, rfl, hdl, hd16, s3, rfl, rfl⟩
    intro u h2 v4
    rintro ⟨m, a4, c4, e, hml, hm16, s4, htr, rfl⟩
    cases e
    have hc4 := s4.2.1
    by_cases hm0 : m = []
    · subst hm0
      have q : decide ((([] : List Nat).length : Int) > 0) = false := rfl
      refine gA ?_
      exact ⟨[], a4, c4, rfl, hml, hm16, s4, htr, rfl⟩
    have hpos := List.length_pos_iff.2 hm0
    have q : decide ((m.length : Int) > 0) = true := decide_eq_true (by omega)
    have hi1 : m.length - 1 < m.length := by omega
    have hsplit : m = m.take (m.length - 1) ++ [m[m.length - 1]] := by
      have := List.take_append_drop (m.length - 1) m
      have hd : m.drop (m.length - 1) = [m[m.length - 1]] := by rw [List.drop_eq_getElem_cons hi1, List.drop_of_length_le (by omega)]
      rw [hd] at this
      exact this.symm
    refine gA ?_
    refine HIdx.mk (m.length - 1) (by omega) hi1 ?_
    refine sl_some s4 hi1 fun p ep => ?_
    refine gA ?_
    refine s4.load ep (by simpa using hi1) ?_
    rw [List.getElem_map]
    unfold natV
    refine gA ?_
    refine HCall.mk ((rblank_spec m[m.length - 1] _).mono ?_)
    rintro e h2 ⟨rfl, rfl⟩
    cases hb : blankN m[m.length - 1]
    · refine gA ?_
      refine ⟨m, a4, c4, rfl, hml, hm16, s4, ?_, rfl⟩
      rw [htr]
      conv => lhs; rw [hsplit]
      rw [trimE_solid hb]
      exact hsplit.symm
    · refine gA ?_
      refine HBound.mk (m.length - 1) (by omega) (by omega) ?_
      refine gA ?_
      have s5 := take_drop_sl s4 (i := 0) (j := m.length - 1) (by omega) (by omega)
      rw [List.drop_zero] at s5
      have hlt' : (m.take (m.length - 1)).length = m.length - 1 := by rw [List.length_take]; omega
      refine ⟨⟨m.take (m.length - 1), _, _, by rw [hlt']; rfl, by omega, fun n hn => hm16 n (List.mem_of_mem_take hn), s5, ?_, rfl⟩, ?_⟩
      · rw [htr]
        conv => lhs; rw [hsplit]
        rw [trimE_blank hb]
      · show m.length - 1 - 0 < m.length
        omega
  intro u h2 v4
  rintro ⟨t, a4, c4, e, htl, ht16, s4, htr, rfl⟩
  cases e
  rw [htr]
  clear htr hd16 s3 hdl
  by_cases ht0 : t = []
  · subst ht0
    have q : ((([] : List Nat).length : Int) == 0) = true := rfl
    rw [show refU [] = some 0 from rfl]
    refine gA ?_
    exact ⟨rfl, x2⟩
  have hpos := List.length_pos_iff.2 ht0
  have q : ((t.length : Int) == 0) = false := by rw [beq_eq_false_iff_ne]; omega
  rw [show refU t = refT (refB t) from if_neg ht0]
  refine gB ?_
  refine Z1 ?_
  refine gB ?_
  refine cut_rule [4, 5, 6] (fun vs h' => ∃ (a5 : Option Addr) (c5 : Nat), vs = [.slice a5 (refB t).2.2.length c5, .int .i64 ((refB t).1 : Nat), .int .i64 (refB t).2.1] ∧ Sl h' 1 a5 (refB t).2.2.length c5 ((refB t).2.2.map natV) ∧ h' = h2) rfl ?_ ?_
  · have hc4 := s4.2.1
    cases t with
    | nil => exact absurd rfl ht0
    | cons d r =>
    have s5 := take_drop_sl s4 (i := 1) (j := (d :: r).length) (by omega) (by omega)
    rw [List.take_length] at s5
    have hi0 : 0 < (d :: r).length := by simp
    refine gA ?_
    refine HIdx.mk 0 rfl hi0 ?_
    refine sl_some s4 hi0 fun p ep => ?_
    refine gA ?_
    refine s4.load ep (by simp) ?_
    rw [List.getElem_map, List.getElem_cons_zero]
    unfold natV
    by_cases h43 : d = 43
    · have q1 : (((d : Nat) : Int) == 43) = true := by rw [h43]; rfl
      have q2 : (((d : Nat) : Int) == 45) = false := by rw [h43]; rfl
      have eB : refB (d :: r) = (10, 1, r) := if_pos h43
      rw [eB]
      refine gA ?_
      refine HIdx.mk 0 rfl hi0 ?_
      refine sl_some s4 hi0 fun p ep => ?_
      refine gA ?_
      refine s4.load ep (by simp) ?_
      rw [List.getElem_map, List.getElem_cons_zero]
      unfold natV
      refine gA ?_
      refine HBound.mk 1 rfl (by show 1 ≤ (d :: r).length; simp) ?_
      refine gA ?_
      exact ⟨_, _, rfl, s5, rfl⟩
    have q1 : (((d : Nat) : Int) == 43) = false := by rw [beq_eq_false_iff_ne]; omega
    by_cases h45 : d = 45
    · have q2 : (((d : Nat) : Int) == 45) = true := by rw [h45]; rfl
      have eB : refB (d :: r) = (10, -1, r) := (if_neg h43).trans (if_pos h45)
      rw [eB]
      refine gA ?_
      refine HIdx.mk 0 rfl hi0 ?_
      refine sl_some s4 hi0 fun p ep => ?_
      refine gA ?_
      refine s4.load ep (by simp) ?_
      rw [List.getElem_map, List.getElem_cons_zero]
      unfold natV
      refine gA ?_
      refine HIdx.mk 0 rfl hi0 ?_
      refine sl_some s4 hi0 fun p ep => ?_
      refine gA ?_
      refine s4.load ep (by simp) ?_
      rw [List.getElem_map, List.getElem_cons_zero]
      unfold natV
      refine gA ?_
      refine HBound.mk 1 rfl (by show 1 ≤ (d :: r).length; simp) ?_
      refine gA ?_
      exact ⟨_, _, rfl, s5, rfl⟩
    have q2 : (((d : Nat) : Int) == 45) = false := by rw [beq_eq_false_iff_ne]; omega
    refine gA ?_
    refine HIdx.mk 0 rfl hi0 ?_
    refine sl_some s4 hi0 fun p ep => ?_
    refine gA ?_
    refine s4.load ep (by simp) ?_
    rw [List.getElem_map, List.getElem_cons_zero]
    unfold natV
    cases r with
    | nil =>
      have q3 : decide ((([d] : List Nat).length : Int) > 1) = false := rfl
      have eB : refB [d] = (10, 1, [d]) := (if_neg h43).trans (if_neg h45)
      rw [eB]
      refine gA ?_
      exact ⟨_, _, rfl, s4, rfl⟩
    | cons x r' =>
      have q3 : decide (((d :: x :: r').length : Int) > 1) = true := decide_eq_true (by simp only [List.length_cons]; omega)
      have hi1 : 1 < (d :: x :: r').length := by simp
      have hyes : d = 48 ∧ (x = 120 ∨ x = 88) → refB (d :: x :: r') = (16, 1, r') := fun k => ((if_neg h43).trans (if_neg h45)).trans (if_pos k)
      have hno : ¬ (d = 48 ∧ (x = 120 ∨ x = 88)) → refB (d :: x :: r') = (10, 1, d :: x :: r') := fun k => ((if_neg h43).trans (if_neg h45)).trans (if_neg k)
      have s6 := take_drop_sl s4 (i := 2) (j := (d :: x :: r').length) (by simp) (by omega)
      rw [List.take_length] at s6
      refine gA ?_
      refine HIdx.mk 0 rfl hi0 ?_
      refine sl_some s4 hi0 fun p ep => ?_
      refine gA ?_
      refine s4.load ep (by simp) ?_
      rw [List.getElem_map, List.getElem_cons_zero]
      unfold natV
      by_cases h48 : d = 48
      · have q4 : (((d : Nat) : Int) == 48) = true := by rw [h48]; rfl
        refine gA ?_
        refine HIdx.mk 1 rfl hi1 ?_
        refine sl_some s4 hi1 fun p ep => ?_
        refine gA ?_
        refine s4.load ep (by simp) ?_
        rw [List.getElem_map, List.getElem_cons_succ, List.getElem_cons_zero]
        unfold natV
        by_cases hx : x = 120
        · have q5 : (((x : Nat) : Int) == 120) = true := by rw [hx]; rfl
          rw [hyes ⟨h48, .inl hx⟩]
          refine gA ?_
          refine HBound.mk 2 rfl (by show 2 ≤ (d :: x :: r').length; simp) ?_
          refine gA ?_
          exact ⟨_, _, rfl, s6, rfl⟩
        have q5 : (((x : Nat) : Int) == 120) = false := by rw [beq_eq_false_iff_ne]; omega
        refine gA ?_
        refine HIdx.mk 1 rfl hi1 ?_
        refine sl_some s4 hi1 fun p ep => ?_
        refine gA ?_
        refine s4.load ep (by simp) ?_
        rw [List.getElem_map, List.getElem_cons_succ, List.getElem_cons_zero]
        unfold natV
        by_cases hX : x = 88
        · have q6 : (((x : Nat) : Int) == 88) = true := by rw [hX]; rfl
          rw [hyes ⟨h48, .inr hX⟩]
          refine gA ?_
          refine HBound.mk 2 rfl (by show 2 ≤ (d :: x :: r').length; simp) ?_
          refine gA ?_
          exact ⟨_, _, rfl, s6, rfl⟩
        · have q6 : (((x : Nat) : Int) == 88) = false := by rw [beq_eq_false_iff_ne]; omega
          rw [hno (by omega)]
          refine gA ?_
          exact ⟨_, _, rfl, s4, rfl⟩
      · have q4 : (((d : Nat) : Int) == 48) = false := by rw [beq_eq_false_iff_ne]; omega
        rw [hno (by omega)]
        refine gA ?_
        exact ⟨_, _, rfl, s4, rfl⟩
  intro u h2 v4 v5 v6
  rintro ⟨a5, c5, e, s5, rfl⟩
  cases e
  obtain ⟨hb, hsg, hrl, hr16⟩ := refB_ok t htl ht16
  rw [show refT (refB t) = (if (refB t).2.2 = [] then none else match refD (refB t).1 (refB t).2.2 0 with | some v => nTold ((refB t).2.1 * v) true | none => none) from rfl]
  generalize (refB t).1 = base at *
  generalize (refB t).2.1 = sg at *
  generalize (refB t).2.2 = m at *
  clear s4 ht0 hpos q htl ht16 hodd
  by_cases hm : m = []
  · subst hm
    rw [if_pos rfl]
    have q : ((([] : List Nat).length : Int) == 0) = true := rfl
    refine gA ?_
    exact ⟨rfl, x2⟩
  have hpos := List.length_pos_iff.2 hm
  have q : ((m.length : Int) == 0) = false := by rw [beq_eq_false_iff_ne]; omega
  rw [if_neg hm]
  have s5c := s5.2.1
  rcases hb with rfl | rfl
  · refine gA ?_
    refine loop_rule [7, 92] (fun vs h' => ∃ (i acc : Nat), vs = [.int .i64 acc, .int .i64 i] ∧ i ≤ m.length ∧ acc ≤ 144115188075855888 ∧ refD 10 m 0 = refD 10 (m.drop i) acc ∧ h' = h2)
      (fun vs _ => match vs with | [_, .int _ i] => m.length - i.toNat | _ => 0) rfl ?_ ?_
    · exact ⟨0, 0, rfl, by omega, by omega, rfl, rfl⟩
    intro u h2 v7 v92
    rintro ⟨i, acc, e, hi, hacc, hrd, rfl⟩
    cases e
    rw [hrd]
    refine gA ?_
    refine HIf.mk (fun hlt => ?_) (fun hlt => ?_)
    · have hi1 : i < m.length := by have := of_decide_eq_true hlt; omega
      have hmu : m.length - ((i : Int) + 1).toNat < m.length - ((i : Int)).toNat := by omega
      have hdrop : m.drop i = m[i] :: m.drop (i + 1) := List.drop_eq_getElem_cons hi1
      have hu : refD 10 (m.drop i) acc = if rval m[i] ≥ 10 ∨ acc > 9007199254740991 then none else refD 10 (m.drop (i + 1)) (10 * acc + rval m[i]) := by rw [hdrop]; rfl
      have hd16 := hr16 _ (List.getElem_mem hi1)
      refine gA ?_
      refine HIdx.mk i rfl hi1 ?_
      refine sl_some s5 hi1 fun p ep => ?_
      refine gA ?_
      refine s5.load ep (by simpa using hi1) ?_
      rw [List.getElem_map]
      unfold natV
      refine gA ?_
      refine HCall.mk ((rval_spec m[i] hd16 _).mono ?_)
      rintro e h2 ⟨rfl, rfl⟩
      by_cases hv : rval m[i] ≥ 10
      · have q1 : decide (((rval m[i] : Nat) : Int) ≥ ((10 : Nat) : Int)) = true := decide_eq_true (by omega)
        rw [hu, if_pos (Or.inl hv)]
        refine gA ?_
        exact ⟨rfl, x2⟩
      have q1 : decide (((rval m[i] : Nat) : Int) ≥ ((10 : Nat) : Int)) = false := decide_eq_false (by omega)
      by_cases ha : acc > 9007199254740991
      · have q2 : decide (((acc : Nat) : Int) > 9007199254740991) = true := decide_eq_true (by omega)
        rw [hu, if_pos (Or.inr ha)]
        refine gA ?_
        exact ⟨rfl, x2⟩
      have q2 : decide (((acc : Nat) : Int) > 9007199254740991) = false := decide_eq_false (by omega)
      have hu2 := hu.trans (if_neg (by omega))
      refine gA ?_
      refine HCall.mk ((rval_spec m[i] hd16 _).mono ?_)
      rintro e h2 ⟨rfl, rfl⟩
      refine gA ?_
      exact ⟨⟨i + 1, 10 * acc + rval m[i], rfl, by omega, by omega, hu2, rfl⟩, hmu⟩
    have hge := of_decide_eq_false hlt
    obtain rfl : i = m.length := by omega
    rw [List.drop_length]
    show aexec _ _ _ _ _
    have es : (match refD 10 [] acc with | some v => nTold (sg * v) true | none => none) = nTold (sg * acc) true := rfl
    rw [es]
    have hsa : -144115188075855888 ≤ sg * (acc : Int) ∧ sg * (acc : Int) ≤ 144115188075855888 := by rcases hsg with rfl | rfl <;> omega
    refine gA ?_
    refine HCall.mk ((rtold_spec (sg * acc) _).mono ?_)
    rintro e h3 ⟨rfl, x3⟩
    cases nTold (sg * acc) true
    · refine gA ?_
      exact ⟨rfl, x2.trans x3⟩
    · refine gA ?_
      exact ⟨rfl, x2.trans x3⟩
  · refine gA ?_
    refine loop_rule [7, 92] (fun vs h' => ∃ (i acc : Nat), vs = [.int .i64 acc, .int .i64 i] ∧ i ≤ m.length ∧ acc ≤ 144115188075855888 ∧ refD 16 m 0 = refD 16 (m.drop i) acc ∧ h' = h2)
      (fun vs _ => match vs with | [_, .int _ i] => m.length - i.toNat | _ => 0) rfl ?_ ?_
    · exact ⟨0, 0, rfl, by omega, by omega, rfl, rfl⟩
    intro u h2 v7 v92
    rintro ⟨i, acc, e, hi, hacc, hrd, rfl⟩
    cases e
    rw [hrd]
    refine gA ?_
    refine HIf.mk (fun hlt => ?_) (fun hlt => ?_)
    · have hi1 : i < m.length := by have := of_decide_eq_true hlt; omega
      have hmu : m.length - ((i : Int) + 1).toNat < m.length - ((i : Int)).toNat := by omega
      have hdrop : m.drop i = m[i] :: m.drop (i + 1) := List.drop_eq_getElem_cons hi1
      have hu : refD 16 (m.drop i) acc = if rval m[i] ≥ 16 ∨ acc > 9007199254740991 then none else refD 16 (m.drop (i + 1)) (16 * acc + rval m[i]) := by rw [hdrop]; rfl
      have hd16 := hr16 _ (List.getElem_mem hi1)
      refine gA ?_
      refine HIdx.mk i rfl hi1 ?_
      refine sl_some s5 hi1 fun p ep => ?_
      refine gA ?_
      refine s5.load ep (by simpa using hi1) ?_
      rw [List.getElem_map]
      unfold natV
      refine gA ?_
      refine HCall.mk ((rval_spec m[i] hd16 _).mono ?_)
      rintro e h2 ⟨rfl, rfl⟩
      by_cases hv : rval m[i] ≥ 16
      · have q1 : decide (((rval m[i] : Nat) : Int) ≥ ((16 : Nat) : Int)) = true := decide_eq_true (by omega)
        rw [hu, if_pos (Or.inl hv)]
        refine gA ?_
        exact ⟨rfl, x2⟩
      have q1 : decide (((rval m[i] : Nat) : Int) ≥ ((16 : Nat) : Int)) = false := decide_eq_false (by omega)
      by_cases ha : acc > 9007199254740991
      · have q2 : decide (((acc : Nat) : Int) > 9007199254740991) = true := decide_eq_true (by omega)
        rw [hu, if_pos (Or.inr ha)]
        refine gA ?_
        exact ⟨rfl, x2⟩
      have q2 : decide (((acc : Nat) : Int) > 9007199254740991) = false := decide_eq_false (by omega)
      have hu2 := hu.trans (if_neg (by omega))
      refine gA ?_
      refine HCall.mk ((rval_spec m[i] hd16 _).mono ?_)
      rintro e h2 ⟨rfl, rfl⟩
      refine gA ?_
      exact ⟨⟨i + 1, 16 * acc + rval m[i], rfl, by omega, by omega, hu2, rfl⟩, hmu⟩
    have hge := of_decide_eq_false hlt
    obtain rfl : i = m.length := by omega
    rw [List.drop_length]
    show aexec _ _ _ _ _
    have es : (match refD 16 [] acc with | some v => nTold (sg * v) true | none => none) = nTold (sg * acc) true := rfl
    rw [es]
    have hsa : -144115188075855888 ≤ sg * (acc : Int) ∧ sg * (acc : Int) ≤ 144115188075855888 := by rcases hsg with rfl | rfl <;> omega
    refine gA ?_
    refine HCall.mk ((rtold_spec (sg * acc) _).mono ?_)
    rintro e h3 ⟨rfl, x3⟩
    cases nTold (sg * acc) true
    · refine gA ?_
      exact ⟨rfl, x2.trans x3⟩
    · refine gA ?_
      exact ⟨rfl, x2.trans x3⟩

set_option maxHeartbeats 4000000

theorem dv_rval : ∀ n, n < 128 → dv (UInt8.ofNat n) = rval n ∨ (16 ≤ dv (UInt8.ofNat n) ∧ 16 ≤ rval n) := by decide +kernel
def capN (o : Option Nat) : Option Nat := match o with
  | some u => if u ≤ 9007199254740991 then some u else none
  | none => none
theorem pdig_ge (base : Nat) (hb : 1 ≤ base) : ∀ (l : List UInt8) (acc u : Nat), pdig base l acc = some u → acc ≤ u
  | [], acc, u, h => by cases h; exact Nat.le_refl _
  | c :: r, acc, u, h => by
    have h' : (if dv c < base ∧ acc * base + dv c < 18446744073709551616 then pdig base r (acc * base + dv c) else none) = some u := h
    split at h'
    · have := pdig_ge base hb r _ _ h'
      have : acc ≤ acc * base := Nat.le_mul_of_pos_right _ hb
      omega
    · cases h'
theorem cap_big (base : Nat) (hb : 1 ≤ base) (l : List UInt8) (acc : Nat) (h : 9007199254740991 < acc) : capN (pdig base l acc) = none := by
  cases hp : pdig base l acc with
  | none => rfl
  | some u =>
    have := pdig_ge base hb l acc u hp
    exact if_neg (by omega)
theorem both_digits (base : Nat) (hb : base = 10 ∨ base = 16) : ∀ (t : List Nat) (acc : Nat), (∀ n ∈ t, n < 128) → capN (pdig base (t.map UInt8.ofNat) acc) = capN (refD base t acc)
  | [], acc, _ => rfl
  | d :: r, acc, h => by
    have hd := dv_rval d (h d (List.mem_cons_self ..))
    have ih := fun a => both_digits base hb r a fun n hn => h n (List.mem_cons_of_mem _ hn)
    show capN (if dv (UInt8.ofNat d) < base ∧ acc * base + dv (UInt8.ofNat d) < 18446744073709551616 then pdig base (r.map UInt8.ofNat) (acc * base + dv (UInt8.ofNat d)) else none) = capN (if rval d ≥ base ∨ acc > 9007199254740991 then none else refD base r (base * acc + rval d))
    by_cases hv : rval d ≥ base
    · rw [if_pos (Or.inl hv), if_neg]
      rintro ⟨k, _⟩
      rcases hd with e | ⟨e, _⟩
      · omega
      · rcases hb with rfl | rfl <;> omega
    have hb16 : base ≤ 16 := by rcases hb with rfl | rfl <;> omega
    have e : dv (UInt8.ofNat d) = rval d := by rcases hd with e | ⟨_, e⟩ <;> omega
    rw [e]
    by_cases ha : acc > 9007199254740991
    · rw [if_pos (Or.inr ha)]
      split
      · have : acc ≤ acc * base := Nat.le_mul_of_pos_right _ (by omega)
        exact cap_big base (by omega) _ _ (by omega)
      · rfl
    · have hm : acc * base ≤ 9007199254740991 * 16 := Nat.mul_le_mul (by omega) hb16
      rw [if_neg (show ¬ (rval d ≥ base ∨ acc > 9007199254740991) by omega), if_pos ⟨by omega, by omega⟩, Nat.mul_comm base acc]
      exact ih _
theorem okS_pos (o : Option Nat) : okS (posI o) = Option.map (fun u : Nat => (u : Int)) (capN o) := by
  cases o with
  | none => rfl
  | some u =>
    show okS (if u < 9223372036854775808 then some (u : Int) else none) = Option.map _ (if u ≤ 9007199254740991 then some u else none)
    by_cases h : u ≤ 9007199254740991
    · rw [if_pos (show u < 9223372036854775808 by omega), if_pos h]
      exact if_pos (sf_iff.2 (by omega))
    · rw [if_neg h]
      split
      · exact if_neg (by rw [sf_iff]; omega)
      · rfl
theorem okS_neg (o : Option Nat) : okS (negI o) = Option.map (fun u : Nat => -(u : Int)) (capN o) := by
  cases o with
  | none => rfl
  | some u =>
    show okS (if u ≤ 9223372036854775808 then some (-(u : Int)) else none) = Option.map _ (if u ≤ 9007199254740991 then some u else none)
    by_cases h : u ≤ 9007199254740991
    · rw [if_pos (show u ≤ 9223372036854775808 by omega), if_pos h]
      exact if_pos (sf_iff.2 (by omega))
    · rw [if_neg h]
      split
      · exact if_neg (by rw [sf_iff]; omega)
      · rfl
theorem told_cap (sg : Int) (hs : sg = 1 ∨ sg = -1) (o : Option Nat) : (match o with | some v => nTold (sg * v) true | none => none) = Option.map (fun u : Nat => sg * (u : Int)) (capN o) := by
  cases o with
  | none => rfl
  | some u =>
    show nTold (sg * u) true = Option.map _ (if u ≤ 9007199254740991 then some u else none)
    unfold nTold
    by_cases h : u ≤ 9007199254740991
    · rw [if_pos h, if_pos ⟨rfl, sf_iff.2 (by rcases hs with rfl | rfl <;> omega)⟩]; rfl
    · rw [if_neg h, if_neg]; · rfl
      rintro ⟨_, k⟩
      rw [sf_iff] at k
      rcases hs with rfl | rfl <;> omega
theorem refT_cap (base : Nat) (sg : Int) (hs : sg = 1 ∨ sg = -1) (m : List Nat) : refT (base, sg, m) = if m = [] then none else Option.map (fun u : Nat => sg * (u : Int)) (capN (refD base m 0)) := by
  show (if m = [] then none else _) = _
  split
  · rfl
  · exact told_cap sg hs _
theorem pmag_cap (base : Nat) (hb : base = 10 ∨ base = 16) (t : List Nat) (h : ∀ n ∈ t, n < 128) : capN (pmag base (t.map UInt8.ofNat)) = if t = [] then none else capN (refD base t 0) := by
  unfold pmag
  cases t with
  | nil => rfl
  | cons d r => rw [if_neg (by simp), if_neg (by simp)]; exact both_digits base hb _ _ h
theorem refD_bad (base : Nat) (hb : base ≤ 16) : ∀ (m : List Nat) (acc : Nat), (∃ d ∈ m, 16 ≤ rval d) → refD base m acc = none
  | [], _, h => by obtain ⟨d, hd, _⟩ := h; cases hd
  | x :: r, acc, h => by
    show (if rval x ≥ base ∨ acc > 9007199254740991 then none else refD base r (base * acc + rval x)) = none
    split
    · rfl
    · next hk =>
      obtain ⟨d, hd, h16⟩ := h
      rcases List.mem_cons.1 hd with rfl | hd
      · omega
      · exact refD_bad base hb r _ ⟨d, hd, h16⟩
theorem rval_bad {n : Nat} (h : badN n = true) : 16 ≤ rval n := by
  unfold badN at h
  rw [decide_eq_true_eq] at h
  unfold rval
  rw [if_neg (by omega), if_neg (by omega), if_neg (by omega)]; decide
theorem tn {n : Nat} (h : n < 128) : (UInt8.ofNat n).toNat = n := by rw [UInt8.toNat_ofNat']; omega

theorem both_read (t : List Nat) : readU t = refU t := by
  unfold readU refU
  by_cases ht : t = []
  · rw [if_pos ht, if_pos ht]
  rw [if_neg ht, if_neg ht]
  by_cases hbad : t.any badN = true
  · rw [if_pos hbad]
    rw [List.any_eq_true] at hbad
    obtain ⟨x, hx, hb⟩ := hbad
    have h16 := rval_bad hb
    have hx128 : x ≠ 43 ∧ x ≠ 45 ∧ x ≠ 48 ∧ x ≠ 120 ∧ x ≠ 88 := by unfold badN at hb; rw [decide_eq_true_eq] at hb; omega
    have key : (refB t).1 ≤ 16 ∧ x ∈ (refB t).2.2 := by
      match t, hx with
      | c :: r, hx =>
        by_cases h43 : c = 43
        · rw [show refB (c :: r) = (10, 1, r) from if_pos h43]
          rcases List.mem_cons.1 hx with rfl | hx
          · omega
          · exact ⟨Nat.le_of_ble_eq_true rfl, hx⟩
        by_cases h45 : c = 45
        · rw [show refB (c :: r) = (10, -1, r) from (if_neg h43).trans (if_pos h45)]
          rcases List.mem_cons.1 hx with rfl | hx
          · omega
          · exact ⟨Nat.le_of_ble_eq_true rfl, hx⟩
        match r, hx with
        | [], hx => rw [show refB [c] = (10, 1, [c]) from (if_neg h43).trans (if_neg h45)]; exact ⟨Nat.le_of_ble_eq_true rfl, hx⟩
        | y :: r', hx =>
          by_cases hh : c = 48 ∧ (y = 120 ∨ y = 88)
          · rw [show refB (c :: y :: r') = (16, 1, r') from ((if_neg h43).trans (if_neg h45)).trans (if_pos hh)]
            simp only [List.mem_cons] at hx
            rcases hx with rfl | rfl | hx
            · omega
            · omega
            · exact ⟨Nat.le_of_ble_eq_true rfl, hx⟩
          · rw [show refB (c :: y :: r') = (10, 1, c :: y :: r') from ((if_neg h43).trans (if_neg h45)).trans (if_neg hh)]
            exact ⟨Nat.le_of_ble_eq_true rfl, hx⟩
    unfold refT
    split
    · rfl
    · rw [refD_bad _ key.1 _ _ ⟨x, key.2, h16⟩]
  rw [if_neg hbad]
  have hg : ∀ n ∈ t, n < 128 := by
    intro n hn
    rcases Nat.lt_or_ge n 128 with h | h
    · exact h
    · exact absurd (List.any_eq_true.2 ⟨n, hn, by unfold badN; rw [decide_eq_true_eq]; omega⟩) hbad
  clear hbad
  match t, ht, hg with
  | c :: r, ht, hg =>
    have hc := tn (hg c (List.mem_cons_self ..))
    have hr : ∀ n ∈ r, n < 128 := fun n hn => hg n (List.mem_cons_of_mem _ hn)
    have plain : ∀ l : List UInt8, hexR l = none → readT l = pint 10 l := fun l h => by unfold readT; rw [h]
    have hx0 : ∀ (s : List UInt8), c ≠ 48 → hexR (UInt8.ofNat c :: s) = none := by
      intro s h48
      match s with
      | [] => rfl
      | [_] => rfl
      | _ :: _ :: _ => exact if_neg (by rw [hc]; omega)
    rw [List.map_cons]
    by_cases h43 : c = 43
    · rw [show refB (c :: r) = (10, 1, r) from if_pos h43, refT_cap _ _ (.inl rfl), plain _ (hx0 _ (by omega))]
      rw [show pint 10 (UInt8.ofNat c :: r.map UInt8.ofNat) = posI (pmag 10 (r.map UInt8.ofNat)) from if_pos (by rw [hc]; exact h43)]
      rw [okS_pos, pmag_cap 10 (.inl rfl) r hr]
      split
      · rfl
      · simp only [Int.one_mul]
    by_cases h45 : c = 45
    · rw [show refB (c :: r) = (10, -1, r) from (if_neg h43).trans (if_pos h45), refT_cap _ _ (.inr rfl), plain _ (hx0 _ (by omega))]
      rw [show pint 10 (UInt8.ofNat c :: r.map UInt8.ofNat) = negI (pmag 10 (r.map UInt8.ofNat)) from (if_neg (by rw [hc]; exact h43)).trans (if_pos (by rw [hc]; exact h45))]
      rw [okS_neg, pmag_cap 10 (.inl rfl) r hr]
      split
      · rfl
      · simp only [Int.neg_mul, Int.one_mul]
    have pos10 : ∀ b, pint b (UInt8.ofNat c :: r.map UInt8.ofNat) = posI (pmag b ((c :: r).map UInt8.ofNat)) := fun b => (if_neg (by rw [hc]; exact h43)).trans (if_neg (by rw [hc]; exact h45))
    have dec : hexR (UInt8.ofNat c :: r.map UInt8.ofNat) = none → refB (c :: r) = (10, 1, c :: r) → okS (readT (UInt8.ofNat c :: r.map UInt8.ofNat)) = refT (refB (c :: r)) := by
      intro h1 h2
      rw [plain _ h1, h2, refT_cap _ _ (.inl rfl), pos10, okS_pos, pmag_cap 10 (.inl rfl) _ hg]
      split
      · rfl
      · simp only [Int.one_mul]
    match r, hr, dec, pos10, hg with
    | [], hr, dec, pos10, hg => exact dec rfl ((if_neg h43).trans (if_neg h45))
    | y :: r', hr, dec, pos10, hg =>
      have hy := tn (hr y (List.mem_cons_self ..))
      by_cases hh : c = 48 ∧ (y = 120 ∨ y = 88)
      · rw [show refB (c :: y :: r') = (16, 1, r') from ((if_neg h43).trans (if_neg h45)).trans (if_pos hh), refT_cap _ _ (.inl rfl)]
        match r', hr with
        | [], hr =>
          obtain ⟨rfl, rfl | rfl⟩ := hh
          · decide +kernel
          · decide +kernel
        | z :: r'', hr =>
          have hz := tn (hr z (by simp))
          have hr' : ∀ n ∈ z :: r'', n < 128 := fun n hn => hr n (List.mem_cons_of_mem _ hn)
          have h1 : hexR (UInt8.ofNat c :: UInt8.ofNat y :: UInt8.ofNat z :: r''.map UInt8.ofNat) = some (UInt8.ofNat z :: r''.map UInt8.ofNat) := if_pos (by rw [hc, hy]; exact hh)
          have h2 : readT (UInt8.ofNat c :: UInt8.ofNat y :: UInt8.ofNat z :: r''.map UInt8.ofNat) = if (UInt8.ofNat z).toNat = 45 ∨ (UInt8.ofNat z).toNat = 43 then none else pint 16 (UInt8.ofNat z :: r''.map UInt8.ofNat) := by unfold readT; rw [h1]
          rw [List.map_cons, List.map_cons, h2, hz, if_neg (show ¬ (z :: r'' = []) from List.cons_ne_nil _ _)]
          by_cases hs : z = 45 ∨ z = 43
          · rw [if_pos hs]
            have : rval z = 99 := by rcases hs with rfl | rfl <;> rfl
            rw [refD_bad 16 (Nat.le_refl _) _ _ ⟨z, by simp, by omega⟩]
            try rfl
          · rw [if_neg hs]
            rw [show pint 16 (UInt8.ofNat z :: r''.map UInt8.ofNat) = posI (pmag 16 ((z :: r'').map UInt8.ofNat)) from (if_neg (by rw [hz]; omega)).trans (if_neg (by rw [hz]; omega))]
            rw [okS_pos, pmag_cap 16 (.inr rfl) _ hr', if_neg (show ¬ (z :: r'' = []) from List.cons_ne_nil _ _)]
            simp only [Int.one_mul]
      · refine dec ?_ (((if_neg h43).trans (if_neg h45)).trans (if_neg hh))
        match r' with
        | [] => rfl
        | z :: r'' => exact if_neg (by rw [hc, hy]; exact hh)
theorem ref_read (l : List UInt8) : refN l = readN l := by
  unfold refN readN
  rw [both_read]

set_option maxHeartbeats 16000000
theorem rindex_spec (l : List UInt8) (hl : l.length ≤ 2097152) (h : Heap) : HCalls Tryz.prog 119 #[.string ⟨l.toArray⟩] h fun e h' => e = .returned (idxR (idxL (ulist l))) ∧ Ext h h' := by
  have hul := ulist_len l
  have hlt := ulist_lt l
  refine c119 (by simp) ?_
  refine gA ?_
  refine HCall.mk ((rlist_spec l hl h).mono ?_)
  rintro e h1 ⟨a, c, rfl, sl, x1⟩
  generalize hm : ulist l = m at hlt sl ⊢
  have hml : m.length = l.length / 2 := by rw [← hm]; exact hul
  have hmx : ∀ i (hi : i < m.length), m[i] < 65536 := fun i hi => hlt _ (List.getElem_mem hi)
  refine gB ?_
  refine cut_rule [] (fun _ h' => h' = h1 ∧ 0 < m.length ∧ m.length ≤ 9 ∧ ¬ (m.head? = some 48 ∧ 1 < m.length)) rfl ?_ ?_
  · by_cases h0 : m.length = 0
    · have q1 : decide ((m.length : Int) < 1) = true := decide_eq_true (by omega)
      have e : idxL m = none := by unfold idxL; rw [if_pos (.inl (List.length_eq_zero_iff.1 h0))]
      rw [e]
      refine gA ?_
      exact ⟨rfl, x1⟩
    have q1 : decide ((m.length : Int) < 1) = false := decide_eq_false (by omega)
    by_cases h9 : 9 < m.length
    · have q2 : decide ((m.length : Int) > 9) = true := decide_eq_true (by omega)
      have e : idxL m = none := by unfold idxL; rw [if_pos (.inr (.inl h9))]
      rw [e]
      refine gA ?_
      exact ⟨rfl, x1⟩
    have q2 : decide ((m.length : Int) > 9) = false := decide_eq_false (by omega)
    have hm0 : 0 < m.length := by omega
    have hh0 : m.head? = some m[0] := by cases m with | nil => simp at hm0 | cons a b => rfl
    have h65 := hmx 0 hm0
    refine gA ?_
    refine HIdx.mk 0 rfl hm0 ?_
    refine sl_some sl hm0 fun p ep => ?_
    refine gA ?_
    refine Sl.load sl ep (by simpa using hm0) ?_
    rw [List.getElem_map]
    by_cases h48 : m[0] = 48
    · have q3 : ((m[0] : Int) == 48) = true := by rw [h48]; rfl
      by_cases h1l : 1 < m.length
      · have q4 : decide ((m.length : Int) > 1) = true := decide_eq_true (by omega)
        have e : idxL m = none := by unfold idxL; rw [if_pos (.inr (.inr ⟨by rw [hh0, h48], h1l⟩))]
        rw [e]
        refine gA ?_
        exact ⟨rfl, x1⟩
      · have q4 : decide ((m.length : Int) > 1) = false := decide_eq_false (by omega)
        refine gA ?_
        exact ⟨rfl, hm0, by omega, fun c => h1l c.2⟩
    · have q3 : ((m[0] : Int) == 48) = false := beq_eq_false_iff_ne.2 (by omega)
      refine gA ?_
      exact ⟨rfl, hm0, by omega, by rw [hh0]; exact fun c => h48 (Option.some.inj c.1)⟩
  intro u h2
  rintro ⟨rfl, hm0, h9, hh⟩
  have er : idxL m = if m.all isDig = true then some (digV m) else none := by
    unfold idxL
    rw [if_neg]
    rintro (c | c | c)
    · rw [c] at hm0; simp at hm0
    · omega
    · exact hh c
  rw [er]
  refine gA ?_
  refine loop_rule [31, 5] (fun us h' => ∃ i : Nat, us = [.int .i64 i, .int .i64 (digV (m.take i) : Nat)] ∧ i ≤ m.length ∧ (m.take i).all isDig = true ∧ digV (m.take i) < 10 ^ i ∧ h' = h2) (fun us _ => match us with | [.int _ i, _] => m.length - i.toNat | _ => 0) rfl ?_ ?_
  · exact ⟨0, by rw [List.take_zero]; rfl, by omega, by simp, by simp [digV], rfl⟩
  intro u h3 v31 v5
  rintro ⟨i, e, hi, hall, hdv, rfl⟩
  cases e
  refine gA ?_
  refine HIf.mk (fun hlt2 => ?_) (fun hlt2 => ?_)
  · have hi1 : i < m.length := by have := of_decide_eq_true hlt2; omega
    have hmu : m.length - ((i : Int) + 1).toNat < m.length - ((i : Int)).toNat := by omega
    have h65 := hmx i hi1
    have hp9 : 10 ^ i ≤ 10 ^ 8 := Nat.pow_le_pow_right (by omega) (by omega)
    have ht := take_snoc hi1
    refine gA ?_
    refine HIdx.mk i rfl hi1 ?_
    refine sl_some sl hi1 fun p ep => ?_
    refine gA ?_
    refine Sl.load sl ep (by simpa using hi1) ?_
    rw [List.getElem_map]
    by_cases hlo : m[i] < 48
    · have q5 : decide ((m[i] : Int) < 48) = true := decide_eq_true (by omega)
      have e2 : ¬ m.all isDig = true := fun c => by
        have := of_decide_eq_true (List.all_eq_true.1 c _ (List.getElem_mem hi1)); omega
      rw [if_neg e2]
      refine gA ?_
      exact ⟨rfl, x1⟩
    · have q5 : decide ((m[i] : Int) < 48) = false := decide_eq_false (by omega)
      by_cases hhi : 57 < m[i]
      · have q6 : decide ((m[i] : Int) > 57) = true := decide_eq_true (by omega)
        have e2 : ¬ m.all isDig = true := fun c => by
          have := of_decide_eq_true (List.all_eq_true.1 c _ (List.getElem_mem hi1)); omega
        rw [if_neg e2]
        refine gA ?_
        exact ⟨rfl, x1⟩
      · have q6 : decide ((m[i] : Int) > 57) = false := decide_eq_false (by omega)
        have hdig : isDig m[i] = true := decide_eq_true (by omega)
        have ed : digV (m.take (i + 1)) = 10 * digV (m.take i) + (m[i] - 48) := by rw [ht, digV_snoc]
        refine gA ?_
        refine ⟨⟨i + 1, ?_, by omega, by rw [ht, List.all_append, hall]; simp [hdig], by rw [ed, Nat.pow_succ]; omega, rfl⟩, hmu⟩
        have ei : (10 : Int) * (digV (m.take i) : Nat) + ((m[i] : Nat) - 48) = ((digV (m.take (i + 1)) : Nat) : Int) := by rw [ed]; omega
        rw [← ei]
        try rfl
  · have hge := of_decide_eq_false hlt2
    obtain rfl : i = m.length := by omega
    rw [List.take_length] at hall
    rw [if_pos hall, List.take_length]
    refine gA ?_
    exact ⟨rfl, x1⟩
def digB : List UInt8 → Bool
  | _ :: c :: _ => decide (48 ≤ c.toNat ∧ c.toNat ≤ 57)
  | _ => false
theorem rdigit_spec (l : List UInt8) (hl : l.length ≤ 2097152) (h : Heap) : HCalls Tryz.prog 118 #[.string ⟨l.toArray⟩] h fun e h' => e = .returned (.bool (digB l)) ∧ h' = h := by
  refine c118 (by simp) ?_
  have hs : (⟨l.toArray⟩ : ByteArray).size = l.length := rfl
  match l, hl, hs with
  | [], _, _ =>
    refine gA ?_
    exact ⟨rfl, rfl⟩
  | [a], _, _ =>
    have q : decide (((⟨[a].toArray⟩ : ByteArray).size : Int) > 1) = false := rfl
    refine gA ?_
    exact ⟨rfl, rfl⟩
  | a :: c :: r, hl, hs =>
    have q : decide (((⟨(a :: c :: r).toArray⟩ : ByteArray).size : Int) > 1) = true := decide_eq_true (by rw [hs]; simp; omega)
    refine gA ?_
    refine HIdx.mk 1 rfl (by rw [hs]; simp) ?_
    refine gA ?_
    have e1 : (⟨(a :: c :: r).toArray⟩ : ByteArray).data[1]!.toNat = c.toNat := rfl
    by_cases h1 : 48 ≤ c.toNat
    · have q1 : decide (((⟨(a :: c :: r).toArray⟩ : ByteArray).data[1]!.toNat : Int) ≥ 48) = true := decide_eq_true (by rw [e1]; omega)
      refine gA ?_
      refine HIdx.mk 1 rfl (by rw [hs]; simp) ?_
      by_cases h2 : c.toNat ≤ 57
      · have q2 : decide (((⟨(a :: c :: r).toArray⟩ : ByteArray).data[1]!.toNat : Int) ≤ 57) = true := decide_eq_true (by rw [e1]; omega)
        have ed : digB (a :: c :: r) = true := decide_eq_true ⟨h1, h2⟩
        rw [ed]
        refine gA ?_
        exact ⟨congrArg (fun b => Ending.returned (.bool b)) q2, rfl⟩
      · have q2 : decide (((⟨(a :: c :: r).toArray⟩ : ByteArray).data[1]!.toNat : Int) ≤ 57) = false := decide_eq_false (by rw [e1]; omega)
        have ed : digB (a :: c :: r) = false := decide_eq_false (fun h => h2 h.2)
        rw [ed]
        refine gA ?_
        exact ⟨congrArg (fun b => Ending.returned (.bool b)) q2, rfl⟩
    · have q1 : decide (((⟨(a :: c :: r).toArray⟩ : ByteArray).data[1]!.toNat : Int) ≥ 48) = false := decide_eq_false (by rw [e1]; omega)
      have ed : digB (a :: c :: r) = false := decide_eq_false (fun h => h1 h.1)
      rw [ed]
      refine gA ?_
      exact ⟨rfl, rfl⟩
def isLenV (H : PH) (v : VV) (key : ByteArray) : Bool := match findP H v with
  | none => false
  | some o => isLenP o key
theorem cls_arr {H : PH} {v : VV} : (clsP H v = arrS) ↔ ∃ o, findP H v = some o ∧ isArr o = true := by
  unfold clsP
  cases hf : findP H v with
  | none => simp
  | some o =>
    simp only [Option.some.injEq, exists_eq_left']
    unfold isArr
    rw [strEq_iff]
theorem risLen_spec {h : Heap} {b : Nat} {H : PH} {Z : YZ} (x : YR h b H Z) (v : VV) (hn : i64 v.n) (hl : H.objs.length ≤ 1000000) (key : ByteArray) :
    HCalls Tryz.prog 68 #[.pointer (some ⟨b, 0, none⟩), .agg (cellsV v).toArray, .string key] h fun e h' => e = .returned (.bool (isLenV H v key)) ∧ Ext h h' := by
  refine c68 (by simp) ?_
  refine gA ?_
  refine new_var (e := 24) (cellsV v) rfl ?_
  intro h1 b4 o4 x1 z1 hb4
  refine gA ?_
  refine HCall.mk ((rclass_spec (x.ext x1) v hn hl).mono ?_)
  rintro e h2 ⟨rfl, x2⟩
  unfold isLenV
  by_cases hc : clsP H v = arrS
  · have q : strEq (clsP H v) ⟨#[65, 114, 114, 97, 121]⟩ = true := (strEq_iff _ _).2 hc
    obtain ⟨o, ho, ha⟩ := cls_arr.1 hc
    rw [ho]
    refine gA ?_
    refine HCall.mk ((u_spec [108, 101, 110, 103, 116, 104] (by unfold plainL; decide) (by decide) h2).mono ?_)
    rintro e h3 ⟨rfl, x3⟩
    have el : isLenP o key = strEq key lenK := by unfold isLenP; rw [ha]; rfl
    refine gA ?_
    exact ⟨by show Ending.returned (.bool (strEq key _)) = Ending.returned (.bool (isLenP o key)); rw [el]; rfl, (x1.trans x2).trans x3⟩
  · have q : strEq (clsP H v) ⟨#[65, 114, 114, 97, 121]⟩ = false := (strEq_no _ _).2 hc
    have e0 : (match findP H v with | none => false | some o => isLenP o key) = false := by
      cases hf : findP H v with
      | none => rfl
      | some o =>
        have : isArr o = false := by
          cases ha : isArr o with
          | false => rfl
          | true => exact absurd (cls_arr.2 ⟨o, hf, ha⟩) hc
        show isLenP o key = false
        unfold isLenP; rw [this]; rfl
    rw [e0]
    refine gA ?_
    exact ⟨by first | rfl | exact congrArg (fun b => Ending.returned (.bool b)) q, x1.trans x2⟩
def propI (H : PH) (v : VV) (key : ByteArray) : Option Nat := (findP H v).bind fun o => findI key o.props
theorem rprop_spec {h : Heap} {b : Nat} {H : PH} {Z : YZ} (x : YR h b H Z) (g : Good H) (v : VV) (hn : i64 v.n) (key : ByteArray) (hk : key.size ≤ 2097152) :
    HCalls Tryz.prog 69 #[.pointer (some ⟨b, 0, none⟩), .agg (cellsV v).toArray, .string key] h fun e h' => e = .returned (.int .i64 (atR (propI H v key))) ∧ Ext h h' := by
  refine c69 (by simp) ?_
  have hlen := x.len
  refine gA ?_
  refine new_var (e := 24) (cellsV v) rfl ?_
  intro h1 b4 o4 x1 z1 hb4
  refine gA ?_
  refine HCall.mk ((rat_spec (x.ext x1) v hn g.few.len).mono ?_)
  rintro e h2 ⟨rfl, x2⟩
  have x02 := x1.trans x2
  unfold propI
  cases ha : atP H v with
  | none =>
    rw [findP_none ha]
    refine gA ?_
    exact ⟨rfl, x02⟩
  | some i =>
    have hi := atP_lt ha
    have hz : i < Z.os.length := by omega
    rw [findP_some ha, Option.bind_some]
    have hov : H.objs[i] ∈ H.objs := List.getElem_mem hi
    have knd := (g.keys _ hov).nd
    have y2 := x.ext x02
    have o := y2.b
    have q : decide (atR (some i) < 0) = false := decide_eq_false (by show ¬ (i : Int) < 0; omega)
    have wp := y2.all _ (List.getElem_mem hz)
    have e1 := x.at hi hz
    have hpl := g.few.props _ hov
    have hvs := g.vals _ hov
    refine gA ?_
    refine HIdx.mk i rfl hz ?_
    refine sl_some y2.o.sl hz fun p ep => ?_
    refine gA ?_
    refine Sl.loadGF cellsO_len y2.o.sl ep hz (by decide) rfl ?_
    rw [e1] at wp ⊢
    generalize Z.os[i].2.1 = pa at wp
    generalize Z.os[i].2.2 = pc at wp
    generalize H.objs[i].props = ps at *
    obtain ⟨⟨kl⟩⟩ := key
    have hkl : kl.length ≤ 2097152 := hk
    refine gB ?_
    refine cut_rule [] (fun us h' => us = [] ∧ Ext h2 h') rfl ?_ ?_
    · refine gA ?_
      refine HCall.mk ((rdigit_spec kl hkl h2).mono ?_)
      rintro e h3 ⟨rfl, rfl⟩
      cases hd : digB kl with
      | false =>
        refine gA ?_
        exact ⟨rfl, Ext.refl _⟩
      | true =>
        refine gA ?_
        refine HCall.mk ((rindex_spec kl hkl h3).mono ?_)
        rintro e h4 ⟨rfl, x4⟩
        unfold idxR
        cases hx : idxL (ulist kl) with
        | none =>
          have q : (none : Option Nat).isSome = false := rfl
          refine gA ?_
          exact ⟨rfl, x4⟩
        | some j =>
          have q : (some j).isSome = true := rfl
          by_cases hjn : j < ps.length
          · have q2 : decide ((((some j).getD 0 : Nat) : Int) < (ps.length : Int)) = true := decide_eq_true (by show ((j : Nat) : Int) < ps.length; omega)
            have w4 := wp.ext x4
            refine gA ?_
            refine HIdx.mk j rfl hjn ?_
            refine sl_some w4.sl hjn fun p ep => ?_
            refine gA ?_
            refine Sl.loadF (f := 0) w4.sl ep hjn (by decide) rfl ?_
            by_cases hke : ps[j].1 = ⟨⟨kl⟩⟩
            · have q3 : strEq ps[j].1 ⟨⟨kl⟩⟩ = true := (strEq_iff _ _).2 hke
              have ef : findI ⟨⟨kl⟩⟩ ps = some j := by rw [← hke]; exact findI_at knd hjn
              rw [ef]
              refine gA ?_
              exact ⟨rfl, x02.trans x4⟩
            · have q3 : strEq ps[j].1 ⟨⟨kl⟩⟩ = false := (strEq_no _ _).2 hke
              refine gA ?_
              exact ⟨rfl, x4⟩
          · have q2 : decide ((((some j).getD 0 : Nat) : Int) < (ps.length : Int)) = false := decide_eq_false (by show ¬ ((j : Nat) : Int) < ps.length; omega)
            refine gA ?_
            exact ⟨rfl, x4⟩
    intro u h5
    rintro ⟨_, x5⟩
    have w5 := wp.ext x5
    have x05 := x02.trans x5
    refine gA ?_
    refine loop_rule [52] (fun us h' => ∃ k : Nat, us = [.int .i64 k] ∧ k ≤ ps.length ∧ Ext h5 h' ∧ findI ⟨⟨kl⟩⟩ ps = (findI ⟨⟨kl⟩⟩ (ps.drop k)).map (· + k)) (fun us _ => match us with | [.int _ k] => ps.length - k.toNat | _ => 0) rfl ?_ ?_
    · exact ⟨0, rfl, by omega, Ext.refl _, by simp⟩
    intro u h6 v52
    rintro ⟨k, e, hk', x6, G⟩
    cases e
    have w6 := w5.ext x6
    refine gA ?_
    refine HIf.mk (fun hlt => ?_) (fun hlt => ?_)
    · have hk1 : k < ps.length := by have := of_decide_eq_true hlt; omega
      have hmu : ps.length - ((k : Int) + 1).toNat < ps.length - ((k : Int)).toNat := by omega
      rw [List.drop_eq_getElem_cons hk1] at G
      refine gA ?_
      refine HIdx.mk k rfl hk1 ?_
      refine sl_some w6.sl hk1 fun p ep => ?_
      refine gA ?_
      refine Sl.loadK w6.sl ep hk1 ?_
      generalize ps[k] = pk at G
      refine gA ?_
      refine new_var (e := 53) zeroK rfl ?_
      intro h7 b12 o12 x7 z7 hb12
      refine gA ?_
      refine store_blk o12 (by simp [cellsK]) (by intro y hy; exact cellsKs_one [pk] y (by simpa [cellsKs] using hy)) ?_
      intro h8 f8 z8 o8
      replace o8 : BlkW h8 b12 53 (cellsK pk) := by simpa [cellsK] using o8
      replace o8 : BlkW h8 b12 53 [.string pk.1, .int .i64 pk.2.k, .int .i64 pk.2.n, .string pk.2.s, .bool true, .bool true, .bool true] := o8
      have x8 : Ext h6 h8 := x7.offNew f8 (by omega)
      by_cases hke : pk.1 = ⟨⟨kl⟩⟩
      · have q3 : strEq pk.1 ⟨⟨kl⟩⟩ = true := (strEq_iff _ _).2 hke
        have ef : findI ⟨⟨kl⟩⟩ ps = some k := by rw [G]; unfold findI; rw [if_pos hke]; simp
        rw [ef]
        refine gA ?_
        exact ⟨rfl, (x05.trans x6).trans x8⟩
      · have q3 : strEq pk.1 ⟨⟨kl⟩⟩ = false := (strEq_no _ _).2 hke
        have G2 : findI ⟨⟨kl⟩⟩ ps = (findI ⟨⟨kl⟩⟩ (ps.drop (k + 1))).map (· + (k + 1)) := by
          rw [G]
          conv => lhs; unfold findI; rw [if_neg hke]
          rw [Option.map_map]
          congr 1
          funext y
          show y + 1 + k = y + (k + 1)
          omega
        refine gA ?_
        exact ⟨⟨k + 1, rfl, by omega, x6.trans x8, G2⟩, hmu⟩
    · have hge := of_decide_eq_false hlt
      obtain rfl : k = ps.length := by omega
      rw [List.drop_length] at G
      have ef : findI ⟨⟨kl⟩⟩ ps = none := G
      rw [ef]
      refine gA ?_
      exact ⟨rfl, x05.trans x6⟩
set_option maxHeartbeats 16000000
def ownV (H : PH) (v : VV) (key : ByteArray) : Option VV := (findP H v).bind fun o => ownP o key
def propX (H : PH) (v : VV) (key : ByteArray) : List Value := propC key (!isLenV H v key) (!isLenV H v key) (ownV H v key)
theorem rown_spec {h : Heap} {b : Nat} {H : PH} {Z : YZ} (x : YR h b H Z) (g : Good H) (v : VV) (hn : i64 v.n) (key : ByteArray) (hk : key.size ≤ 2097152) :
    HCalls Tryz.prog 25 #[.pointer (some ⟨b, 0, none⟩), .agg (cellsV v).toArray, .string key] h fun e h' => e = .returned (.tuple #[.agg (propX H v key).toArray, .bool (ownV H v key).isSome]) ∧ Ext h h' := by
  refine c25 (by simp) ?_
  have hlen := x.len
  have few := g.few
  refine gA ?_
  refine new_var (e := 24) (cellsV v) rfl ?_
  intro h1 b4 o4 x1 z1 hb4
  refine gA ?_
  refine new_var (e := 53) zeroK rfl ?_
  intro h2 b6 o6 x2 z2 hb6
  replace o4 := o4.ext x2
  have hx1 := x1.1
  refine gA ?_
  refine HCall.mk ((risLen_spec (x.ext (x1.trans x2)) v hn few.len key).mono ?_)
  rintro e h3 ⟨rfl, x3⟩
  replace o4 := o4.ext x3
  replace o6 := o6.ext x3
  have x03 := (x1.trans x2).trans x3
  unfold propX
  cases hl : isLenV H v key with
  | true =>
    have hfo : ∃ o, findP H v = some o ∧ isLenP o key = true := by
      unfold isLenV at hl
      cases hf : findP H v with
      | none => rw [hf] at hl; cases hl
      | some o => rw [hf] at hl; exact ⟨o, rfl, hl⟩
    obtain ⟨o, hfo, hlo⟩ := hfo
    have ha : ∃ i, ∃ hi : i < H.objs.length, atP H v = some i ∧ H.objs[i] = o := by
      cases ha : atP H v with
      | none => rw [findP_none ha] at hfo; cases hfo
      | some i => rw [findP_some ha] at hfo; exact ⟨i, atP_lt ha, rfl, Option.some.inj hfo⟩
    obtain ⟨i, hi, ha, rfl⟩ := ha
    have hz : i < Z.os.length := by omega
    have eo : ownV H v key = some ⟨3, H.objs[i].long, noS⟩ := by unfold ownV; rw [hfo, Option.bind_some]; unfold ownP; rw [if_pos hlo]
    rw [eo]
    have e1 := x.at hi hz
    have X := Ext.refl h3
    refine gB ?_
    refine cut_rule [8] (fun us h' => ∃ b8, us = [.pointer (some ⟨b8, 0, none⟩)] ∧ BlkW h' b8 105 (cellsO Z.os[i]) ∧ Ext h3 h' ∧ h3.size ≤ b8) rfl ?_ ?_
    · have oo := (x.ext x03).b
      refine gA ?_
      repeat' (first
        | (refine HAlt.mk ?_ ?_ <;> refine gA ?_)
        | (refine new_var (e := 105) [.string ⟨#[]⟩, .int .i64 0, .int .i64 0, .string ⟨#[]⟩, .slice none 0 0, .bool false, .int .i64 0, .bool false] rfl ?_
           intro hn' b8 o8 xn zn hb8
           have lb8 : h3.size ≤ b8 := by have := X.1; omega
           have X := X.trans xn
           have o4 := o4.ext xn
           have oo := oo.ext xn
           refine gA ?_)
        | (refine HCall.mk ((rat_spec (x.ext (x03.trans X)) v hn few.len).mono ?_)
           rintro e hn' ⟨rfl, xn⟩
           have X := X.trans xn
           have o4 := o4.ext xn
           have oo := oo.ext xn
           try have o8 := o8.ext xn
           rw [ha]
           refine gA ?_)
        | (refine HIdx.mk i rfl hz ?_
           have yy := x.ext (x03.trans X)
           refine sl_some yy.o.sl hz fun p ep => ?_
           refine gA ?_
           refine Sl.loadG cellsO_len yy.o.sl ep hz ?_
           refine gA ?_)
        | (refine store_blk o8 (by simp) (ro_one Z.os[i]) ?_
           intro hn' fn zn on
           replace on : BlkW hn' b8 105 (cellsO Z.os[i]) := by simpa using on
           refine gA ?_
           exact ⟨b8, rfl, on, X.offNew fn lb8, lb8⟩))
    intro u h4 v8
    rintro ⟨b8, e, o8, x4, lb8⟩
    cases e
    replace o6 := o6.ext x4
    have l6 := o6.lt
    have e8 : cellsO Z.os[i] = [.string H.objs[i].cls, .int .i64 H.objs[i].proto.k, .int .i64 H.objs[i].proto.n, .string H.objs[i].proto.s, .slice Z.os[i].2.1 H.objs[i].props.length Z.os[i].2.2, .bool false, .int .i64 H.objs[i].long, .bool true] := by rw [← e1]
    rw [e8] at o8
    refine gA ?_
    refine store_blk o6 (by simp) (by simp [isOne]) ?_
    intro h5 f5 z5 o5
    replace o5 : BlkW h5 b6 53 [.string key, .int .i64 3, .int .i64 H.objs[i].long, .string noS, .bool true, .bool false, .bool false] := by simpa using o5
    refine gA ?_
    exact ⟨rfl, (x03.trans x4).offNew f5 (by omega)⟩
  | false =>
    refine gA ?_
    refine HCall.mk ((rprop_spec (x.ext x03) g v hn key hk).mono ?_)
    rintro e h4 ⟨rfl, x4⟩
    replace o4 := o4.ext x4
    replace o6 := o6.ext x4
    have x04 := x03.trans x4
    cases hp : propI H v key with
    | none =>
      have q : decide (atR none < 0) = true := rfl
      have eo : ownV H v key = none := by
        unfold ownV
        unfold propI at hp
        cases hf : findP H v with
        | none => rfl
        | some o =>
          rw [hf, Option.bind_some] at hp
          have hll : isLenP o key = false := by unfold isLenV at hl; rw [hf] at hl; exact hl
          rw [Option.bind_some]
          unfold ownP
          rw [hll, if_neg (by simp)]
          exact (findI_none hp).1
      rw [eo]
      refine gA ?_
      refine store_blk o6 (by simp) (by simp [isOne]) ?_
      intro h5 f5 z5 o5
      replace o5 : BlkW h5 b6 53 zeroK := by simpa using o5
      refine gA ?_
      exact ⟨rfl, x04.offNew f5 (by omega)⟩
    | some k =>
      have q : decide (atR (some k) < 0) = false := decide_eq_false (by show ¬ (k : Int) < 0; omega)
      obtain ⟨i, hi, ha, hf⟩ : ∃ i, ∃ hi : i < H.objs.length, atP H v = some i ∧ findI key H.objs[i].props = some k := by
        unfold propI at hp
        cases ha : atP H v with
        | none => rw [findP_none ha] at hp; cases hp
        | some i => rw [findP_some ha, Option.bind_some] at hp; exact ⟨i, atP_lt ha, rfl, hp⟩
      have hz : i < Z.os.length := by omega
      obtain ⟨hkl, hkk, hlk⟩ := findI_some hf
      have eo : ownV H v key = some H.objs[i].props[k].2 := by
        unfold ownV
        rw [findP_some ha, Option.bind_some]
        have hll : isLenP H.objs[i] key = false := by unfold isLenV at hl; rw [findP_some ha] at hl; exact hl
        unfold ownP
        rw [hll, if_neg (by simp), hlk]
      rw [eo]
      have e1 := x.at hi hz
      have oo := (x.ext x04).b
      refine gA ?_
      refine HAlt.mk ?_ ?_
      all_goals
        refine gA ?_
        refine HCall.mk ((rat_spec (x.ext x04) v hn few.len).mono ?_)
        rintro e h5 ⟨rfl, x5⟩
        replace oo := oo.ext x5
        replace o6 := o6.ext x5
        have x05 := x04.trans x5
        rw [ha]
        have yy := x.ext x05
        have wp := yy.all _ (List.getElem_mem hz)
        rw [e1] at wp
        refine gA ?_
        refine HIdx.mk i rfl hz ?_
        refine sl_some yy.o.sl hz fun p ep => ?_
        refine gA ?_
        refine Sl.loadGF cellsO_len yy.o.sl ep hz (by decide) rfl ?_
        rw [e1]
        refine gA ?_
        refine HIdx.mk k rfl hkl ?_
        refine sl_some wp.sl hkl fun p ep => ?_
        refine gA ?_
        refine Sl.loadK wp.sl ep hkl ?_
        refine gA ?_
        refine store_blk o6 (by simp [cellsK]) (by intro y hy; exact cellsKs_one [H.objs[i].props[k]] y (by simpa [cellsKs] using hy)) ?_
        intro h6 f6 z6 o66
        replace o66 : BlkW h6 b6 53 (cellsK H.objs[i].props[k]) := by simpa [cellsK] using o66
        replace o66 : BlkW h6 b6 53 [.string key, .int .i64 H.objs[i].props[k].2.k, .int .i64 H.objs[i].props[k].2.n, .string H.objs[i].props[k].2.s, .bool true, .bool true, .bool true] := by rw [← hkk]; exact o66
        refine gA ?_
        exact ⟨rfl, x05.offNew f6 (by omega)⟩
theorem chainP_some {H : PH} (w : Wf H) {v : VV} {i : Nat} (h : atP H v = some i) : chainP H v = (H.objs[i]'(atP_lt h)) :: chainP H (H.objs[i]'(atP_lt h)).proto := by
  unfold chainP
  rw [chainX_some w h, List.filterMap_cons, List.getElem?_eq_getElem (atP_lt h)]
theorem chainP_none {H : PH} {v : VV} (h : atP H v = none) : chainP H v = [] := by unfold chainP; rw [chainX_none h]; rfl
theorem rfind_spec {h : Heap} {b : Nat} {H : PH} {Z : YZ} (x : YR h b H Z) (g : Good H) (v : VV) (hn : i64 v.n) (key : ByteArray) (hk : key.size ≤ 2097152) :
    HCalls Tryz.prog 87 #[.pointer (some ⟨b, 0, none⟩), .agg (cellsV v).toArray, .string key] h fun e h' => ∃ e1 e2, e = .returned (.tuple #[.agg (propC key e1 e2 (seekL key (chainP H v))).toArray, .bool (seekL key (chainP H v)).isSome]) ∧ Ext h h' := by
  refine c87 (by simp) ?_
  have hlen := x.len
  have few := g.few
  refine gA ?_
  refine new_var (e := 24) (cellsV v) rfl ?_
  intro h1 b4 o4 x1 z1 hb4
  refine gA ?_
  refine new_var (e := 53) zeroK rfl ?_
  intro h2 b6 o6 x2 z2 hb6
  replace o4 := o4.ext x2
  have hx1 := x1.1
  have x02 := x1.trans x2
  have l4 := o4.lt
  have l6 := o6.lt
  refine gA ?_
  refine loop_ghost [] (fun (w : VV) us h' => us = [] ∧ i64 w.n ∧ BlkW h' b4 24 (cellsV w) ∧ BlkW h' b6 53 zeroK ∧ Ext h h' ∧ h2.size ≤ h'.size ∧ seekL key (chainP H v) = seekL key (chainP H w)) (fun w => (chainP H w).length) rfl ?_ ?_
  · exact ⟨v, rfl, hn, o4, o6, x02, Nat.le_refl _, rfl⟩
  clear o4 o6
  rintro w u h3 ⟨_, hw, o4, o6, x3, hz3, G⟩
  have y3 := x.ext x3
  refine gA ?_
  refine HCall.mk ((rat_spec y3 w hw few.len).mono ?_)
  rintro e h4 ⟨rfl, x4⟩
  replace o4 := o4.ext x4
  replace o6 := o6.ext x4
  have x04 := x3.trans x4
  have y4 := x.ext x04
  have hx4 := x4.1
  cases ha : atP H w with
  | none =>
    rw [chainP_none ha] at G
    rw [G]
    refine gA ?_
    refine store_blk o6 (by simp) (by simp [isOne]) ?_
    intro h5 f5 z5 o5
    replace o5 : BlkW h5 b6 53 zeroK := by simpa using o5
    refine gA ?_
    exact ⟨false, false, rfl, x04.offNew f5 (by omega)⟩
  | some i =>
    have hi := atP_lt ha
    have q : decide (atR (some i) ≥ 0) = true := decide_eq_true (by show (0 : Int) ≤ (i : Int); omega)
    have ec := chainP_some g.wf ha
    rw [ec] at G
    have eow : ownV H w key = ownP H.objs[i] key := by unfold ownV; rw [findP_some ha, Option.bind_some]
    refine gA ?_
    refine HCall.mk ((rown_spec y4 g w hw key hk).mono ?_)
    rintro e h5 ⟨rfl, x5⟩
    replace o4 := o4.ext x5
    replace o6 := o6.ext x5
    have x05 := x04.trans x5
    have hx5 := x5.1
    unfold propX
    rw [eow]
    generalize (!isLenV H w key) = fl
    have hl7 := propC_len key fl fl (ownP H.objs[i] key)
    refine gA ?_
    refine new_var (e := 53) zeroK rfl ?_
    intro h6 b8 o8 x6 z6 hb8
    replace o4 := o4.ext x6
    replace o6 := o6.ext x6
    refine gA ?_
    refine HMust.mk (by simp [propC_len]) ?_
    refine store_blk o8 (by simp [propC_len]) (by simpa using propC_one key fl fl (ownP H.objs[i] key)) ?_
    intro h7 f7 z7 o7
    replace o7 : BlkW h7 b8 53 (propC key fl fl (ownP H.objs[i] key)) := by simpa [propC_len] using o7
    replace o4 := o4.offk f7 (by omega)
    replace o6 := o6.offk f7 (by omega)
    have x07 : Ext h h7 := (x05.trans x6).offNew f7 (by have := x05.1; omega)
    have hx6 := x6.1
    have hf7 := f7.1
    cases ho : ownP H.objs[i] key with
    | some y =>
      rw [ho] at o7
      have eg : seekL key (chainP H v) = some y := by rw [G]; unfold seekL; rw [ho]
      rw [eg]
      have q2 : (some y).isSome = true := rfl
      refine gN ?_
      refine store_blk o6 (by simp [propC]) (by simpa using propC_one key fl fl (some y)) ?_
      intro h8 f8 z8 o68
      replace o68 : BlkW h8 b6 53 (propC key fl fl (some y)) := by simpa [propC] using o68
      refine gN ?_
      exact ⟨fl, fl, rfl, x07.offNew f8 (by omega)⟩
    | none =>
      have q2 : (none : Option VV).isSome = false := rfl
      have eg : seekL key (chainP H v) = seekL key (chainP H H.objs[i].proto) := by rw [G]; conv => lhs; unfold seekL; rw [ho]
      refine gA ?_
      refine HCall.mk ((rproto_spec (x.ext x07) w hw few.len).mono ?_)
      rintro e h8 ⟨rfl, x8⟩
      replace o4 := o4.ext x8
      replace o6 := o6.ext x8
      rw [findP_some ha]
      have hx8 := x8.1
      refine gA ?_
      refine store_blk o4 (by simp) (by simp [isOne]) ?_
      intro h9 f9 z9 o49
      replace o49 : BlkW h9 b4 24 (cellsV H.objs[i].proto) := by simpa using o49
      refine gA ?_
      exact ⟨H.objs[i].proto, ⟨rfl, g.wf.num i hi, o49, o6.offk f9 (by omega), (x07.trans x8).offNew f9 (by omega), by have := f9.1; omega, eg⟩, by show (chainP H H.objs[i].proto).length < (chainP H w).length; rw [ec]; simp⟩
theorem rget_spec {h : Heap} {b : Nat} {H : PH} {Z : YZ} (x : YR h b H Z) (g : Good H) (v : VV) (hn : i64 v.n) (key : ByteArray) (hk : key.size ≤ 2097152) :
    HCalls Tryz.prog 170 #[.pointer (some ⟨b, 0, none⟩), .agg (cellsV v).toArray, .string key] h fun e h' => e = .returned (.tuple #[.agg (cellsV (getP H v key)).toArray, .bool (seekL key (chainP H v)).isSome]) ∧ Ext h h' := by
  refine c170 (by simp) ?_
  refine gA ?_
  refine new_var (e := 24) (cellsV v) rfl ?_
  intro h1 b4 o4 x1 z1 hb4
  refine gA ?_
  refine new_var (e := 24) [.int .i64 0, .int .i64 0, .string ⟨#[]⟩] rfl ?_
  intro h2 b6 o6 x2 z2 hb6
  replace o4 := o4.ext x2
  have hx1 := x1.1
  have x02 := x1.trans x2
  have hx2 := x2.1
  refine gA ?_
  refine HCall.mk ((rfind_spec (x.ext x02) g v hn key hk).mono ?_)
  rintro e h3 ⟨e1, e2, rfl, x3⟩
  replace o6 := o6.ext x3
  have hx3 := x3.1
  have hl := propC_len key e1 e2 (seekL key (chainP H v))
  refine gA ?_
  refine new_var (e := 53) zeroK rfl ?_
  intro h4 b8 o8 x4 z4 hb8
  replace o6 := o6.ext x4
  refine gA ?_
  refine HMust.mk (by simp [propC_len]) ?_
  refine store_blk o8 (by simp [propC_len]) (by simpa using propC_one key e1 e2 (seekL key (chainP H v))) ?_
  intro h5 f5 z5 o5
  replace o5 : BlkW h5 b8 53 (propC key e1 e2 (seekL key (chainP H v))) := by simpa [propC_len] using o5
  replace o6 := o6.offk f5 (by omega)
  refine gA ?_
  refine blk_ldSub o5 (by rw [hl]; omega) ?_
  have ev : ((propC key e1 e2 (seekL key (chainP H v))).drop 1).take 3 = cellsV (getP H v key) := by
    unfold getP
    cases seekL key (chainP H v) <;> rfl
  rw [ev]
  refine gA ?_
  refine store_blk o6 (by simp) (by simp [isOne]) ?_
  intro h6 f6 z6 o66
  replace o66 : BlkW h6 b6 24 (cellsV (getP H v key)) := by simpa using o66
  refine gN ?_
  have X : Ext h h6 := ((((x02.trans x3).trans x4).offNew f5 (by omega)).offNew f6 (by omega))
  exact ⟨rfl, X⟩
set_option maxHeartbeats 16000000
theorem digB_of {l : List UInt8} {j : Nat} (he : l.length % 2 = 0) (h : idxL (ulist l) = some j) : digB l = true := by
  have e := key_idx he h
  rw [e, keyL_dig]
  have f := digL_facts j
  cases hd : digL j with
  | nil => exact absurd hd f.1
  | cons c r =>
    have hc : isDig c = true := by
      have := f.2.1
      rw [hd, List.all_cons, Bool.and_eq_true] at this
      exact this.1
    have hc' := of_decide_eq_true hc
    show decide (48 ≤ (UInt8.ofNat c).toNat ∧ (UInt8.ofNat c).toNat ≤ 57) = true
    have : (UInt8.ofNat c).toNat = c := by simp; omega
    rw [this]
    exact decide_eq_true hc'
theorem hlen_le {H : PH} (g : Good H) (v : VV) : hlenP H v ≤ 1000 := by
  unfold hlenP
  cases hf : findP H v with
  | none => simp
  | some o =>
    show (if isArr o = true then o.long else 0) ≤ 1000
    have : o ∈ H.objs := by
      unfold findP at hf
      cases ha : atP H v with
      | none => rw [ha] at hf; cases hf
      | some i => rw [ha, Option.bind_some] at hf; exact List.mem_of_getElem? hf
    have := (g.keys o this).long
    split <;> omega
theorem relements_spec {h : Heap} {b : Nat} {H : PH} {Z : YZ} (x : YR h b H Z) (g : Good H) (v : VV) (hn : i64 v.n) :
    HCalls Tryz.prog 148 #[.pointer (some ⟨b, 0, none⟩), .agg (cellsV v).toArray, .int .i64 (hlenP H v : Nat)] h fun e h' =>
      ∃ (a : Option Addr) (c : Nat), e = .returned (.slice a (elemsP H v).length c) ∧ Own h' h.size 24 3 a (elemsP H v).length c ((elemsP H v).flatMap cellsV) ∧ Ext h h' := by
  refine c148 (by simp) ?_
  have few := g.few
  have hlen := x.len
  have hln := hlen_le g v
  have elen : (elemsP H v).length = hlenP H v := by rw [elemsP_eq]; simp
  have el0 := elemsP_eq H v
  rw [elen]
  generalize hN : hlenP H v = n at *
  have ec : Builtin.zeroCells zeroV.toArray n = ((List.replicate n undefV).flatMap cellsV).toArray := by
    rw [zeroCells_flat, List.flatMap_replicate]
  have ed : Builtin.zeroCells [Value.bool false].toArray n = ((List.replicate n false).map Value.bool).toArray := by
    rw [zeroCells_one, List.map_replicate]
  refine gA ?_
  refine new_var (e := 24) (cellsV v) rfl ?_
  intro h1 b4 o4 x1 z1 hb4
  have l4 := o4.lt
  refine gA ?_
  refine HBound.mk n rfl (by omega) ?_
  refine HBound.mk n rfl (by omega) ?_
  refine HMust.mk ⟨Nat.le_refl _, by omega⟩ ?_
  refine new_own (e := 24) 3 n ((List.replicate n undefV).flatMap cellsV) (by rw [← ec]) (by rw [flat_get (f := cellsV) (s := 3) (fun _ => rfl)]; simp) ?_
  intro h2 ba wa x2 z2 hba
  replace o4 := o4.ext x2
  refine gA ?_
  refine HBound.mk n rfl (by omega) ?_
  refine HBound.mk n rfl (by omega) ?_
  refine HMust.mk ⟨Nat.le_refl _, by omega⟩ ?_
  refine new_own (e := 4) 1 n ((List.replicate n false).map Value.bool) (by rw [← ed]) (by simp) ?_
  intro h3 bb wb x3 z3 hbb
  replace o4 := o4.ext x3
  replace wa := wa.ext x3
  have hx1 := x1.1
  have x03 := (x1.trans x2).trans x3
  have lba := (wa.lt _ rfl).2
  have lbb := (wb.lt _ rfl).2
  have hab : ba ≠ bb := by omega
  have h4a : b4 ≠ ba := by omega
  have h4b : b4 ≠ bb := by omega
  have wa := wa.lower (B' := h.size) (by omega)
  have wb := wb.lower (B' := h.size) (by omega)
  refine gA ?_
  refine loop_ghost [] (fun (w : VV) us h' => us = [] ∧ i64 w.n ∧ BlkW h' b4 24 (cellsV w) ∧ Ext h h' ∧ h3.size ≤ h'.size ∧ ∃ (l : List VV) (met : List Bool), Own h' h.size 24 3 (some ⟨ba, 0, none⟩) l.length n (l.flatMap cellsV) ∧ Own h' h.size 4 1 (some ⟨bb, 0, none⟩) met.length n (met.map Value.bool) ∧
      Gath n (fun i => elemP i (chainP H v)) (fun i => elemP i (chainP H w)) l met) (fun w => (chainP H w).length) rfl ?_ ?_
  · exact ⟨v, rfl, hn, o4, x03, Nat.le_refl _, List.replicate n undefV, List.replicate n false, by rw [List.length_replicate]; exact wa, by rw [List.length_replicate]; exact wb, gath_start n _⟩
  clear o4 wa wb
  rintro w u h4 ⟨_, hw, o4, x4, hz4, l, met, wa, wb, G⟩
  have fin : ∀ (h' : Heap) (l' : List VV) (met' : List Bool), Own h' h.size 24 3 (some ⟨ba, 0, none⟩) l'.length n (l'.flatMap cellsV) → l' = elemsP H v → Own h' h.size 24 3 (some ⟨ba, 0, none⟩) n n ((elemsP H v).flatMap cellsV) := by
    intro h' l' met' w' e
    subst e
    rw [elen] at w'
    exact w'
  by_cases hn0 : n = 0
  · have q1 : decide ((n : Int) > 0) = false := decide_eq_false (by omega)
    refine gA ?_
    refine ⟨_, _, rfl, fin h4 l met wa ?_, x4⟩
    rw [el0, hn0]
    have := G.1
    rw [hn0] at this
    exact List.length_eq_zero_iff.1 this
  have q1 : decide ((n : Int) > 0) = true := decide_eq_true (by omega)
  refine gA ?_
  refine HCall.mk ((rat_spec (x.ext x4) w hw few.len).mono ?_)
  rintro e h5 ⟨rfl, x5⟩
  replace o4 := o4.ext x5
  replace wa := wa.ext x5
  replace wb := wb.ext x5
  have x05 := x4.trans x5
  have hx5 := x5.1
  cases ha : atP H w with
  | none =>
    rw [chainP_none ha] at G
    have q2 : decide (atR none ≥ 0) = false := rfl
    refine gA ?_
    refine ⟨_, _, rfl, fin h5 l met wa ?_, x05⟩
    rw [el0]
    exact gath_end G
  | some i =>
    have hi := atP_lt ha
    have hz : i < Z.os.length := by omega
    have q2 : decide (atR (some i) ≥ 0) = true := decide_eq_true (by show (0 : Int) ≤ (i : Int); omega)
    have ecn := chainP_some g.wf ha
    rw [ecn] at G
    have e1 := x.at hi hz
    have ho : H.objs[i] ∈ H.objs := List.getElem_mem hi
    have hpl := few.props _ ho
    have hvs := g.vals _ ho
    have hev := (g.keys _ ho).even
    have pr := g.wf.num i hi
    refine gB ?_
    refine Z1 ?_
    refine gB ?_
    refine cut_rule [34, 35, 36] (fun us h' => us = [.slice Z.os[i].2.1 H.objs[i].props.length Z.os[i].2.2, .int .i64 H.objs[i].props.length, .int .i64 0] ∧ Ext h5 h') rfl ?_ ?_
    · have oo := (x.ext x05).b
      refine gA ?_
      refine HAlt.mk ?_ ?_
      all_goals
        refine gA ?_
        refine HCall.mk ((rat_spec (x.ext x05) w hw few.len).mono ?_)
        rintro e h6 ⟨rfl, x6⟩
        replace oo := oo.ext x6
        rw [ha]
        have yy := x.ext (x05.trans x6)
        refine gA ?_
        refine HIdx.mk i rfl hz ?_
        refine sl_some yy.o.sl hz fun p ep => ?_
        refine gA ?_
        refine Sl.loadGF cellsO_len yy.o.sl ep hz (by decide) rfl ?_
        rw [e1]
        refine gA ?_
        exact ⟨rfl, x6⟩
    intro u h6 v34 v35 v36
    rintro ⟨e, x6⟩
    cases e
    replace o4 := o4.ext x6
    replace wa := wa.ext x6
    replace wb := wb.ext x6
    have x06 := x05.trans x6
    have hx6 := x6.1
    have lt4 := o4.lt
    have G0 : Gath n (fun i => elemP i (chainP H v)) (propsE (H.objs[i].props.drop 0) (chainP H H.objs[i].proto)) l met := by
      have e : (fun j => elemP j (H.objs[i] :: chainP H H.objs[i].proto)) = propsE (H.objs[i].props.drop 0) (chainP H H.objs[i].proto) := by
        funext j
        rfl
      rw [← e]; exact G
    refine gA ?_
    refine loop_rule [36] (fun us h' => ∃ (k : Nat) (l : List VV) (met : List Bool), us = [.int .i64 k] ∧ k ≤ H.objs[i].props.length ∧ BlkW h' b4 24 (cellsV w) ∧ Ext h h' ∧ h6.size ≤ h'.size ∧ Own h' h.size 24 3 (some ⟨ba, 0, none⟩) l.length n (l.flatMap cellsV) ∧ Own h' h.size 4 1 (some ⟨bb, 0, none⟩) met.length n (met.map Value.bool) ∧
      Gath n (fun i => elemP i (chainP H v)) (propsE (H.objs[i].props.drop k) (chainP H H.objs[i].proto)) l met) (fun us _ => match us with | [.int _ k] => H.objs[i].props.length - k.toNat | _ => 0) rfl ?_ ?_
    · exact ⟨0, l, met, rfl, by omega, o4, x06, Nat.le_refl _, wa, wb, G0⟩
    clear wa wb G G0 l met o4
    intro u h7 v36
    rintro ⟨k, l, met, e, hk, o4, x7, hz7, wa, wb, G⟩
    cases e
    have y7 := x.ext x7
    have wp := y7.all _ (List.getElem_mem hz)
    rw [e1] at wp
    refine gA ?_
    refine HIf.mk (fun hlt => ?_) (fun hlt => ?_)
    · have hk1 : k < H.objs[i].props.length := by have := of_decide_eq_true hlt; omega
      have hmu : H.objs[i].props.length - ((k : Int) + 1).toNat < H.objs[i].props.length - ((k : Int)).toNat := by omega
      rw [List.drop_eq_getElem_cons hk1] at G
      have hv := hvs _ (List.getElem_mem hk1)
      have hve := hev _ (List.getElem_mem hk1)
      generalize hp : H.objs[i].props[k] = p at G hv hve
      refine gA ?_
      refine HIdx.mk k rfl hk1 ?_
      refine sl_some wp.sl hk1 fun a ea => ?_
      refine gA ?_
      refine Sl.loadK wp.sl ea hk1 ?_
      rw [hp]
      refine gA ?_
      refine new_var (e := 53) zeroK rfl ?_
      intro h10 b11 o11 x10 z10 hb11
      refine gA ?_
      refine store_blk o11 (by simp [cellsK]) (by intro y hy; exact cellsKs_one [p] y (by simpa [cellsKs] using hy)) ?_
      intro h11 f11 z11 o11
      replace o11 : BlkW h11 b11 53 (cellsK p) := by simpa [cellsK] using o11
      replace o11 : BlkW h11 b11 53 [.string p.1, .int .i64 p.2.k, .int .i64 p.2.n, .string p.2.s, .bool true, .bool true, .bool true] := o11
      have X11 : Ext h7 h11 := x10.offNew f11 (by omega)
      have wa11 := wa.ext X11
      have wb11 := wb.ext X11
      have o411 := o4.ext X11
      have hX11 := X11.1
      have lt4' := o4.lt
      obtain ⟨⟨⟨pl⟩⟩, pv⟩ := p
      have hpl2 : pl.length ≤ 2097152 := hv.2
      have hpe : pl.length % 2 = 0 := hve
      refine gA ?_
      refine HCall.mk ((rdigit_spec pl hpl2 h11).mono ?_)
      rintro e h12 ⟨rfl, rfl⟩
      have ei : idxK ⟨⟨pl⟩⟩ = idxL (ulist pl) := rfl
      cases hd : digB pl with
      | false =>
        have q3 : (!false) = true := rfl
        refine gA ?_
        refine ⟨⟨k + 1, l, met, rfl, by omega, o411, x7.trans X11, by omega, wa11, wb11, gath_skip G fun j e => ?_⟩, hmu⟩
        rw [ei] at e
        rw [digB_of hpe e] at hd
        cases hd
      | true =>
      have q3 : (!true) = false := rfl
      refine gA ?_
      refine HCall.mk ((rindex_spec pl hpl2 h12).mono ?_)
      rintro e h13 ⟨rfl, x13⟩
      replace o11 := o11.ext x13
      have wa12 := wa11.ext x13
      have wb12 := wb11.ext x13
      have o412 := o411.ext x13
      have x713 := (x7.trans X11).trans x13
      have hx13 := x13.1
      unfold idxR
      cases hx : idxL (ulist pl) with
      | none =>
        have q4 : (none : Option Nat).isSome = false := rfl
        refine gA ?_
        exact ⟨⟨k + 1, l, met, rfl, by omega, o412, x713, by omega, wa12, wb12, gath_skip G fun j e => by rw [ei, hx] at e; cases e⟩, hmu⟩
      | some j =>
        have q4 : (some j).isSome = true := rfl
        by_cases hjn : j < n
        · have q5 : decide ((((some j).getD 0 : Nat) : Int) < (n : Int)) = true := decide_eq_true (by show ((j : Nat) : Int) < n; omega)
          have hml := G.2.1
          have hll := G.1
          have hjm : j < met.length := by omega
          have hjl : j < l.length := by omega
          have wbn := wb12
          rw [hml] at wbn
          have wan := wa12
          rw [hll] at wan
          refine gA ?_
          refine HIdx.mk j rfl hjn ?_
          refine sl_some wbn.sl hjn fun a ea => ?_
          refine gA ?_
          refine Sl.load wbn.sl ea (by simpa using hjm) ?_
          rw [List.getElem_map]
          cases hm : met[j] with
          | true =>
            have q6 : (!true) = false := rfl
            refine gA ?_
            exact ⟨⟨k + 1, l, met, rfl, by omega, o412, x713, by omega, wa12, wb12, gath_skip G fun j' e => by rw [ei, hx] at e; cases e; intro _ _; exact hm⟩, hmu⟩
          | false =>
            have q6 : (!false) = true := rfl
            refine gA ?_
            refine HIdx.mk j rfl hjn ?_
            refine sl_some wbn.sl hjn fun pb epb => ?_
            refine gA ?_
            refine Own.store (v := .bool true) wb12 epb hjm rfl fun h14 f14 _ z14 wb14 => ?_
            have epc : pb = ⟨bb, 0, none⟩ := (Option.some.inj epb).symm
            rw [epc] at f14
            replace f14 : Off bb h13 h14 := f14
            have hf14 := f14.1
            have wa14 := wa12.off f14 (fun p ep => by cases ep; exact hab)
            have wan14 := wan.off f14 (fun p ep => by cases ep; exact hab)
            have o414 := o412.offk f14 h4b
            replace o11 := o11.offk f14 (by omega)
            have em : (met.map Value.bool).set j (.bool true) = (met.set j true).map Value.bool := by rw [List.map_set]
            rw [em] at wb14
            have eml : (met.set j true).length = met.length := by simp
            refine gA ?_
            refine blk_ldSub o11 (by simp) ?_
            refine gA ?_
            refine HIdx.mk j rfl hjn ?_
            refine sl_some wan14.sl hjn fun pa epa => ?_
            refine gA ?_
            refine Own.storeEl (f := cellsV) (fun _ => rfl) wa14 epa hjl pv (by simp [isOne]) fun h15 f15 z15 wa15 => ?_
            have epd : pa = ⟨ba, 0, none⟩ := (Option.some.inj epa).symm
            rw [epd] at f15
            replace f15 : Off ba h14 h15 := f15
            have hf15 := f15.1
            have wb15 := wb14.off f15 (fun p ep => by cases ep; exact Ne.symm hab)
            have o415 := o414.offk f15 h4a
            refine gA ?_
            exact ⟨⟨k + 1, l.set j pv, met.set j true, rfl, by omega, o415, (x713.offNew f14 (by omega)).offNew f15 (by omega), by omega, wa15, by rw [eml]; exact wb15, gath_take G (by rw [ei, hx]) hjl hjm hm⟩, hmu⟩
        · have q5 : decide ((((some j).getD 0 : Nat) : Int) < (n : Int)) = false := decide_eq_false (by show ¬ ((j : Nat) : Int) < n; omega)
          refine gA ?_
          exact ⟨⟨k + 1, l, met, rfl, by omega, o412, x713, by omega, wa12, wb12, gath_skip G fun j' e => by rw [ei, hx] at e; cases e; intro h1; omega⟩, hmu⟩
    · have hge := of_decide_eq_false hlt
      obtain rfl : k = H.objs[i].props.length := by omega
      rw [List.drop_length] at G
      have lt7 := o4.lt
      refine gA ?_
      refine HCall.mk ((rproto_spec (x.ext x7) w hw few.len).mono ?_)
      rintro e h8 ⟨rfl, x8⟩
      replace o4 := o4.ext x8
      rw [findP_some ha]
      have hx8 := x8.1
      refine gA ?_
      refine store_blk o4 (by simp) (by simp [isOne]) ?_
      intro h9 f9 z9 o49
      replace o49 : BlkW h9 b4 24 (cellsV H.objs[i].proto) := by simpa using o49
      have hf9 := f9.1
      refine gA ?_
      exact ⟨H.objs[i].proto, ⟨rfl, pr, o49, (x7.trans x8).offNew f9 (by omega), by omega, l, met, (wa.ext x8).off f9 (fun p ep => by cases ep; exact Ne.symm h4a), (wb.ext x8).off f9 (fun p ep => by cases ep; exact Ne.symm h4b), G⟩, by show (chainP H H.objs[i].proto).length < (chainP H w).length; rw [ecn]; simp⟩
set_option maxHeartbeats 16000000
theorem roB_nd (r : RO) : (roB r).Nodup := by unfold roB blk; cases r.2.1 <;> simp
theorem YR.upd {h h' : Heap} {b : Nat} {H : PH} {Z : YZ} (x : YR h b H Z) {i : Nat} (hz : i < Z.os.length) (r' : RO)
    (w : Own h' 0 105 8 Z.oa (Z.os.set i r').length Z.oc ((Z.os.set i r').flatMap cellsO))
    (wp : Own h' 0 53 7 r'.2.1 r'.1.props.length r'.2.2 (cellsKs r'.1.props))
    (hs : h.size ≤ h'.size) (kp : ∀ y, y < h.size → y ∉ blk Z.oa → y ∉ roB Z.os[i] → h'[y]? = h[y]?) (fr : ∀ y ∈ roB r', y ∈ roB Z.os[i] ∨ h.size ≤ y) :
    YR h' b (updP H i r'.1) ⟨Z.oa, Z.oc, Z.os.set i r'⟩ ∧ PassF (Z.bs b) (YZ.bs b ⟨Z.oa, Z.oc, Z.os.set i r'⟩) h h' := by
  have nds := x.nds
  have hlt := x.lt
  have inB : ∀ y ∈ Z.os.flatMap roB, y < h.size := fun y hy => hlt y (by simp only [YZ.bs, List.mem_cons, List.mem_append]; exact .inr (.inr hy))
  have bB : b < h.size := x.b.lt
  have memi : ∀ y ∈ roB Z.os[i], y ∈ Z.os.flatMap roB := fun y hy => List.mem_flatMap.2 ⟨_, List.getElem_mem hz, hy⟩
  have fresh : ∀ y ∈ roB r', y ∈ roB Z.os[i] ∨ y ∉ Z.os.flatMap roB := fun y hy => (fr y hy).imp id fun h1 h2 => by have := inB y h2; omega
  have sub : ∀ y ∈ (Z.os.set i r').flatMap roB, y ∈ Z.os.flatMap roB ∨ h.size ≤ y := by
    intro y hy
    rcases fm_set_mem hy with h1 | h1
    · exact (fr y h1).imp (memi y) id
    · exact .inl h1
  refine ⟨⟨?_, w, ?_, ?_, ?_⟩, hs, fun y hy hn => ?_, fun y hy => ?_⟩
  · show BlkW h' b 108 [.slice Z.oa (Z.os.set i r').length Z.oc, _, _]
    rw [List.length_set]
    exact x.b.of (kp b bB (fun hm => by obtain ⟨p, ep, e⟩ := blk_of hm; exact (nds.1 p ep).1 e) (fun hm => nds.2.1 (memi b hm)))
  · show (Z.os.set i r').map (·.1) = H.objs.set i r'.1
    rw [List.map_set, x.e]
  · intro r hr
    obtain ⟨j, hj, rfl⟩ := List.getElem_of_mem hr
    have hj' : j < Z.os.length := by simpa using hj
    rw [List.getElem_set]
    by_cases e : i = j
    · rw [if_pos e]; exact wp
    · rw [if_neg e]
      refine Own.same (x.all _ (List.getElem_mem hj')) fun y hy => ?_
      have hm : y ∈ Z.os.flatMap roB := List.mem_flatMap.2 ⟨_, List.getElem_mem hj', hy⟩
      refine kp y (inB y hm) (fun h1 => ?_) (fun h1 => fm_disj nds.2.2 hz hj' e h1 hy)
      obtain ⟨p, ep, rfl⟩ := blk_of h1
      exact (nds.1 p ep).2 hm
  · show (b :: (blk Z.oa ++ (Z.os.set i r').flatMap roB)).Nodup
    refine nodup_hz (fun p ep => ⟨(nds.1 p ep).1, fun hm => ?_⟩) (fun hm => ?_) (fm_set_nodup hz nds.2.2 (roB_nd r') fresh)
    · rcases sub _ hm with h1 | h1
      · exact (nds.1 p ep).2 h1
      · have := (x.o.lt p ep).2; omega
    · rcases sub _ hm with h1 | h1
      · exact nds.2.1 h1
      · omega
  · exact kp y hy (fun hm => hn (by simp only [YZ.bs, List.mem_cons, List.mem_append]; exact .inr (.inl hm))) (fun hm => hn (by simp only [YZ.bs, List.mem_cons, List.mem_append]; exact .inr (.inr (memi y hm))))
  · simp only [YZ.bs, List.mem_cons, List.mem_append] at hy ⊢
    rcases hy with rfl | hy | hy
    · exact .inl (.inl rfl)
    · exact .inl (.inr (.inl hy))
    · exact (sub y hy).imp (fun h1 => .inr (.inr h1)) id
theorem upd_upd (H : PH) (i : Nat) (o o' : PO) : updP (updP H i o) i o' = updP H i o' := by unfold updP; rw [List.set_set]
abbrev rowZ (Z : YZ) (i : Nat) (r : RO) : YZ := ⟨Z.oa, Z.oc, Z.os.set i r⟩
def lowQ (n : Nat) (p : KV) : Bool := match idxK p.1 with | some j => decide (j < n) | none => true
theorem rcut_spec {h : Heap} {b : Nat} {H : PH} {Z : YZ} (x : YR h b H Z) (g : Good H) {i : Nat} (hi : i < H.objs.length) (hz : i < Z.os.length) (n : Nat) (hn : n ≤ 1000) :
    HCalls Tryz.prog 134 #[.pointer (some ⟨b, 0, none⟩), .int .i64 i, .int .i64 n] h fun e h' => ∃ (m : Int) (Z' : YZ), e = .returned (.int .i64 m) ∧ YR h' b (updP H i (sizeP H.objs[i] n)) Z' ∧ PassF (Z.bs b) (Z'.bs b) h h' := by
  refine c134 (by simp) ?_
  have few := g.few
  have o := x.b
  have e1 := x.at hi hz
  have ho : H.objs[i] ∈ H.objs := List.getElem_mem hi
  have hpl := few.props _ ho
  have hvs := g.vals _ ho
  have kok := g.keys _ ho
  obtain ⟨p0, ep0⟩ : ∃ p0, Z.oa = some p0 := by
    cases ho : Z.oa with
    | none => have := x.o.2.2.1 ho; have := x.o.2.1; omega
    | some p => exact ⟨p, rfl⟩
  refine gA ?_
  refine HIdx.mk i rfl hz ?_
  refine sl_some x.o.sl hz fun p ep => ?_
  obtain rfl : p0 = p := by rw [ep0] at ep; exact Option.some.inj ep
  refine gA ?_
  refine loop_ghost [] (fun (r : RO) us h' => us = [] ∧ YR h' b (updP H i r.1) (rowZ Z i r) ∧ PassF (Z.bs b) ((rowZ Z i r).bs b) h h' ∧ r.1 = ⟨H.objs[i].cls, H.objs[i].proto, r.1.props, H.objs[i].long⟩ ∧ r.1.props.filter (lowQ n) = H.objs[i].props.filter (lowQ n) ∧ (∀ q ∈ r.1.props, q ∈ H.objs[i].props) ∧ r.1.props.length ≤ H.objs[i].props.length) (fun r => r.1.props.length) rfl ?_ ?_
  · have er : Z.os.set i Z.os[i] = Z.os := List.set_getElem_self _
    have eh : updP H i Z.os[i].1 = H := by unfold updP; rw [e1, List.set_getElem_self]
    refine ⟨Z.os[i], rfl, ?_, ?_, ?_, ?_, ?_, ?_⟩
    · rw [eh]; unfold rowZ; rw [er]; exact x
    · unfold rowZ; rw [er]; exact .refl _ _
    · rw [e1]
    · rw [e1]
    · rw [e1]; exact fun q hq => hq
    · rw [e1]; omega
  rintro ⟨⟨rc, rp, ps, rl⟩, pa, pc⟩ u h1 ⟨_, y1, P1, er, ef, sub, hlp⟩
  simp only [PO.mk.injEq] at er
  obtain ⟨rfl, rfl, _, rfl⟩ := er
  simp only at ef sub hlp
  have hzr : i < (Z.os.set i ((⟨H.objs[i].cls, H.objs[i].proto, ps, H.objs[i].long⟩, pa, pc) : RO)).length := by simpa using hz
  have egr : (Z.os.set i ((⟨H.objs[i].cls, H.objs[i].proto, ps, H.objs[i].long⟩, pa, pc) : RO))[i] = (⟨H.objs[i].cls, H.objs[i].proto, ps, H.objs[i].long⟩, pa, pc) := List.getElem_set_self _
  generalize hrr : ((⟨H.objs[i].cls, H.objs[i].proto, ps, H.objs[i].long⟩, pa, pc) : RO) = rr at y1 P1 hzr egr
  have wp : Own h1 0 53 7 pa ps.length pc (cellsKs ps) := by
    have := y1.all rr (List.mem_of_getElem egr)
    rw [← hrr] at this
    exact this
  have hP1 := P1.1
  refine gB ?_
  refine cut_rule [8, 9] (fun us h' => Ext h1 h' ∧ ((us = [.int .i64 (-1), .int .i64 (-1)] ∧ ∀ q ∈ ps, lowQ n q = true) ∨ ∃ (m k : Nat), us = [.int .i64 m, .int .i64 k] ∧ ∃ hk : k < ps.length, lowQ n ps[k] = false)) rfl ?_ ?_
  · refine gA ?_
    refine Sl.loadGF cellsO_len y1.o.sl ep hzr (by decide) rfl ?_
    rw [egr, ← hrr]
    refine gA ?_
    refine loop_rule [25, 8, 9] (fun us h' => Ext h1 h' ∧ ∃ t : Nat, t ≤ ps.length ∧ ((us = [.int .i64 t, .int .i64 (-1), .int .i64 (-1)] ∧ ∀ q ∈ ps.take t, lowQ n q = true) ∨ ∃ (m k : Nat), us = [.int .i64 t, .int .i64 m, .int .i64 k] ∧ ∃ hk : k < ps.length, lowQ n ps[k] = false)) (fun us _ => match us with | [.int _ k, _, _] => ps.length - k.toNat | _ => 0) rfl ?_ ?_
    · exact ⟨Ext.refl _, 0, by omega, .inl ⟨rfl, by simp⟩⟩
    intro u h2 v25 v8 v9
    rintro ⟨x2, t, ht, hc⟩
    have w2 := wp.ext x2
    have hx2 := x2.1
    obtain ⟨m, k, e, hmk⟩ : ∃ m k : Int, [v25, v8, v9] = [.int .i64 t, .int .i64 m, .int .i64 k] ∧ ((m = -1 ∧ k = -1 ∧ ∀ q ∈ ps.take t, lowQ n q = true) ∨ ∃ k' : Nat, k = k' ∧ 0 ≤ m ∧ ∃ hk : k' < ps.length, lowQ n ps[k'] = false) := by
      rcases hc with ⟨e, hall⟩ | ⟨m, k, e, hk⟩
      · exact ⟨-1, -1, e, .inl ⟨rfl, rfl, hall⟩⟩
      · exact ⟨m, k, e, .inr ⟨k, rfl, Int.natCast_nonneg m, hk⟩⟩
    clear hc
    cases e
    refine gA ?_
    refine HIf.mk (fun hlt => ?_) (fun hlt => ?_)
    · have ht1 : t < ps.length := by have : (t : Int) < (ps.length : Int) := of_decide_eq_true hlt; omega
      have hmu : ps.length - ((t : Int) + 1).toNat < ps.length - ((t : Int)).toNat := by omega
      have hq := hvs _ (sub _ (List.getElem_mem ht1))
      have etk : ps.take (t + 1) = ps.take t ++ [ps[t]] := by rw [List.take_add_one, List.getElem?_eq_getElem ht1]; rfl
      have hlow0 : lowQ n ps[t] = match idxK ps[t].1 with | some j => decide (j < n) | none => true := rfl
      have again : ∀ (h' : Heap), Ext h1 h' → lowQ n ps[t] = true → Ext h1 h' ∧ ∃ t' : Nat, t' ≤ ps.length ∧ (([Value.int .i64 ((t : Int) + 1), .int .i64 m, .int .i64 k] = [.int .i64 t', .int .i64 (-1), .int .i64 (-1)] ∧ ∀ q ∈ ps.take t', lowQ n q = true) ∨ ∃ (m' k' : Nat), [Value.int .i64 ((t : Int) + 1), .int .i64 m, .int .i64 k] = [.int .i64 t', .int .i64 m', .int .i64 k'] ∧ ∃ hk : k' < ps.length, lowQ n ps[k'] = false) := by
        intro h' X hl
        refine ⟨X, t + 1, by omega, ?_⟩
        rcases hmk with ⟨rfl, rfl, hall⟩ | ⟨k', rfl, hm, hk⟩
        · refine .inl ⟨rfl, fun q hq => ?_⟩
          rw [etk] at hq
          rcases List.mem_append.1 hq with h1 | h1
          · exact hall q h1
          · simp at h1; rw [h1]; exact hl
        · exact .inr ⟨m.toNat, k', by rw [Int.toNat_of_nonneg hm]; rfl, hk⟩
      generalize hp : ps[t] = p at hq hlow0 again
      refine gA ?_
      refine HIdx.mk t rfl ht1 ?_
      refine sl_some w2.sl ht1 fun a ea => ?_
      refine gA ?_
      refine Sl.loadK w2.sl ea ht1 ?_
      rw [hp]
      refine gA ?_
      refine new_var (e := 53) zeroK rfl ?_
      intro h10 b11 o11 x10 z10 hb11
      refine gA ?_
      refine store_blk o11 (by simp [cellsK]) (by intro y hy; exact cellsKs_one [p] y (by simpa [cellsKs] using hy)) ?_
      intro h11 f11 z11 o11
      replace o11 : BlkW h11 b11 53 (cellsK p) := by simpa [cellsK] using o11
      replace o11 : BlkW h11 b11 53 [.string p.1, .int .i64 p.2.k, .int .i64 p.2.n, .string p.2.s, .bool true, .bool true, .bool true] := o11
      have X11 : Ext h1 h11 := x2.trans (x10.offNew f11 (by omega))
      obtain ⟨⟨⟨pl⟩⟩, pv⟩ := p
      refine gA ?_
      refine HCall.mk ((rindex_spec pl hq.2 h11).mono ?_)
      rintro e h12 ⟨rfl, x12⟩
      have X12 := X11.trans x12
      have ei : idxK ⟨⟨pl⟩⟩ = idxL (ulist pl) := rfl
      unfold idxR
      rw [show (idxK ((⟨⟨pl⟩⟩ : ByteArray), pv).1) = idxL (ulist pl) from rfl] at hlow0
      cases hx : idxL (ulist pl) with
      | none =>
        rw [hx] at hlow0
        have q4 : (none : Option Nat).isSome = false := rfl
        refine gA ?_
        exact ⟨again _ X12 hlow0, hmu⟩
      | some j =>
        rw [hx] at hlow0
        have q4 : (some j).isSome = true := rfl
        by_cases hjn : j < n
        · have q5 : decide ((((some j).getD 0 : Nat) : Int) ≥ (n : Int)) = false := decide_eq_false (by show ¬ ((j : Nat) : Int) ≥ n; omega)
          refine gA ?_
          exact ⟨again _ X12 (by rw [hlow0]; exact decide_eq_true hjn), hmu⟩
        · have q5 : decide ((((some j).getD 0 : Nat) : Int) ≥ (n : Int)) = true := decide_eq_true (by show ((j : Nat) : Int) ≥ n; omega)
          have hl0 : lowQ n ps[t] = false := by rw [hp, hlow0]; exact decide_eq_false hjn
          by_cases hjm : (j : Int) > m
          · have q6 : decide ((((some j).getD 0 : Nat) : Int) > m) = true := decide_eq_true hjm
            refine gA ?_
            exact ⟨⟨X12, t + 1, by omega, .inr ⟨j, t, rfl, ht1, hl0⟩⟩, hmu⟩
          · have q6 : decide ((((some j).getD 0 : Nat) : Int) > m) = false := decide_eq_false hjm
            refine gA ?_
            refine ⟨⟨X12, t + 1, by omega, ?_⟩, hmu⟩
            rcases hmk with ⟨rfl, rfl, hall⟩ | ⟨k', rfl, hm, hk⟩
            · omega
            · exact .inr ⟨m.toNat, k', by rw [Int.toNat_of_nonneg hm]; rfl, hk⟩
    · have hge : ¬ (t : Int) < (ps.length : Int) := of_decide_eq_false hlt
      obtain rfl : t = ps.length := by omega
      refine gA ?_
      refine ⟨x2, ?_⟩
      rcases hmk with ⟨rfl, rfl, hall⟩ | ⟨k', rfl, hm, hk⟩
      · exact .inl ⟨rfl, by rw [List.take_length] at hall; exact hall⟩
      · exact .inr ⟨m.toNat, k', by rw [Int.toNat_of_nonneg hm]; rfl, hk⟩
  intro u h2 v8 v9
  rintro ⟨x2, hc⟩
  have y2 := y1.ext x2
  have w2 := wp.ext x2
  have hx2 := x2.1
  have P2 := P1.trans (.of_ext x2)
  rcases hc with ⟨e, hall⟩ | ⟨m, k, e, hk, hlow⟩
  · cases e
    have hps : ps = H.objs[i].props.filter (lowQ n) := by rw [← ef]; exact (List.filter_eq_self.2 hall).symm
    refine gA ?_
    refine Own.storeRow cellsO_len y2.o ep hzr ((⟨H.objs[i].cls, H.objs[i].proto, ps, n⟩, pa, pc) : RO) (j := 6) (vs := [.int .i64 n]) (by rw [egr, ← hrr]; rfl) (by simp) (by simp [isOne]) fun h3 f3 z3 w3 => ?_
    have ess : (rowZ Z i rr).os.set i ((⟨H.objs[i].cls, H.objs[i].proto, ps, n⟩, pa, pc) : RO) = Z.os.set i ((⟨H.objs[i].cls, H.objs[i].proto, ps, n⟩, pa, pc) : RO) := by show (Z.os.set i rr).set i _ = _; rw [List.set_set]
    have hz2 : i < (rowZ Z i rr).os.length := hzr
    have eg2 : (rowZ Z i rr).os[i] = rr := egr
    have ndr := y1.nds
    have hpn : ∀ p, pa = some p → p.block ≠ p0.block := by
      intro p ep' e
      refine (ndr.1 p0 ep0).2 (List.mem_flatMap.2 ⟨rr, List.mem_of_getElem egr, ?_⟩)
      rw [← e, ← hrr]
      exact blk_mem ep'
    obtain ⟨u1, u2⟩ := y2.upd hz2 ((⟨H.objs[i].cls, H.objs[i].proto, ps, n⟩, pa, pc) : RO) w3 (w2.off f3 hpn) f3.1 (fun y hy h1 h2 => f3.2 y hy (fun e => h1 (by rw [e]; exact blk_mem ep0))) (fun y hy => .inl (by rw [eg2, ← hrr]; exact hy))
    rw [upd_upd] at u1
    rw [ess] at u1 u2
    have esz : (⟨H.objs[i].cls, H.objs[i].proto, ps, n⟩ : PO) = sizeP H.objs[i] n := by
      rw [hps]; rfl
    rw [esz] at u1 u2
    refine gA ?_
    exact ⟨0, _, rfl, u1, P2.trans u2⟩
  · cases e
    have q1 : decide ((k : Int) < 0) = false := decide_eq_false (by omega)
    have hpc := w2.2.1
    have hkp : k < ps.length := hk
    refine gA ?_
    refine Sl.loadGF cellsO_len y2.o.sl ep hzr (by decide) rfl ?_
    rw [egr, ← hrr]
    refine gA ?_
    refine HIdx.mk k rfl hk ?_
    refine sl_some w2.sl hk fun a ea => ?_
    refine gA ?_
    refine Sl.loadF (f := 6) w2.sl ea hk (by decide) rfl ?_
    have q2 : (!true) = false := rfl
    refine gA ?_
    refine Sl.loadGF cellsO_len y2.o.sl ep hzr (by decide) rfl ?_
    rw [egr, ← hrr]
    refine gA ?_
    refine HBound.mk k rfl (show k ≤ pc by omega) ?_
    refine gA ?_
    refine Sl.loadGF cellsO_len y2.o.sl ep hzr (by decide) rfl ?_
    rw [egr, ← hrr]
    refine gA ?_
    refine HBound.mk (k + 1) (by omega) (show k + 1 ≤ ps.length by omega) ?_
    refine gA ?_
    have hkl := cellsKs_len ps
    have s1 := w2.sl.slice (i := 0) (j := k) (by omega) (by omega)
    rw [cellsKs_take ps k (by omega), Nat.zero_mul, List.drop_zero] at s1
    refine s1.cells ?_
    refine Own.none_app rfl (by rw [cellsKs_len, List.length_take, Nat.min_eq_left (by omega), Nat.sub_zero]) (cellsKs_one _) (by omega) ?_
    intro h3 a3 c3 w3 x3
    have w23 := w2.ext x3
    have y3 := y2.ext x3
    have hx3 := x3.1
    refine gA ?_
    have s2 := w23.sl.slice (i := k + 1) (j := ps.length) (by omega) (Nat.le_refl _)
    rw [← hkl, List.take_length, cellsKs_drop ps (k + 1) (by omega)] at s2
    refine s2.cells ?_
    refine Own.grow (m := ps.length - (k + 1)) w3 hx3 rfl (by rw [cellsKs_len, List.length_drop]) (cellsKs_one _) (by omega) ?_
    intro h4 a4 c4 w4 g4
    rw [← cellsKs_append, ← erase_split] at w4
    have hg4 := g4.1
    have fr3 : ∀ p, a3 = some p → h2.size ≤ p.block := fun p ep => (w3.lt p ep).1
    have fr4 : ∀ p, a4 = some p → h2.size ≤ p.block := fun p ep => (w4.lt p ep).1
    have k4 : ∀ y, y < h2.size → h4[y]? = h2[y]? := fun y hy => by rw [g4.2.1 y (by omega) (fun p ep => by have := fr3 p ep; omega), x3.2 y hy]
    have ndr := y1.nds
    have o4 : Own h4 0 105 8 (rowZ Z i rr).oa (rowZ Z i rr).os.length (rowZ Z i rr).oc ((rowZ Z i rr).os.flatMap cellsO) := Own.same y2.o fun y hy => k4 y (by obtain ⟨p, ep, rfl⟩ := blk_of hy; exact (y2.o.lt p ep).2)
    have hz2 : i < (rowZ Z i rr).os.length := hzr
    have eg2 : (rowZ Z i rr).os[i] = rr := egr
    have eln : (ps.eraseIdx k).length = (k - 0) + (ps.length - (k + 1)) := by rw [List.length_eraseIdx_of_lt hk]; omega
    refine gA ?_
    refine Own.storeRow cellsO_len o4 ep hz2 ((⟨H.objs[i].cls, H.objs[i].proto, ps.eraseIdx k, H.objs[i].long⟩, a4, c4) : RO) (j := 4) (vs := [.slice a4 (k - 0 + (ps.length - (k + 1))) c4]) (by rw [eg2, ← hrr, ← eln]; rfl) (by simp) (by simp [isOne]) fun h5 f5 z5 w5 => ?_
    have ess : (rowZ Z i rr).os.set i ((⟨H.objs[i].cls, H.objs[i].proto, ps.eraseIdx k, H.objs[i].long⟩, a4, c4) : RO) = Z.os.set i ((⟨H.objs[i].cls, H.objs[i].proto, ps.eraseIdx k, H.objs[i].long⟩, a4, c4) : RO) := by show (Z.os.set i rr).set i _ = _; rw [List.set_set]
    have p0l : p0.block < h2.size := (y2.o.lt p0 ep0).2
    have wp5 : Own h5 0 53 7 a4 (ps.eraseIdx k).length c4 (cellsKs (ps.eraseIdx k)) := by
      rw [eln]
      exact (w4.off f5 (fun p ep' => by have := fr4 p ep'; omega)).lower (Nat.zero_le _)
    obtain ⟨u1, u2⟩ := y2.upd hz2 ((⟨H.objs[i].cls, H.objs[i].proto, ps.eraseIdx k, H.objs[i].long⟩, a4, c4) : RO) w5 wp5 (by have := f5.1; omega) (fun y hy h1 h2 => by
      rw [f5.2 y (by omega) (fun e => h1 (by rw [e]; exact blk_mem ep0)), k4 y hy]) (fun y hy => .inr (by obtain ⟨p, ep', rfl⟩ := blk_of hy; exact fr4 p ep'))
    rw [upd_upd] at u1
    rw [ess] at u1 u2
    refine gA ?_
    refine ⟨((⟨H.objs[i].cls, H.objs[i].proto, ps.eraseIdx k, H.objs[i].long⟩, a4, c4) : RO), ⟨rfl, u1, P2.trans u2, rfl, ?_, fun q hq => sub q (List.mem_of_mem_eraseIdx hq), by show (ps.eraseIdx k).length ≤ _; omega⟩, by show (ps.eraseIdx k).length < ps.length; omega⟩
    show (ps.eraseIdx k).filter (lowQ n) = _
    rw [← ef, erase_split]
    conv => rhs; rw [← List.take_append_drop k ps, List.drop_eq_getElem_cons hk]
    rw [List.filter_append, List.filter_append, List.filter_cons_of_neg (by rw [hlow]; simp)]
set_option maxHeartbeats 16000000
theorem oa_some {h : Heap} {b : Nat} {H : PH} {Z : YZ} (x : YR h b H Z) {i : Nat} (hz : i < Z.os.length) : ∃ p0, Z.oa = some p0 := by
  cases ho : Z.oa with
  | none => have := x.o.2.2.1 ho; have := x.o.2.1; omega
  | some p => exact ⟨p, rfl⟩
theorem pa_ne {h : Heap} {b : Nat} {H : PH} {Z : YZ} (x : YR h b H Z) {i : Nat} (hz : i < Z.os.length) {p0 : Addr} (ep0 : Z.oa = some p0) : ∀ p, Z.os[i].2.1 = some p → p.block ≠ p0.block := by
  intro p ep e
  refine (x.nds.1 p0 ep0).2 (List.mem_flatMap.2 ⟨_, List.getElem_mem hz, ?_⟩)
  rw [← e]
  exact blk_mem ep
theorem rlength_spec {h : Heap} {b : Nat} {H : PH} {Z : YZ} (x : YR h b H Z) (g : Good H) {i : Nat} (hi : i < H.objs.length) (hz : i < Z.os.length) (har : isArr H.objs[i] = true) (v : VV) (hv : i64 v.n) :
    HCalls Tryz.prog 86 #[.pointer (some ⟨b, 0, none⟩), .int .i64 i, .agg (cellsV v).toArray] h fun e h' => ∃ (m : Int) (Z' : YZ), e = .returned (.int .i64 m) ∧ YR h' b (if v.k = 3 ∧ 0 ≤ v.n ∧ v.n ≤ 1000 then updP H i (sizeP H.objs[i] v.n.toNat) else H) Z' ∧ PassF (Z.bs b) (Z'.bs b) h h' := by
  obtain ⟨vk, vn, vs⟩ := v
  simp only at hv ⊢
  refine c86 (by simp) ?_
  have e1 := x.at hi hz
  have ho : H.objs[i] ∈ H.objs := List.getElem_mem hi
  have kok := g.keys _ ho
  obtain ⟨p0, ep0⟩ := oa_some x hz
  have hpn := pa_ne x hz ep0
  refine gA ?_
  refine new_var (e := 24) (cellsV ⟨vk, vn, vs⟩) rfl ?_
  intro h1 b5 o5 x1 z1 hb5
  have y1 := x.ext x1
  have o := y1.b
  by_cases k3 : vk = 3
  · have q1 : (vk != 3) = false := by rw [k3]; rfl
    by_cases n0 : vn < 0
    · have q2 : decide (vn < 0) = true := decide_eq_true n0
      rw [if_neg (by omega)]
      refine gA ?_
      exact ⟨_, Z, rfl, y1, .of_ext x1⟩
    have q2 : decide (vn < 0) = false := decide_eq_false n0
    by_cases n1 : vn > 1000
    · have q3 : decide (vn > 1000) = true := decide_eq_true n1
      rw [if_neg (by omega)]
      refine gA ?_
      exact ⟨_, Z, rfl, y1, .of_ext x1⟩
    have q3 : decide (vn > 1000) = false := decide_eq_false n1
    rw [if_pos ⟨k3, by omega, by omega⟩]
    obtain ⟨n, rfl⟩ : ∃ n : Nat, vn = n := ⟨vn.toNat, by omega⟩
    rw [Int.toNat_natCast]
    have hn : n ≤ 1000 := by omega
    refine gA ?_
    refine HIdx.mk i rfl hz ?_
    refine sl_some y1.o.sl hz fun p ep => ?_
    obtain rfl : p0 = p := by rw [ep0] at ep; exact Option.some.inj ep
    refine gA ?_
    refine Sl.loadGF cellsO_len y1.o.sl ep hz (by decide) rfl ?_
    rw [e1]
    by_cases hlt : n < H.objs[i].long
    · have q4 : decide ((n : Int) < (H.objs[i].long : Int)) = true := decide_eq_true (by omega)
      refine gA ?_
      refine HCall.mk ((rcut_spec y1 g hi hz n hn).mono ?_)
      rintro e h2 ⟨m, Z', rfl, y2, P2⟩
      refine gA ?_
      exact ⟨_, Z', rfl, y2, (PassF.of_ext x1).trans P2⟩
    · have q4 : decide ((n : Int) < (H.objs[i].long : Int)) = false := decide_eq_false (by omega)
      have esz : sizeP H.objs[i] n = ⟨H.objs[i].cls, H.objs[i].proto, H.objs[i].props, n⟩ := by
        unfold sizeP
        congr 1
        apply List.filter_eq_self.2
        intro p hp
        cases hx : idxK p.1 with
        | none => rfl
        | some j => exact decide_eq_true (by have := kok.low har p hp j hx; omega)
      rw [esz]
      have eZ : Z.os[i] = (H.objs[i], Z.os[i].2.1, Z.os[i].2.2) := by rw [← e1]
      refine gA ?_
      refine HIdx.mk i rfl hz ?_
      refine sl_some y1.o.sl hz fun p ep => ?_
      obtain rfl : p0 = p := by rw [ep0] at ep; exact Option.some.inj ep
      refine gA ?_
      refine Own.storeRow cellsO_len y1.o ep hz ((⟨H.objs[i].cls, H.objs[i].proto, H.objs[i].props, n⟩, Z.os[i].2.1, Z.os[i].2.2) : RO) (j := 6) (vs := [.int .i64 n]) (by rw [eZ]; rfl) (by simp) (by simp [isOne]) fun h3 f3 z3 w3 => ?_
      have wp := y1.all _ (List.getElem_mem hz)
      rw [e1] at wp
      obtain ⟨u1, u2⟩ := y1.upd hz ((⟨H.objs[i].cls, H.objs[i].proto, H.objs[i].props, n⟩, Z.os[i].2.1, Z.os[i].2.2) : RO) w3 (wp.off f3 hpn) f3.1 (fun y hy h1 h2 => f3.2 y hy (fun e => h1 (by rw [e]; exact blk_mem ep0))) (fun y hy => .inl hy)
      refine gA ?_
      exact ⟨0, _, rfl, u1, (PassF.of_ext x1).trans u2⟩
  · have q1 : (vk != 3) = true := by simp [k3]
    rw [if_neg (by omega)]
    refine gA ?_
    exact ⟨_, Z, rfl, y1, .of_ext x1⟩
theorem rhadd_spec {h : Heap} {b : Nat} {H : PH} {Z : YZ} (x : YR h b H Z) (g : Good H) (hu : 0 ≤ H.used) {i : Nat} (hi : i < H.objs.length) (hz : i < Z.os.length) (key : ByteArray) (v : VV) (hk : key.size ≤ 2097152) :
    HCalls Tryz.prog 88 #[.pointer (some ⟨b, 0, none⟩), .int .i64 i, .agg (cellsK (key, v)).toArray] h fun e h' => ∃ (m : Int) (Z' : YZ), e = .returned (.int .i64 m) ∧
      YR h' b (if farP H.objs[i] key = true then H else if H.most - H.used < 1 then H else ⟨H.objs.set i ⟨H.objs[i].cls, H.objs[i].proto, H.objs[i].props ++ [(key, v)], longP H.objs[i] key⟩, H.most, H.used + 1⟩) Z' ∧ PassF (Z.bs b) (Z'.bs b) h h' := by
  refine c88 (by simp) ?_
  have e1 := x.at hi hz
  have ho : H.objs[i] ∈ H.objs := List.getElem_mem hi
  have kok := g.keys _ ho
  have hpl := g.few.props _ ho
  have gm := g.most
  have gu := g.used
  have hlong := kok.long
  obtain ⟨p0, ep0⟩ := oa_some x hz
  have hpn := pa_ne x hz ep0
  have eZ : Z.os[i] = (H.objs[i], Z.os[i].2.1, Z.os[i].2.2) := by rw [← e1]
  refine gA ?_
  refine new_var (e := 53) (cellsK (key, v)) rfl ?_
  intro h1 b5 o5 x1 z1 hb5
  replace o5 : BlkW h1 b5 53 [.string key, .int .i64 v.k, .int .i64 v.n, .string v.s, .bool true, .bool true, .bool true] := o5
  have y1 := x.ext x1
  have o := y1.b
  have lb := x.b.lt
  refine gA ?_
  refine HIdx.mk i rfl hz ?_
  refine sl_some y1.o.sl hz fun p ep => ?_
  obtain rfl : p0 = p := by rw [ep0] at ep; exact Option.some.inj ep
  refine gA ?_
  refine Sl.loadGF cellsO_len y1.o.sl ep hz (by decide) rfl ?_
  refine gA ?_
  obtain ⟨⟨kl⟩⟩ := key
  refine HCall.mk ((rindex_spec kl hk h1).mono ?_)
  rintro e h2 ⟨rfl, x2⟩
  have y2 := y1.ext x2
  have x02 := x1.trans x2
  replace o5 := o5.ext x2
  have hx2 := x2.1
  have ei : idxK ⟨⟨kl⟩⟩ = idxL (ulist kl) := rfl
  unfold idxR
  cases hx : idxL (ulist kl) with
  | none =>
    have q4 : (none : Option Nat).isSome = false := rfl
    have ea : arrIx H.objs[i] ⟨⟨kl⟩⟩ = none := by unfold arrIx; rw [ei, hx]; split <;> rfl
    have ef : farP H.objs[i] ⟨⟨kl⟩⟩ = false := by unfold farP; rw [ea]
    have eL : longP H.objs[i] ⟨⟨kl⟩⟩ = H.objs[i].long := by unfold longP; rw [ea]
    rw [ef, eL, if_neg (show ¬ (false = true) by simp)]
    refine gA ?_
    refine HCall.mk ((rtake_spec y2 ⟨by omega, by omega⟩ hu (by omega)).mono ?_)
    rintro e h3 (⟨hc, rfl, rfl⟩ | ⟨hc, rfl, y3, f3⟩)
    · rw [if_pos hc]
      refine gA ?_
      exact ⟨_, Z, rfl, y2, .of_ext x02⟩
    rw [if_neg hc]
    replace o5 := o5.offk f3 (by omega)
    have P3 : PassF (Z.bs b) (Z.bs b) h h3 := (PassF.of_ext x02).trans (.of_off f3 (.inl (by simp [YZ.bs])))
    have hP3 := P3.1
    refine gA ?_
    refine Sl.loadGF cellsO_len y3.o.sl ep hz (by decide) rfl ?_
    rw [e1]
    refine gA ?_
    refine new_own (e := 53) 7 1 (cellsK (⟨⟨kl⟩⟩, v)) rfl rfl ?_
    intro h4 b64 w64 x4 z4 hb64
    have y4 := y3.ext x4
    have hx4 := x4.1
    have wp := y4.all _ (List.getElem_mem hz)
    rw [e1] at wp
    have P4 := P3.trans (.of_ext x4)
    refine gA ?_
    refine w64.sl.cells ?_
    refine Own.grow (m := 1) wp (Nat.zero_le _) rfl rfl (cellsKs_one [(⟨⟨kl⟩⟩, v)]) (by omega) ?_
    intro h6 a6 c6 w6 g6
    have hg6 := g6.1
    have p0l : p0.block < h4.size := (y4.o.lt p0 ep0).2
    have oo := Own.same y4.o (fun y hy => by
      obtain ⟨q, eq, rfl⟩ := blk_of hy
      obtain rfl : p0 = q := by rw [ep0] at eq; exact Option.some.inj eq
      exact g6.2.1 p0.block p0l hpn)
    have na6 : ∀ p, a6 = some p → p.block ≠ p0.block := by
      intro p ep6
      rcases g6.2.2 p ep6 with ⟨q, eq, e⟩ | hq
      · rw [e]; exact hpn q eq
      · omega
    have ewp : cellsKs H.objs[i].props ++ cellsK (⟨⟨kl⟩⟩, v) = cellsKs (H.objs[i].props ++ [(⟨⟨kl⟩⟩, v)]) := by rw [cellsKs_append]; rfl
    refine gA ?_
    refine Own.storeRow cellsO_len oo ep hz ((⟨H.objs[i].cls, H.objs[i].proto, H.objs[i].props ++ [(⟨⟨kl⟩⟩, v)], H.objs[i].long⟩, a6, c6) : RO) (j := 4) (vs := [.slice a6 (H.objs[i].props.length + 1) c6]) (by rw [eZ]; simp) (by simp) (by simp [isOne]) fun h7 f7 z7 w7 => ?_
    have w67 := w6.off f7 na6
    rw [ewp] at w67
    obtain ⟨u1, u2⟩ := y4.upd hz ((⟨H.objs[i].cls, H.objs[i].proto, H.objs[i].props ++ [(⟨⟨kl⟩⟩, v)], H.objs[i].long⟩, a6, c6) : RO) w7 (by rw [List.length_append]; exact w67) (by have := f7.1; omega) (fun y hy h1 h2 => by
      rw [f7.2 y (by omega) (fun e => h1 (by rw [e]; exact blk_mem ep0)), g6.2.1 y hy (fun p ep' e => h2 (by rw [← e]; exact blk_mem ep'))]) (fun y hy => by
      obtain ⟨p, ep', rfl⟩ := blk_of hy
      rcases g6.2.2 p ep' with ⟨q, eq, e⟩ | hq
      · exact .inl (by rw [e]; exact blk_mem eq)
      · exact .inr hq)
    refine gA ?_
    exact ⟨0, _, rfl, u1, P4.trans u2⟩
  | some j =>
    have q4 : (some j).isSome = true := rfl
    by_cases har : isArr H.objs[i] = true
    · have ea : arrIx H.objs[i] ⟨⟨kl⟩⟩ = some j := by unfold arrIx; rw [if_pos har, ei, hx]
      have eL : longP H.objs[i] ⟨⟨kl⟩⟩ = max H.objs[i].long (j + 1) := by unfold longP; rw [ea]
      have ef : farP H.objs[i] ⟨⟨kl⟩⟩ = decide (1000 ≤ j) := by unfold farP; rw [ea]
      have q5 : strEq H.objs[i].cls ⟨#[65, 114, 114, 97, 121]⟩ = true := har
      rw [ef, eL]
      refine gA ?_
      refine Sl.loadGF cellsO_len y2.o.sl ep hz (by decide) rfl ?_
      rw [e1]
      by_cases hj : 1000 ≤ j
      · have q6 : decide ((((some j).getD 0 : Nat) : Int) ≥ 1000) = true := decide_eq_true (by show ((j : Nat) : Int) ≥ 1000; omega)
        rw [if_pos (decide_eq_true hj)]
        refine gA ?_
        exact ⟨_, Z, rfl, y2, .of_ext x02⟩
      have q6 : decide ((((some j).getD 0 : Nat) : Int) ≥ 1000) = false := decide_eq_false (by show ¬ ((j : Nat) : Int) ≥ 1000; omega)
      rw [if_neg (by rw [decide_eq_true_eq]; exact hj)]
      refine gA ?_
      refine Sl.loadGF cellsO_len y2.o.sl ep hz (by decide) rfl ?_
      rw [e1]
      by_cases hjl : H.objs[i].long ≤ j
      · have q7 : decide ((((some j).getD 0 : Nat) : Int) ≥ (H.objs[i].long : Int)) = true := decide_eq_true (by show ((j : Nat) : Int) ≥ _; omega)
        have q8 : (!true) = false := rfl
        refine gA ?_
        refine Sl.loadGF cellsO_len y2.o.sl ep hz (by decide) rfl ?_
        refine gA ?_
        refine HCall.mk ((rtake_spec y2 ⟨by omega, by omega⟩ hu (by omega)).mono ?_)
        rintro e h3 (⟨hc, rfl, rfl⟩ | ⟨hc, rfl, y3, f3⟩)
        · rw [if_pos hc]
          refine gA ?_
          exact ⟨_, Z, rfl, y2, .of_ext x02⟩
        rw [if_neg hc]
        replace o5 := o5.offk f3 (by omega)
        have P3 : PassF (Z.bs b) (Z.bs b) h h3 := (PassF.of_ext x02).trans (.of_off f3 (.inl (by simp [YZ.bs])))
        have hP3 := P3.1
        refine gA ?_
        refine Sl.loadGF cellsO_len y3.o.sl ep hz (by decide) rfl ?_
        rw [e1]
        refine gA ?_
        refine new_own (e := 53) 7 1 (cellsK (⟨⟨kl⟩⟩, v)) rfl rfl ?_
        intro h4 b64 w64 x4 z4 hb64
        have y4 := y3.ext x4
        have hx4 := x4.1
        have wp := y4.all _ (List.getElem_mem hz)
        rw [e1] at wp
        have P4 := P3.trans (.of_ext x4)
        refine gA ?_
        refine w64.sl.cells ?_
        refine Own.grow (m := 1) wp (Nat.zero_le _) rfl rfl (cellsKs_one [(⟨⟨kl⟩⟩, v)]) (by omega) ?_
        intro h6 a6 c6 w6 g6
        have hg6 := g6.1
        have p0l : p0.block < h4.size := (y4.o.lt p0 ep0).2
        have oo := Own.same y4.o (fun y hy => by
          obtain ⟨q, eq, rfl⟩ := blk_of hy
          obtain rfl : p0 = q := by rw [ep0] at eq; exact Option.some.inj eq
          exact g6.2.1 p0.block p0l hpn)
        have na6 : ∀ p, a6 = some p → p.block ≠ p0.block := by
          intro p ep6
          rcases g6.2.2 p ep6 with ⟨q, eq, e⟩ | hq
          · rw [e]; exact hpn q eq
          · omega
        have ewp : cellsKs H.objs[i].props ++ cellsK (⟨⟨kl⟩⟩, v) = cellsKs (H.objs[i].props ++ [(⟨⟨kl⟩⟩, v)]) := by rw [cellsKs_append]; rfl
        refine gA ?_
        refine Own.storeRow cellsO_len oo ep hz ((⟨H.objs[i].cls, H.objs[i].proto, H.objs[i].props ++ [(⟨⟨kl⟩⟩, v)], H.objs[i].long⟩, a6, c6) : RO) (j := 4) (vs := [.slice a6 (H.objs[i].props.length + 1) c6]) (by rw [eZ]; simp) (by simp) (by simp [isOne]) fun h7 f7 z7 w7 => ?_
        have w67 := w6.off f7 na6
        rw [ewp] at w67
        have hz7 : i < (Z.os.set i ((⟨H.objs[i].cls, H.objs[i].proto, H.objs[i].props ++ [(⟨⟨kl⟩⟩, v)], H.objs[i].long⟩, a6, c6) : RO)).length := by simpa using hz
        have eg7 : (Z.os.set i ((⟨H.objs[i].cls, H.objs[i].proto, H.objs[i].props ++ [(⟨⟨kl⟩⟩, v)], H.objs[i].long⟩, a6, c6) : RO))[i] = (⟨H.objs[i].cls, H.objs[i].proto, H.objs[i].props ++ [(⟨⟨kl⟩⟩, v)], H.objs[i].long⟩, a6, c6) := List.getElem_set_self _
        refine gA ?_
        refine Sl.loadGF cellsO_len w7.sl ep hz7 (by decide) rfl ?_
        rw [eg7]
        refine gA ?_
        refine Z5 ?_ ⟨by show (-9223372036854775808 : Int) ≤ (j : Int) + 1; omega, by show (j : Int) + 1 ≤ (9223372036854775807 : Int); omega⟩
        refine gA ?_
        have emx : (if (j : Int) + 1 > (H.objs[i].long : Int) then (j : Int) + 1 else (H.objs[i].long : Int)) = ((max H.objs[i].long (j + 1) : Nat) : Int) := by split <;> omega
        refine Own.storeRow cellsO_len w7 ep hz7 ((⟨H.objs[i].cls, H.objs[i].proto, H.objs[i].props ++ [(⟨⟨kl⟩⟩, v)], max H.objs[i].long (j + 1)⟩, a6, c6) : RO) (j := 6) (vs := [.int .i64 (if (j : Int) + 1 > (H.objs[i].long : Int) then (j : Int) + 1 else (H.objs[i].long : Int))]) (by rw [eg7, emx]; simp) (by simp) (by simp [isOne]) fun h8 f8 z8 w8 => ?_
        rw [List.set_set] at w8
        have w68 := w67.off f8 na6
        obtain ⟨u1, u2⟩ := y4.upd hz ((⟨H.objs[i].cls, H.objs[i].proto, H.objs[i].props ++ [(⟨⟨kl⟩⟩, v)], max H.objs[i].long (j + 1)⟩, a6, c6) : RO) w8 (by rw [List.length_append]; exact w68) (by have := f7.1; have := f8.1; omega) (fun y hy h1 h2 => by
          rw [f8.2 y (by have := f7.1; omega) (fun e => h1 (by rw [e]; exact blk_mem ep0)), f7.2 y (by omega) (fun e => h1 (by rw [e]; exact blk_mem ep0)), g6.2.1 y hy (fun p ep' e => h2 (by rw [← e]; exact blk_mem ep'))]) (fun y hy => by
          obtain ⟨p, ep', rfl⟩ := blk_of hy
          rcases g6.2.2 p ep' with ⟨q, eq, e⟩ | hq
          · exact .inl (by rw [e]; exact blk_mem eq)
          · exact .inr hq)
        refine gA ?_
        exact ⟨0, _, rfl, u1, P4.trans u2⟩
      · have q7 : decide ((((some j).getD 0 : Nat) : Int) ≥ (H.objs[i].long : Int)) = false := decide_eq_false (by show ¬ ((j : Nat) : Int) ≥ _; omega)
        refine gA ?_
        refine HCall.mk ((rtake_spec y2 ⟨by omega, by omega⟩ hu (by omega)).mono ?_)
        rintro e h3 (⟨hc, rfl, rfl⟩ | ⟨hc, rfl, y3, f3⟩)
        · rw [if_pos hc]
          refine gA ?_
          exact ⟨_, Z, rfl, y2, .of_ext x02⟩
        rw [if_neg hc]
        replace o5 := o5.offk f3 (by omega)
        have P3 : PassF (Z.bs b) (Z.bs b) h h3 := (PassF.of_ext x02).trans (.of_off f3 (.inl (by simp [YZ.bs])))
        have hP3 := P3.1
        refine gA ?_
        refine Sl.loadGF cellsO_len y3.o.sl ep hz (by decide) rfl ?_
        rw [e1]
        refine gA ?_
        refine new_own (e := 53) 7 1 (cellsK (⟨⟨kl⟩⟩, v)) rfl rfl ?_
        intro h4 b64 w64 x4 z4 hb64
        have y4 := y3.ext x4
        have hx4 := x4.1
        have wp := y4.all _ (List.getElem_mem hz)
        rw [e1] at wp
        have P4 := P3.trans (.of_ext x4)
        refine gA ?_
        refine w64.sl.cells ?_
        refine Own.grow (m := 1) wp (Nat.zero_le _) rfl rfl (cellsKs_one [(⟨⟨kl⟩⟩, v)]) (by omega) ?_
        intro h6 a6 c6 w6 g6
        have hg6 := g6.1
        have p0l : p0.block < h4.size := (y4.o.lt p0 ep0).2
        have oo := Own.same y4.o (fun y hy => by
          obtain ⟨q, eq, rfl⟩ := blk_of hy
          obtain rfl : p0 = q := by rw [ep0] at eq; exact Option.some.inj eq
          exact g6.2.1 p0.block p0l hpn)
        have na6 : ∀ p, a6 = some p → p.block ≠ p0.block := by
          intro p ep6
          rcases g6.2.2 p ep6 with ⟨q, eq, e⟩ | hq
          · rw [e]; exact hpn q eq
          · omega
        have ewp : cellsKs H.objs[i].props ++ cellsK (⟨⟨kl⟩⟩, v) = cellsKs (H.objs[i].props ++ [(⟨⟨kl⟩⟩, v)]) := by rw [cellsKs_append]; rfl
        refine gA ?_
        refine Own.storeRow cellsO_len oo ep hz ((⟨H.objs[i].cls, H.objs[i].proto, H.objs[i].props ++ [(⟨⟨kl⟩⟩, v)], H.objs[i].long⟩, a6, c6) : RO) (j := 4) (vs := [.slice a6 (H.objs[i].props.length + 1) c6]) (by rw [eZ]; simp) (by simp) (by simp [isOne]) fun h7 f7 z7 w7 => ?_
        have w67 := w6.off f7 na6
        rw [ewp] at w67
        have hz7 : i < (Z.os.set i ((⟨H.objs[i].cls, H.objs[i].proto, H.objs[i].props ++ [(⟨⟨kl⟩⟩, v)], H.objs[i].long⟩, a6, c6) : RO)).length := by simpa using hz
        have eg7 : (Z.os.set i ((⟨H.objs[i].cls, H.objs[i].proto, H.objs[i].props ++ [(⟨⟨kl⟩⟩, v)], H.objs[i].long⟩, a6, c6) : RO))[i] = (⟨H.objs[i].cls, H.objs[i].proto, H.objs[i].props ++ [(⟨⟨kl⟩⟩, v)], H.objs[i].long⟩, a6, c6) := List.getElem_set_self _
        refine gA ?_
        refine Sl.loadGF cellsO_len w7.sl ep hz7 (by decide) rfl ?_
        rw [eg7]
        refine gA ?_
        refine Z5 ?_ ⟨by show (-9223372036854775808 : Int) ≤ (j : Int) + 1; omega, by show (j : Int) + 1 ≤ (9223372036854775807 : Int); omega⟩
        refine gA ?_
        have emx : (if (j : Int) + 1 > (H.objs[i].long : Int) then (j : Int) + 1 else (H.objs[i].long : Int)) = ((max H.objs[i].long (j + 1) : Nat) : Int) := by split <;> omega
        refine Own.storeRow cellsO_len w7 ep hz7 ((⟨H.objs[i].cls, H.objs[i].proto, H.objs[i].props ++ [(⟨⟨kl⟩⟩, v)], max H.objs[i].long (j + 1)⟩, a6, c6) : RO) (j := 6) (vs := [.int .i64 (if (j : Int) + 1 > (H.objs[i].long : Int) then (j : Int) + 1 else (H.objs[i].long : Int))]) (by rw [eg7, emx]; simp) (by simp) (by simp [isOne]) fun h8 f8 z8 w8 => ?_
        rw [List.set_set] at w8
        have w68 := w67.off f8 na6
        obtain ⟨u1, u2⟩ := y4.upd hz ((⟨H.objs[i].cls, H.objs[i].proto, H.objs[i].props ++ [(⟨⟨kl⟩⟩, v)], max H.objs[i].long (j + 1)⟩, a6, c6) : RO) w8 (by rw [List.length_append]; exact w68) (by have := f7.1; have := f8.1; omega) (fun y hy h1 h2 => by
          rw [f8.2 y (by have := f7.1; omega) (fun e => h1 (by rw [e]; exact blk_mem ep0)), f7.2 y (by omega) (fun e => h1 (by rw [e]; exact blk_mem ep0)), g6.2.1 y hy (fun p ep' e => h2 (by rw [← e]; exact blk_mem ep'))]) (fun y hy => by
          obtain ⟨p, ep', rfl⟩ := blk_of hy
          rcases g6.2.2 p ep' with ⟨q, eq, e⟩ | hq
          · exact .inl (by rw [e]; exact blk_mem eq)
          · exact .inr hq)
        refine gA ?_
        exact ⟨0, _, rfl, u1, P4.trans u2⟩
    · have ea : arrIx H.objs[i] ⟨⟨kl⟩⟩ = none := by unfold arrIx; rw [if_neg har]
      have ef : farP H.objs[i] ⟨⟨kl⟩⟩ = false := by unfold farP; rw [ea]
      have eL : longP H.objs[i] ⟨⟨kl⟩⟩ = H.objs[i].long := by unfold longP; rw [ea]
      have q5 : strEq H.objs[i].cls ⟨#[65, 114, 114, 97, 121]⟩ = false := by
        have : isArr H.objs[i] = false := by simpa using har
        exact this
      rw [ef, eL, if_neg (show ¬ (false = true) by simp)]
      refine gA ?_
      refine Sl.loadGF cellsO_len y2.o.sl ep hz (by decide) rfl ?_
      rw [e1]
      refine gA ?_
      refine HCall.mk ((rtake_spec y2 ⟨by omega, by omega⟩ hu (by omega)).mono ?_)
      rintro e h3 (⟨hc, rfl, rfl⟩ | ⟨hc, rfl, y3, f3⟩)
      · rw [if_pos hc]
        refine gA ?_
        exact ⟨_, Z, rfl, y2, .of_ext x02⟩
      rw [if_neg hc]
      replace o5 := o5.offk f3 (by omega)
      have P3 : PassF (Z.bs b) (Z.bs b) h h3 := (PassF.of_ext x02).trans (.of_off f3 (.inl (by simp [YZ.bs])))
      have hP3 := P3.1
      refine gA ?_
      refine Sl.loadGF cellsO_len y3.o.sl ep hz (by decide) rfl ?_
      rw [e1]
      refine gA ?_
      refine new_own (e := 53) 7 1 (cellsK (⟨⟨kl⟩⟩, v)) rfl rfl ?_
      intro h4 b64 w64 x4 z4 hb64
      have y4 := y3.ext x4
      have hx4 := x4.1
      have wp := y4.all _ (List.getElem_mem hz)
      rw [e1] at wp
      have P4 := P3.trans (.of_ext x4)
      refine gA ?_
      refine w64.sl.cells ?_
      refine Own.grow (m := 1) wp (Nat.zero_le _) rfl rfl (cellsKs_one [(⟨⟨kl⟩⟩, v)]) (by omega) ?_
      intro h6 a6 c6 w6 g6
      have hg6 := g6.1
      have p0l : p0.block < h4.size := (y4.o.lt p0 ep0).2
      have oo := Own.same y4.o (fun y hy => by
        obtain ⟨q, eq, rfl⟩ := blk_of hy
        obtain rfl : p0 = q := by rw [ep0] at eq; exact Option.some.inj eq
        exact g6.2.1 p0.block p0l hpn)
      have na6 : ∀ p, a6 = some p → p.block ≠ p0.block := by
        intro p ep6
        rcases g6.2.2 p ep6 with ⟨q, eq, e⟩ | hq
        · rw [e]; exact hpn q eq
        · omega
      have ewp : cellsKs H.objs[i].props ++ cellsK (⟨⟨kl⟩⟩, v) = cellsKs (H.objs[i].props ++ [(⟨⟨kl⟩⟩, v)]) := by rw [cellsKs_append]; rfl
      refine gA ?_
      refine Own.storeRow cellsO_len oo ep hz ((⟨H.objs[i].cls, H.objs[i].proto, H.objs[i].props ++ [(⟨⟨kl⟩⟩, v)], H.objs[i].long⟩, a6, c6) : RO) (j := 4) (vs := [.slice a6 (H.objs[i].props.length + 1) c6]) (by rw [eZ]; simp) (by simp) (by simp [isOne]) fun h7 f7 z7 w7 => ?_
      have w67 := w6.off f7 na6
      rw [ewp] at w67
      obtain ⟨u1, u2⟩ := y4.upd hz ((⟨H.objs[i].cls, H.objs[i].proto, H.objs[i].props ++ [(⟨⟨kl⟩⟩, v)], H.objs[i].long⟩, a6, c6) : RO) w7 (by rw [List.length_append]; exact w67) (by have := f7.1; omega) (fun y hy h1 h2 => by
        rw [f7.2 y (by omega) (fun e => h1 (by rw [e]; exact blk_mem ep0)), g6.2.1 y hy (fun p ep' e => h2 (by rw [← e]; exact blk_mem ep'))]) (fun y hy => by
        obtain ⟨p, ep', rfl⟩ := blk_of hy
        rcases g6.2.2 p ep' with ⟨q, eq, e⟩ | hq
        · exact .inl (by rw [e]; exact blk_mem eq)
        · exact .inr hq)
      refine gA ?_
      exact ⟨0, _, rfl, u1, P4.trans u2⟩
set_option maxHeartbeats 16000000
theorem flat_set_same {α : Type} {f : α → List Value} {l : List α} {i : Nat} (hi : i < l.length) {y : α} (e : f y = f l[i]) : (l.set i y).flatMap f = l.flatMap f := by
  rw [List.set_eq_take_append_cons_drop, if_pos hi, List.flatMap_append, List.flatMap_cons, e]
  conv => rhs; rw [← List.take_append_drop i l, List.drop_eq_getElem_cons hi, List.flatMap_append, List.flatMap_cons]
theorem rput_spec {h : Heap} {b : Nat} {H : PH} {Z : YZ} (x : YR h b H Z) (g : Good H) (hu : 0 ≤ H.used) (v : VV) (hn : i64 v.n) (key : ByteArray) (y : VV) (hy : i64 y.n) (hk : key.size ≤ 2097152) :
    HCalls Tryz.prog 45 #[.pointer (some ⟨b, 0, none⟩), .agg (cellsV v).toArray, .string key, .agg (cellsV y).toArray] h fun e h' => ∃ (m : Int) (Z' : YZ), e = .returned (.int .i64 m) ∧ YR h' b (putP H v key y) Z' ∧ PassF (Z.bs b) (Z'.bs b) h h' := by
  refine c45 (by simp) ?_
  have few := g.few
  have hlen := x.len
  refine gA ?_
  refine new_var (e := 24) (cellsV v) rfl ?_
  intro h1 b5 o5 x1 z1 hb5
  refine gA ?_
  refine new_var (e := 24) (cellsV y) rfl ?_
  intro h2 b7 o7 x2 z2 hb7
  replace o5 := o5.ext x2
  have x02 := x1.trans x2
  have hx1 := x1.1
  have lb := x.b.lt
  refine gA ?_
  refine HCall.mk ((rat_spec (x.ext x02) v hn few.len).mono ?_)
  rintro e h3 ⟨rfl, x3⟩
  replace o5 := o5.ext x3
  replace o7 := o7.ext x3
  have x03 := x02.trans x3
  cases ha : atP H v with
  | none =>
    have ei : putP H v key y = H := by unfold putP; rw [ha]
    rw [ei]
    have q : decide (atR none < 0) = true := rfl
    refine gA ?_
    exact ⟨_, Z, rfl, x.ext x03, .of_ext x03⟩
  | some i =>
    have hi := atP_lt ha
    have hz : i < Z.os.length := by omega
    have q : decide (atR (some i) < 0) = false := decide_eq_false (by show ¬ (i : Int) < 0; omega)
    have ei : putP H v key y = putO H i H.objs[i] key y := by
      unfold putP; rw [ha]
      show (match H.objs[i]? with | none => H | some o => putO H i o key y) = _
      rw [List.getElem?_eq_getElem hi]
    rw [ei]
    have e1 := x.at hi hz
    have ho : H.objs[i] ∈ H.objs := List.getElem_mem hi
    have hpl := few.props _ ho
    have kok := g.keys _ ho
    have eZ : Z.os[i] = (H.objs[i], Z.os[i].2.1, Z.os[i].2.2) := by rw [← e1]
    have elv : isLenV H v key = isLenP H.objs[i] key := by unfold isLenV; rw [findP_some ha]
    have epi : propI H v key = findI key H.objs[i].props := by unfold propI; rw [findP_some ha, Option.bind_some]
    refine gA ?_
    refine HCall.mk ((risLen_spec (x.ext x03) v hn few.len key).mono ?_)
    rintro e h4 ⟨rfl, x4⟩
    replace o5 := o5.ext x4
    replace o7 := o7.ext x4
    have x04 := x03.trans x4
    have y4 := x.ext x04
    have o := y4.b
    rw [elv]
    unfold putO
    cases hl : isLenP H.objs[i] key with
    | true =>
      rw [if_pos rfl]
      refine gA ?_
      refine HIdx.mk i rfl hz ?_
      refine sl_some y4.o.sl hz fun p ep => ?_
      refine gA ?_
      refine Sl.loadGF cellsO_len y4.o.sl ep hz (by decide) rfl ?_
      have q2 : (!true) = false := rfl
      refine gA ?_
      refine HCall.mk ((rlength_spec y4 g hi hz (ownP_len hl) y hy).mono ?_)
      rintro e h5 ⟨m, Z', rfl, y5, P5⟩
      refine gA ?_
      exact ⟨_, Z', rfl, y5, (PassF.of_ext x04).trans P5⟩
    | false =>
      rw [if_neg (show ¬ (false = true) by simp)]
      refine gA ?_
      refine HCall.mk ((rprop_spec y4 g v hn key hk).mono ?_)
      rintro e h5 ⟨rfl, x5⟩
      replace o5 := o5.ext x5
      replace o7 := o7.ext x5
      have x05 := x04.trans x5
      have y5 := x.ext x05
      have o' := y5.b
      rw [epi]
      have wp := y5.all _ (List.getElem_mem hz)
      rw [e1] at wp
      cases hf : findI key H.objs[i].props with
      | some k =>
        obtain ⟨hkl, hkk, hlk⟩ := findI_some hf
        have q2 : decide (atR (some k) ≥ 0) = true := decide_eq_true (by show (0 : Int) ≤ (k : Int); omega)
        rw [hlk]
        refine gA ?_
        refine HIdx.mk i rfl hz ?_
        refine sl_some y5.o.sl hz fun p ep => ?_
        refine gA ?_
        refine Sl.loadGF cellsO_len y5.o.sl ep hz (by decide) rfl ?_
        rw [e1]
        refine gA ?_
        refine HIdx.mk k rfl hkl ?_
        refine sl_some wp.sl hkl fun a ea => ?_
        refine gA ?_
        refine Sl.loadF (f := 4) wp.sl ea hkl (by decide) rfl ?_
        have q3 : (!true) = false := rfl
        refine gA ?_
        refine HIdx.mk i rfl hz ?_
        refine sl_some y5.o.sl hz fun p' ep' => ?_
        refine gA ?_
        refine Sl.loadGF cellsO_len y5.o.sl ep' hz (by decide) rfl ?_
        rw [e1]
        refine gA ?_
        refine HIdx.mk k rfl hkl ?_
        refine sl_some wp.sl hkl fun a' ea' => ?_
        refine gA ?_
        refine Own.setV wp ea' hkl y fun h8 f8 z8 w8 => ?_
        obtain ⟨p0, ep0⟩ := oa_some x hz
        have hpn := pa_ne x hz ep0
        have o8 := y5.o.off f8 (fun q eq => by rw [ep0] at eq; cases eq; exact (hpn a' ea').symm)
        have esame : cellsO ((⟨H.objs[i].cls, H.objs[i].proto, setP key y H.objs[i].props, H.objs[i].long⟩, Z.os[i].2.1, Z.os[i].2.2) : RO) = cellsO Z.os[i] := by
          rw [eZ, setP_at hf]
          simp only [cellsO, List.length_set]
        have w8' : Own h8 0 53 7 Z.os[i].2.1 (setP key y H.objs[i].props).length Z.os[i].2.2 (cellsKs (setP key y H.objs[i].props)) := by
          rw [setP_at hf, List.length_set]
          have : H.objs[i].props.set k (key, y) = H.objs[i].props.set k (H.objs[i].props[k].1, y) := by rw [hkk]
          rw [this]
          have w9 := w8
          rw [List.length_set] at w9
          exact w9
        obtain ⟨u1, u2⟩ := y5.upd hz ((⟨H.objs[i].cls, H.objs[i].proto, setP key y H.objs[i].props, H.objs[i].long⟩, Z.os[i].2.1, Z.os[i].2.2) : RO) (by rw [flat_set_same hz esame, List.length_set]; exact o8) w8' f8.1 (fun q hq h1 h2 => f8.2 q hq (fun e => h2 (by rw [e]; exact blk_mem ea'))) (fun q hq => .inl hq)
        refine gA ?_
        exact ⟨_, _, rfl, u1, (PassF.of_ext x05).trans u2⟩
      | none =>
        have q2 : decide (atR none ≥ 0) = false := rfl
        rw [(findI_none hf).1]
        have pr := g.wf.num i hi
        refine gA ?_
        refine HIdx.mk i rfl hz ?_
        refine sl_some y5.o.sl hz fun p ep => ?_
        refine gA ?_
        refine Sl.loadGN cellsO_len y5.o.sl ep hz (by decide) ?_
        have ev : (((cellsO Z.os[i]).drop 1).take 3) = cellsV H.objs[i].proto := by rw [← e1]; rfl
        rw [ev]
        refine gA ?_
        refine HCall.mk ((rfind_spec y5 g H.objs[i].proto pr key hk).mono ?_)
        rintro e h6 ⟨e1', e2', rfl, x6⟩
        replace o7 := o7.ext x6
        have hlc := propC_len key e1' e2' (seekL key (chainP H H.objs[i].proto))
        have x06 := x05.trans x6
        have hx06 := x06.1
        have l7 := o7.lt
        refine gA ?_
        refine new_var (e := 53) zeroK rfl ?_
        intro h7 b11 o11 x7 z7 hb11
        replace o7 := o7.ext x7
        refine gA ?_
        refine HMust.mk (by simp [propC_len]) ?_
        refine store_blk o11 (by simp [propC_len]) (by simpa using propC_one key e1' e2' (seekL key (chainP H H.objs[i].proto))) ?_
        intro h8 f8 z8 o8
        replace o8 : BlkW h8 b11 53 (propC key e1' e2' (seekL key (chainP H H.objs[i].proto))) := by simpa [propC_len] using o8
        replace o7 := o7.offk f8 (by omega)
        have x08 : Ext h h8 := (x06.trans x7).offNew f8 (by omega)
        have o8' : (seekL key (chainP H H.objs[i].proto)).isSome = false ∨ ((seekL key (chainP H H.objs[i].proto)).isSome = true ∧ ∃ w : VV, BlkW h8 b11 53 [.string key, .int .i64 w.k, .int .i64 w.n, .string w.s, .bool true, .bool e1', .bool e2']) := by
          cases hs : seekL key (chainP H H.objs[i].proto) with
          | none => exact .inl rfl
          | some w => rw [hs] at o8; exact .inr ⟨rfl, w, o8⟩
        clear o8
        have q9 : (!true) = false := rfl
        rcases o8' with q3 | ⟨q3, w, o8⟩
        all_goals
          refine gA ?_
          refine HCall.mk ((rhadd_spec (x.ext x08) g hu hi hz key y hk).mono ?_)
          rintro e h9 ⟨m, Z', rfl, y9, P9⟩
          refine gA ?_
          exact ⟨_, Z', rfl, y9, (PassF.of_ext x08).trans P9⟩
end Go.Proofs.YtadkdfecmpjmdaaGreatDoor.Hc
/-
  DERIVED: THE SHELF's CONTRACTS AT THIS DUMP, IN PLAIN WORDS (tools/lay-plain.mjs out of 'YtadkdfecmpjmdaaGreatDoorS3.lean', which tools/lay-shelf.mjs wrote): THE SAME DECLARATIONS UNDER THE SAME NAMES: 'import', 'namespace', 'open', 'def', 'theorem' AND NOTHING ELSE: no command of the shelf's: FOR A HAND-IN. Each laying: the table of numbers ('.._ren') and one theorem, a field a fact of the dump's own or the kernel's comparison; each contract: ONE APPLICATION.
-/
namespace Go.Proofs
open Go.Shelf
def Tryz.lays156_ren : Go.Shelf.Ren := ⟨fun | 156 => 149 | 165 => 169 | 166 => 159 | 169 => 162 | 240 => 175 | 241 => 182 | 276 => 188 | 277 => 190 | n => n, fun | 31 => 50 | 9 => 9 | 3 => 3 | 4 => 4 | 0 => 0 | 20 => 20 | 72 => 180 | 76 => 181 | 70 => 178 | 37 => 143 | 75 => 145 | 127 => 198 | 164 => 209 | 5 => 5 | 80 => 184 | n => n, fun | n => n⟩
theorem Tryz.lays156 : Go.Proofs.Lays.n156 Tryz.prog Tryz.lays156_ren := {
  mixed := by kernel_rfl
  f156 := Tryz.func149.trans (congrArg some (by kernel_rfl))
  f165 := Tryz.func169.trans (congrArg some (by kernel_rfl))
  f166 := Tryz.func159.trans (congrArg some (by kernel_rfl))
  f169 := Tryz.func162.trans (congrArg some (by kernel_rfl))
  f240 := Tryz.func175.trans (congrArg some (by kernel_rfl))
  f241 := Tryz.func182.trans (congrArg some (by kernel_rfl))
  f276 := Tryz.func188.trans (congrArg some (by kernel_rfl))
  f277 := Tryz.func190.trans (congrArg some (by kernel_rfl))
  t0 := Tryz.underlying0
  a0 := Tryz.isAgg0
  z0 := Tryz.sizeOf0
  v0 := Tryz.zeroValue0
  t3 := Tryz.underlying3
  a3 := Tryz.isAgg3
  z3 := Tryz.sizeOf3
  v3 := Tryz.zeroValue3
  t4 := Tryz.underlying4
  a4 := Tryz.isAgg4
  z4 := Tryz.sizeOf4
  v4 := Tryz.zeroValue4
  t9 := Tryz.underlying9
  a9 := Tryz.isAgg9
  z9 := Tryz.sizeOf9
  v9 := Tryz.zeroValue9
  t20 := Tryz.underlying20
  a20 := Tryz.isAgg20
  z20 := Tryz.sizeOf20
  v20 := Tryz.zeroValue20
  t31 := Tryz.underlying50
  a31 := Tryz.isAgg50
  z31 := Tryz.sizeOf50
  v31 := Tryz.zeroValue50
  t37 := Tryz.underlying143
  a37 := Tryz.isAgg143
  z37 := Tryz.sizeOf143
  v37 := Tryz.zeroValue143
  t70 := Tryz.underlying178
  a70 := Tryz.isAgg178
  z70 := Tryz.sizeOf178
  v70 := Tryz.zeroValue178
  t72 := Tryz.underlying180
  a72 := Tryz.isAgg180
  z72 := Tryz.sizeOf180
  v72 := Tryz.zeroValue180
  t75 := Tryz.underlying145
  a75 := Tryz.isAgg145
  z75 := Tryz.sizeOf145
  v75 := Tryz.zeroValue145
  t76 := Tryz.underlying181
  a76 := Tryz.isAgg181
  z76 := Tryz.sizeOf181
  v76 := Tryz.zeroValue181
  t127 := Tryz.underlying198
  a127 := Tryz.isAgg198
  z127 := Tryz.sizeOf198
  v127 := Tryz.zeroValue198
  t164 := Tryz.underlying209
  a164 := Tryz.isAgg209
  z164 := Tryz.sizeOf209
  v164 := Tryz.zeroValue209 }
end Go.Proofs
namespace Go.Proofs
theorem Tryz.Builder_Extra : Builder.Extra Tryz.prog Tryz.lays156_ren where
  sizeBuilder := by kernel_rfl
  liesBuilder := by kernel_rfl
  t5 := Tryz.underlying5
  a5 := Tryz.isAgg5
  z5 := Tryz.sizeOf5
  v5 := Tryz.zeroValue5
  infoByte := by kernel_rfl
  cellsByte := by kernel_rfl
  sizeByte := by kernel_rfl
  neB5 := by decide
end Go.Proofs
namespace Go.Proofs.YtadkdfecmpjmdaaGreatDoor.Hc
open Go Go.H Go.Proofs
set_option maxRecDepth 100000
set_option maxHeartbeats 16000000
theorem calls_below {P : Program} {f : FuncId} {args : Array Value} {h : Heap} {v : Value} (c : ∀ w : World, w.heap = h → Calls P f args w fun e w' => e = .returned v ∧ Go.RowKit.Below w.heap.size w w') :
    HCalls P f args h fun e h' => e = .returned v ∧ Ext h h' := by
  intro w hw
  refine (c w hw).mono ?_
  rintro e w' ⟨rfl, b⟩
  subst hw
  exact ⟨⟨b.os, b.tape, b.output⟩, rfl, b.size, fun k hk => b.block k hk⟩
theorem sjoin_spec {h : Heap} {B c : Nat} {a : Option Addr} {us : List ByteArray} (w : Own h B 9 1 a us.length c (us.map Value.string)) (sep : ByteArray) (hu : us.length ≤ 140737488355328)
    (hl : (Lib.join (us.map (·.data.toList)) sep.data.toList).length ≤ 140737488355328) :
    HCalls Tryz.prog 149 #[.slice a us.length c, .string sep] h fun e h' => e = .returned (.string ⟨(Lib.join (us.map (·.data.toList)) sep.data.toList).toArray⟩) ∧ Ext h h' := by
  cases hus : us with
  | nil =>
    refine calls_below fun wd hw => ?_
    refine (Any.strings_Join_none Tryz.lays156 Tryz.Builder_Extra a c sep wd).mono ?_
    rintro e w' ⟨rfl, rfl⟩
    exact ⟨by simp [Lib.join, List.intercalate], Go.RowKit.Below.refl _ _⟩
  | cons u r =>
    rw [← hus]
    have h1 : 0 < us.length := by rw [hus]; simp
    cases a with
    | none => have := w.2.2.1 rfl; have := w.2.1; omega
    | some p =>
      obtain ⟨b, spare, rfl, hb, hs, z⟩ := w.2.2.2 p rfl
      refine calls_below fun wd hw => ?_
      refine Any.strings_Join Tryz.lays156 Tryz.Builder_Extra b 0 c us sep wd (fun j x hx => ?_) (by rw [hw]; exact z.lt) hu w.2.1 hl
      show hcell wd.heap _ = _
      rw [hw, Nat.zero_add, z.blk.cell]
      have hj : j < us.length := (List.getElem?_eq_some_iff.1 hx).1
      rw [List.getElem?_append_left (by simpa using hj), List.getElem?_map, hx]
      try rfl
theorem join_lib : ∀ us : List ByteArray, (Lib.join (us.map (·.data.toList)) [0, 44]) = (joinP us).data.toList
  | [] => rfl
  | u :: r => by
    rw [join_sep, List.map_cons, Lib.join_cons]
    congr 1
    unfold Lib.joinTail sepL
    rw [List.map_map, List.flatMap_def]
    try rfl
theorem rulen_spec (l : List UInt8) (hl : l.length ≤ 2097152) (h : Heap) : HCalls Tryz.prog 46 #[.string ⟨l.toArray⟩] h fun e h' => e = .returned (.int .i64 (l.length / 2 : Nat)) ∧ Ext h h' := by
  refine c46 (by simp) ?_
  refine gA ?_
  refine HCall.mk ((rlist_spec l hl h).mono ?_)
  rintro e h1 ⟨a, c, rfl, sl, x1⟩
  have := ulist_len l
  rw [← this]
  refine gA ?_
  exact ⟨rfl, x1⟩
theorem rlong_spec (u : ByteArray) (he : u.size % 2 = 0) (hl : u.size ≤ 2097152) (h : Heap) : HCalls Tryz.prog 100 #[.string u] h fun e h' => e = .returned (textR (limP u)) ∧ Ext h h' := by
  refine c100 (by simp) ?_
  refine gA ?_
  have e0 : u = ⟨u.data.toList.toArray⟩ := by simp
  have e1 : u.data.toList.length = u.size := ba_len u
  refine HCall.to #[.string ⟨u.data.toList.toArray⟩] (by rw [← e0]; rfl) ?_
  refine (rulen_spec u.data.toList (by omega) h).mono ?_
  rintro e h1 ⟨rfl, x1⟩
  rw [e1]
  by_cases hb : 8192 < u.size
  · have q : decide (((u.size / 2 : Nat) : Int) > 4096) = true := decide_eq_true (by omega)
    have el : limP u = none := by unfold limP; rw [if_pos hb]
    rw [el]
    refine gA ?_
    exact ⟨rfl, x1⟩
  · have q : decide (((u.size / 2 : Nat) : Int) > 4096) = false := decide_eq_false (by omega)
    have el : limP u = some u := by unfold limP; rw [if_neg hb]
    rw [el]
    refine gA ?_
    exact ⟨rfl, x1⟩
set_option maxHeartbeats 16000000
def RTextAt (b : Nat) (H : PH) (Z : YZ) (f : Nat) : Prop := ∀ (v : VV) (h : Heap), VOk v → YR h b H Z →
  HCalls Tryz.prog 70 #[.pointer (some ⟨b, 0, none⟩), .agg (cellsV v).toArray, .int .i64 (20 - (f : Int))] h fun e h' => e = .returned (textR (textP H f v)) ∧ Ext h h'
theorem mapO_append {α β : Type} (f : α → Option β) : ∀ (l m : List α), mapO f (l ++ m) = match mapO f l with
    | none => none
    | some us => (mapO f m).map (us ++ ·)
  | [], m => by
    show mapO f m = (mapO f m).map _
    cases mapO f m <;> rfl
  | a :: l, m => by
    rw [List.cons_append, mapO_cons, mapO_cons, mapO_append f l m]
    cases f a with
    | none => rfl
    | some b =>
      cases mapO f l with
      | none => rfl
      | some us =>
        cases mapO f m with
        | none => rfl
        | some vs => rfl
theorem mapO_len {α β : Type} {f : α → Option β} : ∀ {l : List α} {us : List β}, mapO f l = some us → us.length = l.length
  | [], us, h => by cases h; rfl
  | a :: l, us, h => by
    rw [mapO_cons] at h
    cases hf : f a with
    | none => rw [hf] at h; cases h
    | some b =>
      rw [hf] at h
      cases hm : mapO f l with
      | none => rw [hm] at h; cases h
      | some vs => rw [hm] at h; cases h; simp [mapO_len hm]
def sizes : List ByteArray → Nat
  | [] => 0
  | u :: r => u.size + sizes r
theorem sizes_append : ∀ a b : List ByteArray, sizes (a ++ b) = sizes a + sizes b
  | [], b => by simp [sizes]
  | u :: r, b => by rw [List.cons_append]; simp only [sizes]; rw [sizes_append r b]; omega
theorem join_size : ∀ us : List ByteArray, (joinP us).size = sizes us + 2 * (us.length - 1)
  | [] => rfl
  | [u] => by simp [joinP, sizes]
  | u :: v :: r => by
    show (u ++ uS [44] ++ joinP (v :: r)).size = _
    rw [app_size, app_size, uS_size, join_size (v :: r)]
    simp only [sizes, List.length_cons, List.length_nil]
    omega
theorem sizes_even : ∀ us : List ByteArray, (∀ u ∈ us, u.size % 2 = 0) → sizes us % 2 = 0
  | [], _ => rfl
  | u :: r, h => by
    have h1 := h u (by simp)
    have h2 := sizes_even r fun x hx => h x (by simp [hx])
    simp only [sizes]; omega
theorem arrT_none {H : PH} {f : Nat} {v : VV} {k : Nat} {us : List ByteArray} (hm : mapO (elemT (textP H f)) ((elemsP H v).take k) = some us) (hb : 8192 < (joinP us).size) : arrT H f v = none := by
  unfold arrT
  have e : elemsP H v = (elemsP H v).take k ++ (elemsP H v).drop k := (List.take_append_drop k _).symm
  rw [e, mapO_append, hm]
  cases mapO (elemT (textP H f)) ((elemsP H v).drop k) with
  | none => rfl
  | some vs =>
    show limP (joinP (us ++ vs)) = none
    unfold limP
    rw [if_pos]
    rw [join_size] at hb ⊢
    rw [sizes_append, List.length_append]
    omega
theorem rarray_spec {b : Nat} {H : PH} {Z : YZ} {f : Nat} (g : Good H) (cl : ClsOk H) (ih : RTextAt b H Z f) (hf : f < 20) (v : VV) (h : Heap) (hv : VOk v) (x : YR h b H Z) :
    HCalls Tryz.prog 121 #[.pointer (some ⟨b, 0, none⟩), .agg (cellsV v).toArray, .int .i64 (20 - ((f + 1 : Nat) : Int))] h fun e h' => e = .returned (textR (arrT H f v)) ∧ Ext h h' := by
  refine c121 (by simp) ?_
  have hok := elems_ok g v
  have hll : (elemsP H v).length ≤ 1000 := by rw [elemsP_eq]; simpa using hlen_le g v
  have hd : (20 - ((f + 1 : Nat) : Int)) + 1 = 20 - (f : Int) := by omega
  refine gA ?_
  refine new_var (e := 24) (cellsV v) rfl ?_
  intro h1 b4 o4 x1 z1 hb4
  refine gA ?_
  refine HCall.mk ((rlen_spec (x.ext x1) v hv.i g.few.len).mono ?_)
  rintro e h2 ⟨is, rfl, x2⟩
  replace o4 := o4.ext x2
  refine gA ?_
  refine HCall.mk ((u_spec [44] (by unfold plainL; decide) (by decide) h2).mono ?_)
  rintro e h3 ⟨rfl, x3⟩
  replace o4 := o4.ext x3
  have x03 := (x1.trans x2).trans x3
  refine gA ?_
  refine HCall.mk ((relements_spec (x.ext x03) g v hv.i).mono ?_)
  rintro e h4 ⟨ea, ec, rfl, we, x4⟩
  have x04 := x03.trans x4
  have hx4 := x4.1
  have anone := @arrT_none H f v
  have eT : arrT H f v = match mapO (elemT (textP H f)) (elemsP H v) with
    | none => none
    | some us => limP (joinP us) := rfl
  generalize arrT H f v = AT at anone eT
  generalize elemsP H v = l at *
  refine gA ?_
  refine loop_rule [30, 10, 11] (fun us h' => ∃ (k : Nat) (ws : List ByteArray) (a : Option Addr) (c : Nat), us = [.int .i64 k, .slice a ws.length c, .int .i64 ((joinP ws).size / 2 : Nat)] ∧ k ≤ l.length ∧ mapO (elemT (textP H f)) (l.take k) = some ws ∧ (∀ u ∈ ws, TxtOk u) ∧ (joinP ws).size ≤ 8192 ∧ Ext h4 h' ∧ Own h' h4.size 9 1 a ws.length c (ws.map Value.string)) (fun us _ => match us with | [.int _ k, _, _] => l.length - k.toNat | _ => 0) rfl ?_ ?_
  · exact ⟨0, [], none, 0, rfl, by omega, rfl, by simp, by decide, Ext.refl _, Own.nil _ _ _ _⟩
  intro u h5 v30 v10 v11
  rintro ⟨k, ws, a, c, e, hk, hm, hw, hsz, x5, w5⟩
  cases e
  have wsl := mapO_len hm
  rw [List.length_take, Nat.min_eq_left hk] at wsl
  have hx5 := x5.1
  refine gA ?_
  refine HIf.mk (fun hlt => ?_) (fun hlt => ?_)
  · have hk1 : k < l.length := by have := of_decide_eq_true hlt; omega
    have hmu : l.length - ((k : Int) + 1).toNat < l.length - ((k : Int)).toNat := by omega
    have we5 := we.ext x5
    have hox := hok _ (List.getElem_mem hk1)
    have etk : l.take (k + 1) = l.take k ++ [l[k]] := by rw [List.take_add_one, List.getElem?_eq_getElem hk1]; rfl
    refine gA ?_
    refine HIdx.mk k rfl hk1 ?_
    refine sl_some we5.sl hk1 fun p ep => ?_
    refine gA ?_
    refine Sl.loadV we5.sl ep hk1 ?_
    generalize hxe : l[k] = y at hox etk
    refine gA ?_
    refine new_var (e := 24) [.int .i64 0, .int .i64 0, .string ⟨#[]⟩] rfl ?_
    intro h6 b14 o14 x6 z6 hb14
    refine gA ?_
    refine store_blk o14 (by simp) (by simp [isOne]) ?_
    intro h7 f7 z7 o7
    replace o7 : BlkW h7 b14 24 (cellsV y) := by simpa using o7
    have x57 : Ext h5 h7 := x6.offNew f7 (by omega)
    have hm1 : mapO (elemT (textP H f)) (l.take (k + 1)) = (elemT (textP H f) y).map fun u => ws ++ [u] := by
      rw [etk, mapO_append, hm]
      show (mapO (elemT (textP H f)) [y]).map _ = _
      rw [mapO_cons]
      cases elemT (textP H f) y <;> rfl
    refine gB ?_
    refine cut_rule [15] (fun us h' => ∃ u : ByteArray, us = [.string u] ∧ elemT (textP H f) y = some u ∧ TxtOk u ∧ Ext h7 h') rfl ?_ ?_
    · have nOk : TxtOk noS := ⟨by show (0 : Nat) ≤ 8192; omega, rfl⟩
      by_cases k0 : y.k = 0
      · have q1 : (y.k != 0) = false := by rw [k0]; rfl
        have eu : elemT (textP H f) y = some noS := by unfold elemT; rw [if_pos (.inl k0)]
        refine gA ?_
        exact ⟨noS, rfl, eu, nOk, Ext.refl _⟩
      have q1 : (y.k != 0) = true := by simp [k0]
      by_cases k1 : y.k = 1
      · have q2 : (y.k != 1) = false := by rw [k1]; rfl
        have eu : elemT (textP H f) y = some noS := by unfold elemT; rw [if_pos (.inr k1)]
        refine gA ?_
        exact ⟨noS, rfl, eu, nOk, Ext.refl _⟩
      have q2 : (y.k != 1) = true := by simp [k1]
      have eu : elemT (textP H f) y = textP H f y := by unfold elemT; rw [if_neg (by omega)]
      refine gA ?_
      refine HCall.to #[.pointer (some ⟨b, 0, none⟩), .agg (cellsV y).toArray, .int .i64 (20 - (f : Int))] (by rw [← hd]; rfl) ?_
      refine (ih y h7 hox (x.ext ((x04.trans x5).trans x57))).mono ?_
      rintro e h8 ⟨rfl, x8⟩
      cases ht : textP H f y with
      | none =>
        have en : AT = none := by
          rw [eT, ← List.take_append_drop (k + 1) l, mapO_append, hm1, eu, ht]
          try rfl
        rw [en]
        refine gA ?_
        exact ⟨rfl, ((x04.trans x5).trans x57).trans x8⟩
      | some w =>
        refine gA ?_
        exact ⟨w, rfl, by rw [eu, ht], text_ok g cl f y hox w ht, x8⟩
    intro u8 h8 v15
    rintro ⟨w, e, hew, hwo, x8⟩
    cases e
    rw [hew] at hm1
    replace hm1 : mapO (elemT (textP H f)) (l.take (k + 1)) = some (ws ++ [w]) := hm1
    have w8 := (w5.ext x57).ext x8
    have x58 := x57.trans x8
    have hx58 := x58.1
    refine gA ?_
    refine new_own (e := 9) 1 1 [.string w] rfl rfl ?_
    intro h9 b57 w57 x9 z9 hb57
    have w9 := w8.ext x9
    have hx9 := x9.1
    refine gA ?_
    refine w57.sl.cells ?_
    refine Own.grow (m := 1) w9 (by omega) rfl rfl (by simp [isOne]) (by omega) ?_
    intro h10 a10 c10 w10 g10
    have x10 : Ext h4 h10 := ⟨by have := g10.1; omega, fun q hq => by
      rw [g10.2.1 q (by omega) (fun p ep => by have := (w9.lt p ep).1; omega), x9.2 q (by omega), x58.2 q (by omega), x5.2 q hq]⟩
    have ewm : ws.map Value.string ++ [.string w] = (ws ++ [w]).map Value.string := by simp
    rw [ewm] at w10
    have e2 : ((w.size : Nat) : Int).tdiv 2 = ((w.size / 2 : Nat) : Int) := (Int.ofNat_tdiv w.size 2).symm
    have hws := hwo.1
    have emn : ((w.size : Nat) : Int).tdiv 2 + (if 1 < (k : Int) then 1 else (k : Int)) = ((w.size / 2 + min k 1 : Nat) : Int) := by rw [e2]; split <;> omega
    have es1 := join_size ws
    have es2 := join_size (ws ++ [w])
    rw [sizes_append, List.length_append, wsl] at es2
    rw [wsl] at es1
    simp only [sizes, List.length_cons, List.length_nil] at es2
    have ev1 := sizes_even ws fun u hu => (hw u hu).2
    have ev2 := hwo.2
    have z0 : k = 0 → sizes ws = 0 := fun e => by
      have : ws = [] := List.length_eq_zero_iff.1 (by omega)
      rw [this]; rfl
    have esum : (((joinP ws).size / 2 : Nat) : Int) + ((w.size / 2 + min k 1 : Nat) : Int) = (((joinP (ws ++ [w])).size / 2 : Nat) : Int) := by
      rw [es1, es2]
      rcases Nat.eq_zero_or_pos k with h0 | h0
      · have := z0 h0
        subst h0
        omega
      · omega
    have ewl : ws.length + 1 = (ws ++ [w]).length := by simp
    rw [ewl] at w10
    refine gA ?_
    refine HInt.mk ((w.size / 2 + min k 1 : Nat) : Int) ((congrArg (IntKind.wrap .i64) emn).trans (wrap_i64 (by omega))) ?_
    refine gA ?_
    by_cases hb : 8192 < (joinP (ws ++ [w])).size
    · have q3 : decide ((((joinP ws).size / 2 : Nat) : Int) + ((w.size / 2 + min k 1 : Nat) : Int) > 4096) = true := decide_eq_true (by rw [esum]; omega)
      have en : AT = none := anone hm1 hb
      rw [en]
      refine gA ?_
      exact ⟨rfl, x04.trans x10⟩
    · have q3 : decide ((((joinP ws).size / 2 : Nat) : Int) + ((w.size / 2 + min k 1 : Nat) : Int) > 4096) = false := decide_eq_false (by rw [esum]; omega)
      refine gA ?_
      refine ⟨⟨k + 1, ws ++ [w], a10, c10, ?_, by omega, hm1, fun u hu => ?_, by omega, x10, w10⟩, hmu⟩
      · rw [← esum, ← ewl]; rfl
      · rcases List.mem_append.1 hu with h1 | h1
        · exact hw u h1
        · simp at h1; rw [h1]; exact hwo
  · have hge := of_decide_eq_false hlt
    obtain rfl : k = l.length := by omega
    rw [List.take_length] at hm
    have el : limP (joinP ws) = some (joinP ws) := by unfold limP; rw [if_neg (by omega)]
    rw [eT, hm]
    simp only []
    rw [el]
    refine gA ?_
    refine HCall.mk ((sjoin_spec w5 (uS [44]) (by omega) (by rw [show (uS [44]).data.toList = [0, 44] from rfl, join_lib, ba_len]; omega)).mono ?_)
    rintro e h6 ⟨rfl, x6⟩
    have ej : (⟨(Lib.join (ws.map (·.data.toList)) (uS [44]).data.toList).toArray⟩ : ByteArray) = joinP ws := by
      rw [show (uS [44]).data.toList = [0, 44] from rfl, join_lib]
    rw [ej]
    refine gA ?_
    exact ⟨rfl, (x04.trans x5).trans x6⟩
set_option maxHeartbeats 16000000
theorem rpart_spec {b : Nat} {H : PH} {Z : YZ} {f : Nat} (g : Good H) (cl : ClsOk H) (ih : RTextAt b H Z f) (hf : f < 20) (v : VV) (h : Heap) (hv : VOk v) (x : YR h b H Z) (kl ol : List UInt8) (pl : plainL kl) (hkl : kl.length ≤ 100) (po : plainL ol) (hol : ol.length ≤ 100) :
    HCalls Tryz.prog 150 #[.pointer (some ⟨b, 0, none⟩), .agg (cellsV v).toArray, .string ⟨kl.toArray⟩, .string ⟨ol.toArray⟩, .int .i64 (20 - ((f + 1 : Nat) : Int))] h fun e h' =>
      e = .returned (textR (if (getP H v (uS kl)).k = 0 then some (uS ol) else textP H f (getP H v (uS kl)))) ∧ Ext h h' := by
  refine c150 (by simp) ?_
  have hd : (20 - ((f + 1 : Nat) : Int)) + 1 = 20 - (f : Int) := by omega
  refine gA ?_
  refine new_var (e := 24) (cellsV v) rfl ?_
  intro h1 b6 o6 x1 z1 hb6
  have X := Ext.refl h1
  refine gB ?_
  refine cut_rule [12] (fun us h' => ∃ b12, us = [.pointer (some ⟨b12, 0, none⟩)] ∧ BlkW h' b12 24 (cellsV (getP H v (uS kl))) ∧ Ext h1 h') rfl ?_ ?_
  · refine gA ?_
    repeat' (first
      | (refine HAlt.mk ?_ ?_ <;> refine gA ?_)
      | (refine new_var (e := 24) [.int .i64 0, .int .i64 0, .string ⟨#[]⟩] rfl ?_
         intro hn b12 o12 xn zn hb12
         have lb12 : h1.size ≤ b12 := by have := X.1; omega
         have X := X.trans xn
         have o6 := o6.ext xn
         refine gA ?_)
      | (refine HCall.mk ((u_spec kl pl (by omega) _).mono ?_)
         rintro e hn ⟨rfl, xn⟩
         have X := X.trans xn
         have o6 := o6.ext xn
         try have o12 := o12.ext xn
         refine gA ?_)
      | (refine HCall.mk ((rget_spec (x.ext (x1.trans X)) g v hv.i (uS kl) (by rw [uS_size]; omega)).mono ?_)
         rintro e hn ⟨rfl, xn⟩
         have X := X.trans xn
         have o6 := o6.ext xn
         try have o12 := o12.ext xn
         refine gA ?_)
      | (refine store_blk o12 (by simp) (by simp [isOne]) ?_
         intro hn fn zn on
         replace on : BlkW hn b12 24 (cellsV (getP H v (uS kl))) := by simpa using on
         refine gA ?_
         exact ⟨b12, rfl, on, X.offNew fn lb12⟩))
  intro u h2 v12
  rintro ⟨b12, e, o12, x2⟩
  cases e
  have hox := get_ok g v (uS kl)
  have x02 := x1.trans x2
  generalize getP H v (uS kl) = y at hox o12
  by_cases k0 : y.k = 0
  · have q1 : (y.k == 0) = true := by rw [k0]; rfl
    rw [if_pos k0]
    refine gA ?_
    refine HCall.mk ((u_spec ol po (by omega) h2).mono ?_)
    rintro e h3 ⟨rfl, x3⟩
    refine gA ?_
    exact ⟨rfl, x02.trans x3⟩
  · have q1 : (y.k == 0) = false := beq_eq_false_iff_ne.2 k0
    rw [if_neg k0]
    refine gA ?_
    refine HCall.to #[.pointer (some ⟨b, 0, none⟩), .agg (cellsV y).toArray, .int .i64 (20 - (f : Int))] (by rw [← hd]; rfl) ?_
    refine (ih y h2 hox (x.ext x02)).mono ?_
    rintro e h3 ⟨rfl, x3⟩
    cases textP H f y
    all_goals
      refine gA ?_
      exact ⟨rfl, x02.trans x3⟩
theorem plain_nil : plainL [] := fun c hc => by cases hc
theorem rfail_spec {b : Nat} {H : PH} {Z : YZ} {f : Nat} (g : Good H) (cl : ClsOk H) (ih : RTextAt b H Z f) (hf : f < 20) (v : VV) (h : Heap) (hv : VOk v) (x : YR h b H Z) :
    HCalls Tryz.prog 122 #[.pointer (some ⟨b, 0, none⟩), .agg (cellsV v).toArray, .int .i64 (20 - ((f + 1 : Nat) : Int))] h fun e h' => e = .returned (textR (failT H f v)) ∧ Ext h h' := by
  refine c122 (by simp) ?_
  refine gA ?_
  refine new_var (e := 24) (cellsV v) rfl ?_
  intro h1 b4 o4 x1 z1 hb4
  refine gA ?_
  refine HCall.mk ((rpart_spec g cl ih hf v h1 hv (x.ext x1) wName wError plain_name (by decide) plain_err (by decide)).mono ?_)
  rintro e h2 ⟨rfl, x2⟩
  replace o4 := o4.ext x2
  have x02 := x1.trans x2
  have eN : (if (getP H v (uS wName)).k = 0 then some (uS wError) else textP H f (getP H v (uS wName))) = nameT H f v := rfl
  rw [eN]
  cases hA : nameT H f v with
  | none =>
    have ef : failT H f v = none := by unfold failT; rw [hA]
    rw [ef]
    refine gA ?_
    exact ⟨rfl, x02⟩
  | some a =>
    have oa := name_ok g cl hA
    refine gA ?_
    refine HCall.mk ((rpart_spec g cl ih hf v h2 hv (x.ext x02) wMessage [] plain_msg (by decide) plain_nil (by decide)).mono ?_)
    rintro e h3 ⟨rfl, x3⟩
    have x03 := x02.trans x3
    have eM : (if (getP H v (uS wMessage)).k = 0 then some (uS []) else textP H f (getP H v (uS wMessage))) = msgT H f v := rfl
    rw [eM]
    cases hB : msgT H f v with
    | none =>
      have ef : failT H f v = none := by unfold failT; rw [hA, hB]
      rw [ef]
      refine gA ?_
      exact ⟨rfl, x03⟩
    | some c =>
      have oc := msg_ok g cl hB
      have ef : failT H f v = if a = noS then some c else if c = noS then some a else limP (a ++ uS wColon ++ c) := by unfold failT; rw [hA, hB]
      rw [ef]
      by_cases ha : a = noS
      · have q1 : strEq a ⟨#[]⟩ = true := (strEq_iff _ _).2 ha
        rw [if_pos ha]
        refine gA ?_
        exact ⟨rfl, x03⟩
      have q1 : strEq a ⟨#[]⟩ = false := (strEq_no _ _).2 ha
      rw [if_neg ha]
      by_cases hc : c = noS
      · have q2 : strEq c ⟨#[]⟩ = true := (strEq_iff _ _).2 hc
        rw [if_pos hc]
        refine gA ?_
        exact ⟨rfl, x03⟩
      have q2 : strEq c ⟨#[]⟩ = false := (strEq_no _ _).2 hc
      rw [if_neg hc]
      refine gA ?_
      refine HCall.mk ((u_spec wColon (by unfold plainL; decide) (by decide) h3).mono ?_)
      rintro e h4 ⟨rfl, x4⟩
      have s1 : (⟨(unitsL wColon).toArray⟩ : ByteArray).size = 4 := rfl
      have a1 := oa.1
      have c1 := oc.1
      refine gA ?_
      refine HMust.mk (by omega) ?_
      refine gA ?_
      refine HMust.mk (by rw [app_size]; omega) ?_
      refine gA ?_
      refine HCall.mk ((rlong_spec (a ++ uS wColon ++ c) (by rw [app_size, app_size, uS_size]; have := oa.2; have := oc.2; omega) (by rw [app_size, app_size, uS_size]; simp; omega) h4).mono ?_)
      rintro e h5 ⟨rfl, x5⟩
      cases limP (a ++ uS wColon ++ c)
      all_goals
        refine gA ?_
        exact ⟨rfl, (x03.trans x4).trans x5⟩
theorem rtext_step {b : Nat} {H : PH} {Z : YZ} (g : Good H) (cl : ClsOk H) (f : Nat) (hf : f ≤ 20) (ih : ∀ f', f = f' + 1 → RTextAt b H Z f') : RTextAt b H Z f := by
  intro v h hv x
  refine c70 (by simp) ?_
  refine gA ?_
  refine new_var (e := 24) (cellsV v) rfl ?_
  intro h1 b4 o4 x1 z1 hb4
  have y1 := x.ext x1
  have hn := hv.n
  refine gA ?_
  by_cases k1 : v.k = 1
  · have q1 : (v.k == 1) = true := by rw [k1]; rfl
    rw [textP_null k1]
    refine gA ?_
    refine HCall.mk ((u_spec wNull (by unfold plainL; decide) (by decide) h1).mono ?_)
    rintro e h2 ⟨rfl, x2⟩
    refine gA ?_
    exact ⟨rfl, x1.trans x2⟩
  have q1 : (v.k == 1) = false := beq_eq_false_iff_ne.2 k1
  by_cases k2 : v.k = 2
  · have q2 : (v.k == 2) = true := by rw [k2]; rfl
    rw [textP_bool k2]
    by_cases hn0 : v.n = 0
    · have q3 : (v.n == 0) = true := by rw [hn0]; rfl
      rw [if_pos hn0]
      refine gA ?_
      refine HCall.mk ((u_spec wFalse (by unfold plainL; decide) (by decide) h1).mono ?_)
      rintro e h2 ⟨rfl, x2⟩
      refine gA ?_
      exact ⟨rfl, x1.trans x2⟩
    · have q3 : (v.n == 0) = false := beq_eq_false_iff_ne.2 hn0
      rw [if_neg hn0]
      refine gA ?_
      refine HCall.mk ((u_spec wTrue (by unfold plainL; decide) (by decide) h1).mono ?_)
      rintro e h2 ⟨rfl, x2⟩
      refine gA ?_
      exact ⟨rfl, x1.trans x2⟩
  have q2 : (v.k == 2) = false := beq_eq_false_iff_ne.2 k2
  by_cases k3 : v.k = 3
  · have q3 : (v.k == 3) = true := by rw [k3]; rfl
    rw [textP_num k3]
    refine gA ?_
    refine HCall.mk ((rtext_spec v.n (by omega) (by omega) h1).mono ?_)
    rintro e h2 ⟨rfl, x2⟩
    refine gA ?_
    exact ⟨rfl, x1.trans x2⟩
  have q3 : (v.k == 3) = false := beq_eq_false_iff_ne.2 k3
  by_cases k4 : v.k = 4
  · have q4 : (v.k == 4) = true := by rw [k4]; rfl
    rw [textP_str k4]
    refine gA ?_
    refine HCall.mk ((rlong_spec v.s hv.even (by have := hv.s; omega) h1).mono ?_)
    rintro e h2 ⟨rfl, x2⟩
    cases limP v.s
    all_goals
      refine gA ?_
      exact ⟨rfl, x1.trans x2⟩
  have q4 : (v.k == 4) = false := beq_eq_false_iff_ne.2 k4
  by_cases k7 : v.k = 7
  · have q7 : (v.k == 7) = true := by rw [k7]; rfl
    cases f with
    | zero =>
      rw [textP_deep k7]
      have q8 : decide ((20 - ((0 : Nat) : Int)) ≥ 20) = true := rfl
      refine gA ?_
      exact ⟨rfl, x1⟩
    | succ f =>
      rw [textP_ref k7]
      have ihf := ih f rfl
      have q8 : decide ((20 - ((f + 1 : Nat) : Int)) ≥ 20) = false := decide_eq_false (by omega)
      refine gA ?_
      refine HCall.mk ((rclass_spec y1 v hv.i g.few.len).mono ?_)
      rintro e h2 ⟨rfl, x2⟩
      replace o4 := o4.ext x2
      have x02 := x1.trans x2
      have y2 := x.ext x02
      have hcl := cls_ok cl v
      unfold objT
      by_cases c1 : clsP H v = funcS
      · have q9 : strEq (clsP H v) ⟨#[70, 117, 110, 99, 116, 105, 111, 110]⟩ = true := (strEq_iff _ _).2 c1
        rw [if_pos c1]
        refine gA ?_
        refine HCall.mk ((u_spec wFunction (by unfold plainL; decide) (by decide) h2).mono ?_)
        rintro e h3 ⟨rfl, x3⟩
        refine gA ?_
        exact ⟨rfl, x02.trans x3⟩
      have q9 : strEq (clsP H v) ⟨#[70, 117, 110, 99, 116, 105, 111, 110]⟩ = false := (strEq_no _ _).2 c1
      rw [if_neg c1]
      by_cases c2 : clsP H v = arrS
      · have q10 : strEq (clsP H v) ⟨#[65, 114, 114, 97, 121]⟩ = true := (strEq_iff _ _).2 c2
        rw [if_pos c2]
        refine gA ?_
        refine HCall.mk ((rarray_spec g cl ihf (by omega) v h2 hv y2).mono ?_)
        rintro e h3 ⟨rfl, x3⟩
        cases arrT H f v
        all_goals
          refine gA ?_
          exact ⟨rfl, x02.trans x3⟩
      have q10 : strEq (clsP H v) ⟨#[65, 114, 114, 97, 121]⟩ = false := (strEq_no _ _).2 c2
      rw [if_neg c2]
      by_cases c3 : clsP H v = errS
      · have q11 : strEq (clsP H v) ⟨#[69, 114, 114, 111, 114]⟩ = true := (strEq_iff _ _).2 c3
        rw [if_pos c3]
        refine gA ?_
        refine HCall.mk ((rfail_spec g cl ihf (by omega) v h2 hv y2).mono ?_)
        rintro e h3 ⟨rfl, x3⟩
        cases failT H f v
        all_goals
          refine gA ?_
          exact ⟨rfl, x02.trans x3⟩
      have q11 : strEq (clsP H v) ⟨#[69, 114, 114, 111, 114]⟩ = false := (strEq_no _ _).2 c3
      rw [if_neg c3]
      refine gA ?_
      have hp : plainL (wObj ++ (clsP H v).data.toList ++ [93]) := by
        intro c hc
        rcases List.mem_append.1 hc with hc | hc
        · rcases List.mem_append.1 hc with hc | hc
          · exact (show plainL wObj by unfold plainL; decide) c hc
          · exact hcl.2 c hc
        · simp at hc; subst hc; decide
      have s1 : (⟨#[91, 111, 98, 106, 101, 99, 116, 32]⟩ : ByteArray).size = 8 := rfl
      have s2 : (⟨#[93]⟩ : ByteArray).size = 1 := rfl
      refine HMust.mk (by have := hcl.1; omega) ?_
      refine gA ?_
      refine HMust.mk (by rw [app_size]; have := hcl.1; omega) ?_
      refine gA ?_
      refine HCall.to #[.string ⟨(wObj ++ (clsP H v).data.toList ++ [93]).toArray⟩] ?_ ?_
      · have : (⟨(wObj ++ (clsP H v).data.toList ++ [93]).toArray⟩ : ByteArray) = ⟨#[91, 111, 98, 106, 101, 99, 116, 32]⟩ ++ clsP H v ++ ⟨#[93]⟩ := by
          apply ByteArray.ext
          rw [ByteArray.data_append, ByteArray.data_append]
          apply Array.ext'
          simp
        rw [this]
        try rfl
      refine (u_spec _ hp (by simp only [List.length_append, List.length_cons, List.length_nil, ba_len]; have := hcl.1; omega) h2).mono ?_
      rintro e h3 ⟨rfl, x3⟩
      refine gA ?_
      exact ⟨rfl, x02.trans x3⟩
  have q7 : (v.k == 7) = false := beq_eq_false_iff_ne.2 k7
  rw [textP_und k1 k2 k3 k4 k7]
  refine gA ?_
  refine HCall.mk ((u_spec wUndef (by unfold plainL; decide) (by decide) h1).mono ?_)
  rintro e h2 ⟨rfl, x2⟩
  refine gA ?_
  exact ⟨rfl, x1.trans x2⟩
theorem rtextAt {b : Nat} {H : PH} {Z : YZ} (g : Good H) (cl : ClsOk H) : ∀ f, f ≤ 20 → RTextAt b H Z f
  | 0, hf => rtext_step g cl 0 hf fun f' e => by omega
  | f + 1, hf => rtext_step g cl (f + 1) hf fun f' e => by
    obtain rfl : f = f' := by omega
    exact rtextAt g cl f (by omega)
theorem rtxt_spec {b : Nat} {H : PH} {Z : YZ} (g : Good H) (cl : ClsOk H) (v : VV) (h : Heap) (hv : VOk v) (x : YR h b H Z) :
    HCalls Tryz.prog 28 #[.pointer (some ⟨b, 0, none⟩), .agg (cellsV v).toArray] h fun e h' => e = .returned (textR (textT H v)) ∧ Ext h h' := by
  refine c28 (by simp) ?_
  refine gA ?_
  refine new_var (e := 24) (cellsV v) rfl ?_
  intro h1 b3 o3 x1 z1 hb3
  refine gA ?_
  refine HCall.mk ((rtextAt g cl 20 (Nat.le_refl _) v h1 hv (x.ext x1)).mono ?_)
  rintro e h2 ⟨rfl, x2⟩
  unfold textT
  cases textP H 20 v
  all_goals
    refine gA ?_
    exact ⟨rfl, x1.trans x2⟩
theorem rnumber_spec {b : Nat} {H : PH} {Z : YZ} (g : Good H) (cl : ClsOk H) (v : VV) (h : Heap) (hv : VOk v) (x : YR h b H Z) :
    HCalls Tryz.prog 29 #[.pointer (some ⟨b, 0, none⟩), .agg (cellsV v).toArray] h fun e h' => e = .returned (numR (numP H v)) ∧ Ext h h' := by
  refine c29 (by simp) ?_
  refine gA ?_
  refine new_var (e := 24) (cellsV v) rfl ?_
  intro h1 b3 o3 x1 z1 hb3
  refine gA ?_
  by_cases k1 : v.k = 1
  · have q1 : (v.k == 1) = true := by rw [k1]; rfl
    have e : numP H v = some 0 := by unfold numP; rw [if_pos (.inl k1), hv.num (by omega) (by omega) (by omega)]
    rw [e]
    refine gA ?_
    exact ⟨rfl, x1⟩
  have q1 : (v.k == 1) = false := beq_eq_false_iff_ne.2 k1
  by_cases k2 : v.k = 2
  · have q2 : (v.k == 2) = true := by rw [k2]; rfl
    have e : numP H v = some v.n := by unfold numP; rw [if_pos (.inr (.inl k2))]
    rw [e]
    refine gA ?_
    exact ⟨rfl, x1⟩
  have q2 : (v.k == 2) = false := beq_eq_false_iff_ne.2 k2
  by_cases k3 : v.k = 3
  · have q3 : (v.k == 3) = true := by rw [k3]; rfl
    have e : numP H v = some v.n := by unfold numP; rw [if_pos (.inr (.inr k3))]
    rw [e]
    refine gA ?_
    exact ⟨rfl, x1⟩
  have q3 : (v.k == 3) = false := beq_eq_false_iff_ne.2 k3
  by_cases k47 : v.k = 4 ∨ v.k = 7
  · have e : numP H v = match textT H v with
      | none => none
      | some u => readN u.data.toList := by
      unfold numP
      rw [if_neg (by omega), if_pos k47]
      try rfl
    rw [e]
    rcases (show v.k = 4 ∨ (v.k ≠ 4 ∧ v.k = 7) by omega) with k4 | ⟨k4, k7⟩
    all_goals
      first
        | have q4 : (v.k == 4) = true := (by rw [k4]; rfl)
        | (have q4 : (v.k == 4) = false := beq_eq_false_iff_ne.2 k4
           have q7 : (v.k == 7) = true := (by rw [k7]; rfl))
      refine gA ?_
      refine HCall.mk ((rtxt_spec g cl v h1 hv (x.ext x1)).mono ?_)
      rintro e h2 ⟨rfl, x2⟩
      cases ht : textT H v with
      | none =>
        refine gA ?_
        exact ⟨rfl, x1.trans x2⟩
      | some u =>
        obtain ⟨⟨ul⟩⟩ := u
        have hu := (text_ok g cl 20 v hv _ ht).1
        refine gA ?_
        refine HCall.mk ((rread_spec ul (by have : ul.length ≤ 8192 := hu; omega) h2).mono ?_)
        rintro e h3 ⟨rfl, x3⟩
        rw [ref_read]
        cases hr : readN ul
        all_goals
          refine gA ?_
          refine ⟨?_, (x1.trans x2).trans x3⟩
          show _ = Ending.returned (numR (readN ul))
          rw [hr]
          try rfl
  · have q4 : (v.k == 4) = false := beq_eq_false_iff_ne.2 (fun e => k47 (.inl e))
    have q7 : (v.k == 7) = false := beq_eq_false_iff_ne.2 (fun e => k47 (.inr e))
    have e : numP H v = none := by unfold numP; rw [if_neg (by omega), if_neg k47]
    rw [e]
    refine gA ?_
    exact ⟨rfl, x1⟩
set_option maxHeartbeats 16000000
theorem rtypeof_spec {b : Nat} {H : PH} {Z : YZ} (g : Good H) (v : VV) (h : Heap) (hv : VOk v) (x : YR h b H Z) (ex : v.k = 1 → clsP H v ≠ funcS) :
    HCalls Tryz.prog 31 #[.pointer (some ⟨b, 0, none⟩), .agg (cellsV v).toArray] h fun e h' => e = .returned (.string ⟨(tyP H v).toArray⟩) ∧ Ext h h' := by
  refine c31 (by simp) ?_
  refine gA ?_
  refine new_var (e := 24) (cellsV v) rfl ?_
  intro h1 b3 o3 x1 z1 hb3
  refine gA ?_
  by_cases k1 : v.k = 1
  · have q1 : (v.k == 1) = true := by rw [k1]; rfl
    have e : tyP H v = [111, 98, 106, 101, 99, 116] := by unfold tyP; rw [if_neg (by omega), if_neg (by omega), if_neg (by omega), if_pos (.inl k1), if_neg (ex k1)]
    rw [e]
    refine gA ?_
    exact ⟨rfl, x1⟩
  have q1 : (v.k == 1) = false := beq_eq_false_iff_ne.2 k1
  by_cases k2 : v.k = 2
  · have q2 : (v.k == 2) = true := by rw [k2]; rfl
    have e : tyP H v = [98, 111, 111, 108, 101, 97, 110] := by unfold tyP; rw [if_pos k2]
    rw [e]
    refine gA ?_
    exact ⟨rfl, x1⟩
  have q2 : (v.k == 2) = false := beq_eq_false_iff_ne.2 k2
  by_cases k3 : v.k = 3
  · have q3 : (v.k == 3) = true := by rw [k3]; rfl
    have e : tyP H v = [110, 117, 109, 98, 101, 114] := by unfold tyP; rw [if_neg k2, if_pos k3]
    rw [e]
    refine gA ?_
    exact ⟨rfl, x1⟩
  have q3 : (v.k == 3) = false := beq_eq_false_iff_ne.2 k3
  by_cases k4 : v.k = 4
  · have q4 : (v.k == 4) = true := by rw [k4]; rfl
    have e : tyP H v = [115, 116, 114, 105, 110, 103] := by unfold tyP; rw [if_neg k2, if_neg k3, if_pos k4]
    rw [e]
    refine gA ?_
    exact ⟨rfl, x1⟩
  have q4 : (v.k == 4) = false := beq_eq_false_iff_ne.2 k4
  by_cases k7 : v.k = 7
  · have q7 : (v.k == 7) = true := by rw [k7]; rfl
    have e : tyP H v = if clsP H v = funcS then wFunction else [111, 98, 106, 101, 99, 116] := by unfold tyP; rw [if_neg k2, if_neg k3, if_neg k4, if_pos (.inr k7)]
    rw [e]
    refine gA ?_
    refine HCall.mk ((rclass_spec (x.ext x1) v hv.i g.few.len).mono ?_)
    rintro e h2 ⟨rfl, x2⟩
    by_cases hc : clsP H v = funcS
    · have q : strEq (clsP H v) ⟨#[70, 117, 110, 99, 116, 105, 111, 110]⟩ = true := (strEq_iff _ _).2 hc
      rw [if_pos hc]
      refine gA ?_
      exact ⟨rfl, x1.trans x2⟩
    · have q : strEq (clsP H v) ⟨#[70, 117, 110, 99, 116, 105, 111, 110]⟩ = false := (strEq_no _ _).2 hc
      rw [if_neg hc]
      refine gA ?_
      exact ⟨rfl, x1.trans x2⟩
  · have q7 : (v.k == 7) = false := beq_eq_false_iff_ne.2 k7
    have e : tyP H v = wUndef := by unfold tyP; rw [if_neg k2, if_neg k3, if_neg k4, if_neg (by omega)]
    rw [e]
    refine gA ?_
    exact ⟨rfl, x1⟩
theorem rtruthy_spec (v : VV) (hv : VOk v) (h : Heap) : HCalls Tryz.prog 33 #[.agg (cellsV v).toArray] h fun e h' => e = .returned (.bool (truthP v)) ∧ Ext h h' := by
  refine c33 (by simp) ?_
  refine gA ?_
  refine new_var (e := 24) (cellsV v) rfl ?_
  intro h1 b1 o1 x1 z1 hb1
  refine gA ?_
  by_cases k23 : v.k = 2 ∨ v.k = 3
  · have e : truthP v = (v.n != 0) := by
      unfold truthP
      have hs : v.s = noS := hv.txt (by omega)
      by_cases hn : v.n = 0
      · rw [decide_eq_false (by rintro (h | h | h) <;> first | omega | exact h hn | exact h hs), hn]; rfl
      · rw [decide_eq_true (.inr (.inl hn))]; simp [hn]
    rw [e]
    rcases (show v.k = 2 ∨ (v.k ≠ 2 ∧ v.k = 3) by omega) with k2 | ⟨k2, k3⟩
    all_goals
      first
        | have q2 : (v.k == 2) = true := (by rw [k2]; rfl)
        | (have q2 : (v.k == 2) = false := beq_eq_false_iff_ne.2 k2
           have q3 : (v.k == 3) = true := (by rw [k3]; rfl))
      refine gA ?_
      exact ⟨rfl, x1⟩
  have q2 : (v.k == 2) = false := beq_eq_false_iff_ne.2 (fun e => k23 (.inl e))
  have q3 : (v.k == 3) = false := beq_eq_false_iff_ne.2 (fun e => k23 (.inr e))
  by_cases k4 : v.k = 4
  · have q4 : (v.k == 4) = true := by rw [k4]; rfl
    have e : truthP v = (!strEq v.s ⟨#[]⟩) := by
      unfold truthP
      have hn : v.n = 0 := hv.num (by omega) (by omega) (by omega)
      by_cases hs : v.s = noS
      · rw [decide_eq_false (by rintro (h | h | h) <;> first | omega | exact h hn | exact h hs), (strEq_iff _ _).2 hs]; rfl
      · rw [decide_eq_true (.inr (.inr hs)), (strEq_no _ _).2 hs]; rfl
    rw [e]
    refine gA ?_
    exact ⟨rfl, x1⟩
  have q4 : (v.k == 4) = false := beq_eq_false_iff_ne.2 k4
  by_cases k7 : v.k = 7
  · have q7 : (v.k == 7) = true := by rw [k7]; rfl
    have e : truthP v = true := decide_eq_true (.inl k7)
    rw [e]
    refine gA ?_
    exact ⟨rfl, x1⟩
  have q7 : (v.k == 7) = false := beq_eq_false_iff_ne.2 k7
  have e : truthP v = false := decide_eq_false (by
    rintro (h | h | h)
    · exact k7 h
    · exact h (hv.num (by omega) (by omega) k7)
    · exact h (hv.txt k4))
  rw [e]
  refine gA ?_
  exact ⟨rfl, x1⟩
theorem rstrict_spec (a b : VV) (h : Heap) : HCalls Tryz.prog 18 #[.agg (cellsV a).toArray, .agg (cellsV b).toArray] h fun e h' => e = .returned (.bool (vEq a b)) ∧ Ext h h' := by
  refine c18 (by simp) ?_
  refine gA ?_
  refine new_var (e := 24) (cellsV a) rfl ?_
  intro h1 b2 o2 x1 z1 hb2
  refine gA ?_
  refine new_var (e := 24) (cellsV b) rfl ?_
  intro h2 b3 o3 x2 z2 hb3
  replace o2 := o2.ext x2
  refine gA ?_
  refine raw_eqV a b rfl rfl rfl ?_
  refine gA ?_
  exact ⟨rfl, x1.trans x2⟩
theorem rbool_spec (c : Bool) (h : Heap) : HCalls Tryz.prog 38 #[.bool c] h fun e h' => e = .returned (.agg (cellsV (boolV c)).toArray) ∧ Ext h h' := by
  refine c38 (by simp) ?_
  refine gA ?_
  refine new_var (e := 24) [.int .i64 0, .int .i64 0, .string ⟨#[]⟩] rfl ?_
  intro h1 b2 o2 x1 z1 hb2
  cases c with
  | false =>
    refine gA ?_
    refine store_blk o2 (by simp) (by simp [isOne]) ?_
    intro hr fr zr orr
    replace orr : BlkW hr b2 24 [.int .i64 2, .int .i64 0, .string ⟨#[]⟩] := by simpa using orr
    refine gA ?_
    exact ⟨rfl, (x1).offNew fr (by omega)⟩
  | true =>
    refine gA ?_
    refine store_blk o2 (by simp) (by simp [isOne]) ?_
    intro hr fr zr orr
    replace orr : BlkW hr b2 24 [.int .i64 2, .int .i64 1, .string ⟨#[]⟩] := by simpa using orr
    refine gA ?_
    exact ⟨rfl, (x1).offNew fr (by omega)⟩
theorem rtxt1_spec (u : ByteArray) (h : Heap) : HCalls Tryz.prog 76 #[.string u] h fun e h' => e = .returned (.agg (cellsV (strV u)).toArray) ∧ Ext h h' := by
  refine c76 (by simp) ?_
  refine gA ?_
  refine new_var (e := 24) [.int .i64 0, .int .i64 0, .string ⟨#[]⟩] rfl ?_
  intro h1 b2 o2 x1 z1 hb2
  refine gA ?_
  refine store_blk o2 (by simp) (by simp [isOne]) ?_
  intro hr fr zr orr
  replace orr : BlkW hr b2 24 (cellsV (strV u)) := by simpa using orr
  refine gA ?_
  exact ⟨rfl, (x1).offNew fr (by omega)⟩
theorem rnum1_spec (n : Int) (h : Heap) : HCalls Tryz.prog 127 #[.int .i64 n] h fun e h' => e = .returned (.agg (cellsV (numV n)).toArray) ∧ Ext h h' := by
  refine c127 (by simp) ?_
  refine gA ?_
  refine new_var (e := 24) [.int .i64 0, .int .i64 0, .string ⟨#[]⟩] rfl ?_
  intro h1 b2 o2 x1 z1 hb2
  refine gA ?_
  refine store_blk o2 (by simp) (by simp [isOne]) ?_
  intro hr fr zr orr
  replace orr : BlkW hr b2 24 (cellsV (numV n)) := by simpa using orr
  refine gA ?_
  exact ⟨rfl, (x1).offNew fr (by omega)⟩
theorem rtoldV_spec (o : Option Int) (h : Heap) : HCalls Tryz.prog 75 #[.int .i64 (numA o).1, .int .i64 (numA o).2] h fun e h' => e = .returned (resR (foundR o)) ∧ Ext h h' := by
  cases o with
  | none =>
    refine c75 (by simp) ?_
    refine gA ?_
    refine new_var (e := 24) [.int .i64 0, .int .i64 0, .string ⟨#[]⟩] rfl ?_
    intro h1 b4 o4 x1 z1 hb4
    refine gA ?_
    refine store_blk o4 (by simp) (by simp [isOne]) ?_
    intro hr fr zr orr
    replace orr : BlkW hr b4 24 (cellsV undefV) := by simpa using orr
    refine gA ?_
    exact ⟨rfl, (x1).offNew fr (by omega)⟩
  | some n =>
    show HCalls Tryz.prog 75 #[.int .i64 n, .int .i64 0] h _
    refine c75 (by simp) ?_
    refine gA ?_
    refine new_var (e := 24) [.int .i64 0, .int .i64 0, .string ⟨#[]⟩] rfl ?_
    intro h1 b4 o4 x1 z1 hb4
    refine gA ?_
    refine HCall.mk ((rnum1_spec n h1).mono ?_)
    rintro e h2 ⟨rfl, x2⟩
    replace o4 := o4.ext x2
    refine gA ?_
    refine store_blk o4 (by simp) (by simp [isOne]) ?_
    intro hr fr zr orr
    replace orr : BlkW hr b4 24 (cellsV (numV n)) := by simpa using orr
    refine gA ?_
    exact ⟨rfl, (x1.trans x2).offNew fr (by omega)⟩
theorem rnone_spec (v : VV) (hv : VOk v) (h : Heap) : HCalls Tryz.prog 59 #[.agg (cellsV v).toArray] h fun e h' => e = .returned (.bool (decide (v.k ≤ 1))) ∧ Ext h h' := by
  refine c59 (by simp) ?_
  refine gA ?_
  refine new_var (e := 24) (cellsV v) rfl ?_
  intro h1 b1 o1 x1 z1 hb1
  have hk := hv.k
  by_cases k0 : v.k = 0
  · have q1 : (v.k == 0) = true := by rw [k0]; rfl
    rw [decide_eq_true (by omega)]
    refine gA ?_
    exact ⟨rfl, x1⟩
  have q1 : (v.k == 0) = false := beq_eq_false_iff_ne.2 k0
  by_cases k1 : v.k = 1
  · have q2 : (v.k == 1) = true := by rw [k1]; rfl
    rw [decide_eq_true (by omega)]
    refine gA ?_
    exact ⟨congrArg (fun b => Ending.returned (.bool b)) q2, x1⟩
  · have q2 : (v.k == 1) = false := beq_eq_false_iff_ne.2 k1
    rw [decide_eq_false (by omega)]
    refine gA ?_
    exact ⟨congrArg (fun b => Ending.returned (.bool b)) q2, x1⟩
def plR : Option VV → Value
  | none => .tuple #[.agg (cellsV undefV).toArray, .int .i64 100]
  | some x => .tuple #[.agg (cellsV x).toArray, .int .i64 0]
theorem rplain_spec {b : Nat} {H : PH} {Z : YZ} (g : Good H) (cl : ClsOk H) (v : VV) (h : Heap) (hv : VOk v) (x : YR h b H Z) :
    HCalls Tryz.prog 107 #[.pointer (some ⟨b, 0, none⟩), .agg (cellsV v).toArray] h fun e h' => e = .returned (plR (plainP H v)) ∧ Ext h h' := by
  refine c107 (by simp) ?_
  refine gA ?_
  refine new_var (e := 24) (cellsV v) rfl ?_
  intro h1 b3 o3 x1 z1 hb3
  refine gA ?_
  refine new_var (e := 24) [.int .i64 0, .int .i64 0, .string ⟨#[]⟩] rfl ?_
  intro h2 b4 o4 x2 z2 hb4
  replace o3 := o3.ext x2
  have x02 := x1.trans x2
  have hx1 := x1.1
  by_cases k7 : v.k = 7
  · have q1 : (v.k != 7) = false := by rw [k7]; rfl
    refine gA ?_
    refine HCall.mk ((rtxt_spec g cl v h2 hv (x.ext x02)).mono ?_)
    rintro e h3 ⟨rfl, x3⟩
    replace o4 := o4.ext x3
    have x03 := x02.trans x3
    cases ht : textT H v with
    | none =>
      have ep : plainP H v = none := by unfold plainP; rw [if_pos k7, ht]; rfl
      rw [ep]
      refine gA ?_
      refine store_blk o4 (by simp) (by simp [isOne]) ?_
      intro hr fr zr orr
      replace orr : BlkW hr b4 24 (cellsV undefV) := by simpa using orr
      refine gA ?_
      exact ⟨rfl, (x03).offNew fr (by omega)⟩
    | some u =>
      have ep : plainP H v = some (strV u) := by unfold plainP; rw [if_pos k7, ht]; rfl
      rw [ep]
      refine gA ?_
      refine HCall.mk ((rtxt1_spec u h3).mono ?_)
      rintro e h4 ⟨rfl, x4⟩
      replace o4 := o4.ext x4
      refine gA ?_
      refine store_blk o4 (by simp) (by simp [isOne]) ?_
      intro hr fr zr orr
      replace orr : BlkW hr b4 24 (cellsV (strV u)) := by simpa using orr
      refine gA ?_
      exact ⟨rfl, (x03.trans x4).offNew fr (by omega)⟩
  · have q1 : (v.k != 7) = true := by simp [k7]
    have ep : plainP H v = some v := by unfold plainP; rw [if_neg k7]
    rw [ep]
    refine gA ?_
    refine store_blk o4 (by simp) (by simp [isOne]) ?_
    intro hr fr zr orr
    replace orr : BlkW hr b4 24 (cellsV v) := by simpa using orr
    refine gA ?_
    exact ⟨rfl, (x02).offNew fr (by omega)⟩
def bothP (H : PH) (a b : VV) : Option (VV × VV) := match plainP H a with
  | none => none
  | some x => (plainP H b).map fun y => (x, y)
def bothR (o : Option (VV × VV)) (e : Ending) : Prop := match o with
  | none => ∃ x y : VV, e = .returned (.tuple #[.agg (cellsV x).toArray, .agg (cellsV y).toArray, .int .i64 100])
  | some p => e = .returned (.tuple #[.agg (cellsV p.1).toArray, .agg (cellsV p.2).toArray, .int .i64 0])
theorem rboth_spec {bb : Nat} {H : PH} {Z : YZ} (g : Good H) (cl : ClsOk H) (a b : VV) (h : Heap) (ha : VOk a) (hb : VOk b) (x : YR h bb H Z) :
    HCalls Tryz.prog 60 #[.pointer (some ⟨bb, 0, none⟩), .agg (cellsV a).toArray, .agg (cellsV b).toArray] h fun e h' => bothR (bothP H a b) e ∧ Ext h h' := by
  refine c60 (by simp) ?_
  refine gA ?_
  refine new_var (e := 24) (cellsV a) rfl ?_
  intro h1 b4 o4 x1 z1 hb4
  refine gA ?_
  refine new_var (e := 24) (cellsV b) rfl ?_
  intro h2 b5 o5 x2 z2 hb5
  replace o4 := o4.ext x2
  refine gA ?_
  refine new_var (e := 24) [.int .i64 0, .int .i64 0, .string ⟨#[]⟩] rfl ?_
  intro h3 b6 o6 x3 z3 hb6
  replace o4 := o4.ext x3
  replace o5 := o5.ext x3
  refine gA ?_
  refine new_var (e := 24) [.int .i64 0, .int .i64 0, .string ⟨#[]⟩] rfl ?_
  intro h4 b7 o7 x4 z4 hb7
  replace o4 := o4.ext x4
  replace o5 := o5.ext x4
  replace o6 := o6.ext x4
  have x04 := ((x1.trans x2).trans x3).trans x4
  have hx1 := x1.1
  have hx2 := x2.1
  have hx3 := x3.1
  have l6 := o6.lt
  refine gA ?_
  refine HCall.mk ((rplain_spec g cl a h4 ha (x.ext x04)).mono ?_)
  rintro e h5 ⟨rfl, x5⟩
  replace o5 := o5.ext x5
  replace o6 := o6.ext x5
  replace o7 := o7.ext x5
  have x05 := x04.trans x5
  have hx5 := x5.1
  unfold bothP
  cases hpa : plainP H a with
  | none =>
    refine gA ?_
    refine new_var (e := 24) [.int .i64 0, .int .i64 0, .string ⟨#[]⟩] rfl ?_
    intro h6 b9 o9 x6 z6 hb9
    replace o6 := o6.ext x6
    replace o7 := o7.ext x6
    refine gA ?_
    refine store_blk o9 (by simp) (by simp [isOne]) ?_
    intro h7 f7 z7 o97
    replace o97 : BlkW h7 b9 24 (cellsV undefV) := by simpa using o97
    replace o6 := o6.offk f7 (by omega)
    replace o7 := o7.offk f7 (by omega)
    have x07 := (x05.trans x6).offNew f7 (by have := x05.1; omega)
    refine gA ?_
    refine HAlt.mk ?_ ?_
    all_goals
      refine gA ?_
      refine store_blk o6 (by simp) (by simp [isOne]) ?_
      intro ha fa za o66
      replace o66 : BlkW ha b6 24 (cellsV undefV) := by simpa using o66
      have o77 := o7.offk fa (by omega)
      have o99 := o97.offk fa (by omega)
      refine gA ?_
      refine store_blk o77 (by simp) (by simp [isOne]) ?_
      intro hc fc zc o78
      replace o78 : BlkW hc b7 24 (cellsV undefV) := by simpa using o78
      have o67 := o66.offk fc (by omega)
      have xx := (x07.offNew fa (by have := x07.1; omega)).offNew fc (by have := x07.1; omega)
      refine gA ?_
      exact ⟨⟨undefV, undefV, rfl⟩, xx⟩
  | some u =>
    refine gA ?_
    refine new_var (e := 24) [.int .i64 0, .int .i64 0, .string ⟨#[]⟩] rfl ?_
    intro h6 b9 o9 x6 z6 hb9
    replace o5 := o5.ext x6
    replace o6 := o6.ext x6
    replace o7 := o7.ext x6
    refine gA ?_
    refine store_blk o9 (by simp) (by simp [isOne]) ?_
    intro h7 f7 z7 o97
    replace o97 : BlkW h7 b9 24 (cellsV u) := by simpa using o97
    replace o5 := o5.offk f7 (by omega)
    replace o6 := o6.offk f7 (by omega)
    replace o7 := o7.offk f7 (by omega)
    have x07 := (x05.trans x6).offNew f7 (by have := x05.1; omega)
    refine gA ?_
    refine HCall.mk ((rplain_spec g cl b h7 hb (x.ext x07)).mono ?_)
    rintro e h8 ⟨rfl, x8⟩
    replace o6 := o6.ext x8
    replace o7 := o7.ext x8
    replace o97 := o97.ext x8
    have x08 := x07.trans x8
    have hx8 := x8.1
    have hf7 := f7.1
    cases hpb : plainP H b with
    | none =>
      refine gA ?_
      refine new_var (e := 24) [.int .i64 0, .int .i64 0, .string ⟨#[]⟩] rfl ?_
      intro h9 b11 o11 x9 z9 hb11
      replace o6 := o6.ext x9
      replace o7 := o7.ext x9
      replace o97 := o97.ext x9
      refine gA ?_
      refine store_blk o11 (by simp) (by simp [isOne]) ?_
      intro h10 f10 z10 o110
      replace o110 : BlkW h10 b11 24 (cellsV undefV) := by simpa using o110
      have l9 := o97.lt
      replace o6 := o6.offk f10 (by omega)
      replace o7 := o7.offk f10 (by omega)
      replace o97 := o97.offk f10 (by omega)
      have x010 := (x08.trans x9).offNew f10 (by have := x08.1; omega)
      refine gA ?_
      refine HAlt.mk ?_ ?_
      all_goals
        refine gA ?_
        refine store_blk o6 (by simp) (by simp [isOne]) ?_
        intro ha fa za o66
        replace o66 : BlkW ha b6 24 (cellsV u) := by simpa using o66
        have o77 := o7.offk fa (by omega)
        have o99 := o97.offk fa (by omega)
        have o111 := o110.offk fa (by omega)
        refine gA ?_
        refine store_blk o77 (by simp) (by simp [isOne]) ?_
        intro hc fc zc o78
        replace o78 : BlkW hc b7 24 (cellsV undefV) := by simpa using o78
        have o67 := o66.offk fc (by omega)
        have xx := (x010.offNew fa (by have := x010.1; omega)).offNew fc (by have := x010.1; omega)
        refine gA ?_
        exact ⟨⟨u, undefV, rfl⟩, xx⟩
    | some w =>
      refine gA ?_
      refine new_var (e := 24) [.int .i64 0, .int .i64 0, .string ⟨#[]⟩] rfl ?_
      intro h9 b11 o11 x9 z9 hb11
      replace o6 := o6.ext x9
      replace o7 := o7.ext x9
      replace o97 := o97.ext x9
      refine gA ?_
      refine store_blk o11 (by simp) (by simp [isOne]) ?_
      intro h10 f10 z10 o110
      replace o110 : BlkW h10 b11 24 (cellsV w) := by simpa using o110
      have l9 := o97.lt
      replace o6 := o6.offk f10 (by omega)
      replace o7 := o7.offk f10 (by omega)
      replace o97 := o97.offk f10 (by omega)
      have x010 := (x08.trans x9).offNew f10 (by have := x08.1; omega)
      refine gA ?_
      refine HAlt.mk ?_ ?_
      all_goals
        refine gA ?_
        refine store_blk o6 (by simp) (by simp [isOne]) ?_
        intro ha fa za o66
        replace o66 : BlkW ha b6 24 (cellsV u) := by simpa using o66
        have o77 := o7.offk fa (by omega)
        have o99 := o97.offk fa (by omega)
        have o111 := o110.offk fa (by omega)
        refine gA ?_
        refine store_blk o77 (by simp) (by simp [isOne]) ?_
        intro hc fc zc o78
        replace o78 : BlkW hc b7 24 (cellsV w) := by simpa using o78
        have o67 := o66.offk fc (by omega)
        have xx := (x010.offNew fa (by have := x010.1; omega)).offNew fc (by have := x010.1; omega)
        refine gA ?_
        exact ⟨rfl, xx⟩
set_option maxHeartbeats 16000000
theorem rnums_spec {bb : Nat} {H : PH} {Z : YZ} (g : Good H) (cl : ClsOk H) (a b : VV) (ha : VOk a) (hb : VOk b) (h : Heap) (x : YR h bb H Z) :
    HCalls Tryz.prog 101 #[.pointer (some ⟨bb, 0, none⟩), .agg (cellsV a).toArray, .agg (cellsV b).toArray] h fun e h' => numsR (numsP H a b) e ∧ Ext h h' := by
  refine c101 (by simp) ?_
  refine gA ?_
  refine new_var (e := 24) (cellsV a) rfl ?_
  intro h1 b4 o4 x1 z1 hb4
  refine gA ?_
  refine new_var (e := 24) (cellsV b) rfl ?_
  intro h2 b5 o5 x2 z2 hb5
  replace o4 := o4.ext x2
  have x02 := x1.trans x2
  refine gA ?_
  refine HCall.mk ((rnumber_spec g cl a h2 ha (x.ext x02)).mono ?_)
  rintro e h3 ⟨rfl, x3⟩
  replace o5 := o5.ext x3
  have x03 := x02.trans x3
  unfold numsP
  cases hn : numP H a with
  | none =>
    refine gA ?_
    exact ⟨⟨_, _, rfl⟩, x03⟩
  | some n =>
    refine gA ?_
    refine HCall.mk ((rnumber_spec g cl b h3 hb (x.ext x03)).mono ?_)
    rintro e h4 ⟨rfl, x4⟩
    cases hm : numP H b with
    | none =>
      refine gA ?_
      exact ⟨⟨_, _, rfl⟩, x03.trans x4⟩
    | some m =>
      refine gA ?_
      exact ⟨rfl, x03.trans x4⟩
theorem loose_flat {H : PH} {a b : VV} (h1 : a.k ≠ 7) (h2 : b.k ≠ 7) : looseP H a b = looseQ H a b := by
  unfold looseP looseQ
  rw [plainP_no h1, plainP_no h2]
  by_cases h : a.k = b.k
  · rw [if_pos h, if_pos h]
  · rw [if_neg h, if_neg h]
    by_cases h3 : a.k ≤ 1 ∨ b.k ≤ 1
    · rw [if_pos h3, if_pos h3]
    · rw [if_neg h3, if_neg h3]
      show looseQ H a b = _
      unfold looseQ
      rw [if_neg h, if_neg h3]
theorem rloose0_spec {bb : Nat} {H : PH} {Z : YZ} (g : Good H) (cl : ClsOk H) (a b : VV) (ha : VOk a) (hb : VOk b) (h7a : a.k ≠ 7) (h7b : b.k ≠ 7) (h : Heap) (x : YR h bb H Z) :
    HCalls Tryz.prog 16 #[.pointer (some ⟨bb, 0, none⟩), .agg (cellsV a).toArray, .agg (cellsV b).toArray] h fun e h' => e = .returned (lsR (looseP H a b)) ∧ Ext h h' := by
  refine c16 (by simp) ?_
  refine gA ?_
  refine new_var (e := 24) (cellsV a) rfl ?_
  intro h1 b4 o4 x1 z1 hb4
  refine gA ?_
  refine new_var (e := 24) (cellsV b) rfl ?_
  intro h2 b5 o5 x2 z2 hb5
  replace o4 := o4.ext x2
  have x02 := x1.trans x2
  refine gA ?_
  by_cases hk : a.k = b.k
  · have q1 : (a.k == b.k) = true := by rw [hk]; simp
    rw [looseP_same hk]
    refine gA ?_
    refine HCall.mk ((rstrict_spec a b h2).mono ?_)
    rintro e h3 ⟨rfl, x3⟩
    refine gA ?_
    exact ⟨rfl, x02.trans x3⟩
  have q1 : (a.k == b.k) = false := beq_eq_false_iff_ne.2 hk
  refine gA ?_
  refine HCall.mk ((rnone_spec a ha h2).mono ?_)
  rintro e h3 ⟨rfl, x3⟩
  replace o4 := o4.ext x3
  replace o5 := o5.ext x3
  have x03 := x02.trans x3
  by_cases ha1 : a.k ≤ 1
  · have q2 : decide (a.k ≤ 1) = true := decide_eq_true ha1
    rw [looseP_null hk (.inl ha1)]
    refine gA ?_
    refine HCall.mk ((rnone_spec a ha h3).mono ?_)
    rintro e h4 ⟨rfl, x4⟩
    replace o4 := o4.ext x4
    replace o5 := o5.ext x4
    refine gA ?_
    refine HCall.mk ((rnone_spec b hb h4).mono ?_)
    rintro e h5 ⟨rfl, x5⟩
    have em : decide (a.k ≤ 1 ∧ b.k ≤ 1) = decide (b.k ≤ 1) := decide_eq_decide.2 ⟨fun h => h.2, fun h => ⟨ha1, h⟩⟩
    rw [em]
    refine gA ?_
    exact ⟨rfl, (x03.trans x4).trans x5⟩
  have q2 : decide (a.k ≤ 1) = false := decide_eq_false ha1
  refine gA ?_
  refine HCall.mk ((rnone_spec b hb h3).mono ?_)
  rintro e h4 ⟨rfl, x4⟩
  replace o4 := o4.ext x4
  replace o5 := o5.ext x4
  have x04 := x03.trans x4
  by_cases hb1 : b.k ≤ 1
  · have q3 : decide (b.k ≤ 1) = true := decide_eq_true hb1
    rw [looseP_null hk (.inr hb1)]
    refine gA ?_
    refine HCall.mk ((rnone_spec a ha h4).mono ?_)
    rintro e h5 ⟨rfl, x5⟩
    have em : decide (a.k ≤ 1 ∧ b.k ≤ 1) = false := decide_eq_false (fun h => ha1 h.1)
    rw [em]
    refine gA ?_
    exact ⟨rfl, x04.trans x5⟩
  have q3 : decide (b.k ≤ 1) = false := decide_eq_false hb1
  have hnn : ¬ (a.k ≤ 1 ∨ b.k ≤ 1) := by omega
  refine gA ?_
  have q4 : (a.k == 7) = false := beq_eq_false_iff_ne.2 h7a
  have q5 : (b.k == 7) = false := beq_eq_false_iff_ne.2 h7b
  have el : looseP H a b = some (numEq H a b) := by rw [looseP_go hk hnn, plainP_no h7a, plainP_no h7b]; exact looseQ_num hk hnn
  rw [el]
  unfold numEq
  refine gA ?_
  refine HCall.mk ((rnumber_spec g cl a h4 ha (x.ext x04)).mono ?_)
  rintro e h5 ⟨rfl, x5⟩
  replace o5 := o5.ext x5
  have x05 := x04.trans x5
  cases hn1 : numP H a with
  | none =>
    refine gA ?_
    refine HCall.mk ((rnumber_spec g cl b h5 hb (x.ext x05)).mono ?_)
    rintro e2 h6 ⟨rfl, x6⟩
    cases hn2 : numP H b with
    | none =>
      refine gA ?_
      exact ⟨rfl, x05.trans x6⟩
    | some m =>
      refine gA ?_
      exact ⟨rfl, x05.trans x6⟩
  | some n =>
    refine gA ?_
    refine HCall.mk ((rnumber_spec g cl b h5 hb (x.ext x05)).mono ?_)
    rintro e2 h6 ⟨rfl, x6⟩
    cases hn2 : numP H b with
    | none =>
      refine gA ?_
      exact ⟨rfl, x05.trans x6⟩
    | some m =>
      refine gA ?_
      exact ⟨rfl, x05.trans x6⟩
theorem rloose_spec {bb : Nat} {H : PH} {Z : YZ} (g : Good H) (cl : ClsOk H) (a b : VV) (ha : VOk a) (hb : VOk b) (h : Heap) (x : YR h bb H Z) :
    HCalls Tryz.prog 16 #[.pointer (some ⟨bb, 0, none⟩), .agg (cellsV a).toArray, .agg (cellsV b).toArray] h fun e h' => e = .returned (lsR (looseP H a b)) ∧ Ext h h' := by
  refine c16 (by simp) ?_
  refine gA ?_
  refine new_var (e := 24) (cellsV a) rfl ?_
  intro h1 b4 o4 x1 z1 hb4
  refine gA ?_
  refine new_var (e := 24) (cellsV b) rfl ?_
  intro h2 b5 o5 x2 z2 hb5
  replace o4 := o4.ext x2
  have x02 := x1.trans x2
  refine gA ?_
  by_cases hk : a.k = b.k
  · have q1 : (a.k == b.k) = true := by rw [hk]; simp
    rw [looseP_same hk]
    refine gA ?_
    refine HCall.mk ((rstrict_spec a b h2).mono ?_)
    rintro e h3 ⟨rfl, x3⟩
    refine gA ?_
    exact ⟨rfl, x02.trans x3⟩
  have q1 : (a.k == b.k) = false := beq_eq_false_iff_ne.2 hk
  refine gA ?_
  refine HCall.mk ((rnone_spec a ha h2).mono ?_)
  rintro e h3 ⟨rfl, x3⟩
  replace o4 := o4.ext x3
  replace o5 := o5.ext x3
  have x03 := x02.trans x3
  by_cases ha1 : a.k ≤ 1
  · have q2 : decide (a.k ≤ 1) = true := decide_eq_true ha1
    rw [looseP_null hk (.inl ha1)]
    refine gA ?_
    refine HCall.mk ((rnone_spec a ha h3).mono ?_)
    rintro e h4 ⟨rfl, x4⟩
    replace o4 := o4.ext x4
    replace o5 := o5.ext x4
    refine gA ?_
    refine HCall.mk ((rnone_spec b hb h4).mono ?_)
    rintro e h5 ⟨rfl, x5⟩
    have em : decide (a.k ≤ 1 ∧ b.k ≤ 1) = decide (b.k ≤ 1) := decide_eq_decide.2 ⟨fun h => h.2, fun h => ⟨ha1, h⟩⟩
    rw [em]
    refine gA ?_
    exact ⟨rfl, (x03.trans x4).trans x5⟩
  have q2 : decide (a.k ≤ 1) = false := decide_eq_false ha1
  refine gA ?_
  refine HCall.mk ((rnone_spec b hb h3).mono ?_)
  rintro e h4 ⟨rfl, x4⟩
  replace o4 := o4.ext x4
  replace o5 := o5.ext x4
  have x04 := x03.trans x4
  by_cases hb1 : b.k ≤ 1
  · have q3 : decide (b.k ≤ 1) = true := decide_eq_true hb1
    rw [looseP_null hk (.inr hb1)]
    refine gA ?_
    refine HCall.mk ((rnone_spec a ha h4).mono ?_)
    rintro e h5 ⟨rfl, x5⟩
    have em : decide (a.k ≤ 1 ∧ b.k ≤ 1) = false := decide_eq_false (fun h => ha1 h.1)
    rw [em]
    refine gA ?_
    exact ⟨rfl, x04.trans x5⟩
  have q3 : decide (b.k ≤ 1) = false := decide_eq_false hb1
  have hnn : ¬ (a.k ≤ 1 ∨ b.k ≤ 1) := by omega
  refine gA ?_
  rcases (show a.k = 7 ∨ (a.k ≠ 7 ∧ b.k = 7) ∨ (a.k ≠ 7 ∧ b.k ≠ 7) by omega) with h7 | ⟨h7a, h7⟩ | ⟨h7a, h7b⟩
  · have q4 : (a.k == 7) = true := by rw [h7]; rfl
    refine gA ?_
    refine HCall.mk ((rboth_spec g cl a b h4 ha hb (x.ext x04)).mono ?_)
    rintro e h5 ⟨hbo, x5⟩
    have x05 := x04.trans x5
    have hx05 := x05.1
    cases hbp : bothP H a b with
    | none =>
      rw [hbp] at hbo
      obtain ⟨u, w, rfl⟩ := hbo
      have en : looseP H a b = none := by
        rw [looseP_go hk hnn]
        unfold bothP at hbp
        cases hp1 : plainP H a with
        | none => rfl
        | some u =>
          rw [hp1] at hbp
          cases hp2 : plainP H b with
          | none => rfl
          | some w => rw [hp2] at hbp; cases hbp
      rw [en]
      refine gA ?_
      refine new_var (e := 24) [.int .i64 0, .int .i64 0, .string ⟨#[]⟩] rfl ?_
      intro h6 b8 o8 x6 z6 hb8
      refine gA ?_
      refine new_var (e := 24) [.int .i64 0, .int .i64 0, .string ⟨#[]⟩] rfl ?_
      intro h7 b9 o9 x7 z7 hb9
      replace o8 := o8.ext x7
      have l8 := o8.lt
      have hx6 := x6.1
      refine gA ?_
      refine store_blk o8 (by simp) (by simp [isOne]) ?_
      intro h8 f8 z8 o88
      have o98 := o9.offk f8 (by omega)
      refine gA ?_
      refine store_blk o98 (by simp) (by simp [isOne]) ?_
      intro h9 f9 z9 o99
      refine gA ?_
      exact ⟨rfl, (((x05.trans x6).trans x7).offNew f8 (by omega)).offNew f9 (by omega)⟩
    | some p =>
      rw [hbp] at hbo
      obtain rfl : e = _ := hbo
      obtain ⟨u, w⟩ := p
      obtain ⟨hp1, hp2⟩ : plainP H a = some u ∧ plainP H b = some w := by
        unfold bothP at hbp
        cases hp1 : plainP H a with
        | none => rw [hp1] at hbp; cases hbp
        | some u =>
          rw [hp1] at hbp
          cases hp2 : plainP H b with
          | none => rw [hp2] at hbp; cases hbp
          | some w => rw [hp2] at hbp; cases hbp; exact ⟨rfl, rfl⟩
      have eL : looseP H a b = looseQ H u w := by rw [looseP_go hk hnn, hp1, hp2]
      rw [eL]
      have ou := plain_ok g cl ha hp1
      have ow := plain_ok g cl hb hp2
      have nu : u.k ≠ 7 := by rcases plainP_kind hp1 with ⟨_, c⟩ | ⟨c, rfl⟩ <;> omega
      have nw : w.k ≠ 7 := by rcases plainP_kind hp2 with ⟨_, c⟩ | ⟨c, rfl⟩ <;> omega
      refine gA ?_
      refine new_var (e := 24) [.int .i64 0, .int .i64 0, .string ⟨#[]⟩] rfl ?_
      intro h6 b8 o8 x6 z6 hb8
      refine gA ?_
      refine new_var (e := 24) [.int .i64 0, .int .i64 0, .string ⟨#[]⟩] rfl ?_
      intro h7 b9 o9 x7 z7 hb9
      replace o8 := o8.ext x7
      have l8 := o8.lt
      have hx6 := x6.1
      refine gA ?_
      refine store_blk o8 (by simp) (by simp [isOne]) ?_
      intro h8 f8 z8 o88
      replace o88 : BlkW h8 b8 24 (cellsV u) := by simpa using o88
      have o98 := o9.offk f8 (by omega)
      refine gA ?_
      refine store_blk o98 (by simp) (by simp [isOne]) ?_
      intro h9 f9 z9 o99
      replace o99 : BlkW h9 b9 24 (cellsV w) := by simpa using o99
      have o89 := o88.offk f9 (by omega)
      have x09 := (((x05.trans x6).trans x7).offNew f8 (by omega)).offNew f9 (by omega)
      refine gA ?_
      refine HCall.mk ((rloose0_spec g cl u w ou ow nu nw h9 (x.ext x09)).mono ?_)
      rintro e h10 ⟨rfl, x10⟩
      rw [loose_flat nu nw]
      cases looseQ H u w
      all_goals
        refine gA ?_
        exact ⟨rfl, x09.trans x10⟩
  · have q4 : (a.k == 7) = false := beq_eq_false_iff_ne.2 h7a
    have q5 : (b.k == 7) = true := by rw [h7]; rfl
    refine gA ?_
    refine HCall.mk ((rboth_spec g cl a b h4 ha hb (x.ext x04)).mono ?_)
    rintro e h5 ⟨hbo, x5⟩
    have x05 := x04.trans x5
    have hx05 := x05.1
    cases hbp : bothP H a b with
    | none =>
      rw [hbp] at hbo
      obtain ⟨u, w, rfl⟩ := hbo
      have en : looseP H a b = none := by
        rw [looseP_go hk hnn]
        unfold bothP at hbp
        cases hp1 : plainP H a with
        | none => rfl
        | some u =>
          rw [hp1] at hbp
          cases hp2 : plainP H b with
          | none => rfl
          | some w => rw [hp2] at hbp; cases hbp
      rw [en]
      refine gA ?_
      refine new_var (e := 24) [.int .i64 0, .int .i64 0, .string ⟨#[]⟩] rfl ?_
      intro h6 b8 o8 x6 z6 hb8
      refine gA ?_
      refine new_var (e := 24) [.int .i64 0, .int .i64 0, .string ⟨#[]⟩] rfl ?_
      intro h7 b9 o9 x7 z7 hb9
      replace o8 := o8.ext x7
      have l8 := o8.lt
      have hx6 := x6.1
      refine gA ?_
      refine store_blk o8 (by simp) (by simp [isOne]) ?_
      intro h8 f8 z8 o88
      have o98 := o9.offk f8 (by omega)
      refine gA ?_
      refine store_blk o98 (by simp) (by simp [isOne]) ?_
      intro h9 f9 z9 o99
      refine gA ?_
      exact ⟨rfl, (((x05.trans x6).trans x7).offNew f8 (by omega)).offNew f9 (by omega)⟩
    | some p =>
      rw [hbp] at hbo
      obtain rfl : e = _ := hbo
      obtain ⟨u, w⟩ := p
      obtain ⟨hp1, hp2⟩ : plainP H a = some u ∧ plainP H b = some w := by
        unfold bothP at hbp
        cases hp1 : plainP H a with
        | none => rw [hp1] at hbp; cases hbp
        | some u =>
          rw [hp1] at hbp
          cases hp2 : plainP H b with
          | none => rw [hp2] at hbp; cases hbp
          | some w => rw [hp2] at hbp; cases hbp; exact ⟨rfl, rfl⟩
      have eL : looseP H a b = looseQ H u w := by rw [looseP_go hk hnn, hp1, hp2]
      rw [eL]
      have ou := plain_ok g cl ha hp1
      have ow := plain_ok g cl hb hp2
      have nu : u.k ≠ 7 := by rcases plainP_kind hp1 with ⟨_, c⟩ | ⟨c, rfl⟩ <;> omega
      have nw : w.k ≠ 7 := by rcases plainP_kind hp2 with ⟨_, c⟩ | ⟨c, rfl⟩ <;> omega
      refine gA ?_
      refine new_var (e := 24) [.int .i64 0, .int .i64 0, .string ⟨#[]⟩] rfl ?_
      intro h6 b8 o8 x6 z6 hb8
      refine gA ?_
      refine new_var (e := 24) [.int .i64 0, .int .i64 0, .string ⟨#[]⟩] rfl ?_
      intro h7 b9 o9 x7 z7 hb9
      replace o8 := o8.ext x7
      have l8 := o8.lt
      have hx6 := x6.1
      refine gA ?_
      refine store_blk o8 (by simp) (by simp [isOne]) ?_
      intro h8 f8 z8 o88
      replace o88 : BlkW h8 b8 24 (cellsV u) := by simpa using o88
      have o98 := o9.offk f8 (by omega)
      refine gA ?_
      refine store_blk o98 (by simp) (by simp [isOne]) ?_
      intro h9 f9 z9 o99
      replace o99 : BlkW h9 b9 24 (cellsV w) := by simpa using o99
      have o89 := o88.offk f9 (by omega)
      have x09 := (((x05.trans x6).trans x7).offNew f8 (by omega)).offNew f9 (by omega)
      refine gA ?_
      refine HCall.mk ((rloose0_spec g cl u w ou ow nu nw h9 (x.ext x09)).mono ?_)
      rintro e h10 ⟨rfl, x10⟩
      rw [loose_flat nu nw]
      cases looseQ H u w
      all_goals
        refine gA ?_
        exact ⟨rfl, x09.trans x10⟩
  have q4 : (a.k == 7) = false := beq_eq_false_iff_ne.2 h7a
  have q5 : (b.k == 7) = false := beq_eq_false_iff_ne.2 h7b
  have el : looseP H a b = some (numEq H a b) := by rw [looseP_go hk hnn, plainP_no h7a, plainP_no h7b]; exact looseQ_num hk hnn
  rw [el]
  unfold numEq
  refine gA ?_
  refine HCall.mk ((rnumber_spec g cl a h4 ha (x.ext x04)).mono ?_)
  rintro e h5 ⟨rfl, x5⟩
  replace o5 := o5.ext x5
  have x05 := x04.trans x5
  cases hn1 : numP H a with
  | none =>
    refine gA ?_
    refine HCall.mk ((rnumber_spec g cl b h5 hb (x.ext x05)).mono ?_)
    rintro e2 h6 ⟨rfl, x6⟩
    cases hn2 : numP H b with
    | none =>
      refine gA ?_
      exact ⟨rfl, x05.trans x6⟩
    | some m =>
      refine gA ?_
      exact ⟨rfl, x05.trans x6⟩
  | some n =>
    refine gA ?_
    refine HCall.mk ((rnumber_spec g cl b h5 hb (x.ext x05)).mono ?_)
    rintro e2 h6 ⟨rfl, x6⟩
    cases hn2 : numP H b with
    | none =>
      refine gA ?_
      exact ⟨rfl, x05.trans x6⟩
    | some m =>
      refine gA ?_
      exact ⟨rfl, x05.trans x6⟩
end Go.Proofs.YtadkdfecmpjmdaaGreatDoor.Hc
