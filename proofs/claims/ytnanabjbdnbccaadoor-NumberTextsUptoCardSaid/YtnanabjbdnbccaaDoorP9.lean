/- Numbers read: Read. -/
import Derived.Test.YtnanabjbdnbccaaDoorP8
set_option linter.unusedVariables false
set_option linter.unusedSimpArgs false
namespace Go.Proofs.YtnanabjbdnbccaaDoor.Hc
open Go Go.H Go.Proofs
set_option maxRecDepth 100000
set_option maxHeartbeats 4000000

/-- Without the blanks behind. -/
def trimE (l : List Nat) : List Nat := (l.reverse.dropWhile blankN).reverse
theorem trimE_blank {m : List Nat} {b : Nat} (h : blankN b = true) : trimE (m ++ [b]) = trimE m := by unfold trimE; rw [List.reverse_append]; simp [h]
theorem trimE_solid {m : List Nat} {b : Nat} (h : blankN b = false) : trimE (m ++ [b]) = m ++ [b] := by unfold trimE; rw [List.reverse_append]; simp [h]
def badN (n : Nat) : Bool := decide (127 < n ∨ n = 95)
def hexR : List UInt8 → Option (List UInt8)
  | a :: b :: c :: r => if a.toNat = 48 ∧ (b.toNat = 120 ∨ b.toNat = 88) then some (c :: r) else none
  | _ => none
def readT (tx : List UInt8) : Option Int := match hexR tx with
  | some [] => none
  | some (c :: r) => if c.toNat = 45 ∨ c.toNat = 43 then none else pint 16 (c :: r)
  | none => pint 10 tx
def okS (o : Option Int) : Option Int := match o with
  | some v => if sfI v = true then some v else none
  | none => none
def readU (t : List Nat) : Option Int := if t = [] then some 0 else if t.any badN = true then none else okS (readT (t.map UInt8.ofNat))
def readN (l : List UInt8) : Option Int := if l.length % 2 = 0 then readU (trimE ((ulist l).dropWhile blankN)) else none
theorem take_drop_sl {h : Heap} {a : Option Addr} {c i j : Nat} {l : List Nat} (x : Sl h 1 a l.length c (l.map natV)) (hij : i ≤ j) (hj : j ≤ l.length) :
    Sl h 1 (a.map fun p => movedTo p c i 1) ((l.take j).drop i).length (c - i) (((l.take j).drop i).map natV) := by
  have := x.slice (i := i) (j := j) hij hj
  rw [Nat.mul_one, Nat.mul_one, ← List.map_take, ← List.map_drop] at this
  have e : ((l.take j).drop i).length = j - i := by rw [List.length_drop, List.length_take]; omega
  rw [e]; exact this
theorem extract_take (l : List UInt8) (k : Nat) : (⟨l.toArray⟩ : ByteArray).extract 0 k = ⟨(l.take k).toArray⟩ := by
  apply ByteArray.ext
  rw [ByteArray.data_extract]
  show (l.toArray).extract 0 k = (l.take k).toArray
  simp
theorem extract_drop (l : List UInt8) (k : Nat) : (⟨l.toArray⟩ : ByteArray).extract k (⟨l.toArray⟩ : ByteArray).size = ⟨(l.drop k).toArray⟩ := by
  apply ByteArray.ext
  rw [ByteArray.data_extract]
  show (l.toArray).extract k l.toArray.size = (l.drop k).toArray
  simp
  rw [List.take_of_length_le (by rw [List.length_drop]; omega)]

theorem strEq2 (a b c : UInt8) (r : List UInt8) (x y : UInt8) : strEq ((⟨(a :: b :: c :: r).toArray⟩ : ByteArray).extract 0 2) ⟨#[x, y]⟩ = decide (a.toNat = x.toNat ∧ b.toNat = y.toNat) := by
  rw [extract_take, Bool.eq_iff_iff, strEq_iff, decide_eq_true_eq]
  constructor
  · intro h
    have h1 : [a, b].toArray = #[x, y] := congrArg ByteArray.data h
    have h2 : [a, b] = [x, y] := congrArg Array.toList h1
    simp only [List.cons.injEq, and_true] at h2
    rw [h2.1, h2.2]; exact ⟨rfl, rfl⟩
  · rintro ⟨h1, h2⟩
    rw [UInt8.toNat.inj h1, UInt8.toNat.inj h2]
    rfl
theorem told_okS (v : Int) : nTold v true = okS (some v) := by unfold nTold okS; simp

theorem read_spec (l : List UInt8) (hl : l.length ≤ 2097152) (h : Heap) (g : Glob h) : HCalls Tryd.prog 8 #[.string ⟨l.toArray⟩] h fun e h' => e = .returned (numR (readN l)) ∧ Ext h h' := by
  have hs : (⟨l.toArray⟩ : ByteArray).size = l.length := rfl
  have hul := ulist_len l
  have g0 := g
  refine c8 (by simp) ?_
  ((conv=>whnf);repeat((first|(with_reducible first|refine Z1 ?_|refine Z2 ?_|refine Z3 ?_|refine Z4 ?_|refine Z5 ?_|refine Z9 (by assumption) rfl ?_|refine ZA (by assumption) rfl ?_|refine ZB (by assumption) rfl ?_|refine Z6 ?_|refine Z7 ?_|refine Z8 ?_)|((with_reducible refine ZM ?_ ?_);(focus rfl)));(conv=>whnf)))
  refine HCall.mk ((ucheck_spec l hl h).mono ?_)
  rintro e h ⟨rfl, rfl⟩
  by_cases hodd : ¬ l.length % 2 = 0
  · rw [decide_eq_false hodd]
    have er : readN l = none := by unfold readN; rw [if_neg hodd]
    rw [er]
    ((conv=>whnf);repeat((first|(with_reducible first|refine Z1 ?_|refine Z2 ?_|refine Z3 ?_|refine Z4 ?_|refine Z5 ?_|refine Z9 (by assumption) rfl ?_|refine ZA (by assumption) rfl ?_|refine ZB (by assumption) rfl ?_|refine Z6 ?_|refine Z7 ?_|refine Z8 ?_)|((with_reducible refine ZM ?_ ?_);(focus rfl)));(conv=>whnf)))
    exact ⟨rfl, Ext.refl _⟩
  have hodd := Decidable.not_not.1 hodd
  rw [decide_eq_true hodd]
  have er : readN l = readU (trimE ((ulist l).dropWhile blankN)) := by unfold readN; rw [if_pos hodd]
  rw [er]
  clear er
  ((conv=>whnf);repeat((first|(with_reducible first|refine Z1 ?_|refine Z2 ?_|refine Z3 ?_|refine Z4 ?_|refine Z5 ?_|refine Z9 (by assumption) rfl ?_|refine ZA (by assumption) rfl ?_|refine ZB (by assumption) rfl ?_|refine Z6 ?_|refine Z7 ?_|refine Z8 ?_)|((with_reducible refine ZM ?_ ?_);(focus rfl)));(conv=>whnf)))
  refine HCall.mk ((ulen_spec l hl _).mono ?_)
  rintro e h ⟨rfl, rfl⟩
  rw [← hul]
  ((conv=>whnf);repeat((first|(with_reducible first|refine Z1 ?_|refine Z2 ?_|refine Z3 ?_|refine Z4 ?_|refine Z5 ?_|refine Z9 (by assumption) rfl ?_|refine ZA (by assumption) rfl ?_|refine ZB (by assumption) rfl ?_|refine Z6 ?_|refine Z7 ?_|refine Z8 ?_)|((with_reducible refine ZM ?_ ?_);(focus rfl)));(conv=>whnf)))
  refine loop_rule [4, 20] (fun vs h' => ∃ (i : Nat) (a : Option Addr) (c : Nat), vs = [.slice a i c, .int .i64 i] ∧ i ≤ (ulist l).length ∧ Own h' h.size 3 1 a i c (((ulist l).take i).map natV) ∧ Ext h h')
    (fun vs _ => match vs with | [_, .int _ i] => (ulist l).length - i.toNat | _ => 0) rfl ?_ ?_
  · exact ⟨0, none, 0, rfl, by omega, Own.nil _ _ _ _, Ext.refl _⟩
  intro u h2 v4 v20
  rintro ⟨i, a, c, e, hi, w2, x2⟩
  cases e
  ((conv=>whnf);repeat((first|(with_reducible first|refine Z1 ?_|refine Z2 ?_|refine Z3 ?_|refine Z4 ?_|refine Z5 ?_|refine Z9 (by assumption) rfl ?_|refine ZA (by assumption) rfl ?_|refine ZB (by assumption) rfl ?_|refine Z6 ?_|refine Z7 ?_|refine Z8 ?_)|((with_reducible refine ZM ?_ ?_);(focus rfl)));(conv=>whnf)))
  refine HIf.mk (fun hlt => ?_) (fun hlt => ?_)
  · have hi1 : i < (ulist l).length := by have := of_decide_eq_true hlt; omega
    have hmu : (ulist l).length - ((i : Int) + 1).toNat < (ulist l).length - ((i : Int)).toNat := by omega
    ((conv=>whnf);repeat((first|(with_reducible first|refine Z1 ?_|refine Z2 ?_|refine Z3 ?_|refine Z4 ?_|refine Z5 ?_|refine Z9 (by assumption) rfl ?_|refine ZA (by assumption) rfl ?_|refine ZB (by assumption) rfl ?_|refine Z6 ?_|refine Z7 ?_|refine Z8 ?_)|((with_reducible refine ZM ?_ ?_);(focus rfl)));(conv=>whnf)))
    refine HCall.mk ((at_spec l hl i hi1 _).mono ?_)
    rintro e _ ⟨rfl, rfl⟩
    ((conv=>whnf);repeat((first|(with_reducible first|refine Z1 ?_|refine Z2 ?_|refine Z3 ?_|refine Z4 ?_|refine Z5 ?_|refine Z9 (by assumption) rfl ?_|refine ZA (by assumption) rfl ?_|refine ZB (by assumption) rfl ?_|refine Z6 ?_|refine Z7 ?_|refine Z8 ?_)|((with_reducible refine ZM ?_ ?_);(focus rfl)));(conv=>whnf)))
    refine new_own (e := 3) 1 1 [natV (ulist l)[i]] rfl rfl ?_
    intro h3 b3 w3 x3 z3 hb3
    ((conv=>whnf);repeat((first|(with_reducible first|refine Z1 ?_|refine Z2 ?_|refine Z3 ?_|refine Z4 ?_|refine Z5 ?_|refine Z9 (by assumption) rfl ?_|refine ZA (by assumption) rfl ?_|refine ZB (by assumption) rfl ?_|refine Z6 ?_|refine Z7 ?_|refine Z8 ?_)|((with_reducible refine ZM ?_ ?_);(focus rfl)));(conv=>whnf)))
    refine w3.sl.cells ?_
    refine Own.grow (w2.ext x3) (by have := x2.1; have := x3.1; omega) rfl rfl (by intro v hv; simp only [List.mem_singleton] at hv; subst hv; rfl) (by omega) ?_
    intro h4 a4 c4 w4 g4
    have htk : (ulist l).take (i + 1) = (ulist l).take i ++ [(ulist l)[i]] := by rw [List.take_add_one, List.getElem?_eq_getElem hi1]; rfl
    have ew : ((ulist l).take i).map natV ++ [natV (ulist l)[i]] = ((ulist l).take (i + 1)).map natV := by rw [htk, List.map_append]; rfl
    rw [ew] at w4
    ((conv=>whnf);repeat((first|(with_reducible first|refine Z1 ?_|refine Z2 ?_|refine Z3 ?_|refine Z4 ?_|refine Z5 ?_|refine Z9 (by assumption) rfl ?_|refine ZA (by assumption) rfl ?_|refine ZB (by assumption) rfl ?_|refine Z6 ?_|refine Z7 ?_|refine Z8 ?_)|((with_reducible refine ZM ?_ ?_);(focus rfl)));(conv=>whnf)))
    exact ⟨⟨i + 1, a4, c4, rfl, by omega, w4, (x2.trans x3).keep (g4.kept (by have := x2.1; have := x3.1; omega) fun p ep => (w2.lt p ep).1)⟩, hmu⟩
  have hge := of_decide_eq_false hlt
  obtain rfl : i = (ulist l).length := by omega
  rw [List.take_length] at w2
  have s2 := w2.sl
  have hlt16 := ulist_lt l
  have hll : (ulist l).length ≤ 1048576 := by omega
  generalize ulist l = ul at *
  clear w2
  ((conv=>whnf);repeat((first|(with_reducible first|refine Z1 ?_|refine Z2 ?_|refine Z3 ?_|refine Z4 ?_|refine Z5 ?_|refine Z9 (by assumption) rfl ?_|refine ZA (by assumption) rfl ?_|refine ZB (by assumption) rfl ?_|refine Z6 ?_|refine Z7 ?_|refine Z8 ?_)|((with_reducible refine ZM ?_ ?_);(focus rfl)));(conv=>whnf)))
  refine HCall.mk ((ixFunc_spec s2 (by omega)).mono ?_)
  rintro e h2 ⟨rfl, hix⟩
  rcases hix with ⟨hd, rfl⟩ | ⟨fr, hfr, rfl, hd, _, hsol⟩
  · have er : readU (trimE (ul.dropWhile blankN)) = some 0 := by rw [hd]; rfl
    rw [er]
    ((conv=>whnf);repeat((first|(with_reducible first|refine Z1 ?_|refine Z2 ?_|refine Z3 ?_|refine Z4 ?_|refine Z5 ?_|refine Z9 (by assumption) rfl ?_|refine ZA (by assumption) rfl ?_|refine ZB (by assumption) rfl ?_|refine Z6 ?_|refine Z7 ?_|refine Z8 ?_)|((with_reducible refine ZM ?_ ?_);(focus rfl)));(conv=>whnf)))
    exact ⟨rfl, x2⟩
  rw [hd]
  have s3 := take_drop_sl s2 (i := fr) (j := ul.length) (by omega) (Nat.le_refl _)
  rw [List.take_length] at s3
  have hc2 := s2.2.1
  have q0 : decide ((fr : Int) < 0) = false := decide_eq_false (by omega)
  have hdn : (ul.drop fr).length = ul.length - fr := List.length_drop
  have hd0 : ∃ h : 0 < (ul.drop fr).length, blankN (ul.drop fr)[0] = false := ⟨by omega, by simpa using hsol⟩
  have hd16 : ∀ n ∈ ul.drop fr, n < 65536 := fun n hn => hlt16 n (List.mem_of_mem_drop hn)
  rw [hdn] at s3
  ((conv=>whnf);repeat((first|(with_reducible first|refine Z1 ?_|refine Z2 ?_|refine Z3 ?_|refine Z4 ?_|refine Z5 ?_|refine Z9 (by assumption) rfl ?_|refine ZA (by assumption) rfl ?_|refine ZB (by assumption) rfl ?_|refine Z6 ?_|refine Z7 ?_|refine Z8 ?_)|((with_reducible refine ZM ?_ ?_);(focus rfl)));(conv=>whnf)))
  refine HBound.mk fr rfl (by omega) ?_
  ((conv=>whnf);repeat((first|(with_reducible first|refine Z2 ?_|refine Z3 ?_|refine Z4 ?_|refine Z5 ?_|refine Z9 (by assumption) rfl ?_|refine ZA (by assumption) rfl ?_|refine ZB (by assumption) rfl ?_|refine Z6 ?_|refine Z7 ?_|refine Z8 ?_)|((with_reducible refine ZM ?_ ?_);(focus rfl)));(conv=>whnf)))
  rw [← hdn] at s3 ⊢
  generalize ul.drop fr = d at *
  have hdl : d.length ≤ 1048576 := by omega
  generalize a.map (fun p => movedTo p c fr 1) = a3 at s3 ⊢
  generalize c - fr = c3 at s3 ⊢
  clear hfr hc2 q0 hsol hd hdn s2 hlt16 hll hge hlt hul g
  refine cut_rule [4] (fun vs h' => ∃ (m : List Nat) (a4 : Option Addr) (c4 : Nat), vs = [.slice a4 m.length c4] ∧ m ≠ [] ∧ m.length ≤ 1048576 ∧ (∀ n ∈ m, n < 65536) ∧ Sl h' 1 a4 m.length c4 (m.map natV) ∧ trimE d = m ∧ h' = h2) rfl ?_ ?_
  · ((conv=>whnf);repeat((first|(with_reducible first|refine Z1 ?_|refine Z2 ?_|refine Z3 ?_|refine Z4 ?_|refine Z5 ?_|refine Z9 (by assumption) rfl ?_|refine ZA (by assumption) rfl ?_|refine ZB (by assumption) rfl ?_|refine Z6 ?_|refine Z7 ?_|refine Z8 ?_)|((with_reducible refine ZM ?_ ?_);(focus rfl)));(conv=>whnf)))
    refine loop_rule [4] (fun vs h' => ∃ (m : List Nat) (a4 : Option Addr) (c4 : Nat), vs = [.slice a4 m.length c4] ∧ (∃ h : 0 < m.length, blankN m[0] = false) ∧ m.length ≤ 1048576 ∧ (∀ n ∈ m, n < 65536) ∧ Sl h' 1 a4 m.length c4 (m.map natV) ∧ trimE d = trimE m ∧ h' = h2)
      (fun vs _ => match vs with | [.slice _ n _] => n | _ => 0) rfl ?_ ?_
    · exact ⟨d, a3, c3, rfl, hd0, hdl, hd16, s3, rfl, rfl⟩
    intro u h2 v4
    rintro ⟨m, a4, c4, e, ⟨hm0, hms⟩, hml, hm16, s4, htr, rfl⟩
    cases e
    have hc4 := s4.2.1
    have hi1 : m.length - 1 < m.length := by omega
    have hsplit : m = m.take (m.length - 1) ++ [m[m.length - 1]] := by
      have := List.take_append_drop (m.length - 1) m
      have hd : m.drop (m.length - 1) = [m[m.length - 1]] := by rw [List.drop_eq_getElem_cons hi1, List.drop_of_length_le (by omega)]
      rw [hd] at this
      exact this.symm
    ((conv=>whnf);repeat((first|(with_reducible first|refine Z1 ?_|refine Z2 ?_|refine Z3 ?_|refine Z4 ?_|refine Z5 ?_|refine Z9 (by assumption) rfl ?_|refine ZA (by assumption) rfl ?_|refine ZB (by assumption) rfl ?_|refine Z6 ?_|refine Z7 ?_|refine Z8 ?_)|((with_reducible refine ZM ?_ ?_);(focus rfl)));(conv=>whnf)))
    refine HIdx.mk (m.length - 1) (by omega) hi1 ?_
    refine sl_some s4 hi1 fun p ep => ?_
    ((conv=>whnf);repeat((first|(with_reducible first|refine Z1 ?_|refine Z2 ?_|refine Z3 ?_|refine Z4 ?_|refine Z5 ?_|refine Z9 (by assumption) rfl ?_|refine ZA (by assumption) rfl ?_|refine ZB (by assumption) rfl ?_|refine Z6 ?_|refine Z7 ?_|refine Z8 ?_)|((with_reducible refine ZM ?_ ?_);(focus rfl)));(conv=>whnf)))
    refine s4.load ep (by simpa using hi1) ?_
    rw [List.getElem_map]
    unfold natV
    ((conv=>whnf);repeat((first|(with_reducible first|refine Z1 ?_|refine Z2 ?_|refine Z3 ?_|refine Z4 ?_|refine Z5 ?_|refine Z9 (by assumption) rfl ?_|refine ZA (by assumption) rfl ?_|refine ZB (by assumption) rfl ?_|refine Z6 ?_|refine Z7 ?_|refine Z8 ?_)|((with_reducible refine ZM ?_ ?_);(focus rfl)));(conv=>whnf)))
    refine HCall.mk ((blank_spec m[m.length - 1] _).mono ?_)
    rintro e h2 ⟨rfl, rfl⟩
    cases hb : blankN m[m.length - 1]
    · ((conv=>whnf);repeat((first|(with_reducible first|refine Z1 ?_|refine Z2 ?_|refine Z3 ?_|refine Z4 ?_|refine Z5 ?_|refine Z9 (by assumption) rfl ?_|refine ZA (by assumption) rfl ?_|refine ZB (by assumption) rfl ?_|refine Z6 ?_|refine Z7 ?_|refine Z8 ?_)|((with_reducible refine ZM ?_ ?_);(focus rfl)));(conv=>whnf)))
      refine ⟨m, a4, c4, rfl, by intro e; rw [e] at hm0; simp at hm0, hml, hm16, s4, ?_, rfl⟩
      rw [htr]
      conv => lhs; rw [hsplit]
      rw [trimE_solid hb]
      exact hsplit.symm
    · have hne : m.length - 1 ≠ 0 := by
        intro e
        have : m[m.length - 1] = m[0] := by congr 1
        rw [this, hms] at hb; cases hb
      ((conv=>whnf);repeat((first|(with_reducible first|refine Z1 ?_|refine Z2 ?_|refine Z3 ?_|refine Z4 ?_|refine Z5 ?_|refine Z9 (by assumption) rfl ?_|refine ZA (by assumption) rfl ?_|refine ZB (by assumption) rfl ?_|refine Z6 ?_|refine Z7 ?_|refine Z8 ?_)|((with_reducible refine ZM ?_ ?_);(focus rfl)));(conv=>whnf)))
      refine HBound.mk (m.length - 1) (by omega) (by omega) ?_
      ((conv=>whnf);repeat((first|(with_reducible first|refine Z1 ?_|refine Z2 ?_|refine Z3 ?_|refine Z4 ?_|refine Z5 ?_|refine Z9 (by assumption) rfl ?_|refine ZA (by assumption) rfl ?_|refine ZB (by assumption) rfl ?_|refine Z6 ?_|refine Z7 ?_|refine Z8 ?_)|((with_reducible refine ZM ?_ ?_);(focus rfl)));(conv=>whnf)))
      have s5 := take_drop_sl s4 (i := 0) (j := m.length - 1) (by omega) (by omega)
      rw [List.drop_zero] at s5
      have hlt' : (m.take (m.length - 1)).length = m.length - 1 := by rw [List.length_take]; omega
      refine ⟨⟨m.take (m.length - 1), _, _, by rw [hlt']; rfl, ⟨by omega, ?_⟩, by omega, fun n hn => hm16 n (List.mem_of_mem_take hn), s5, ?_, rfl⟩, ?_⟩
      · rw [List.getElem_take]; exact hms
      · rw [htr]
        conv => lhs; rw [hsplit]
        rw [trimE_blank hb]
      · show m.length - 1 - 0 < m.length
        omega
  intro u h2 v4
  rintro ⟨t, a4, c4, e, hne, htl, ht16, s4, htr, rfl⟩
  cases e
  rw [htr]
  have hpos : 0 < t.length := List.length_pos_iff.2 hne
  clear htr hd0 hd16 s3 hdl
  ((conv=>whnf);repeat((first|(with_reducible first|refine Z1 ?_|refine Z2 ?_|refine Z3 ?_|refine Z4 ?_|refine Z5 ?_|refine Z9 (by assumption) rfl ?_|refine ZA (by assumption) rfl ?_|refine ZB (by assumption) rfl ?_|refine Z6 ?_|refine Z7 ?_|refine Z8 ?_)|((with_reducible refine ZM ?_ ?_);(focus rfl)));(conv=>whnf)))
  refine HBound.mk t.length rfl (by omega) ?_
  refine HBound.mk t.length rfl (by omega) ?_
  ((conv=>whnf);repeat((first|(with_reducible first|refine Z1 ?_|refine Z2 ?_|refine Z3 ?_|refine Z4 ?_|refine Z5 ?_|refine Z9 (by assumption) rfl ?_|refine ZA (by assumption) rfl ?_|refine ZB (by assumption) rfl ?_|refine Z6 ?_|refine Z7 ?_|refine Z8 ?_)|((with_reducible refine ZM ?_ ?_);(focus rfl)));(conv=>whnf)))
  refine HMust.mk ⟨Nat.le_refl _, by omega⟩ ?_
  refine new_own (e := 5) 1 t.length (List.replicate t.length (.int .u8 0)) (by rw [zeroCells_one]) (by rw [List.length_replicate, Nat.mul_one]) ?_
  intro h5 b5 w5 x5 z5 hb5
  ((conv=>whnf);repeat((first|(with_reducible first|refine Z2 ?_|refine Z3 ?_|refine Z4 ?_|refine Z5 ?_|refine Z9 (by assumption) rfl ?_|refine ZA (by assumption) rfl ?_|refine ZB (by assumption) rfl ?_|refine Z6 ?_|refine Z7 ?_|refine Z8 ?_)|((with_reducible refine ZM ?_ ?_);(focus rfl)));(conv=>whnf)))
  refine cut_rule [8] (fun vs h' => ∃ (tx : List UInt8), vs = [.slice (some ⟨b5, 0, none⟩) tx.length tx.length] ∧ tx = t.map UInt8.ofNat ∧ t.any badN = false ∧ Sl h' 1 (some ⟨b5, 0, none⟩) tx.length tx.length (tx.map byteV) ∧ Ext h2 h') rfl ?_ ?_
  · ((conv=>whnf);repeat((first|(with_reducible first|refine Z1 ?_|refine Z2 ?_|refine Z3 ?_|refine Z4 ?_|refine Z5 ?_|refine Z9 (by assumption) rfl ?_|refine ZA (by assumption) rfl ?_|refine ZB (by assumption) rfl ?_|refine Z6 ?_|refine Z7 ?_|refine Z8 ?_)|((with_reducible refine ZM ?_ ?_);(focus rfl)));(conv=>whnf)))
    refine loop_rule [55] (fun vs h' => ∃ (i : Nat), vs = [.int .i64 i] ∧ i ≤ t.length ∧ (t.take i).any badN = false ∧ Own h' h2.size 5 1 (some ⟨b5, 0, none⟩) t.length t.length ((((t.take i).map UInt8.ofNat) ++ List.replicate (t.length - i) 0).map byteV) ∧ Ext h2 h')
      (fun vs _ => match vs with | [.int _ i] => t.length - i.toNat | _ => 0) rfl ?_ ?_
    · exact ⟨0, rfl, by omega, by simp, by simpa [byteV] using w5, x5⟩
    intro u h6 v55
    rintro ⟨i, e, hi, hbad, w6, x6⟩
    cases e
    ((conv=>whnf);repeat((first|(with_reducible first|refine Z1 ?_|refine Z2 ?_|refine Z3 ?_|refine Z4 ?_|refine Z5 ?_|refine Z9 (by assumption) rfl ?_|refine ZA (by assumption) rfl ?_|refine ZB (by assumption) rfl ?_|refine Z6 ?_|refine Z7 ?_|refine Z8 ?_)|((with_reducible refine ZM ?_ ?_);(focus rfl)));(conv=>whnf)))
    refine HIf.mk (fun hlt => ?_) (fun hlt => ?_)
    · have hi1 : i < t.length := by have := of_decide_eq_true hlt; omega
      have hmu : t.length - ((i : Int) + 1).toNat < t.length - ((i : Int)).toNat := by omega
      have hti := ht16 _ (List.getElem_mem hi1)
      have htk : t.take (i + 1) = t.take i ++ [t[i]] := by rw [List.take_add_one, List.getElem?_eq_getElem hi1]; rfl
      ((conv=>whnf);repeat((first|(with_reducible first|refine Z1 ?_|refine Z2 ?_|refine Z3 ?_|refine Z4 ?_|refine Z5 ?_|refine Z9 (by assumption) rfl ?_|refine ZA (by assumption) rfl ?_|refine ZB (by assumption) rfl ?_|refine Z6 ?_|refine Z7 ?_|refine Z8 ?_)|((with_reducible refine ZM ?_ ?_);(focus rfl)));(conv=>whnf)))
      refine HIdx.mk i rfl hi1 ?_
      refine sl_some s4 hi1 fun p ep => ?_
      ((conv=>whnf);repeat((first|(with_reducible first|refine Z1 ?_|refine Z2 ?_|refine Z3 ?_|refine Z4 ?_|refine Z5 ?_|refine Z9 (by assumption) rfl ?_|refine ZA (by assumption) rfl ?_|refine ZB (by assumption) rfl ?_|refine Z6 ?_|refine Z7 ?_|refine Z8 ?_)|((with_reducible refine ZM ?_ ?_);(focus rfl)));(conv=>whnf)))
      refine (s4.ext x6).load ep (by simpa using hi1) ?_
      rw [List.getElem_map]
      unfold natV
      by_cases hb1 : badN t[i] = true
      · have er : readU t = none := by
          unfold readU
          rw [if_neg hne, if_pos]
          rw [List.any_eq_true]
          exact ⟨t[i], List.getElem_mem hi1, hb1⟩
        rw [er]
        unfold badN at hb1
        rw [decide_eq_true_eq] at hb1
        by_cases h127 : 127 < t[i]
        · have q1 : decide ((t[i] : Int) > 127) = true := decide_eq_true (by omega)
          ((conv=>whnf);repeat((first|(with_reducible first|refine Z1 ?_|refine Z2 ?_|refine Z3 ?_|refine Z4 ?_|refine Z5 ?_|refine Z9 (by assumption) rfl ?_|refine ZA (by assumption) rfl ?_|refine ZB (by assumption) rfl ?_|refine Z6 ?_|refine Z7 ?_|refine Z8 ?_)|((with_reducible refine ZM ?_ ?_);(focus rfl)));(conv=>whnf)))
          exact ⟨rfl, x2.trans x6⟩
        · have q1 : decide ((t[i] : Int) > 127) = false := decide_eq_false (by omega)
          have q2 : ((t[i] : Int) == 95) = true := by rw [beq_iff_eq]; omega
          ((conv=>whnf);repeat((first|(with_reducible first|refine Z1 ?_|refine Z2 ?_|refine Z3 ?_|refine Z4 ?_|refine Z5 ?_|refine Z9 (by assumption) rfl ?_|refine ZA (by assumption) rfl ?_|refine ZB (by assumption) rfl ?_|refine Z6 ?_|refine Z7 ?_|refine Z8 ?_)|((with_reducible refine ZM ?_ ?_);(focus rfl)));(conv=>whnf)))
          exact ⟨rfl, x2.trans x6⟩
      · have hb0 : badN t[i] = false := by simpa using hb1
        unfold badN at hb1
        rw [decide_eq_true_eq] at hb1
        have q1 : decide ((t[i] : Int) > 127) = false := decide_eq_false (by omega)
        have q2 : ((t[i] : Int) == 95) = false := by rw [beq_eq_false_iff_ne]; omega
        ((conv=>whnf);repeat((first|(with_reducible first|refine Z1 ?_|refine Z2 ?_|refine Z3 ?_|refine Z4 ?_|refine Z5 ?_|refine Z9 (by assumption) rfl ?_|refine ZA (by assumption) rfl ?_|refine ZB (by assumption) rfl ?_|refine Z6 ?_|refine Z7 ?_|refine Z8 ?_)|((with_reducible refine ZM ?_ ?_);(focus rfl)));(conv=>whnf)))
        refine HIdx.mk i rfl hi1 ?_
        refine sl_some w6.sl hi1 fun p' ep' => ?_
        ((conv=>whnf);repeat((first|(with_reducible first|refine Z1 ?_|refine Z2 ?_|refine Z3 ?_|refine Z4 ?_|refine Z5 ?_|refine Z9 (by assumption) rfl ?_|refine ZA (by assumption) rfl ?_|refine ZB (by assumption) rfl ?_|refine Z6 ?_|refine Z7 ?_|refine Z8 ?_)|((with_reducible refine ZM ?_ ?_);(focus rfl)));(conv=>whnf)))
        refine Own.store w6 ep' hi1 rfl ?_
        intro h7 f7 hge z7 w7
        have e7 : ((((t.take i).map UInt8.ofNat) ++ List.replicate (t.length - i) 0).map byteV).set i (.int .u8 (t[i] : Nat)) = ((((t.take (i + 1)).map UInt8.ofNat) ++ List.replicate (t.length - (i + 1)) 0).map byteV) := by
          have h1 : Value.int .u8 (t[i] : Nat) = byteV (UInt8.ofNat t[i]) := by rw [byteV_ofNat, Nat.mod_eq_of_lt (by omega)]
          have h2 : t.length - i = t.length - (i + 1) + 1 := by omega
          have h3 : ((t.take i).map UInt8.ofNat).length = i := by rw [List.length_map, List.length_take]; omega
          rw [h1, ← List.map_set, htk, h2, List.replicate_succ, List.set_append_right _ _ (by omega), h3, Nat.sub_self, List.set_cons_zero, List.map_append (f := UInt8.ofNat), List.append_assoc]
          rfl
        replace w7 : Own h7 h2.size 5 1 (some ⟨b5, 0, none⟩) t.length t.length (((((t.take i).map UInt8.ofNat) ++ List.replicate (t.length - i) 0).map byteV).set i (.int .u8 (t[i] : Nat))) := w7
        rw [e7] at w7
        ((conv=>whnf);repeat((first|(with_reducible first|refine Z1 ?_|refine Z2 ?_|refine Z3 ?_|refine Z4 ?_|refine Z5 ?_|refine Z9 (by assumption) rfl ?_|refine ZA (by assumption) rfl ?_|refine ZB (by assumption) rfl ?_|refine Z6 ?_|refine Z7 ?_|refine Z8 ?_)|((with_reducible refine ZM ?_ ?_);(focus rfl)));(conv=>whnf)))
        refine ⟨⟨i + 1, rfl, by omega, ?_, w7, x6.offNew f7 hge⟩, hmu⟩
        rw [htk, List.any_append, hbad]; simp [hb0]
    · have hge := of_decide_eq_false hlt
      obtain rfl : i = t.length := by omega
      rw [List.take_length] at hbad w6
      rw [Nat.sub_self, List.replicate_zero, List.append_nil] at w6
      have el : (t.map UInt8.ofNat).length = t.length := List.length_map ..
      ((conv=>whnf);repeat((first|(with_reducible first|refine Z1 ?_|refine Z2 ?_|refine Z3 ?_|refine Z4 ?_|refine Z5 ?_|refine Z9 (by assumption) rfl ?_|refine ZA (by assumption) rfl ?_|refine ZB (by assumption) rfl ?_|refine Z6 ?_|refine Z7 ?_|refine Z8 ?_)|((with_reducible refine ZM ?_ ?_);(focus rfl)));(conv=>whnf)))
      exact ⟨t.map UInt8.ofNat, by rw [el]; rfl, rfl, hbad, by rw [el]; exact w6.sl, x6⟩
  intro u h6 v8
  rintro ⟨tx, e, htx, hbad, s6, x6⟩
  cases e
  have er : readU t = okS (readT tx) := by unfold readU; rw [if_neg hne, if_neg (by rw [hbad]; simp), htx]
  have htxl : tx.length ≤ 1048576 := by rw [htx, List.length_map]; omega
  have htx0 : 0 < tx.length := by rw [htx, List.length_map]; omega
  rw [er]
  have x06 := x2.trans x6
  have g6 : Glob h6 := g0.ext x06
  rw [show tx.length = t.length by rw [htx, List.length_map]] at s6
  clear s4 w5 hbad er
  ((conv=>whnf);repeat((first|(with_reducible first|refine Z1 ?_|refine Z2 ?_|refine Z3 ?_|refine Z4 ?_|refine Z5 ?_|refine Z9 (by assumption) rfl ?_|refine ZA (by assumption) rfl ?_|refine ZB (by assumption) rfl ?_|refine Z6 ?_|refine Z7 ?_|refine Z8 ?_)|((with_reducible refine ZM ?_ ?_);(focus rfl)));(conv=>whnf)))
  refine s6.bytes ?_
  clear htx
  have hts : (⟨tx.toArray⟩ : ByteArray).size = tx.length := rfl
  by_cases hlong : tx.length > 2
  · have q1 : decide (((⟨tx.toArray⟩ : ByteArray).size : Int) > 2) = true := decide_eq_true (by omega)
    obtain ⟨a, b, c, r, rfl⟩ : ∃ a b c r, tx = a :: b :: c :: r := by
      match tx, hlong with
      | a :: b :: c :: r, _ => exact ⟨a, b, c, r, rfl⟩
    have sA := strEq2 a b c r 48 120
    have sB := strEq2 a b c r 48 88
    rw [show ((48 : UInt8).toNat) = 48 from rfl, show ((120 : UInt8).toNat) = 120 from rfl] at sA
    rw [show ((48 : UInt8).toNat) = 48 from rfl, show ((88 : UInt8).toNat) = 88 from rfl] at sB
    have hsz : 2 ≤ (⟨(a :: b :: c :: r).toArray⟩ : ByteArray).size := by rw [hts]; omega
    have ed : (⟨(a :: b :: c :: r).toArray⟩ : ByteArray).extract 2 (⟨(a :: b :: c :: r).toArray⟩ : ByteArray).size = ⟨(c :: r).toArray⟩ := extract_drop _ 2
    have ec : (⟨(c :: r).toArray⟩ : ByteArray).data[0]! = c := by simp
    ((conv=>whnf);repeat((first|(with_reducible first|refine Z1 ?_|refine Z2 ?_|refine Z3 ?_|refine Z4 ?_|refine Z5 ?_|refine Z9 (by assumption) rfl ?_|refine ZA (by assumption) rfl ?_|refine ZB (by assumption) rfl ?_|refine Z6 ?_|refine Z7 ?_|refine Z8 ?_)|((with_reducible refine ZM ?_ ?_);(focus rfl)));(conv=>whnf)))
    refine HBound.mk 2 rfl hsz ?_
    rcases (by omega : (a.toNat = 48 ∧ b.toNat = 120) ∨ (a.toNat = 48 ∧ b.toNat = 88) ∨ ¬(a.toNat = 48 ∧ (b.toNat = 120 ∨ b.toNat = 88))) with ⟨ha, hb⟩ | ⟨ha, hb⟩ | hno
    · have qa : strEq ((⟨(a :: b :: c :: r).toArray⟩ : ByteArray).extract 0 2) ⟨#[48, 120]⟩ = true := by rw [sA]; exact decide_eq_true ⟨ha, hb⟩
      have er : readT (a :: b :: c :: r) = if c.toNat = 45 ∨ c.toNat = 43 then none else pint 16 (c :: r) := by
        have hh : hexR (a :: b :: c :: r) = some (c :: r) := if_pos ⟨ha, by omega⟩
        unfold readT; rw [hh]
      rw [er]
      ((conv=>whnf);repeat((first|(with_reducible first|refine Z1 ?_|refine Z2 ?_|refine Z3 ?_|refine Z4 ?_|refine Z5 ?_|refine Z9 (by assumption) rfl ?_|refine ZA (by assumption) rfl ?_|refine ZB (by assumption) rfl ?_|refine Z6 ?_|refine Z7 ?_|refine Z8 ?_)|((with_reducible refine ZM ?_ ?_);(focus rfl)));(conv=>whnf)))
      refine HBound.mk 2 rfl hsz ?_
      rw [ed]
      by_cases h45 : c.toNat = 45
      · have q45 : (((⟨(c :: r).toArray⟩ : ByteArray).data[0]!.toNat : Int) == 45) = true := by rw [ec, beq_iff_eq]; omega
        rw [if_pos (Or.inl h45)]
        ((conv=>whnf);repeat((first|(with_reducible first|refine Z1 ?_|refine Z2 ?_|refine Z3 ?_|refine Z4 ?_|refine Z5 ?_|refine Z9 (by assumption) rfl ?_|refine ZA (by assumption) rfl ?_|refine ZB (by assumption) rfl ?_|refine Z6 ?_|refine Z7 ?_|refine Z8 ?_)|((with_reducible refine ZM ?_ ?_);(focus rfl)));(conv=>whnf)))
        refine HIdx.mk 0 rfl (by show 0 < (c :: r).length; simp) ?_
        ((conv=>whnf);repeat((first|(with_reducible first|refine Z1 ?_|refine Z2 ?_|refine Z3 ?_|refine Z4 ?_|refine Z5 ?_|refine Z9 (by assumption) rfl ?_|refine ZA (by assumption) rfl ?_|refine ZB (by assumption) rfl ?_|refine Z6 ?_|refine Z7 ?_|refine Z8 ?_)|((with_reducible refine ZM ?_ ?_);(focus rfl)));(conv=>whnf)))
        exact ⟨rfl, x06⟩
      have q45 : (((⟨(c :: r).toArray⟩ : ByteArray).data[0]!.toNat : Int) == 45) = false := by rw [ec, beq_eq_false_iff_ne]; omega
      by_cases h43 : c.toNat = 43
      · have q43 : (((⟨(c :: r).toArray⟩ : ByteArray).data[0]!.toNat : Int) == 43) = true := by rw [ec, beq_iff_eq]; omega
        rw [if_pos (Or.inr h43)]
        ((conv=>whnf);repeat((first|(with_reducible first|refine Z1 ?_|refine Z2 ?_|refine Z3 ?_|refine Z4 ?_|refine Z5 ?_|refine Z9 (by assumption) rfl ?_|refine ZA (by assumption) rfl ?_|refine ZB (by assumption) rfl ?_|refine Z6 ?_|refine Z7 ?_|refine Z8 ?_)|((with_reducible refine ZM ?_ ?_);(focus rfl)));(conv=>whnf)))
        refine HIdx.mk 0 rfl (by show 0 < (c :: r).length; simp) ?_
        ((conv=>whnf);repeat((first|(with_reducible first|refine Z1 ?_|refine Z2 ?_|refine Z3 ?_|refine Z4 ?_|refine Z5 ?_|refine Z9 (by assumption) rfl ?_|refine ZA (by assumption) rfl ?_|refine ZB (by assumption) rfl ?_|refine Z6 ?_|refine Z7 ?_|refine Z8 ?_)|((with_reducible refine ZM ?_ ?_);(focus rfl)));(conv=>whnf)))
        refine HIdx.mk 0 rfl (by show 0 < (c :: r).length; simp) ?_
        ((conv=>whnf);repeat((first|(with_reducible first|refine Z1 ?_|refine Z2 ?_|refine Z3 ?_|refine Z4 ?_|refine Z5 ?_|refine Z9 (by assumption) rfl ?_|refine ZA (by assumption) rfl ?_|refine ZB (by assumption) rfl ?_|refine Z6 ?_|refine Z7 ?_|refine Z8 ?_)|((with_reducible refine ZM ?_ ?_);(focus rfl)));(conv=>whnf)))
        exact ⟨rfl, x06⟩
      have q43 : (((⟨(c :: r).toArray⟩ : ByteArray).data[0]!.toNat : Int) == 43) = false := by rw [ec, beq_eq_false_iff_ne]; omega
      rw [if_neg (by omega)]
      ((conv=>whnf);repeat((first|(with_reducible first|refine Z1 ?_|refine Z2 ?_|refine Z3 ?_|refine Z4 ?_|refine Z5 ?_|refine Z9 (by assumption) rfl ?_|refine ZA (by assumption) rfl ?_|refine ZB (by assumption) rfl ?_|refine Z6 ?_|refine Z7 ?_|refine Z8 ?_)|((with_reducible refine ZM ?_ ?_);(focus rfl)));(conv=>whnf)))
      refine HIdx.mk 0 rfl (by show 0 < (c :: r).length; simp) ?_
      ((conv=>whnf);repeat((first|(with_reducible first|refine Z1 ?_|refine Z2 ?_|refine Z3 ?_|refine Z4 ?_|refine Z5 ?_|refine Z9 (by assumption) rfl ?_|refine ZA (by assumption) rfl ?_|refine ZB (by assumption) rfl ?_|refine Z6 ?_|refine Z7 ?_|refine Z8 ?_)|((with_reducible refine ZM ?_ ?_);(focus rfl)));(conv=>whnf)))
      refine HIdx.mk 0 rfl (by show 0 < (c :: r).length; simp) ?_
      ((conv=>whnf);repeat((first|(with_reducible first|refine Z1 ?_|refine Z2 ?_|refine Z3 ?_|refine Z4 ?_|refine Z5 ?_|refine Z9 (by assumption) rfl ?_|refine ZA (by assumption) rfl ?_|refine ZB (by assumption) rfl ?_|refine Z6 ?_|refine Z7 ?_|refine Z8 ?_)|((with_reducible refine ZM ?_ ?_);(focus rfl)));(conv=>whnf)))
      refine HCall.mk ((parseInt_spec 16 (Or.inr rfl) (c :: r) (by simp only [List.length_cons] at htxl ⊢; omega) _ g6).mono ?_)
      rintro e h7 ⟨hp, x7⟩
      rcases hp with ⟨v, hv, rfl⟩ | ⟨hn, v, t', x, rfl⟩
      · rw [hv]
        ((conv=>whnf);repeat((first|(with_reducible first|refine Z1 ?_|refine Z2 ?_|refine Z3 ?_|refine Z4 ?_|refine Z5 ?_|refine Z9 (by assumption) rfl ?_|refine ZA (by assumption) rfl ?_|refine ZB (by assumption) rfl ?_|refine Z6 ?_|refine Z7 ?_|refine Z8 ?_)|((with_reducible refine ZM ?_ ?_);(focus rfl)));(conv=>whnf)))
        refine HCall.mk ((told_spec v true _).mono ?_)
        rintro e h8 ⟨rfl, rfl⟩
        rw [told_okS]
        cases okS (some v)
        · ((conv=>whnf);repeat((first|(with_reducible first|refine Z1 ?_|refine Z2 ?_|refine Z3 ?_|refine Z4 ?_|refine Z5 ?_|refine Z9 (by assumption) rfl ?_|refine ZA (by assumption) rfl ?_|refine ZB (by assumption) rfl ?_|refine Z6 ?_|refine Z7 ?_|refine Z8 ?_)|((with_reducible refine ZM ?_ ?_);(focus rfl)));(conv=>whnf)))
          exact ⟨rfl, x06.trans x7⟩
        · ((conv=>whnf);repeat((first|(with_reducible first|refine Z1 ?_|refine Z2 ?_|refine Z3 ?_|refine Z4 ?_|refine Z5 ?_|refine Z9 (by assumption) rfl ?_|refine ZA (by assumption) rfl ?_|refine ZB (by assumption) rfl ?_|refine Z6 ?_|refine Z7 ?_|refine Z8 ?_)|((with_reducible refine ZM ?_ ?_);(focus rfl)));(conv=>whnf)))
          exact ⟨rfl, x06.trans x7⟩
      · rw [hn]
        ((conv=>whnf);repeat((first|(with_reducible first|refine Z1 ?_|refine Z2 ?_|refine Z3 ?_|refine Z4 ?_|refine Z5 ?_|refine Z9 (by assumption) rfl ?_|refine ZA (by assumption) rfl ?_|refine ZB (by assumption) rfl ?_|refine Z6 ?_|refine Z7 ?_|refine Z8 ?_)|((with_reducible refine ZM ?_ ?_);(focus rfl)));(conv=>whnf)))
        refine HCall.mk ((told_spec v false _).mono ?_)
        rintro e h8 ⟨rfl, rfl⟩
        ((conv=>whnf);repeat((first|(with_reducible first|refine Z1 ?_|refine Z2 ?_|refine Z3 ?_|refine Z4 ?_|refine Z5 ?_|refine Z9 (by assumption) rfl ?_|refine ZA (by assumption) rfl ?_|refine ZB (by assumption) rfl ?_|refine Z6 ?_|refine Z7 ?_|refine Z8 ?_)|((with_reducible refine ZM ?_ ?_);(focus rfl)));(conv=>whnf)))
        exact ⟨rfl, x06.trans x7⟩
    · have qa : strEq ((⟨(a :: b :: c :: r).toArray⟩ : ByteArray).extract 0 2) ⟨#[48, 120]⟩ = false := by rw [sA]; exact decide_eq_false (by omega)
      have qb : strEq ((⟨(a :: b :: c :: r).toArray⟩ : ByteArray).extract 0 2) ⟨#[48, 88]⟩ = true := by rw [sB]; exact decide_eq_true ⟨ha, hb⟩
      have er : readT (a :: b :: c :: r) = if c.toNat = 45 ∨ c.toNat = 43 then none else pint 16 (c :: r) := by
        have hh : hexR (a :: b :: c :: r) = some (c :: r) := if_pos ⟨ha, by omega⟩
        unfold readT; rw [hh]
      rw [er]
      ((conv=>whnf);repeat((first|(with_reducible first|refine Z1 ?_|refine Z2 ?_|refine Z3 ?_|refine Z4 ?_|refine Z5 ?_|refine Z9 (by assumption) rfl ?_|refine ZA (by assumption) rfl ?_|refine ZB (by assumption) rfl ?_|refine Z6 ?_|refine Z7 ?_|refine Z8 ?_)|((with_reducible refine ZM ?_ ?_);(focus rfl)));(conv=>whnf)))
      refine HBound.mk 2 rfl hsz ?_
      ((conv=>whnf);repeat((first|(with_reducible first|refine Z1 ?_|refine Z2 ?_|refine Z3 ?_|refine Z4 ?_|refine Z5 ?_|refine Z9 (by assumption) rfl ?_|refine ZA (by assumption) rfl ?_|refine ZB (by assumption) rfl ?_|refine Z6 ?_|refine Z7 ?_|refine Z8 ?_)|((with_reducible refine ZM ?_ ?_);(focus rfl)));(conv=>whnf)))
      refine HBound.mk 2 rfl hsz ?_
      rw [ed]
      by_cases h45 : c.toNat = 45
      · have q45 : (((⟨(c :: r).toArray⟩ : ByteArray).data[0]!.toNat : Int) == 45) = true := by rw [ec, beq_iff_eq]; omega
        rw [if_pos (Or.inl h45)]
        ((conv=>whnf);repeat((first|(with_reducible first|refine Z1 ?_|refine Z2 ?_|refine Z3 ?_|refine Z4 ?_|refine Z5 ?_|refine Z9 (by assumption) rfl ?_|refine ZA (by assumption) rfl ?_|refine ZB (by assumption) rfl ?_|refine Z6 ?_|refine Z7 ?_|refine Z8 ?_)|((with_reducible refine ZM ?_ ?_);(focus rfl)));(conv=>whnf)))
        refine HIdx.mk 0 rfl (by show 0 < (c :: r).length; simp) ?_
        ((conv=>whnf);repeat((first|(with_reducible first|refine Z1 ?_|refine Z2 ?_|refine Z3 ?_|refine Z4 ?_|refine Z5 ?_|refine Z9 (by assumption) rfl ?_|refine ZA (by assumption) rfl ?_|refine ZB (by assumption) rfl ?_|refine Z6 ?_|refine Z7 ?_|refine Z8 ?_)|((with_reducible refine ZM ?_ ?_);(focus rfl)));(conv=>whnf)))
        exact ⟨rfl, x06⟩
      have q45 : (((⟨(c :: r).toArray⟩ : ByteArray).data[0]!.toNat : Int) == 45) = false := by rw [ec, beq_eq_false_iff_ne]; omega
      by_cases h43 : c.toNat = 43
      · have q43 : (((⟨(c :: r).toArray⟩ : ByteArray).data[0]!.toNat : Int) == 43) = true := by rw [ec, beq_iff_eq]; omega
        rw [if_pos (Or.inr h43)]
        ((conv=>whnf);repeat((first|(with_reducible first|refine Z1 ?_|refine Z2 ?_|refine Z3 ?_|refine Z4 ?_|refine Z5 ?_|refine Z9 (by assumption) rfl ?_|refine ZA (by assumption) rfl ?_|refine ZB (by assumption) rfl ?_|refine Z6 ?_|refine Z7 ?_|refine Z8 ?_)|((with_reducible refine ZM ?_ ?_);(focus rfl)));(conv=>whnf)))
        refine HIdx.mk 0 rfl (by show 0 < (c :: r).length; simp) ?_
        ((conv=>whnf);repeat((first|(with_reducible first|refine Z1 ?_|refine Z2 ?_|refine Z3 ?_|refine Z4 ?_|refine Z5 ?_|refine Z9 (by assumption) rfl ?_|refine ZA (by assumption) rfl ?_|refine ZB (by assumption) rfl ?_|refine Z6 ?_|refine Z7 ?_|refine Z8 ?_)|((with_reducible refine ZM ?_ ?_);(focus rfl)));(conv=>whnf)))
        refine HIdx.mk 0 rfl (by show 0 < (c :: r).length; simp) ?_
        ((conv=>whnf);repeat((first|(with_reducible first|refine Z1 ?_|refine Z2 ?_|refine Z3 ?_|refine Z4 ?_|refine Z5 ?_|refine Z9 (by assumption) rfl ?_|refine ZA (by assumption) rfl ?_|refine ZB (by assumption) rfl ?_|refine Z6 ?_|refine Z7 ?_|refine Z8 ?_)|((with_reducible refine ZM ?_ ?_);(focus rfl)));(conv=>whnf)))
        exact ⟨rfl, x06⟩
      have q43 : (((⟨(c :: r).toArray⟩ : ByteArray).data[0]!.toNat : Int) == 43) = false := by rw [ec, beq_eq_false_iff_ne]; omega
      rw [if_neg (by omega)]
      ((conv=>whnf);repeat((first|(with_reducible first|refine Z1 ?_|refine Z2 ?_|refine Z3 ?_|refine Z4 ?_|refine Z5 ?_|refine Z9 (by assumption) rfl ?_|refine ZA (by assumption) rfl ?_|refine ZB (by assumption) rfl ?_|refine Z6 ?_|refine Z7 ?_|refine Z8 ?_)|((with_reducible refine ZM ?_ ?_);(focus rfl)));(conv=>whnf)))
      refine HIdx.mk 0 rfl (by show 0 < (c :: r).length; simp) ?_
      ((conv=>whnf);repeat((first|(with_reducible first|refine Z1 ?_|refine Z2 ?_|refine Z3 ?_|refine Z4 ?_|refine Z5 ?_|refine Z9 (by assumption) rfl ?_|refine ZA (by assumption) rfl ?_|refine ZB (by assumption) rfl ?_|refine Z6 ?_|refine Z7 ?_|refine Z8 ?_)|((with_reducible refine ZM ?_ ?_);(focus rfl)));(conv=>whnf)))
      refine HIdx.mk 0 rfl (by show 0 < (c :: r).length; simp) ?_
      ((conv=>whnf);repeat((first|(with_reducible first|refine Z1 ?_|refine Z2 ?_|refine Z3 ?_|refine Z4 ?_|refine Z5 ?_|refine Z9 (by assumption) rfl ?_|refine ZA (by assumption) rfl ?_|refine ZB (by assumption) rfl ?_|refine Z6 ?_|refine Z7 ?_|refine Z8 ?_)|((with_reducible refine ZM ?_ ?_);(focus rfl)));(conv=>whnf)))
      refine HCall.mk ((parseInt_spec 16 (Or.inr rfl) (c :: r) (by simp only [List.length_cons] at htxl ⊢; omega) _ g6).mono ?_)
      rintro e h7 ⟨hp, x7⟩
      rcases hp with ⟨v, hv, rfl⟩ | ⟨hn, v, t', x, rfl⟩
      · rw [hv]
        ((conv=>whnf);repeat((first|(with_reducible first|refine Z1 ?_|refine Z2 ?_|refine Z3 ?_|refine Z4 ?_|refine Z5 ?_|refine Z9 (by assumption) rfl ?_|refine ZA (by assumption) rfl ?_|refine ZB (by assumption) rfl ?_|refine Z6 ?_|refine Z7 ?_|refine Z8 ?_)|((with_reducible refine ZM ?_ ?_);(focus rfl)));(conv=>whnf)))
        refine HCall.mk ((told_spec v true _).mono ?_)
        rintro e h8 ⟨rfl, rfl⟩
        rw [told_okS]
        cases okS (some v)
        · ((conv=>whnf);repeat((first|(with_reducible first|refine Z1 ?_|refine Z2 ?_|refine Z3 ?_|refine Z4 ?_|refine Z5 ?_|refine Z9 (by assumption) rfl ?_|refine ZA (by assumption) rfl ?_|refine ZB (by assumption) rfl ?_|refine Z6 ?_|refine Z7 ?_|refine Z8 ?_)|((with_reducible refine ZM ?_ ?_);(focus rfl)));(conv=>whnf)))
          exact ⟨rfl, x06.trans x7⟩
        · ((conv=>whnf);repeat((first|(with_reducible first|refine Z1 ?_|refine Z2 ?_|refine Z3 ?_|refine Z4 ?_|refine Z5 ?_|refine Z9 (by assumption) rfl ?_|refine ZA (by assumption) rfl ?_|refine ZB (by assumption) rfl ?_|refine Z6 ?_|refine Z7 ?_|refine Z8 ?_)|((with_reducible refine ZM ?_ ?_);(focus rfl)));(conv=>whnf)))
          exact ⟨rfl, x06.trans x7⟩
      · rw [hn]
        ((conv=>whnf);repeat((first|(with_reducible first|refine Z1 ?_|refine Z2 ?_|refine Z3 ?_|refine Z4 ?_|refine Z5 ?_|refine Z9 (by assumption) rfl ?_|refine ZA (by assumption) rfl ?_|refine ZB (by assumption) rfl ?_|refine Z6 ?_|refine Z7 ?_|refine Z8 ?_)|((with_reducible refine ZM ?_ ?_);(focus rfl)));(conv=>whnf)))
        refine HCall.mk ((told_spec v false _).mono ?_)
        rintro e h8 ⟨rfl, rfl⟩
        ((conv=>whnf);repeat((first|(with_reducible first|refine Z1 ?_|refine Z2 ?_|refine Z3 ?_|refine Z4 ?_|refine Z5 ?_|refine Z9 (by assumption) rfl ?_|refine ZA (by assumption) rfl ?_|refine ZB (by assumption) rfl ?_|refine Z6 ?_|refine Z7 ?_|refine Z8 ?_)|((with_reducible refine ZM ?_ ?_);(focus rfl)));(conv=>whnf)))
        exact ⟨rfl, x06.trans x7⟩
    · have qa : strEq ((⟨(a :: b :: c :: r).toArray⟩ : ByteArray).extract 0 2) ⟨#[48, 120]⟩ = false := by rw [sA]; exact decide_eq_false (by omega)
      have qb : strEq ((⟨(a :: b :: c :: r).toArray⟩ : ByteArray).extract 0 2) ⟨#[48, 88]⟩ = false := by rw [sB]; exact decide_eq_false (by omega)
      have er : readT (a :: b :: c :: r) = pint 10 (a :: b :: c :: r) := by
        have hh : hexR (a :: b :: c :: r) = none := if_neg hno
        unfold readT; rw [hh]
      rw [er]
      ((conv=>whnf);repeat((first|(with_reducible first|refine Z1 ?_|refine Z2 ?_|refine Z3 ?_|refine Z4 ?_|refine Z5 ?_|refine Z9 (by assumption) rfl ?_|refine ZA (by assumption) rfl ?_|refine ZB (by assumption) rfl ?_|refine Z6 ?_|refine Z7 ?_|refine Z8 ?_)|((with_reducible refine ZM ?_ ?_);(focus rfl)));(conv=>whnf)))
      refine HBound.mk 2 rfl hsz ?_
      ((conv=>whnf);repeat((first|(with_reducible first|refine Z1 ?_|refine Z2 ?_|refine Z3 ?_|refine Z4 ?_|refine Z5 ?_|refine Z9 (by assumption) rfl ?_|refine ZA (by assumption) rfl ?_|refine ZB (by assumption) rfl ?_|refine Z6 ?_|refine Z7 ?_|refine Z8 ?_)|((with_reducible refine ZM ?_ ?_);(focus rfl)));(conv=>whnf)))
      refine HCall.mk ((parseInt_spec 10 (Or.inl rfl) _ htxl _ g6).mono ?_)
      rintro e h7 ⟨hp, x7⟩
      rcases hp with ⟨v, hv, rfl⟩ | ⟨hn, v, t', x, rfl⟩
      · rw [hv]
        ((conv=>whnf);repeat((first|(with_reducible first|refine Z1 ?_|refine Z2 ?_|refine Z3 ?_|refine Z4 ?_|refine Z5 ?_|refine Z9 (by assumption) rfl ?_|refine ZA (by assumption) rfl ?_|refine ZB (by assumption) rfl ?_|refine Z6 ?_|refine Z7 ?_|refine Z8 ?_)|((with_reducible refine ZM ?_ ?_);(focus rfl)));(conv=>whnf)))
        refine HCall.mk ((told_spec v true _).mono ?_)
        rintro e h8 ⟨rfl, rfl⟩
        rw [told_okS]
        cases okS (some v)
        · ((conv=>whnf);repeat((first|(with_reducible first|refine Z1 ?_|refine Z2 ?_|refine Z3 ?_|refine Z4 ?_|refine Z5 ?_|refine Z9 (by assumption) rfl ?_|refine ZA (by assumption) rfl ?_|refine ZB (by assumption) rfl ?_|refine Z6 ?_|refine Z7 ?_|refine Z8 ?_)|((with_reducible refine ZM ?_ ?_);(focus rfl)));(conv=>whnf)))
          exact ⟨rfl, x06.trans x7⟩
        · ((conv=>whnf);repeat((first|(with_reducible first|refine Z1 ?_|refine Z2 ?_|refine Z3 ?_|refine Z4 ?_|refine Z5 ?_|refine Z9 (by assumption) rfl ?_|refine ZA (by assumption) rfl ?_|refine ZB (by assumption) rfl ?_|refine Z6 ?_|refine Z7 ?_|refine Z8 ?_)|((with_reducible refine ZM ?_ ?_);(focus rfl)));(conv=>whnf)))
          exact ⟨rfl, x06.trans x7⟩
      · rw [hn]
        ((conv=>whnf);repeat((first|(with_reducible first|refine Z1 ?_|refine Z2 ?_|refine Z3 ?_|refine Z4 ?_|refine Z5 ?_|refine Z9 (by assumption) rfl ?_|refine ZA (by assumption) rfl ?_|refine ZB (by assumption) rfl ?_|refine Z6 ?_|refine Z7 ?_|refine Z8 ?_)|((with_reducible refine ZM ?_ ?_);(focus rfl)));(conv=>whnf)))
        refine HCall.mk ((told_spec v false _).mono ?_)
        rintro e h8 ⟨rfl, rfl⟩
        ((conv=>whnf);repeat((first|(with_reducible first|refine Z1 ?_|refine Z2 ?_|refine Z3 ?_|refine Z4 ?_|refine Z5 ?_|refine Z9 (by assumption) rfl ?_|refine ZA (by assumption) rfl ?_|refine ZB (by assumption) rfl ?_|refine Z6 ?_|refine Z7 ?_|refine Z8 ?_)|((with_reducible refine ZM ?_ ?_);(focus rfl)));(conv=>whnf)))
        exact ⟨rfl, x06.trans x7⟩
  · have q1 : decide (((⟨tx.toArray⟩ : ByteArray).size : Int) > 2) = false := decide_eq_false (by omega)
    have ehx : readT tx = pint 10 tx := by
      unfold readT
      have : hexR tx = none := by
        match tx, hlong with
        | [], _ => rfl
        | [_], _ => rfl
        | [_, _], _ => rfl
        | _ :: _ :: _ :: _, h => exact absurd (by simp) h
      rw [this]
    rw [ehx]
    ((conv=>whnf);repeat((first|(with_reducible first|refine Z1 ?_|refine Z2 ?_|refine Z3 ?_|refine Z4 ?_|refine Z5 ?_|refine Z9 (by assumption) rfl ?_|refine ZA (by assumption) rfl ?_|refine ZB (by assumption) rfl ?_|refine Z6 ?_|refine Z7 ?_|refine Z8 ?_)|((with_reducible refine ZM ?_ ?_);(focus rfl)));(conv=>whnf)))
    refine HCall.mk ((parseInt_spec 10 (Or.inl rfl) tx htxl _ g6).mono ?_)
    rintro e h7 ⟨hp, x7⟩
    rcases hp with ⟨v, hv, rfl⟩ | ⟨hn, v, t', x, rfl⟩
    · rw [hv]
      ((conv=>whnf);repeat((first|(with_reducible first|refine Z1 ?_|refine Z2 ?_|refine Z3 ?_|refine Z4 ?_|refine Z5 ?_|refine Z9 (by assumption) rfl ?_|refine ZA (by assumption) rfl ?_|refine ZB (by assumption) rfl ?_|refine Z6 ?_|refine Z7 ?_|refine Z8 ?_)|((with_reducible refine ZM ?_ ?_);(focus rfl)));(conv=>whnf)))
      refine HCall.mk ((told_spec v true _).mono ?_)
      rintro e h8 ⟨rfl, rfl⟩
      rw [told_okS]
      cases okS (some v)
      · ((conv=>whnf);repeat((first|(with_reducible first|refine Z1 ?_|refine Z2 ?_|refine Z3 ?_|refine Z4 ?_|refine Z5 ?_|refine Z9 (by assumption) rfl ?_|refine ZA (by assumption) rfl ?_|refine ZB (by assumption) rfl ?_|refine Z6 ?_|refine Z7 ?_|refine Z8 ?_)|((with_reducible refine ZM ?_ ?_);(focus rfl)));(conv=>whnf)))
        exact ⟨rfl, x06.trans x7⟩
      · ((conv=>whnf);repeat((first|(with_reducible first|refine Z1 ?_|refine Z2 ?_|refine Z3 ?_|refine Z4 ?_|refine Z5 ?_|refine Z9 (by assumption) rfl ?_|refine ZA (by assumption) rfl ?_|refine ZB (by assumption) rfl ?_|refine Z6 ?_|refine Z7 ?_|refine Z8 ?_)|((with_reducible refine ZM ?_ ?_);(focus rfl)));(conv=>whnf)))
        exact ⟨rfl, x06.trans x7⟩
    · rw [hn]
      ((conv=>whnf);repeat((first|(with_reducible first|refine Z1 ?_|refine Z2 ?_|refine Z3 ?_|refine Z4 ?_|refine Z5 ?_|refine Z9 (by assumption) rfl ?_|refine ZA (by assumption) rfl ?_|refine ZB (by assumption) rfl ?_|refine Z6 ?_|refine Z7 ?_|refine Z8 ?_)|((with_reducible refine ZM ?_ ?_);(focus rfl)));(conv=>whnf)))
      refine HCall.mk ((told_spec v false _).mono ?_)
      rintro e h8 ⟨rfl, rfl⟩
      ((conv=>whnf);repeat((first|(with_reducible first|refine Z1 ?_|refine Z2 ?_|refine Z3 ?_|refine Z4 ?_|refine Z5 ?_|refine Z9 (by assumption) rfl ?_|refine ZA (by assumption) rfl ?_|refine ZB (by assumption) rfl ?_|refine Z6 ?_|refine Z7 ?_|refine Z8 ?_)|((with_reducible refine ZM ?_ ?_);(focus rfl)));(conv=>whnf)))
      exact ⟨rfl, x06.trans x7⟩

end Go.Proofs.YtnanabjbdnbccaaDoor.Hc
