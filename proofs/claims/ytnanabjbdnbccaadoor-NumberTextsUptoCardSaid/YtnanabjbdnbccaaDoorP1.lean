/- Numbers: what two come to. -/
import Derived.Test.YtnanabjbdnbccaaDoorC0
import Derived.Test.YtnanabjbdnbccaaDoorHP
set_option linter.unusedVariables false
set_option linter.unusedSimpArgs false
namespace Go.Proofs.YtnanabjbdnbccaaDoor.Hc
open Go Go.H Go.Proofs
set_option maxRecDepth 100000
set_option maxHeartbeats 4000000

/-- Whole and safe. -/
def sfI (n : Int) : Bool := decide (-9007199254740991 ≤ n ∧ n ≤ 9007199254740991)
theorem sf_iff {n : Int} : sfI n = true ↔ -9007199254740991 ≤ n ∧ n ≤ 9007199254740991 := by unfold sfI; rw [decide_eq_true_eq]
theorem sf_no {n : Int} : sfI n = false ↔ ¬ (-9007199254740991 ≤ n ∧ n ≤ 9007199254740991) := by unfold sfI; rw [decide_eq_false_iff_not]
/-- What a call answers: the number, or that there is none. -/
def numR (o : Option Int) : Value := match o with
  | some n => .tuple #[.int .i64 n, .int .i64 0]
  | none => .tuple #[.int .i64 0, .int .i64 100]
def nTold (n : Int) (were : Bool) : Option Int := if were = true ∧ sfI n = true then some n else none
def nAdd (a b : Int) : Option Int := if sfI a = true ∧ sfI b = true ∧ sfI (a + b) = true then some (a + b) else none
def nSub (a b : Int) : Option Int := if sfI a = true ∧ sfI b = true ∧ sfI (a - b) = true then some (a - b) else none
def nMul (a b : Int) : Option Int := if sfI a = true ∧ sfI b = true ∧ sfI (a * b) = true then some (a * b) else none
def nMod (a b : Int) : Option Int := if sfI a = true ∧ sfI b = true ∧ b ≠ 0 then some (a.tmod b) else none
def nDiv (a b : Int) : Option Int := if sfI a = true ∧ sfI b = true ∧ b ≠ 0 ∧ a.tmod b = 0 then some (a.tdiv b) else none
def nCheck (a : Int) : Int := if sfI a = true then 0 else 100

theorem safe_spec (n : Int) (h : Heap) : HCalls Tryd.prog 43 #[.int .i64 n] h fun e h' => e = .returned (.bool (sfI n)) ∧ h' = h := by
  refine c43 (by simp) ?_
  by_cases h1 : n ≥ -9007199254740991
  · have q1 := decide_eq_true h1
    have e : sfI n = decide (n ≤ 9007199254740991) := by unfold sfI; rw [decide_eq_decide]; omega
    rw [e]
    ((conv=>whnf);repeat((first|(with_reducible first|refine Z1 ?_|refine Z2 ?_|refine Z3 ?_|refine Z4 ?_|refine Z5 ?_|refine Z9 (by assumption) rfl ?_|refine ZA (by assumption) rfl ?_|refine ZB (by assumption) rfl ?_|refine Z6 ?_|refine Z7 ?_|refine Z8 ?_)|((with_reducible refine ZM ?_ ?_);(focus rfl)));(conv=>whnf)))
    exact ⟨rfl, rfl⟩
  · have q1 := decide_eq_false h1
    have e : sfI n = false := by rw [sf_no]; omega
    rw [e]
    ((conv=>whnf);repeat((first|(with_reducible first|refine Z1 ?_|refine Z2 ?_|refine Z3 ?_|refine Z4 ?_|refine Z5 ?_|refine Z9 (by assumption) rfl ?_|refine ZA (by assumption) rfl ?_|refine ZB (by assumption) rfl ?_|refine Z6 ?_|refine Z7 ?_|refine Z8 ?_)|((with_reducible refine ZM ?_ ?_);(focus rfl)));(conv=>whnf)))
    exact ⟨rfl, rfl⟩
theorem rsafe_spec (n : Int) (h : Heap) : HCalls Tryd.prog 45 #[.int .i64 n] h fun e h' => e = .returned (.bool (sfI n)) ∧ h' = h := by
  refine c45 (by simp) ?_
  by_cases h1 : n ≥ -9007199254740991
  · have q1 := decide_eq_true h1
    have e : sfI n = decide (n ≤ 9007199254740991) := by unfold sfI; rw [decide_eq_decide]; omega
    rw [e]
    ((conv=>whnf);repeat((first|(with_reducible first|refine Z1 ?_|refine Z2 ?_|refine Z3 ?_|refine Z4 ?_|refine Z5 ?_|refine Z9 (by assumption) rfl ?_|refine ZA (by assumption) rfl ?_|refine ZB (by assumption) rfl ?_|refine Z6 ?_|refine Z7 ?_|refine Z8 ?_)|((with_reducible refine ZM ?_ ?_);(focus rfl)));(conv=>whnf)))
    exact ⟨rfl, rfl⟩
  · have q1 := decide_eq_false h1
    have e : sfI n = false := by rw [sf_no]; omega
    rw [e]
    ((conv=>whnf);repeat((first|(with_reducible first|refine Z1 ?_|refine Z2 ?_|refine Z3 ?_|refine Z4 ?_|refine Z5 ?_|refine Z9 (by assumption) rfl ?_|refine ZA (by assumption) rfl ?_|refine ZB (by assumption) rfl ?_|refine Z6 ?_|refine Z7 ?_|refine Z8 ?_)|((with_reducible refine ZM ?_ ?_);(focus rfl)));(conv=>whnf)))
    exact ⟨rfl, rfl⟩
theorem told_spec (n : Int) (were : Bool) (h : Heap) : HCalls Tryd.prog 33 #[.int .i64 n, .bool were] h fun e h' => e = .returned (numR (nTold n were)) ∧ h' = h := by
  refine c33 (by simp) ?_
  cases were
  · ((conv=>whnf);repeat((first|(with_reducible first|refine Z1 ?_|refine Z2 ?_|refine Z3 ?_|refine Z4 ?_|refine Z5 ?_|refine Z9 (by assumption) rfl ?_|refine ZA (by assumption) rfl ?_|refine ZB (by assumption) rfl ?_|refine Z6 ?_|refine Z7 ?_|refine Z8 ?_)|((with_reducible refine ZM ?_ ?_);(focus rfl)));(conv=>whnf)))
    exact ⟨rfl, rfl⟩
  · ((conv=>whnf);repeat((first|(with_reducible first|refine Z1 ?_|refine Z2 ?_|refine Z3 ?_|refine Z4 ?_|refine Z5 ?_|refine Z9 (by assumption) rfl ?_|refine ZA (by assumption) rfl ?_|refine ZB (by assumption) rfl ?_|refine Z6 ?_|refine Z7 ?_|refine Z8 ?_)|((with_reducible refine ZM ?_ ?_);(focus rfl)));(conv=>whnf)))
    refine HCall.mk ((safe_spec n h).mono ?_)
    rintro e _ ⟨rfl, rfl⟩
    unfold nTold
    cases hs : sfI n
    · rw [if_neg (by simp)]
      ((conv=>whnf);repeat((first|(with_reducible first|refine Z1 ?_|refine Z2 ?_|refine Z3 ?_|refine Z4 ?_|refine Z5 ?_|refine Z9 (by assumption) rfl ?_|refine ZA (by assumption) rfl ?_|refine ZB (by assumption) rfl ?_|refine Z6 ?_|refine Z7 ?_|refine Z8 ?_)|((with_reducible refine ZM ?_ ?_);(focus rfl)));(conv=>whnf)))
      exact ⟨rfl, rfl⟩
    · rw [if_pos ⟨rfl, rfl⟩]
      ((conv=>whnf);repeat((first|(with_reducible first|refine Z1 ?_|refine Z2 ?_|refine Z3 ?_|refine Z4 ?_|refine Z5 ?_|refine Z9 (by assumption) rfl ?_|refine ZA (by assumption) rfl ?_|refine ZB (by assumption) rfl ?_|refine Z6 ?_|refine Z7 ?_|refine Z8 ?_)|((with_reducible refine ZM ?_ ?_);(focus rfl)));(conv=>whnf)))
      exact ⟨rfl, rfl⟩
theorem checkI_spec (n : Int) (h : Heap) : HCalls Tryd.prog 16 #[.int .i64 n] h fun e h' => e = .returned (.int .i64 (nCheck n)) ∧ h' = h := by
  refine c16 (by simp) ?_
  ((conv=>whnf);repeat((first|(with_reducible first|refine Z1 ?_|refine Z2 ?_|refine Z3 ?_|refine Z4 ?_|refine Z5 ?_|refine Z9 (by assumption) rfl ?_|refine ZA (by assumption) rfl ?_|refine ZB (by assumption) rfl ?_|refine Z6 ?_|refine Z7 ?_|refine Z8 ?_)|((with_reducible refine ZM ?_ ?_);(focus rfl)));(conv=>whnf)))
  refine HCall.mk ((told_spec n true h).mono ?_)
  rintro e _ ⟨rfl, rfl⟩
  unfold nTold nCheck
  cases hs : sfI n
  · rw [if_neg (by simp), if_neg (by simp)]
    unfold numR
    ((conv=>whnf);repeat((first|(with_reducible first|refine Z1 ?_|refine Z2 ?_|refine Z3 ?_|refine Z4 ?_|refine Z5 ?_|refine Z9 (by assumption) rfl ?_|refine ZA (by assumption) rfl ?_|refine ZB (by assumption) rfl ?_|refine Z6 ?_|refine Z7 ?_|refine Z8 ?_)|((with_reducible refine ZM ?_ ?_);(focus rfl)));(conv=>whnf)))
    exact ⟨rfl, rfl⟩
  · rw [if_pos ⟨rfl, rfl⟩, if_pos rfl]
    unfold numR
    ((conv=>whnf);repeat((first|(with_reducible first|refine Z1 ?_|refine Z2 ?_|refine Z3 ?_|refine Z4 ?_|refine Z5 ?_|refine Z9 (by assumption) rfl ?_|refine ZA (by assumption) rfl ?_|refine ZB (by assumption) rfl ?_|refine Z6 ?_|refine Z7 ?_|refine Z8 ?_)|((with_reducible refine ZM ?_ ?_);(focus rfl)));(conv=>whnf)))
    exact ⟨rfl, rfl⟩
theorem rcheckI_spec (n : Int) (h : Heap) : HCalls Tryd.prog 18 #[.int .i64 n] h fun e h' => e = .returned (.int .i64 (nCheck n)) ∧ h' = h := by
  refine c18 (by simp) ?_
  ((conv=>whnf);repeat((first|(with_reducible first|refine Z1 ?_|refine Z2 ?_|refine Z3 ?_|refine Z4 ?_|refine Z5 ?_|refine Z9 (by assumption) rfl ?_|refine ZA (by assumption) rfl ?_|refine ZB (by assumption) rfl ?_|refine Z6 ?_|refine Z7 ?_|refine Z8 ?_)|((with_reducible refine ZM ?_ ?_);(focus rfl)));(conv=>whnf)))
  refine HCall.mk ((rsafe_spec n h).mono ?_)
  rintro e _ ⟨rfl, rfl⟩
  unfold nCheck
  cases hs : sfI n
  · rw [if_neg (by simp)]
    ((conv=>whnf);repeat((first|(with_reducible first|refine Z1 ?_|refine Z2 ?_|refine Z3 ?_|refine Z4 ?_|refine Z5 ?_|refine Z9 (by assumption) rfl ?_|refine ZA (by assumption) rfl ?_|refine ZB (by assumption) rfl ?_|refine Z6 ?_|refine Z7 ?_|refine Z8 ?_)|((with_reducible refine ZM ?_ ?_);(focus rfl)));(conv=>whnf)))
    exact ⟨rfl, rfl⟩
  · rw [if_pos rfl]
    ((conv=>whnf);repeat((first|(with_reducible first|refine Z1 ?_|refine Z2 ?_|refine Z3 ?_|refine Z4 ?_|refine Z5 ?_|refine Z9 (by assumption) rfl ?_|refine ZA (by assumption) rfl ?_|refine ZB (by assumption) rfl ?_|refine Z6 ?_|refine Z7 ?_|refine Z8 ?_)|((with_reducible refine ZM ?_ ?_);(focus rfl)));(conv=>whnf)))
    exact ⟨rfl, rfl⟩
theorem add_spec (a b : Int) (h : Heap) : HCalls Tryd.prog 14 #[.int .i64 a, .int .i64 b] h fun e h' => e = .returned (numR (nAdd a b)) ∧ h' = h := by
  refine c14 (by simp) ?_
  ((conv=>whnf);repeat((first|(with_reducible first|refine Z1 ?_|refine Z2 ?_|refine Z3 ?_|refine Z4 ?_|refine Z5 ?_|refine Z9 (by assumption) rfl ?_|refine ZA (by assumption) rfl ?_|refine ZB (by assumption) rfl ?_|refine Z6 ?_|refine Z7 ?_|refine Z8 ?_)|((with_reducible refine ZM ?_ ?_);(focus rfl)));(conv=>whnf)))
  refine HInt.mk (IntKind.i64.wrap (a + b)) rfl ?_
  ((conv=>whnf);repeat((first|(with_reducible first|refine Z1 ?_|refine Z2 ?_|refine Z3 ?_|refine Z4 ?_|refine Z5 ?_|refine Z9 (by assumption) rfl ?_|refine ZA (by assumption) rfl ?_|refine ZB (by assumption) rfl ?_|refine Z6 ?_|refine Z7 ?_|refine Z8 ?_)|((with_reducible refine ZM ?_ ?_);(focus rfl)));(conv=>whnf)))
  refine HCall.mk ((safe_spec a h).mono ?_)
  rintro e _ ⟨rfl, rfl⟩
  cases hs : sfI a
  · ((conv=>whnf);repeat((first|(with_reducible first|refine Z1 ?_|refine Z2 ?_|refine Z3 ?_|refine Z4 ?_|refine Z5 ?_|refine Z9 (by assumption) rfl ?_|refine ZA (by assumption) rfl ?_|refine ZB (by assumption) rfl ?_|refine Z6 ?_|refine Z7 ?_|refine Z8 ?_)|((with_reducible refine ZM ?_ ?_);(focus rfl)));(conv=>whnf)))
    refine HCall.mk ((told_spec _ false _).mono ?_)
    rintro e _ ⟨rfl, rfl⟩
    unfold nTold nAdd
    rw [if_neg (by simp), if_neg (by simp [hs])]
    unfold numR
    ((conv=>whnf);repeat((first|(with_reducible first|refine Z1 ?_|refine Z2 ?_|refine Z3 ?_|refine Z4 ?_|refine Z5 ?_|refine Z9 (by assumption) rfl ?_|refine ZA (by assumption) rfl ?_|refine ZB (by assumption) rfl ?_|refine Z6 ?_|refine Z7 ?_|refine Z8 ?_)|((with_reducible refine ZM ?_ ?_);(focus rfl)));(conv=>whnf)))
    exact ⟨rfl, rfl⟩
  · ((conv=>whnf);repeat((first|(with_reducible first|refine Z1 ?_|refine Z2 ?_|refine Z3 ?_|refine Z4 ?_|refine Z5 ?_|refine Z9 (by assumption) rfl ?_|refine ZA (by assumption) rfl ?_|refine ZB (by assumption) rfl ?_|refine Z6 ?_|refine Z7 ?_|refine Z8 ?_)|((with_reducible refine ZM ?_ ?_);(focus rfl)));(conv=>whnf)))
    refine HCall.mk ((safe_spec b _).mono ?_)
    rintro e _ ⟨rfl, rfl⟩
    cases hb : sfI b
    · ((conv=>whnf);repeat((first|(with_reducible first|refine Z1 ?_|refine Z2 ?_|refine Z3 ?_|refine Z4 ?_|refine Z5 ?_|refine Z9 (by assumption) rfl ?_|refine ZA (by assumption) rfl ?_|refine ZB (by assumption) rfl ?_|refine Z6 ?_|refine Z7 ?_|refine Z8 ?_)|((with_reducible refine ZM ?_ ?_);(focus rfl)));(conv=>whnf)))
      refine HCall.mk ((told_spec _ false _).mono ?_)
      rintro e _ ⟨rfl, rfl⟩
      unfold nTold nAdd
      rw [if_neg (by simp), if_neg (by simp [hb])]
      unfold numR
      ((conv=>whnf);repeat((first|(with_reducible first|refine Z1 ?_|refine Z2 ?_|refine Z3 ?_|refine Z4 ?_|refine Z5 ?_|refine Z9 (by assumption) rfl ?_|refine ZA (by assumption) rfl ?_|refine ZB (by assumption) rfl ?_|refine Z6 ?_|refine Z7 ?_|refine Z8 ?_)|((with_reducible refine ZM ?_ ?_);(focus rfl)));(conv=>whnf)))
      exact ⟨rfl, rfl⟩
    · have h1 := sf_iff.1 hs
      have h2 := sf_iff.1 hb
      rw [wrap_i64 (by omega)]
      ((conv=>whnf);repeat((first|(with_reducible first|refine Z1 ?_|refine Z2 ?_|refine Z3 ?_|refine Z4 ?_|refine Z5 ?_|refine Z9 (by assumption) rfl ?_|refine ZA (by assumption) rfl ?_|refine ZB (by assumption) rfl ?_|refine Z6 ?_|refine Z7 ?_|refine Z8 ?_)|((with_reducible refine ZM ?_ ?_);(focus rfl)));(conv=>whnf)))
      refine HCall.mk ((told_spec _ true _).mono ?_)
      rintro e _ ⟨rfl, rfl⟩
      unfold nTold nAdd
      cases hc : sfI (a + b)
      · rw [if_neg (by simp), if_neg (by simp)]
        unfold numR
        ((conv=>whnf);repeat((first|(with_reducible first|refine Z1 ?_|refine Z2 ?_|refine Z3 ?_|refine Z4 ?_|refine Z5 ?_|refine Z9 (by assumption) rfl ?_|refine ZA (by assumption) rfl ?_|refine ZB (by assumption) rfl ?_|refine Z6 ?_|refine Z7 ?_|refine Z8 ?_)|((with_reducible refine ZM ?_ ?_);(focus rfl)));(conv=>whnf)))
        exact ⟨rfl, rfl⟩
      · rw [if_pos ⟨rfl, rfl⟩, if_pos ⟨hs, hb, rfl⟩]
        unfold numR
        ((conv=>whnf);repeat((first|(with_reducible first|refine Z1 ?_|refine Z2 ?_|refine Z3 ?_|refine Z4 ?_|refine Z5 ?_|refine Z9 (by assumption) rfl ?_|refine ZA (by assumption) rfl ?_|refine ZB (by assumption) rfl ?_|refine Z6 ?_|refine Z7 ?_|refine Z8 ?_)|((with_reducible refine ZM ?_ ?_);(focus rfl)));(conv=>whnf)))
        exact ⟨rfl, rfl⟩
theorem sub_spec (a b : Int) (h : Heap) : HCalls Tryd.prog 19 #[.int .i64 a, .int .i64 b] h fun e h' => e = .returned (numR (nSub a b)) ∧ h' = h := by
  refine c19 (by simp) ?_
  ((conv=>whnf);repeat((first|(with_reducible first|refine Z1 ?_|refine Z2 ?_|refine Z3 ?_|refine Z4 ?_|refine Z5 ?_|refine Z9 (by assumption) rfl ?_|refine ZA (by assumption) rfl ?_|refine ZB (by assumption) rfl ?_|refine Z6 ?_|refine Z7 ?_|refine Z8 ?_)|((with_reducible refine ZM ?_ ?_);(focus rfl)));(conv=>whnf)))
  refine HInt.mk (IntKind.i64.wrap (a - b)) rfl ?_
  ((conv=>whnf);repeat((first|(with_reducible first|refine Z1 ?_|refine Z2 ?_|refine Z3 ?_|refine Z4 ?_|refine Z5 ?_|refine Z9 (by assumption) rfl ?_|refine ZA (by assumption) rfl ?_|refine ZB (by assumption) rfl ?_|refine Z6 ?_|refine Z7 ?_|refine Z8 ?_)|((with_reducible refine ZM ?_ ?_);(focus rfl)));(conv=>whnf)))
  refine HCall.mk ((safe_spec a h).mono ?_)
  rintro e _ ⟨rfl, rfl⟩
  cases hs : sfI a
  · ((conv=>whnf);repeat((first|(with_reducible first|refine Z1 ?_|refine Z2 ?_|refine Z3 ?_|refine Z4 ?_|refine Z5 ?_|refine Z9 (by assumption) rfl ?_|refine ZA (by assumption) rfl ?_|refine ZB (by assumption) rfl ?_|refine Z6 ?_|refine Z7 ?_|refine Z8 ?_)|((with_reducible refine ZM ?_ ?_);(focus rfl)));(conv=>whnf)))
    refine HCall.mk ((told_spec _ false _).mono ?_)
    rintro e _ ⟨rfl, rfl⟩
    unfold nTold nSub
    rw [if_neg (by simp), if_neg (by simp [hs])]
    unfold numR
    ((conv=>whnf);repeat((first|(with_reducible first|refine Z1 ?_|refine Z2 ?_|refine Z3 ?_|refine Z4 ?_|refine Z5 ?_|refine Z9 (by assumption) rfl ?_|refine ZA (by assumption) rfl ?_|refine ZB (by assumption) rfl ?_|refine Z6 ?_|refine Z7 ?_|refine Z8 ?_)|((with_reducible refine ZM ?_ ?_);(focus rfl)));(conv=>whnf)))
    exact ⟨rfl, rfl⟩
  · ((conv=>whnf);repeat((first|(with_reducible first|refine Z1 ?_|refine Z2 ?_|refine Z3 ?_|refine Z4 ?_|refine Z5 ?_|refine Z9 (by assumption) rfl ?_|refine ZA (by assumption) rfl ?_|refine ZB (by assumption) rfl ?_|refine Z6 ?_|refine Z7 ?_|refine Z8 ?_)|((with_reducible refine ZM ?_ ?_);(focus rfl)));(conv=>whnf)))
    refine HCall.mk ((safe_spec b _).mono ?_)
    rintro e _ ⟨rfl, rfl⟩
    cases hb : sfI b
    · ((conv=>whnf);repeat((first|(with_reducible first|refine Z1 ?_|refine Z2 ?_|refine Z3 ?_|refine Z4 ?_|refine Z5 ?_|refine Z9 (by assumption) rfl ?_|refine ZA (by assumption) rfl ?_|refine ZB (by assumption) rfl ?_|refine Z6 ?_|refine Z7 ?_|refine Z8 ?_)|((with_reducible refine ZM ?_ ?_);(focus rfl)));(conv=>whnf)))
      refine HCall.mk ((told_spec _ false _).mono ?_)
      rintro e _ ⟨rfl, rfl⟩
      unfold nTold nSub
      rw [if_neg (by simp), if_neg (by simp [hb])]
      unfold numR
      ((conv=>whnf);repeat((first|(with_reducible first|refine Z1 ?_|refine Z2 ?_|refine Z3 ?_|refine Z4 ?_|refine Z5 ?_|refine Z9 (by assumption) rfl ?_|refine ZA (by assumption) rfl ?_|refine ZB (by assumption) rfl ?_|refine Z6 ?_|refine Z7 ?_|refine Z8 ?_)|((with_reducible refine ZM ?_ ?_);(focus rfl)));(conv=>whnf)))
      exact ⟨rfl, rfl⟩
    · have h1 := sf_iff.1 hs
      have h2 := sf_iff.1 hb
      rw [wrap_i64 (by omega)]
      ((conv=>whnf);repeat((first|(with_reducible first|refine Z1 ?_|refine Z2 ?_|refine Z3 ?_|refine Z4 ?_|refine Z5 ?_|refine Z9 (by assumption) rfl ?_|refine ZA (by assumption) rfl ?_|refine ZB (by assumption) rfl ?_|refine Z6 ?_|refine Z7 ?_|refine Z8 ?_)|((with_reducible refine ZM ?_ ?_);(focus rfl)));(conv=>whnf)))
      refine HCall.mk ((told_spec _ true _).mono ?_)
      rintro e _ ⟨rfl, rfl⟩
      unfold nTold nSub
      cases hc : sfI (a - b)
      · rw [if_neg (by simp), if_neg (by simp)]
        unfold numR
        ((conv=>whnf);repeat((first|(with_reducible first|refine Z1 ?_|refine Z2 ?_|refine Z3 ?_|refine Z4 ?_|refine Z5 ?_|refine Z9 (by assumption) rfl ?_|refine ZA (by assumption) rfl ?_|refine ZB (by assumption) rfl ?_|refine Z6 ?_|refine Z7 ?_|refine Z8 ?_)|((with_reducible refine ZM ?_ ?_);(focus rfl)));(conv=>whnf)))
        exact ⟨rfl, rfl⟩
      · rw [if_pos ⟨rfl, rfl⟩, if_pos ⟨hs, hb, rfl⟩]
        unfold numR
        ((conv=>whnf);repeat((first|(with_reducible first|refine Z1 ?_|refine Z2 ?_|refine Z3 ?_|refine Z4 ?_|refine Z5 ?_|refine Z9 (by assumption) rfl ?_|refine ZA (by assumption) rfl ?_|refine ZB (by assumption) rfl ?_|refine Z6 ?_|refine Z7 ?_|refine Z8 ?_)|((with_reducible refine ZM ?_ ?_);(focus rfl)));(conv=>whnf)))
        exact ⟨rfl, rfl⟩
theorem tmod_bd {a b : Int} (ha : sfI a = true) : -9223372036854775808 ≤ a.tmod b ∧ a.tmod b ≤ 9223372036854775807 := by
  have h1 := sf_iff.1 ha
  have e := Int.natAbs_tmod a b
  have := Nat.mod_le a.natAbs b.natAbs
  omega
theorem tdiv_bd {a b : Int} (ha : sfI a = true) : -9223372036854775808 ≤ a.tdiv b ∧ a.tdiv b ≤ 9223372036854775807 := by
  have h1 := sf_iff.1 ha
  have l : (a.tdiv b).natAbs ≤ a.natAbs := by rw [Int.natAbs_tdiv]; exact Nat.div_le_self _ _
  omega
theorem mod_spec (a b : Int) (h : Heap) : HCalls Tryd.prog 24 #[.int .i64 a, .int .i64 b] h fun e h' => e = .returned (numR (nMod a b)) ∧ h' = h := by
  refine c24 (by simp) ?_
  ((conv=>whnf);repeat((first|(with_reducible first|refine Z1 ?_|refine Z2 ?_|refine Z3 ?_|refine Z4 ?_|refine Z5 ?_|refine Z9 (by assumption) rfl ?_|refine ZA (by assumption) rfl ?_|refine ZB (by assumption) rfl ?_|refine Z6 ?_|refine Z7 ?_|refine Z8 ?_)|((with_reducible refine ZM ?_ ?_);(focus rfl)));(conv=>whnf)))
  refine HCall.mk ((safe_spec a h).mono ?_)
  rintro e _ ⟨rfl, rfl⟩
  unfold nMod
  cases hs : sfI a
  · rw [if_neg (by simp)]
    ((conv=>whnf);repeat((first|(with_reducible first|refine Z1 ?_|refine Z2 ?_|refine Z3 ?_|refine Z4 ?_|refine Z5 ?_|refine Z9 (by assumption) rfl ?_|refine ZA (by assumption) rfl ?_|refine ZB (by assumption) rfl ?_|refine Z6 ?_|refine Z7 ?_|refine Z8 ?_)|((with_reducible refine ZM ?_ ?_);(focus rfl)));(conv=>whnf)))
    exact ⟨rfl, rfl⟩
  ((conv=>whnf);repeat((first|(with_reducible first|refine Z1 ?_|refine Z2 ?_|refine Z3 ?_|refine Z4 ?_|refine Z5 ?_|refine Z9 (by assumption) rfl ?_|refine ZA (by assumption) rfl ?_|refine ZB (by assumption) rfl ?_|refine Z6 ?_|refine Z7 ?_|refine Z8 ?_)|((with_reducible refine ZM ?_ ?_);(focus rfl)));(conv=>whnf)))
  refine HCall.mk ((safe_spec b _).mono ?_)
  rintro e _ ⟨rfl, rfl⟩
  cases hb : sfI b
  · rw [if_neg (by simp)]
    ((conv=>whnf);repeat((first|(with_reducible first|refine Z1 ?_|refine Z2 ?_|refine Z3 ?_|refine Z4 ?_|refine Z5 ?_|refine Z9 (by assumption) rfl ?_|refine ZA (by assumption) rfl ?_|refine ZB (by assumption) rfl ?_|refine Z6 ?_|refine Z7 ?_|refine Z8 ?_)|((with_reducible refine ZM ?_ ?_);(focus rfl)));(conv=>whnf)))
    exact ⟨rfl, rfl⟩
  by_cases hz : b = 0
  · have q : (b == 0) = true := by simp [hz]
    rw [if_neg (by simp [hz])]
    ((conv=>whnf);repeat((first|(with_reducible first|refine Z1 ?_|refine Z2 ?_|refine Z3 ?_|refine Z4 ?_|refine Z5 ?_|refine Z9 (by assumption) rfl ?_|refine ZA (by assumption) rfl ?_|refine ZB (by assumption) rfl ?_|refine Z6 ?_|refine Z7 ?_|refine Z8 ?_)|((with_reducible refine ZM ?_ ?_);(focus rfl)));(conv=>whnf)))
    exact ⟨rfl, rfl⟩
  · have q : (b == 0) = false := by simp [hz]
    rw [if_pos ⟨rfl, rfl, hz⟩]
    ((conv=>whnf);repeat((first|(with_reducible first|refine Z1 ?_|refine Z2 ?_|refine Z3 ?_|refine Z4 ?_|refine Z5 ?_|refine Z9 (by assumption) rfl ?_|refine ZA (by assumption) rfl ?_|refine ZB (by assumption) rfl ?_|refine Z6 ?_|refine Z7 ?_|refine Z8 ?_)|((with_reducible refine ZM ?_ ?_);(focus rfl)));(conv=>whnf)))
    refine HMust.mk hz ?_
    ((conv=>whnf);repeat((first|(with_reducible first|refine Z1 ?_|refine Z2 ?_|refine Z3 ?_|refine Z4 ?_|refine Z5 ?_|refine Z9 (by assumption) rfl ?_|refine ZA (by assumption) rfl ?_|refine ZB (by assumption) rfl ?_|refine Z6 ?_|refine Z7 ?_|refine Z8 ?_)|((with_reducible refine ZM ?_ ?_);(focus rfl)));(conv=>whnf)))
    exact ⟨rfl, rfl⟩
theorem rmod_spec (a b : Int) (h : Heap) : HCalls Tryd.prog 25 #[.int .i64 a, .int .i64 b] h fun e h' => e = .returned (numR (nMod a b)) ∧ h' = h := by
  refine c25 (by simp) ?_
  ((conv=>whnf);repeat((first|(with_reducible first|refine Z1 ?_|refine Z2 ?_|refine Z3 ?_|refine Z4 ?_|refine Z5 ?_|refine Z9 (by assumption) rfl ?_|refine ZA (by assumption) rfl ?_|refine ZB (by assumption) rfl ?_|refine Z6 ?_|refine Z7 ?_|refine Z8 ?_)|((with_reducible refine ZM ?_ ?_);(focus rfl)));(conv=>whnf)))
  refine HCall.mk ((rsafe_spec a h).mono ?_)
  rintro e _ ⟨rfl, rfl⟩
  unfold nMod
  cases hs : sfI a
  · rw [if_neg (by simp)]
    ((conv=>whnf);repeat((first|(with_reducible first|refine Z1 ?_|refine Z2 ?_|refine Z3 ?_|refine Z4 ?_|refine Z5 ?_|refine Z9 (by assumption) rfl ?_|refine ZA (by assumption) rfl ?_|refine ZB (by assumption) rfl ?_|refine Z6 ?_|refine Z7 ?_|refine Z8 ?_)|((with_reducible refine ZM ?_ ?_);(focus rfl)));(conv=>whnf)))
    exact ⟨rfl, rfl⟩
  ((conv=>whnf);repeat((first|(with_reducible first|refine Z1 ?_|refine Z2 ?_|refine Z3 ?_|refine Z4 ?_|refine Z5 ?_|refine Z9 (by assumption) rfl ?_|refine ZA (by assumption) rfl ?_|refine ZB (by assumption) rfl ?_|refine Z6 ?_|refine Z7 ?_|refine Z8 ?_)|((with_reducible refine ZM ?_ ?_);(focus rfl)));(conv=>whnf)))
  refine HCall.mk ((rsafe_spec b _).mono ?_)
  rintro e _ ⟨rfl, rfl⟩
  cases hb : sfI b
  · rw [if_neg (by simp)]
    ((conv=>whnf);repeat((first|(with_reducible first|refine Z1 ?_|refine Z2 ?_|refine Z3 ?_|refine Z4 ?_|refine Z5 ?_|refine Z9 (by assumption) rfl ?_|refine ZA (by assumption) rfl ?_|refine ZB (by assumption) rfl ?_|refine Z6 ?_|refine Z7 ?_|refine Z8 ?_)|((with_reducible refine ZM ?_ ?_);(focus rfl)));(conv=>whnf)))
    exact ⟨rfl, rfl⟩
  by_cases hz : b = 0
  · have q : (b == 0) = true := by simp [hz]
    rw [if_neg (by simp [hz])]
    ((conv=>whnf);repeat((first|(with_reducible first|refine Z1 ?_|refine Z2 ?_|refine Z3 ?_|refine Z4 ?_|refine Z5 ?_|refine Z9 (by assumption) rfl ?_|refine ZA (by assumption) rfl ?_|refine ZB (by assumption) rfl ?_|refine Z6 ?_|refine Z7 ?_|refine Z8 ?_)|((with_reducible refine ZM ?_ ?_);(focus rfl)));(conv=>whnf)))
    exact ⟨rfl, rfl⟩
  · have q : (b == 0) = false := by simp [hz]
    rw [if_pos ⟨rfl, rfl, hz⟩]
    ((conv=>whnf);repeat((first|(with_reducible first|refine Z1 ?_|refine Z2 ?_|refine Z3 ?_|refine Z4 ?_|refine Z5 ?_|refine Z9 (by assumption) rfl ?_|refine ZA (by assumption) rfl ?_|refine ZB (by assumption) rfl ?_|refine Z6 ?_|refine Z7 ?_|refine Z8 ?_)|((with_reducible refine ZM ?_ ?_);(focus rfl)));(conv=>whnf)))
    refine HMust.mk hz ?_
    ((conv=>whnf);repeat((first|(with_reducible first|refine Z1 ?_|refine Z2 ?_|refine Z3 ?_|refine Z4 ?_|refine Z5 ?_|refine Z9 (by assumption) rfl ?_|refine ZA (by assumption) rfl ?_|refine ZB (by assumption) rfl ?_|refine Z6 ?_|refine Z7 ?_|refine Z8 ?_)|((with_reducible refine ZM ?_ ?_);(focus rfl)));(conv=>whnf)))
    exact ⟨rfl, rfl⟩
theorem div_spec (a b : Int) (h : Heap) : HCalls Tryd.prog 22 #[.int .i64 a, .int .i64 b] h fun e h' => e = .returned (numR (nDiv a b)) ∧ h' = h := by
  refine c22 (by simp) ?_
  ((conv=>whnf);repeat((first|(with_reducible first|refine Z1 ?_|refine Z2 ?_|refine Z3 ?_|refine Z4 ?_|refine Z5 ?_|refine Z9 (by assumption) rfl ?_|refine ZA (by assumption) rfl ?_|refine ZB (by assumption) rfl ?_|refine Z6 ?_|refine Z7 ?_|refine Z8 ?_)|((with_reducible refine ZM ?_ ?_);(focus rfl)));(conv=>whnf)))
  refine HCall.mk ((safe_spec a h).mono ?_)
  rintro e _ ⟨rfl, rfl⟩
  unfold nDiv
  cases hs : sfI a
  · rw [if_neg (by simp)]
    ((conv=>whnf);repeat((first|(with_reducible first|refine Z1 ?_|refine Z2 ?_|refine Z3 ?_|refine Z4 ?_|refine Z5 ?_|refine Z9 (by assumption) rfl ?_|refine ZA (by assumption) rfl ?_|refine ZB (by assumption) rfl ?_|refine Z6 ?_|refine Z7 ?_|refine Z8 ?_)|((with_reducible refine ZM ?_ ?_);(focus rfl)));(conv=>whnf)))
    exact ⟨rfl, rfl⟩
  ((conv=>whnf);repeat((first|(with_reducible first|refine Z1 ?_|refine Z2 ?_|refine Z3 ?_|refine Z4 ?_|refine Z5 ?_|refine Z9 (by assumption) rfl ?_|refine ZA (by assumption) rfl ?_|refine ZB (by assumption) rfl ?_|refine Z6 ?_|refine Z7 ?_|refine Z8 ?_)|((with_reducible refine ZM ?_ ?_);(focus rfl)));(conv=>whnf)))
  refine HCall.mk ((safe_spec b _).mono ?_)
  rintro e _ ⟨rfl, rfl⟩
  cases hb : sfI b
  · rw [if_neg (by simp)]
    ((conv=>whnf);repeat((first|(with_reducible first|refine Z1 ?_|refine Z2 ?_|refine Z3 ?_|refine Z4 ?_|refine Z5 ?_|refine Z9 (by assumption) rfl ?_|refine ZA (by assumption) rfl ?_|refine ZB (by assumption) rfl ?_|refine Z6 ?_|refine Z7 ?_|refine Z8 ?_)|((with_reducible refine ZM ?_ ?_);(focus rfl)));(conv=>whnf)))
    exact ⟨rfl, rfl⟩
  by_cases hz : b = 0
  · have q : (b == 0) = true := by simp [hz]
    rw [if_neg (by simp [hz])]
    ((conv=>whnf);repeat((first|(with_reducible first|refine Z1 ?_|refine Z2 ?_|refine Z3 ?_|refine Z4 ?_|refine Z5 ?_|refine Z9 (by assumption) rfl ?_|refine ZA (by assumption) rfl ?_|refine ZB (by assumption) rfl ?_|refine Z6 ?_|refine Z7 ?_|refine Z8 ?_)|((with_reducible refine ZM ?_ ?_);(focus rfl)));(conv=>whnf)))
    exact ⟨rfl, rfl⟩
  · have q : (b == 0) = false := by simp [hz]
    by_cases hm : a.tmod b = 0
    · have q2 : (a.tmod b != 0) = false := by simp [hm]
      have hd := tdiv_bd (b := b) hs
      rw [if_pos ⟨rfl, rfl, hz, hm⟩]
      ((conv=>whnf);repeat((first|(with_reducible first|refine Z1 ?_|refine Z2 ?_|refine Z3 ?_|refine Z4 ?_|refine Z5 ?_|refine Z9 (by assumption) rfl ?_|refine ZA (by assumption) rfl ?_|refine ZB (by assumption) rfl ?_|refine Z6 ?_|refine Z7 ?_|refine Z8 ?_)|((with_reducible refine ZM ?_ ?_);(focus rfl)));(conv=>whnf)))
      refine HMust.mk hz ?_
      ((conv=>whnf);repeat((first|(with_reducible first|refine Z1 ?_|refine Z2 ?_|refine Z3 ?_|refine Z4 ?_|refine Z5 ?_|refine Z9 (by assumption) rfl ?_|refine ZA (by assumption) rfl ?_|refine ZB (by assumption) rfl ?_|refine Z6 ?_|refine Z7 ?_|refine Z8 ?_)|((with_reducible refine ZM ?_ ?_);(focus rfl)));(conv=>whnf)))
      refine HMust.mk hz ?_
      ((conv=>whnf);repeat((first|(with_reducible first|refine Z1 ?_|refine Z2 ?_|refine Z3 ?_|refine Z4 ?_|refine Z5 ?_|refine Z9 (by assumption) rfl ?_|refine ZA (by assumption) rfl ?_|refine ZB (by assumption) rfl ?_|refine Z6 ?_|refine Z7 ?_|refine Z8 ?_)|((with_reducible refine ZM ?_ ?_);(focus rfl)));(conv=>whnf)))
      exact ⟨rfl, rfl⟩
    · have q2 : (a.tmod b != 0) = true := by simp [hm]
      rw [if_neg (by simp [hm])]
      ((conv=>whnf);repeat((first|(with_reducible first|refine Z1 ?_|refine Z2 ?_|refine Z3 ?_|refine Z4 ?_|refine Z5 ?_|refine Z9 (by assumption) rfl ?_|refine ZA (by assumption) rfl ?_|refine ZB (by assumption) rfl ?_|refine Z6 ?_|refine Z7 ?_|refine Z8 ?_)|((with_reducible refine ZM ?_ ?_);(focus rfl)));(conv=>whnf)))
      refine HMust.mk hz ?_
      ((conv=>whnf);repeat((first|(with_reducible first|refine Z1 ?_|refine Z2 ?_|refine Z3 ?_|refine Z4 ?_|refine Z5 ?_|refine Z9 (by assumption) rfl ?_|refine ZA (by assumption) rfl ?_|refine ZB (by assumption) rfl ?_|refine Z6 ?_|refine Z7 ?_|refine Z8 ?_)|((with_reducible refine ZM ?_ ?_);(focus rfl)));(conv=>whnf)))
      exact ⟨rfl, rfl⟩
theorem rdiv_spec (a b : Int) (h : Heap) : HCalls Tryd.prog 23 #[.int .i64 a, .int .i64 b] h fun e h' => e = .returned (numR (nDiv a b)) ∧ h' = h := by
  refine c23 (by simp) ?_
  ((conv=>whnf);repeat((first|(with_reducible first|refine Z1 ?_|refine Z2 ?_|refine Z3 ?_|refine Z4 ?_|refine Z5 ?_|refine Z9 (by assumption) rfl ?_|refine ZA (by assumption) rfl ?_|refine ZB (by assumption) rfl ?_|refine Z6 ?_|refine Z7 ?_|refine Z8 ?_)|((with_reducible refine ZM ?_ ?_);(focus rfl)));(conv=>whnf)))
  refine HCall.mk ((rmod_spec a b h).mono ?_)
  rintro e _ ⟨rfl, rfl⟩
  unfold nMod nDiv
  by_cases hc : sfI a = true ∧ sfI b = true ∧ b ≠ 0
  · rw [if_pos hc]
    unfold numR
    by_cases hm : a.tmod b = 0
    · have q2 : (a.tmod b != 0) = false := by simp [hm]
      have hd := tdiv_bd (b := b) hc.1
      rw [if_pos ⟨hc.1, hc.2.1, hc.2.2, hm⟩]
      ((conv=>whnf);repeat((first|(with_reducible first|refine Z1 ?_|refine Z2 ?_|refine Z3 ?_|refine Z4 ?_|refine Z5 ?_|refine Z9 (by assumption) rfl ?_|refine ZA (by assumption) rfl ?_|refine ZB (by assumption) rfl ?_|refine Z6 ?_|refine Z7 ?_|refine Z8 ?_)|((with_reducible refine ZM ?_ ?_);(focus rfl)));(conv=>whnf)))
      refine HMust.mk hc.2.2 ?_
      ((conv=>whnf);repeat((first|(with_reducible first|refine Z1 ?_|refine Z2 ?_|refine Z3 ?_|refine Z4 ?_|refine Z5 ?_|refine Z9 (by assumption) rfl ?_|refine ZA (by assumption) rfl ?_|refine ZB (by assumption) rfl ?_|refine Z6 ?_|refine Z7 ?_|refine Z8 ?_)|((with_reducible refine ZM ?_ ?_);(focus rfl)));(conv=>whnf)))
      exact ⟨rfl, rfl⟩
    · have q2 : (a.tmod b != 0) = true := by simp [hm]
      rw [if_neg (by simp [hm])]
      ((conv=>whnf);repeat((first|(with_reducible first|refine Z1 ?_|refine Z2 ?_|refine Z3 ?_|refine Z4 ?_|refine Z5 ?_|refine Z9 (by assumption) rfl ?_|refine ZA (by assumption) rfl ?_|refine ZB (by assumption) rfl ?_|refine Z6 ?_|refine Z7 ?_|refine Z8 ?_)|((with_reducible refine ZM ?_ ?_);(focus rfl)));(conv=>whnf)))
      exact ⟨rfl, rfl⟩
  · rw [if_neg hc, if_neg (fun x => hc ⟨x.1, x.2.1, x.2.2.1⟩)]
    unfold numR
    ((conv=>whnf);repeat((first|(with_reducible first|refine Z1 ?_|refine Z2 ?_|refine Z3 ?_|refine Z4 ?_|refine Z5 ?_|refine Z9 (by assumption) rfl ?_|refine ZA (by assumption) rfl ?_|refine ZB (by assumption) rfl ?_|refine Z6 ?_|refine Z7 ?_|refine Z8 ?_)|((with_reducible refine ZM ?_ ?_);(focus rfl)));(conv=>whnf)))
    exact ⟨rfl, rfl⟩

/-! ### Products -/
theorem and32 (x : Nat) (hx : x < 2 ^ 64) : ibits .and .u64 (x : Int) 4294967295 = ((x % 4294967296 : Nat) : Int) := by
  unfold ibits
  have e1 : BitVec.ofInt (IntKind.bits .u64) (x : Int) = BitVec.ofNat 64 x := by rw [BitVec.ofInt_natCast]; rfl
  have e2 : BitVec.ofInt (IntKind.bits .u64) 4294967295 = BitVec.ofNat 64 4294967295 := rfl
  have e3 : ((BitVec.ofNat 64 x) &&& (BitVec.ofNat 64 4294967295)).toNat = x % 4294967296 := by
    rw [BitVec.toNat_and, BitVec.toNat_ofNat, BitVec.toNat_ofNat, Nat.mod_eq_of_lt hx]
    exact Nat.and_two_pow_sub_one_eq_mod x 32
  show IntKind.u64.wrap (((BitVec.ofInt (IntKind.bits .u64) (x : Int)) &&& (BitVec.ofInt (IntKind.bits .u64) 4294967295)).toNat : Int) = _
  rw [e1, e2]
  show IntKind.u64.wrap ((((BitVec.ofNat 64 x) &&& (BitVec.ofNat 64 4294967295)).toNat : Nat) : Int) = _
  rw [e3]
  exact wrap_u64 (by omega)
theorem shr32 (x : Nat) : ((x : Int)).fdiv (2 ^ (min (Int.toNat 32) (IntKind.bits .u64))) = ((x / 4294967296 : Nat) : Int) := by
  have e : min (Int.toNat 32) (IntKind.bits .u64) = 32 := by decide
  rw [e, Int.fdiv_eq_ediv_of_nonneg _ (by decide)]; rfl
theorem mul64_spec (x y : Nat) (hx : x < 2 ^ 64) (hy : y < 2 ^ 64) (h : Heap) : HCalls Tryd.prog 44 #[.int .u64 x, .int .u64 y] h fun e h' =>
    e = .returned (.tuple #[.int .u64 (x * y / 18446744073709551616 : Nat), .int .u64 (x * y % 18446744073709551616 : Nat)]) ∧ h' = h := by
  generalize hx0 : x % 4294967296 = x0
  generalize hx1 : x / 4294967296 = x1
  generalize hy0 : y % 4294967296 = y0
  generalize hy1 : y / 4294967296 = y1
  have ex : x = x1 * 4294967296 + x0 := by omega
  have ey : y = y1 * 4294967296 + y0 := by omega
  have b1 : x0 ≤ 4294967295 := by omega
  have b2 : x1 ≤ 4294967295 := by omega
  have b3 : y0 ≤ 4294967295 := by omega
  have b4 : y1 ≤ 4294967295 := by omega
  have ez : x * y = (x1 * y1) * 18446744073709551616 + (x1 * y0) * 4294967296 + (x0 * y1) * 4294967296 + x0 * y0 := by
    rw [ex, ey, Nat.add_mul, Nat.mul_add, Nat.mul_add]
    have i1 : x1 * 4294967296 * (y1 * 4294967296) = (x1 * y1) * 18446744073709551616 := by rw [Nat.mul_mul_mul_comm]
    have i2 : x1 * 4294967296 * y0 = (x1 * y0) * 4294967296 := by rw [Nat.mul_right_comm]
    have i3 : x0 * (y1 * 4294967296) = (x0 * y1) * 4294967296 := by rw [Nat.mul_assoc]
    rw [i1, i2, i3]
    omega
  have c1 : x0 * y0 ≤ 18446744065119617025 := Nat.mul_le_mul b1 b3
  have c2 : x1 * y0 ≤ 18446744065119617025 := Nat.mul_le_mul b2 b3
  have c3 : x0 * y1 ≤ 18446744065119617025 := Nat.mul_le_mul b1 b4
  have c4 : x1 * y1 ≤ 18446744065119617025 := Nat.mul_le_mul b2 b4
  generalize hw0 : x0 * y0 = w0 at ez c1
  generalize hp : x1 * y0 = p at ez c2
  generalize hq : x0 * y1 = q at ez c3
  generalize hr : x1 * y1 = r at ez c4
  generalize hz : x * y = z at ez ⊢
  generalize ht : p + w0 / 4294967296 = t
  have ehi : z / 18446744073709551616 = r + t / 4294967296 + (t % 4294967296 + q) / 4294967296 := by omega
  refine c44 (by simp) ?_
  have k1 := and32 x hx
  have k2 := and32 y hy
  have k3 := and32 t (by omega)
  have s1 := shr32 x
  have s2 := shr32 y
  have s3 := shr32 w0
  have s4 := shr32 t
  have s5 := shr32 (t % 4294967296 + q)
  rw [hx0] at k1
  rw [hx1] at s1
  rw [hy0] at k2
  rw [hy1] at s2
  ((conv=>whnf);repeat((first|(with_reducible first|refine Z1 ?_|refine Z2 ?_|refine Z3 ?_|refine Z4 ?_|refine Z5 ?_|refine Z9 (by assumption) rfl ?_|refine ZA (by assumption) rfl ?_|refine ZB (by assumption) rfl ?_|refine Z6 ?_|refine Z7 ?_|refine Z8 ?_)|((with_reducible refine ZM ?_ ?_);(focus rfl)));(conv=>whnf)))
  refine HInt.mk (w0 : Nat) (by rw [k1, k2, ← Int.natCast_mul, hw0]; exact wrap_u64 (by omega)) ?_
  ((conv=>whnf);repeat((first|(with_reducible first|refine Z1 ?_|refine Z2 ?_|refine Z3 ?_|refine Z4 ?_|refine Z5 ?_));(conv=>whnf)))
  refine HInt.mk (p : Nat) (by rw [s1, k2, ← Int.natCast_mul, hp]; exact wrap_u64 (by omega)) ?_
  ((conv=>whnf);repeat((first|(with_reducible first|refine Z1 ?_|refine Z2 ?_|refine Z3 ?_|refine Z4 ?_|refine Z5 ?_));(conv=>whnf)))
  refine HInt.mk (t : Nat) (by rw [s3, ← Int.natCast_add, ht]; exact wrap_u64 (by omega)) ?_
  ((conv=>whnf);repeat((first|(with_reducible first|refine Z1 ?_|refine Z2 ?_|refine Z3 ?_|refine Z4 ?_|refine Z5 ?_));(conv=>whnf)))
  refine HInt.mk (q : Nat) (by rw [k1, s2, ← Int.natCast_mul, hq]; exact wrap_u64 (by omega)) ?_
  ((conv=>whnf);repeat((first|(with_reducible first|refine Z1 ?_|refine Z2 ?_|refine Z3 ?_|refine Z4 ?_|refine Z5 ?_));(conv=>whnf)))
  refine HInt.mk (t % 4294967296 + q : Nat) (by rw [k3, ← Int.natCast_add]; exact wrap_u64 (by omega)) ?_
  ((conv=>whnf);repeat((first|(with_reducible first|refine Z1 ?_|refine Z2 ?_|refine Z3 ?_|refine Z4 ?_|refine Z5 ?_));(conv=>whnf)))
  refine HInt.mk (r : Nat) (by rw [s1, s2, ← Int.natCast_mul, hr]; exact wrap_u64 (by omega)) ?_
  ((conv=>whnf);repeat((first|(with_reducible first|refine Z1 ?_|refine Z2 ?_|refine Z3 ?_|refine Z4 ?_|refine Z5 ?_));(conv=>whnf)))
  refine HInt.mk (r + t / 4294967296 : Nat) (by rw [s4, ← Int.natCast_add]; exact wrap_u64 (by omega)) ?_
  ((conv=>whnf);repeat((first|(with_reducible first|refine Z1 ?_|refine Z2 ?_|refine Z3 ?_|refine Z4 ?_|refine Z5 ?_));(conv=>whnf)))
  refine HInt.mk (z / 18446744073709551616 : Nat) (by rw [s5, ← Int.natCast_add, ← ehi]; exact wrap_u64 (by omega)) ?_
  ((conv=>whnf);repeat((first|(with_reducible first|refine Z1 ?_|refine Z2 ?_|refine Z3 ?_|refine Z4 ?_|refine Z5 ?_));(conv=>whnf)))
  refine HInt.mk (z % 18446744073709551616 : Nat) (by rw [← Int.natCast_mul, hz]; exact wrap_u64') ?_
  ((conv=>whnf);repeat((first|(with_reducible first|refine Z1 ?_|refine Z2 ?_|refine Z3 ?_|refine Z4 ?_|refine Z5 ?_|refine Z9 (by assumption) rfl ?_|refine ZA (by assumption) rfl ?_|refine ZB (by assumption) rfl ?_|refine Z6 ?_|refine Z7 ?_|refine Z8 ?_)|((with_reducible refine ZM ?_ ?_);(focus rfl)));(conv=>whnf)))
  exact ⟨rfl, rfl⟩

/-- How great a number is. -/
theorem max_abs {a : Int} (b : Int) (hb : b = 0 - a) : (if b > a then b else a) = (a.natAbs : Int) := by split <;> omega
theorem mul_spec (a b : Int) (h : Heap) : HCalls Tryd.prog 15 #[.int .i64 a, .int .i64 b] h fun e h' => e = .returned (numR (nMul a b)) ∧ h' = h := by
  refine c15 (by simp) ?_
  ((conv=>whnf);repeat((first|(with_reducible first|refine Z1 ?_|refine Z2 ?_|refine Z3 ?_|refine Z4 ?_|refine Z5 ?_|refine Z9 (by assumption) rfl ?_|refine ZA (by assumption) rfl ?_|refine ZB (by assumption) rfl ?_|refine Z6 ?_|refine Z7 ?_|refine Z8 ?_)|((with_reducible refine ZM ?_ ?_);(focus rfl)));(conv=>whnf)))
  refine HCall.mk ((safe_spec a h).mono ?_)
  rintro e _ ⟨rfl, rfl⟩
  cases hs : sfI a
  · have hres : nMul a b = none := by unfold nMul; rw [if_neg (by simp [hs])]
    rw [hres]
    ((conv=>whnf);repeat((first|(with_reducible first|refine Z1 ?_|refine Z2 ?_|refine Z3 ?_|refine Z4 ?_|refine Z5 ?_|refine Z9 (by assumption) rfl ?_|refine ZA (by assumption) rfl ?_|refine ZB (by assumption) rfl ?_|refine Z6 ?_|refine Z7 ?_|refine Z8 ?_)|((with_reducible refine ZM ?_ ?_);(focus rfl)));(conv=>whnf)))
    exact ⟨rfl, rfl⟩
  ((conv=>whnf);repeat((first|(with_reducible first|refine Z1 ?_|refine Z2 ?_|refine Z3 ?_|refine Z4 ?_|refine Z5 ?_|refine Z9 (by assumption) rfl ?_|refine ZA (by assumption) rfl ?_|refine ZB (by assumption) rfl ?_|refine Z6 ?_|refine Z7 ?_|refine Z8 ?_)|((with_reducible refine ZM ?_ ?_);(focus rfl)));(conv=>whnf)))
  refine HCall.mk ((safe_spec b _).mono ?_)
  rintro e _ ⟨rfl, rfl⟩
  cases hb : sfI b
  · have hres : nMul a b = none := by unfold nMul; rw [if_neg (by simp [hb])]
    rw [hres]
    ((conv=>whnf);repeat((first|(with_reducible first|refine Z1 ?_|refine Z2 ?_|refine Z3 ?_|refine Z4 ?_|refine Z5 ?_|refine Z9 (by assumption) rfl ?_|refine ZA (by assumption) rfl ?_|refine ZB (by assumption) rfl ?_|refine Z6 ?_|refine Z7 ?_|refine Z8 ?_)|((with_reducible refine ZM ?_ ?_);(focus rfl)));(conv=>whnf)))
    exact ⟨rfl, rfl⟩
  have h1 := sf_iff.1 hs
  have h2 := sf_iff.1 hb
  ((conv=>whnf);repeat((first|(with_reducible first|refine Z1 ?_|refine Z2 ?_|refine Z3 ?_|refine Z4 ?_|refine Z5 ?_|refine Z9 (by assumption) rfl ?_|refine ZA (by assumption) rfl ?_|refine ZB (by assumption) rfl ?_|refine Z6 ?_|refine Z7 ?_|refine Z8 ?_)|((with_reducible refine ZM ?_ ?_);(focus rfl)));(conv=>whnf)))
  refine HInt.mk (a.natAbs : Int) (by show IntKind.u64.wrap (if 0 - a > a then 0 - a else a) = _; rw [max_abs _ rfl]; exact wrap_u64 (by omega)) ?_
  ((conv=>whnf);repeat((first|(with_reducible first|refine Z1 ?_|refine Z2 ?_|refine Z3 ?_|refine Z4 ?_|refine Z5 ?_|refine Z9 (by assumption) rfl ?_|refine ZA (by assumption) rfl ?_|refine ZB (by assumption) rfl ?_|refine Z6 ?_|refine Z7 ?_|refine Z8 ?_)|((with_reducible refine ZM ?_ ?_);(focus rfl)));(conv=>whnf)))
  refine HInt.mk (b.natAbs : Int) (by show IntKind.u64.wrap (if 0 - b > b then 0 - b else b) = _; rw [max_abs _ rfl]; exact wrap_u64 (by omega)) ?_
  ((conv=>whnf);repeat((first|(with_reducible first|refine Z1 ?_|refine Z2 ?_|refine Z3 ?_|refine Z4 ?_|refine Z5 ?_|refine Z9 (by assumption) rfl ?_|refine ZA (by assumption) rfl ?_|refine ZB (by assumption) rfl ?_|refine Z6 ?_|refine Z7 ?_|refine Z8 ?_)|((with_reducible refine ZM ?_ ?_);(focus rfl)));(conv=>whnf)))
  refine HCall.mk ((mul64_spec a.natAbs b.natAbs (by omega) (by omega) _).mono ?_)
  rintro e _ ⟨rfl, rfl⟩
  have hab : (a * b).natAbs = a.natAbs * b.natAbs := Int.natAbs_mul a b
  have hsf : sfI (a * b) = true ↔ a.natAbs * b.natAbs ≤ 9007199254740991 := by rw [sf_iff, ← hab]; omega
  have hmul : nMul a b = if sfI (a * b) = true then some (a * b) else none := by unfold nMul; simp only [hs, hb, true_and]
  generalize a.natAbs * b.natAbs = z at hsf hab ⊢
  generalize hc : a * b = c at hsf hab hmul ⊢
  ((conv=>whnf);repeat((first|(with_reducible first|refine Z1 ?_|refine Z2 ?_|refine Z3 ?_|refine Z4 ?_|refine Z5 ?_|refine Z9 (by assumption) rfl ?_|refine ZA (by assumption) rfl ?_|refine ZB (by assumption) rfl ?_|refine Z6 ?_|refine Z7 ?_|refine Z8 ?_)|((with_reducible refine ZM ?_ ?_);(focus rfl)));(conv=>whnf)))
  refine HInt.mk (IntKind.i64.wrap (a * b)) rfl ?_
  rw [hc]
  by_cases hz : z ≤ 9007199254740991
  · have e1 : z / 18446744073709551616 = 0 := by omega
    have e2 : z % 18446744073709551616 = z := by omega
    have q1 : (((z / 18446744073709551616 : Nat) : Int) == 0) = true := by rw [e1]; rfl
    have q2 : decide (((z % 18446744073709551616 : Nat) : Int) ≤ 9007199254740991) = true := by rw [e2]; exact decide_eq_true (by omega)
    have hcs := hsf.2 hz
    have hcb := sf_iff.1 hcs
    rw [if_pos hcs] at hmul
    rw [wrap_i64 (by omega), hmul]
    ((conv=>whnf);repeat((first|(with_reducible first|refine Z1 ?_|refine Z2 ?_|refine Z3 ?_|refine Z4 ?_|refine Z5 ?_|refine Z9 (by assumption) rfl ?_|refine ZA (by assumption) rfl ?_|refine ZB (by assumption) rfl ?_|refine Z6 ?_|refine Z7 ?_|refine Z8 ?_)|((with_reducible refine ZM ?_ ?_);(focus rfl)));(conv=>whnf)))
    refine HCall.to #[.int .i64 c, .bool true] (by show #[Value.int .i64 c, Value.bool (decide (((z % 18446744073709551616 : Nat) : Int) ≤ 9007199254740991))] = _; rw [q2]) ((told_spec c true _).mono ?_)
    rintro e _ ⟨rfl, rfl⟩
    unfold nTold
    rw [if_pos ⟨rfl, hcs⟩]
    unfold numR
    ((conv=>whnf);repeat((first|(with_reducible first|refine Z1 ?_|refine Z2 ?_|refine Z3 ?_|refine Z4 ?_|refine Z5 ?_|refine Z9 (by assumption) rfl ?_|refine ZA (by assumption) rfl ?_|refine ZB (by assumption) rfl ?_|refine Z6 ?_|refine Z7 ?_|refine Z8 ?_)|((with_reducible refine ZM ?_ ?_);(focus rfl)));(conv=>whnf)))
    exact ⟨rfl, rfl⟩
  · have hcs : ¬ sfI c = true := fun h => hz (hsf.1 h)
    rw [if_neg hcs] at hmul
    rw [hmul]
    have key : ∀ w : Bool, w = false → numR (nTold (IntKind.i64.wrap c) w) = numR none := by rintro w rfl; unfold nTold; rw [if_neg (by simp)]
    by_cases hh : z / 18446744073709551616 = 0
    · have q1 : (((z / 18446744073709551616 : Nat) : Int) == 0) = true := by rw [hh]; rfl
      have q2 : decide (((z % 18446744073709551616 : Nat) : Int) ≤ 9007199254740991) = false := decide_eq_false (by omega)
      ((conv=>whnf);repeat((first|(with_reducible first|refine Z1 ?_|refine Z2 ?_|refine Z3 ?_|refine Z4 ?_|refine Z5 ?_|refine Z9 (by assumption) rfl ?_|refine ZA (by assumption) rfl ?_|refine ZB (by assumption) rfl ?_|refine Z6 ?_|refine Z7 ?_|refine Z8 ?_)|((with_reducible refine ZM ?_ ?_);(focus rfl)));(conv=>whnf)))
      refine HCall.mk ((told_spec _ _ _).mono ?_)
      rintro e _ ⟨rfl, rfl⟩
      rw [key _ q2]
      unfold numR
      ((conv=>whnf);repeat((first|(with_reducible first|refine Z1 ?_|refine Z2 ?_|refine Z3 ?_|refine Z4 ?_|refine Z5 ?_|refine Z9 (by assumption) rfl ?_|refine ZA (by assumption) rfl ?_|refine ZB (by assumption) rfl ?_|refine Z6 ?_|refine Z7 ?_|refine Z8 ?_)|((with_reducible refine ZM ?_ ?_);(focus rfl)));(conv=>whnf)))
      exact ⟨rfl, rfl⟩
    · have q1 : (((z / 18446744073709551616 : Nat) : Int) == 0) = false := by rw [beq_eq_false_iff_ne]; omega
      ((conv=>whnf);repeat((first|(with_reducible first|refine Z1 ?_|refine Z2 ?_|refine Z3 ?_|refine Z4 ?_|refine Z5 ?_|refine Z9 (by assumption) rfl ?_|refine ZA (by assumption) rfl ?_|refine ZB (by assumption) rfl ?_|refine Z6 ?_|refine Z7 ?_|refine Z8 ?_)|((with_reducible refine ZM ?_ ?_);(focus rfl)));(conv=>whnf)))
      refine HCall.mk ((told_spec _ false _).mono ?_)
      rintro e _ ⟨rfl, rfl⟩
      rw [key _ rfl]
      unfold numR
      ((conv=>whnf);repeat((first|(with_reducible first|refine Z1 ?_|refine Z2 ?_|refine Z3 ?_|refine Z4 ?_|refine Z5 ?_|refine Z9 (by assumption) rfl ?_|refine ZA (by assumption) rfl ?_|refine ZB (by assumption) rfl ?_|refine Z6 ?_|refine Z7 ?_|refine Z8 ?_)|((with_reducible refine ZM ?_ ?_);(focus rfl)));(conv=>whnf)))
      exact ⟨rfl, rfl⟩

end Go.Proofs.YtnanabjbdnbccaaDoor.Hc
