/- Numbers: the reference's sums and products. -/
import Derived.Test.YtnanabjbdnbccaaDoorP1
set_option linter.unusedVariables false
set_option linter.unusedSimpArgs false
namespace Go.Proofs.YtnanabjbdnbccaaDoor.Hc
open Go Go.H Go.Proofs
set_option maxRecDepth 100000
set_option maxHeartbeats 4000000

/-- A slice that grows out of nothing. -/
theorem Own.none_app {h : Heap} {e size bytes : Nat} {zs : List Value} {n : Nat} {more : List Value} {K : Value → Heap → Prop} (hz : zs.length = size) (hm : more.length = n * size) (one : ∀ v ∈ more, isOne v = true)
    (room : n * bytes ≤ 140737488355328) (k : ∀ h' a' c', Own h' h.size e size a' n c' more → Ext h h' → K (.slice a' n c') h') : HAppend h e size bytes zs none 0 0 more n K := by
  refine Own.append (Own.nil h h.size e size) (Nat.le_refl _) hz hm one (by rw [Nat.zero_add]; exact room) ?_
  intro h' a' c' o k1 _ _
  rw [List.nil_append, Nat.zero_add] at o
  have := k h' a' c' o k1
  rw [Nat.zero_add]
  exact this
theorem rtold_spec (n : Int) (h : Heap) : HCalls Tryd.prog 38 #[.int .i64 n, .slice none 0 0] h fun e h' => e = .returned (numR (nTold n true)) ∧ Ext h h' := by
  refine c38 (by simp) ?_
  ((conv=>whnf);repeat((first|(with_reducible first|refine Z1 ?_|refine Z2 ?_|refine Z3 ?_|refine Z4 ?_|refine Z5 ?_|refine Z9 (by assumption) rfl ?_|refine ZA (by assumption) rfl ?_|refine ZB (by assumption) rfl ?_|refine Z6 ?_|refine Z7 ?_|refine Z8 ?_)|((with_reducible refine ZM ?_ ?_);(focus rfl)));(conv=>whnf)))
  refine new_own (e := 2) 1 1 [.int .i64 n] rfl rfl ?_
  intro h1 b1 o1 x1 z1 hb1
  ((conv=>whnf);repeat((first|(with_reducible first|refine Z1 ?_|refine Z2 ?_|refine Z3 ?_|refine Z4 ?_|refine Z5 ?_|refine Z9 (by assumption) rfl ?_|refine ZA (by assumption) rfl ?_|refine ZB (by assumption) rfl ?_|refine Z6 ?_|refine Z7 ?_|refine Z8 ?_)|((with_reducible refine ZM ?_ ?_);(focus rfl)));(conv=>whnf)))
  refine o1.sl.cells ?_
  refine Own.none_app rfl rfl (by intro v hv; simp only [List.mem_singleton] at hv; subst hv; rfl) (by omega) ?_
  intro h2 a2 c2 o2 x2
  have s2 := o2.sl
  have x02 := x1.trans x2
  ((conv=>whnf);repeat((first|(with_reducible first|refine Z1 ?_|refine Z2 ?_|refine Z3 ?_|refine Z4 ?_|refine Z5 ?_|refine Z9 (by assumption) rfl ?_|refine ZA (by assumption) rfl ?_|refine ZB (by assumption) rfl ?_|refine Z6 ?_|refine Z7 ?_|refine Z8 ?_)|((with_reducible refine ZM ?_ ?_);(focus rfl)));(conv=>whnf)))
  refine loop_rule [13] (fun vs h' => ∃ (i : Nat), vs = [.int .i64 i] ∧ i ≤ 1 ∧ (i = 1 → sfI n = true) ∧ h' = h2)
    (fun vs _ => match vs with | [.int _ i] => 1 - i.toNat | _ => 0) rfl ?_ ?_
  · exact ⟨0, rfl, by omega, by omega, rfl⟩
  intro u h3 v13
  rintro ⟨i, e, hi, hs, rfl⟩
  cases e
  ((conv=>whnf);repeat((first|(with_reducible first|refine Z1 ?_|refine Z2 ?_|refine Z3 ?_|refine Z4 ?_|refine Z5 ?_|refine Z9 (by assumption) rfl ?_|refine ZA (by assumption) rfl ?_|refine ZB (by assumption) rfl ?_|refine Z6 ?_|refine Z7 ?_|refine Z8 ?_)|((with_reducible refine ZM ?_ ?_);(focus rfl)));(conv=>whnf)))
  refine HIf.mk (fun hlt => ?_) (fun hlt => ?_)
  · have hi1 : i < 1 := by have := of_decide_eq_true hlt; omega
    obtain rfl : i = 0 := by omega
    ((conv=>whnf);repeat((first|(with_reducible first|refine Z1 ?_|refine Z2 ?_|refine Z3 ?_|refine Z4 ?_|refine Z5 ?_|refine Z9 (by assumption) rfl ?_|refine ZA (by assumption) rfl ?_|refine ZB (by assumption) rfl ?_|refine Z6 ?_|refine Z7 ?_|refine Z8 ?_)|((with_reducible refine ZM ?_ ?_);(focus rfl)));(conv=>whnf)))
    refine HIdx.mk 0 rfl (by omega) ?_
    refine sl_some (i := 0) s2 (by omega) fun p ep => ?_
    ((conv=>whnf);repeat((first|(with_reducible first|refine Z1 ?_|refine Z2 ?_|refine Z3 ?_|refine Z4 ?_|refine Z5 ?_|refine Z9 (by assumption) rfl ?_|refine ZA (by assumption) rfl ?_|refine ZB (by assumption) rfl ?_|refine Z6 ?_|refine Z7 ?_|refine Z8 ?_)|((with_reducible refine ZM ?_ ?_);(focus rfl)));(conv=>whnf)))
    refine s2.load (i := 0) ep (by simp) ?_
    ((conv=>whnf);repeat((first|(with_reducible first|refine Z1 ?_|refine Z2 ?_|refine Z3 ?_|refine Z4 ?_|refine Z5 ?_|refine Z9 (by assumption) rfl ?_|refine ZA (by assumption) rfl ?_|refine ZB (by assumption) rfl ?_|refine Z6 ?_|refine Z7 ?_|refine Z8 ?_)|((with_reducible refine ZM ?_ ?_);(focus rfl)));(conv=>whnf)))
    refine HCall.mk ((rsafe_spec n _).mono ?_)
    rintro e _ ⟨rfl, rfl⟩
    unfold nTold
    cases hs : sfI n
    · rw [if_neg (by simp)]
      ((conv=>whnf);repeat((first|(with_reducible first|refine Z1 ?_|refine Z2 ?_|refine Z3 ?_|refine Z4 ?_|refine Z5 ?_|refine Z9 (by assumption) rfl ?_|refine ZA (by assumption) rfl ?_|refine ZB (by assumption) rfl ?_|refine Z6 ?_|refine Z7 ?_|refine Z8 ?_)|((with_reducible refine ZM ?_ ?_);(focus rfl)));(conv=>whnf)))
      exact ⟨rfl, x02⟩
    · ((conv=>whnf);repeat((first|(with_reducible first|refine Z1 ?_|refine Z2 ?_|refine Z3 ?_|refine Z4 ?_|refine Z5 ?_|refine Z9 (by assumption) rfl ?_|refine ZA (by assumption) rfl ?_|refine ZB (by assumption) rfl ?_|refine Z6 ?_|refine Z7 ?_|refine Z8 ?_)|((with_reducible refine ZM ?_ ?_);(focus rfl)));(conv=>whnf)))
      exact ⟨⟨1, rfl, by omega, fun _ => rfl, rfl⟩, by show 1 - ((0 : Int) + 1).toNat < 1 - (0 : Int).toNat; decide⟩
  · have hge := of_decide_eq_false hlt
    obtain rfl : i = 1 := by omega
    unfold nTold
    rw [if_pos ⟨rfl, hs rfl⟩]
    ((conv=>whnf);repeat((first|(with_reducible first|refine Z1 ?_|refine Z2 ?_|refine Z3 ?_|refine Z4 ?_|refine Z5 ?_|refine Z9 (by assumption) rfl ?_|refine ZA (by assumption) rfl ?_|refine ZB (by assumption) rfl ?_|refine Z6 ?_|refine Z7 ?_|refine Z8 ?_)|((with_reducible refine ZM ?_ ?_);(focus rfl)));(conv=>whnf)))
    exact ⟨rfl, x02⟩
theorem radd_spec (a b : Int) (h : Heap) : HCalls Tryd.prog 17 #[.int .i64 a, .int .i64 b] h fun e h' => e = .returned (numR (nAdd a b)) ∧ Ext h h' := by
  refine c17 (by simp) ?_
  ((conv=>whnf);repeat((first|(with_reducible first|refine Z1 ?_|refine Z2 ?_|refine Z3 ?_|refine Z4 ?_|refine Z5 ?_|refine Z9 (by assumption) rfl ?_|refine ZA (by assumption) rfl ?_|refine ZB (by assumption) rfl ?_|refine Z6 ?_|refine Z7 ?_|refine Z8 ?_)|((with_reducible refine ZM ?_ ?_);(focus rfl)));(conv=>whnf)))
  refine HCall.mk ((rsafe_spec a h).mono ?_)
  rintro e _ ⟨rfl, rfl⟩
  cases hs : sfI a
  · have hres : nAdd a b = none := by unfold nAdd; rw [if_neg (by simp [hs])]
    rw [hres]
    ((conv=>whnf);repeat((first|(with_reducible first|refine Z1 ?_|refine Z2 ?_|refine Z3 ?_|refine Z4 ?_|refine Z5 ?_|refine Z9 (by assumption) rfl ?_|refine ZA (by assumption) rfl ?_|refine ZB (by assumption) rfl ?_|refine Z6 ?_|refine Z7 ?_|refine Z8 ?_)|((with_reducible refine ZM ?_ ?_);(focus rfl)));(conv=>whnf)))
    exact ⟨rfl, Ext.refl _⟩
  ((conv=>whnf);repeat((first|(with_reducible first|refine Z1 ?_|refine Z2 ?_|refine Z3 ?_|refine Z4 ?_|refine Z5 ?_|refine Z9 (by assumption) rfl ?_|refine ZA (by assumption) rfl ?_|refine ZB (by assumption) rfl ?_|refine Z6 ?_|refine Z7 ?_|refine Z8 ?_)|((with_reducible refine ZM ?_ ?_);(focus rfl)));(conv=>whnf)))
  refine HCall.mk ((rsafe_spec b _).mono ?_)
  rintro e _ ⟨rfl, rfl⟩
  cases hb : sfI b
  · have hres : nAdd a b = none := by unfold nAdd; rw [if_neg (by simp [hb])]
    rw [hres]
    ((conv=>whnf);repeat((first|(with_reducible first|refine Z1 ?_|refine Z2 ?_|refine Z3 ?_|refine Z4 ?_|refine Z5 ?_|refine Z9 (by assumption) rfl ?_|refine ZA (by assumption) rfl ?_|refine ZB (by assumption) rfl ?_|refine Z6 ?_|refine Z7 ?_|refine Z8 ?_)|((with_reducible refine ZM ?_ ?_);(focus rfl)));(conv=>whnf)))
    exact ⟨rfl, Ext.refl _⟩
  have h1 := sf_iff.1 hs
  have h2 := sf_iff.1 hb
  have hres : nAdd a b = nTold (a + b) true := by unfold nAdd nTold; simp only [hs, hb, true_and]
  rw [hres]
  ((conv=>whnf);repeat((first|(with_reducible first|refine Z1 ?_|refine Z2 ?_|refine Z3 ?_|refine Z4 ?_|refine Z5 ?_|refine Z9 (by assumption) rfl ?_|refine ZA (by assumption) rfl ?_|refine ZB (by assumption) rfl ?_|refine Z6 ?_|refine Z7 ?_|refine Z8 ?_)|((with_reducible refine ZM ?_ ?_);(focus rfl)));(conv=>whnf)))
  refine HCall.mk ((rtold_spec (a + b) _).mono ?_)
  rintro e h2 ⟨rfl, x2⟩
  unfold nTold
  cases hc : sfI (a + b)
  · rw [if_neg (by simp)]
    unfold numR
    ((conv=>whnf);repeat((first|(with_reducible first|refine Z1 ?_|refine Z2 ?_|refine Z3 ?_|refine Z4 ?_|refine Z5 ?_|refine Z9 (by assumption) rfl ?_|refine ZA (by assumption) rfl ?_|refine ZB (by assumption) rfl ?_|refine Z6 ?_|refine Z7 ?_|refine Z8 ?_)|((with_reducible refine ZM ?_ ?_);(focus rfl)));(conv=>whnf)))
    exact ⟨rfl, x2⟩
  · rw [if_pos ⟨rfl, rfl⟩]
    unfold numR
    ((conv=>whnf);repeat((first|(with_reducible first|refine Z1 ?_|refine Z2 ?_|refine Z3 ?_|refine Z4 ?_|refine Z5 ?_|refine Z9 (by assumption) rfl ?_|refine ZA (by assumption) rfl ?_|refine ZB (by assumption) rfl ?_|refine Z6 ?_|refine Z7 ?_|refine Z8 ?_)|((with_reducible refine ZM ?_ ?_);(focus rfl)));(conv=>whnf)))
    exact ⟨rfl, x2⟩
theorem rsub_spec (a b : Int) (h : Heap) : HCalls Tryd.prog 20 #[.int .i64 a, .int .i64 b] h fun e h' => e = .returned (numR (nSub a b)) ∧ Ext h h' := by
  refine c20 (by simp) ?_
  ((conv=>whnf);repeat((first|(with_reducible first|refine Z1 ?_|refine Z2 ?_|refine Z3 ?_|refine Z4 ?_|refine Z5 ?_|refine Z9 (by assumption) rfl ?_|refine ZA (by assumption) rfl ?_|refine ZB (by assumption) rfl ?_|refine Z6 ?_|refine Z7 ?_|refine Z8 ?_)|((with_reducible refine ZM ?_ ?_);(focus rfl)));(conv=>whnf)))
  refine HCall.mk ((rsafe_spec a h).mono ?_)
  rintro e _ ⟨rfl, rfl⟩
  cases hs : sfI a
  · have hres : nSub a b = none := by unfold nSub; rw [if_neg (by simp [hs])]
    rw [hres]
    ((conv=>whnf);repeat((first|(with_reducible first|refine Z1 ?_|refine Z2 ?_|refine Z3 ?_|refine Z4 ?_|refine Z5 ?_|refine Z9 (by assumption) rfl ?_|refine ZA (by assumption) rfl ?_|refine ZB (by assumption) rfl ?_|refine Z6 ?_|refine Z7 ?_|refine Z8 ?_)|((with_reducible refine ZM ?_ ?_);(focus rfl)));(conv=>whnf)))
    exact ⟨rfl, Ext.refl _⟩
  ((conv=>whnf);repeat((first|(with_reducible first|refine Z1 ?_|refine Z2 ?_|refine Z3 ?_|refine Z4 ?_|refine Z5 ?_|refine Z9 (by assumption) rfl ?_|refine ZA (by assumption) rfl ?_|refine ZB (by assumption) rfl ?_|refine Z6 ?_|refine Z7 ?_|refine Z8 ?_)|((with_reducible refine ZM ?_ ?_);(focus rfl)));(conv=>whnf)))
  refine HCall.mk ((rsafe_spec b _).mono ?_)
  rintro e _ ⟨rfl, rfl⟩
  cases hb : sfI b
  · have hres : nSub a b = none := by unfold nSub; rw [if_neg (by simp [hb])]
    rw [hres]
    ((conv=>whnf);repeat((first|(with_reducible first|refine Z1 ?_|refine Z2 ?_|refine Z3 ?_|refine Z4 ?_|refine Z5 ?_|refine Z9 (by assumption) rfl ?_|refine ZA (by assumption) rfl ?_|refine ZB (by assumption) rfl ?_|refine Z6 ?_|refine Z7 ?_|refine Z8 ?_)|((with_reducible refine ZM ?_ ?_);(focus rfl)));(conv=>whnf)))
    exact ⟨rfl, Ext.refl _⟩
  have h1 := sf_iff.1 hs
  have h2 := sf_iff.1 hb
  have hres : nSub a b = nTold (a - b) true := by unfold nSub nTold; simp only [hs, hb, true_and]
  rw [hres]
  ((conv=>whnf);repeat((first|(with_reducible first|refine Z1 ?_|refine Z2 ?_|refine Z3 ?_|refine Z4 ?_|refine Z5 ?_|refine Z9 (by assumption) rfl ?_|refine ZA (by assumption) rfl ?_|refine ZB (by assumption) rfl ?_|refine Z6 ?_|refine Z7 ?_|refine Z8 ?_)|((with_reducible refine ZM ?_ ?_);(focus rfl)));(conv=>whnf)))
  refine HCall.mk ((rtold_spec (a - b) _).mono ?_)
  rintro e h2 ⟨rfl, x2⟩
  unfold nTold
  cases hc : sfI (a - b)
  · rw [if_neg (by simp)]
    unfold numR
    ((conv=>whnf);repeat((first|(with_reducible first|refine Z1 ?_|refine Z2 ?_|refine Z3 ?_|refine Z4 ?_|refine Z5 ?_|refine Z9 (by assumption) rfl ?_|refine ZA (by assumption) rfl ?_|refine ZB (by assumption) rfl ?_|refine Z6 ?_|refine Z7 ?_|refine Z8 ?_)|((with_reducible refine ZM ?_ ?_);(focus rfl)));(conv=>whnf)))
    exact ⟨rfl, x2⟩
  · rw [if_pos ⟨rfl, rfl⟩]
    unfold numR
    ((conv=>whnf);repeat((first|(with_reducible first|refine Z1 ?_|refine Z2 ?_|refine Z3 ?_|refine Z4 ?_|refine Z5 ?_|refine Z9 (by assumption) rfl ?_|refine ZA (by assumption) rfl ?_|refine ZB (by assumption) rfl ?_|refine Z6 ?_|refine Z7 ?_|refine Z8 ?_)|((with_reducible refine ZM ?_ ?_);(focus rfl)));(conv=>whnf)))
    exact ⟨rfl, x2⟩

theorem size_spec (n : Int) (hn : sfI n = true) (h : Heap) : HCalls Tryd.prog 46 #[.int .i64 n] h fun e h' => e = .returned (.int .i64 (n.natAbs : Nat)) ∧ h' = h := by
  have h1 := sf_iff.1 hn
  refine c46 (by simp) ?_
  by_cases hz : n < 0
  · have q := decide_eq_true hz
    have e : ((n.natAbs : Nat) : Int) = 0 - n := by omega
    rw [e]
    ((conv=>whnf);repeat((first|(with_reducible first|refine Z1 ?_|refine Z2 ?_|refine Z3 ?_|refine Z4 ?_|refine Z5 ?_|refine Z9 (by assumption) rfl ?_|refine ZA (by assumption) rfl ?_|refine ZB (by assumption) rfl ?_|refine Z6 ?_|refine Z7 ?_|refine Z8 ?_)|((with_reducible refine ZM ?_ ?_);(focus rfl)));(conv=>whnf)))
    exact ⟨rfl, rfl⟩
  · have q := decide_eq_false hz
    have e : ((n.natAbs : Nat) : Int) = n := by omega
    rw [e]
    ((conv=>whnf);repeat((first|(with_reducible first|refine Z1 ?_|refine Z2 ?_|refine Z3 ?_|refine Z4 ?_|refine Z5 ?_|refine Z9 (by assumption) rfl ?_|refine ZA (by assumption) rfl ?_|refine ZB (by assumption) rfl ?_|refine Z6 ?_|refine Z7 ?_|refine Z8 ?_)|((with_reducible refine ZM ?_ ?_);(focus rfl)));(conv=>whnf)))
    exact ⟨rfl, rfl⟩
theorem rmul_spec (a b : Int) (h : Heap) : HCalls Tryd.prog 21 #[.int .i64 a, .int .i64 b] h fun e h' => e = .returned (numR (nMul a b)) ∧ h' = h := by
  refine c21 (by simp) ?_
  ((conv=>whnf);repeat((first|(with_reducible first|refine Z1 ?_|refine Z2 ?_|refine Z3 ?_|refine Z4 ?_|refine Z5 ?_|refine Z9 (by assumption) rfl ?_|refine ZA (by assumption) rfl ?_|refine ZB (by assumption) rfl ?_|refine Z6 ?_|refine Z7 ?_|refine Z8 ?_)|((with_reducible refine ZM ?_ ?_);(focus rfl)));(conv=>whnf)))
  refine HCall.mk ((rsafe_spec a h).mono ?_)
  rintro e _ ⟨rfl, rfl⟩
  cases hs : sfI a
  · have hres : nMul a b = none := by unfold nMul; rw [if_neg (by simp [hs])]
    rw [hres]
    ((conv=>whnf);repeat((first|(with_reducible first|refine Z1 ?_|refine Z2 ?_|refine Z3 ?_|refine Z4 ?_|refine Z5 ?_|refine Z9 (by assumption) rfl ?_|refine ZA (by assumption) rfl ?_|refine ZB (by assumption) rfl ?_|refine Z6 ?_|refine Z7 ?_|refine Z8 ?_)|((with_reducible refine ZM ?_ ?_);(focus rfl)));(conv=>whnf)))
    exact ⟨rfl, rfl⟩
  ((conv=>whnf);repeat((first|(with_reducible first|refine Z1 ?_|refine Z2 ?_|refine Z3 ?_|refine Z4 ?_|refine Z5 ?_|refine Z9 (by assumption) rfl ?_|refine ZA (by assumption) rfl ?_|refine ZB (by assumption) rfl ?_|refine Z6 ?_|refine Z7 ?_|refine Z8 ?_)|((with_reducible refine ZM ?_ ?_);(focus rfl)));(conv=>whnf)))
  refine HCall.mk ((rsafe_spec b _).mono ?_)
  rintro e _ ⟨rfl, rfl⟩
  cases hb : sfI b
  · have hres : nMul a b = none := by unfold nMul; rw [if_neg (by simp [hb])]
    rw [hres]
    ((conv=>whnf);repeat((first|(with_reducible first|refine Z1 ?_|refine Z2 ?_|refine Z3 ?_|refine Z4 ?_|refine Z5 ?_|refine Z9 (by assumption) rfl ?_|refine ZA (by assumption) rfl ?_|refine ZB (by assumption) rfl ?_|refine Z6 ?_|refine Z7 ?_|refine Z8 ?_)|((with_reducible refine ZM ?_ ?_);(focus rfl)));(conv=>whnf)))
    exact ⟨rfl, rfl⟩
  have h1 := sf_iff.1 hs
  have h2 := sf_iff.1 hb
  have hab : (a * b).natAbs = a.natAbs * b.natAbs := Int.natAbs_mul a b
  have hmul : nMul a b = if sfI (a * b) = true then some (a * b) else none := by unfold nMul; simp only [hs, hb, true_and]
  have hsf : sfI (a * b) = true ↔ a.natAbs * b.natAbs ≤ 9007199254740991 := by rw [sf_iff, ← hab]; omega
  by_cases ha0 : a = 0
  · have q : (a != 0) = false := by simp [ha0]
    have hcs : sfI (a * b) = true := by rw [ha0, Int.zero_mul]; rfl
    have hcb := sf_iff.1 hcs
    rw [if_pos hcs] at hmul
    rw [hmul]
    ((conv=>whnf);repeat((first|(with_reducible first|refine Z1 ?_|refine Z2 ?_|refine Z3 ?_|refine Z4 ?_|refine Z5 ?_|refine Z9 (by assumption) rfl ?_|refine ZA (by assumption) rfl ?_|refine ZB (by assumption) rfl ?_|refine Z6 ?_|refine Z7 ?_|refine Z8 ?_)|((with_reducible refine ZM ?_ ?_);(focus rfl)));(conv=>whnf)))
    exact ⟨rfl, rfl⟩
  · have q : (a != 0) = true := by simp [ha0]
    have hq : a.natAbs * b.natAbs ≤ 9007199254740991 ↔ b.natAbs ≤ 9007199254740991 / a.natAbs := by rw [Nat.le_div_iff_mul_le (by omega), Nat.mul_comm]
    have eq0 : (9007199254740991 : Int).tdiv ((a.natAbs : Nat) : Int) = ((9007199254740991 / a.natAbs : Nat) : Int) := by
      have := Int.ofNat_tdiv 9007199254740991 a.natAbs
      exact this.symm
    have hle : 9007199254740991 / a.natAbs ≤ 9007199254740991 := Nat.div_le_self _ _
    rw [hq] at hsf
    clear hq
    generalize 9007199254740991 / a.natAbs = k at hsf eq0 hle
    ((conv=>whnf);repeat((first|(with_reducible first|refine Z1 ?_|refine Z2 ?_|refine Z3 ?_|refine Z4 ?_|refine Z5 ?_|refine Z9 (by assumption) rfl ?_|refine ZA (by assumption) rfl ?_|refine ZB (by assumption) rfl ?_|refine Z6 ?_|refine Z7 ?_|refine Z8 ?_)|((with_reducible refine ZM ?_ ?_);(focus rfl)));(conv=>whnf)))
    refine HCall.mk ((size_spec b hb _).mono ?_)
    rintro e _ ⟨rfl, rfl⟩
    ((conv=>whnf);repeat((first|(with_reducible first|refine Z1 ?_|refine Z2 ?_|refine Z3 ?_|refine Z4 ?_|refine Z5 ?_|refine Z9 (by assumption) rfl ?_|refine ZA (by assumption) rfl ?_|refine ZB (by assumption) rfl ?_|refine Z6 ?_|refine Z7 ?_|refine Z8 ?_)|((with_reducible refine ZM ?_ ?_);(focus rfl)));(conv=>whnf)))
    refine HCall.mk ((size_spec a hs _).mono ?_)
    rintro e _ ⟨rfl, rfl⟩
    ((conv=>whnf);repeat((first|(with_reducible first|refine Z1 ?_|refine Z2 ?_|refine Z3 ?_|refine Z4 ?_|refine Z5 ?_|refine Z9 (by assumption) rfl ?_|refine ZA (by assumption) rfl ?_|refine ZB (by assumption) rfl ?_|refine Z6 ?_|refine Z7 ?_|refine Z8 ?_)|((with_reducible refine ZM ?_ ?_);(focus rfl)));(conv=>whnf)))
    refine HMust.mk (by omega) ?_
    refine HInt.mk (k : Nat) (by rw [eq0]; exact wrap_i64 (by omega)) ?_
    by_cases hcs : sfI (a * b) = true
    · have q2 : decide (((b.natAbs : Nat) : Int) > ((k : Nat) : Int)) = false := decide_eq_false (by have := hsf.1 hcs; omega)
      have hcb := sf_iff.1 hcs
      rw [if_pos hcs] at hmul
      rw [hmul]
      ((conv=>whnf);repeat((first|(with_reducible first|refine Z1 ?_|refine Z2 ?_|refine Z3 ?_|refine Z4 ?_|refine Z5 ?_|refine Z9 (by assumption) rfl ?_|refine ZA (by assumption) rfl ?_|refine ZB (by assumption) rfl ?_|refine Z6 ?_|refine Z7 ?_|refine Z8 ?_)|((with_reducible refine ZM ?_ ?_);(focus rfl)));(conv=>whnf)))
      exact ⟨rfl, rfl⟩
    · have q2 : decide (((b.natAbs : Nat) : Int) > ((k : Nat) : Int)) = true := by
        have hk : ¬ (b.natAbs ≤ k) := fun h => hcs (hsf.2 h)
        exact decide_eq_true (by omega)
      rw [if_neg hcs] at hmul
      rw [hmul]
      ((conv=>whnf);repeat((first|(with_reducible first|refine Z1 ?_|refine Z2 ?_|refine Z3 ?_|refine Z4 ?_|refine Z5 ?_|refine Z9 (by assumption) rfl ?_|refine ZA (by assumption) rfl ?_|refine ZB (by assumption) rfl ?_|refine Z6 ?_|refine Z7 ?_|refine Z8 ?_)|((with_reducible refine ZM ?_ ?_);(focus rfl)));(conv=>whnf)))
      exact ⟨rfl, rfl⟩

/-- The pairs told apart. -/
def numA (o : Option Int) : Int × Int := match o with
  | some n => (n, 0)
  | none => (0, 100)
theorem numR_eq (o : Option Int) : numR o = .tuple #[.int .i64 (numA o).1, .int .i64 (numA o).2] := by cases o <;> rfl
theorem sameI_spec (a e b f : Int) (h : Heap) : HCalls Tryd.prog 13 #[.int .i64 a, .int .i64 e, .int .i64 b, .int .i64 f] h fun r h' => r = .returned (.bool ((a == b) && (e == f))) ∧ h' = h := by
  refine c13 (by simp) ?_
  cases hab : (a == b)
  · ((conv=>whnf);repeat((first|(with_reducible first|refine Z1 ?_|refine Z2 ?_|refine Z3 ?_|refine Z4 ?_|refine Z5 ?_|refine Z9 (by assumption) rfl ?_|refine ZA (by assumption) rfl ?_|refine ZB (by assumption) rfl ?_|refine Z6 ?_|refine Z7 ?_|refine Z8 ?_)|((with_reducible refine ZM ?_ ?_);(focus rfl)));(conv=>whnf)))
    exact ⟨rfl, rfl⟩
  · ((conv=>whnf);repeat((first|(with_reducible first|refine Z1 ?_|refine Z2 ?_|refine Z3 ?_|refine Z4 ?_|refine Z5 ?_|refine Z9 (by assumption) rfl ?_|refine ZA (by assumption) rfl ?_|refine ZB (by assumption) rfl ?_|refine Z6 ?_|refine Z7 ?_|refine Z8 ?_)|((with_reducible refine ZM ?_ ?_);(focus rfl)));(conv=>whnf)))
    exact ⟨rfl, rfl⟩

end Go.Proofs.YtnanabjbdnbccaaDoor.Hc
