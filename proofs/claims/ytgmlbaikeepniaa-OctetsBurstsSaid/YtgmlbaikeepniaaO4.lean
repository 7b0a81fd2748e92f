import Derived.Test.YtgmlbaikeepniaaO3
set_option linter.unusedVariables false
set_option linter.unusedSimpArgs false
namespace Go.Proofs.Ytgmlbaikeepniaa.Hc
open Go Go.H Go.Proofs
set_option maxRecDepth 100000

theorem rdn_facts : ∀ (l : List UInt8) (i acc : Nat), i ≤ 9 → acc < 128 ^ i →
    ((rdn l i acc).2.2 = 0 ∧ i < (rdn l i acc).2.1 ∧ (rdn l i acc).2.1 ≤ i + l.length ∧ (rdn l i acc).2.1 ≤ 10 ∧ (rdn l i acc).1 < 2 ^ 64) ∨
    (((rdn l i acc).2.2 = 20 ∨ (rdn l i acc).2.2 = 22) ∧ (rdn l i acc).1 = 0 ∧ (rdn l i acc).2.1 = 0)
  | [], i, acc, hi, ha => .inr ⟨.inl rfl, rfl, rfl⟩
  | c :: r, i, acc, hi, ha => by
    simp only [rdn]
    by_cases h1 : (i = 9 ∧ 1 < c.toNat) ∨ (0 < i ∧ c.toNat = 0)
    · rw [if_pos h1]; exact .inr ⟨.inr rfl, rfl, rfl⟩
    · rw [if_neg h1]
      by_cases h2 : c.toNat < 128
      · rw [if_pos h2]
        have := (or_step (x := c.toNat % 128) hi ha (by omega) (by omega)).2.2
        exact .inl ⟨rfl, by simp, by simp, by simp; omega, this⟩
      · rw [if_neg h2]
        have := rdn_facts r (i + 1) _ (by omega) (pow128_lt hi ha (x := c.toNat % 128) (by omega))
        rcases this with h | h
        · refine .inl ⟨h.1, by omega, by simp only [List.length_cons]; omega, h.2.2.2⟩
        · exact .inr h

/-- What text stands there. -/
def rdt (l : List UInt8) (most : Int) : List UInt8 × Nat × Nat :=
  let r := rdn l 0 0
  if r.2.2 ≠ 0 then ([], 0, r.2.2)
  else if most < 0 ∨ (r.1 : Int) > most then ([], 0, 22)
  else if l.length - r.2.1 < r.1 then ([], 0, 20)
  else ((l.drop r.2.1).take r.1, r.2.1 + r.1, 0)
def tupS (t : List UInt8 × Nat × Nat) : Value := .tuple #[.string ⟨t.1.toArray⟩, .int .i64 t.2.1, .int .i64 t.2.2]

theorem take_drop_eq (l : List UInt8) (k n : Nat) : (l.take (k + n)).drop k = (l.drop k).take n := by
  rw [List.drop_take]; congr 1; omega

theorem readText_spec {a : Option Addr} {n c : Nat} {l : List UInt8} {h : Heap} (x : Sl h 1 a n c (l.map byteV)) (hn : n ≤ 9223372036854775000) (most : Int)
    (hm : -9223372036854775808 ≤ most ∧ most ≤ 9223372036854775807) :
    HCalls Try.prog 18 #[.slice a n c, .int .i64 most] h fun e h' => h' = h ∧ e = .returned (tupS (rdt l most)) := by
  have hl : l.length = n := by simpa using x.1
  have hc := x.2.1
  refine c18 (by simp) ?_
  (conv => whnf)
  refine HCall.mk ((readNum_spec x (by omega)).mono ?_)
  rintro e0 h' ⟨rfl, he⟩
  have hf := rdn_facts l 0 0 (by omega) (by simp)
  unfold rdt
  obtain ⟨m, k, e, hr⟩ : ∃ m k e, rdn l 0 0 = (m, k, e) := ⟨_, _, _, rfl⟩
  rw [hr] at hf he ⊢
  simp only [tup] at hf he ⊢
  subst he
  (conv => whnf)
  (repeat (first | ((with_reducible refine HSeq.go ?_); conv => whnf) | ((with_reducible refine HMust.mk (by decide) ?_); conv => whnf) | ((with_reducible refine HIf.yes (by first | rfl | assumption | decide) ?_); conv => whnf) | ((with_reducible refine HIf.no (by first | rfl | assumption | decide) ?_); conv => whnf) | ((with_reducible refine HInt.mk _ (wrap_i64 (by omega)) ?_); conv => whnf)))
  refine HIf.mk (fun h0 => ?_) (fun h0 => ?_)
  · have h0' : e ≠ 0 := by have := h0; simp at this; omega
    (conv => whnf)
    (repeat (first | ((with_reducible refine HSeq.go ?_); conv => whnf) | ((with_reducible refine HMust.mk (by decide) ?_); conv => whnf) | ((with_reducible refine HIf.yes (by first | rfl | assumption | decide) ?_); conv => whnf) | ((with_reducible refine HIf.no (by first | rfl | assumption | decide) ?_); conv => whnf) | ((with_reducible refine HInt.mk _ (wrap_i64 (by omega)) ?_); conv => whnf)))
    rw [if_pos h0']
    exact ⟨rfl, rfl⟩
  · have h0' : e = 0 := by have := h0; simp at this; omega
    subst h0'
    rw [if_neg (by simp)]
    have hf' : 0 < k ∧ k ≤ n ∧ k ≤ 10 ∧ m < 2 ^ 64 := by rcases hf with h | h <;> omega
    (conv => whnf)
    (repeat (first | ((with_reducible refine HSeq.go ?_); conv => whnf) | ((with_reducible refine HMust.mk (by decide) ?_); conv => whnf) | ((with_reducible refine HIf.yes (by first | rfl | assumption | decide) ?_); conv => whnf) | ((with_reducible refine HIf.no (by first | rfl | assumption | decide) ?_); conv => whnf) | ((with_reducible refine HInt.mk _ (wrap_i64 (by omega)) ?_); conv => whnf)))
    refine HIf.mk (fun h1 => ?_) (fun h1 => ?_)
    · have h1' := of_decide_eq_true h1
      (conv => whnf)
      (repeat (first | ((with_reducible refine HSeq.go ?_); conv => whnf) | ((with_reducible refine HMust.mk (by decide) ?_); conv => whnf) | ((with_reducible refine HIf.yes (by first | rfl | assumption | decide) ?_); conv => whnf) | ((with_reducible refine HIf.no (by first | rfl | assumption | decide) ?_); conv => whnf) | ((with_reducible refine HInt.mk _ (wrap_i64 (by omega)) ?_); conv => whnf)))
      rw [if_pos (.inl h1')]
      exact ⟨rfl, rfl⟩
    · have h1' := of_decide_eq_false h1
      (conv => whnf)
      (repeat (first | ((with_reducible refine HSeq.go ?_); conv => whnf) | ((with_reducible refine HMust.mk (by decide) ?_); conv => whnf) | ((with_reducible refine HIf.yes (by first | rfl | assumption | decide) ?_); conv => whnf) | ((with_reducible refine HIf.no (by first | rfl | assumption | decide) ?_); conv => whnf) | ((with_reducible refine HInt.mk _ (wrap_i64 (by omega)) ?_); conv => whnf)))
      refine HInt.mk _ (wrap_u64 (by omega)) ?_
      (conv => whnf)
      (repeat (first | ((with_reducible refine HSeq.go ?_); conv => whnf) | ((with_reducible refine HMust.mk (by decide) ?_); conv => whnf) | ((with_reducible refine HIf.yes (by first | rfl | assumption | decide) ?_); conv => whnf) | ((with_reducible refine HIf.no (by first | rfl | assumption | decide) ?_); conv => whnf) | ((with_reducible refine HInt.mk _ (wrap_i64 (by omega)) ?_); conv => whnf)))
      refine HIf.mk (fun h2 => ?_) (fun h2 => ?_)
      · have h2' := of_decide_eq_true h2
        (conv => whnf)
        (repeat (first | ((with_reducible refine HSeq.go ?_); conv => whnf) | ((with_reducible refine HMust.mk (by decide) ?_); conv => whnf) | ((with_reducible refine HIf.yes (by first | rfl | assumption | decide) ?_); conv => whnf) | ((with_reducible refine HIf.no (by first | rfl | assumption | decide) ?_); conv => whnf) | ((with_reducible refine HInt.mk _ (wrap_i64 (by omega)) ?_); conv => whnf)))
        rw [if_pos (.inr h2')]
        exact ⟨rfl, rfl⟩
      · have h2' := of_decide_eq_false h2
        rw [if_neg (show ¬ (most < 0 ∨ (m : Int) > most) by omega)]
        (conv => whnf)
        (repeat (first | ((with_reducible refine HSeq.go ?_); conv => whnf) | ((with_reducible refine HMust.mk (by decide) ?_); conv => whnf) | ((with_reducible refine HIf.yes (by first | rfl | assumption | decide) ?_); conv => whnf) | ((with_reducible refine HIf.no (by first | rfl | assumption | decide) ?_); conv => whnf) | ((with_reducible refine HInt.mk _ (wrap_i64 (by omega)) ?_); conv => whnf)))
        refine HInt.mk _ (wrap_u64 (by omega)) ?_
        (conv => whnf)
        (repeat (first | ((with_reducible refine HSeq.go ?_); conv => whnf) | ((with_reducible refine HMust.mk (by decide) ?_); conv => whnf) | ((with_reducible refine HIf.yes (by first | rfl | assumption | decide) ?_); conv => whnf) | ((with_reducible refine HIf.no (by first | rfl | assumption | decide) ?_); conv => whnf) | ((with_reducible refine HInt.mk _ (wrap_i64 (by omega)) ?_); conv => whnf)))
        refine HIf.mk (fun h3 => ?_) (fun h3 => ?_)
        · have h3' := of_decide_eq_true h3
          (conv => whnf)
          (repeat (first | ((with_reducible refine HSeq.go ?_); conv => whnf) | ((with_reducible refine HMust.mk (by decide) ?_); conv => whnf) | ((with_reducible refine HIf.yes (by first | rfl | assumption | decide) ?_); conv => whnf) | ((with_reducible refine HIf.no (by first | rfl | assumption | decide) ?_); conv => whnf) | ((with_reducible refine HInt.mk _ (wrap_i64 (by omega)) ?_); conv => whnf)))
          rw [if_pos (show l.length - k < m by omega)]
          exact ⟨rfl, rfl⟩
        · have h3' := of_decide_eq_false h3
          rw [if_neg (show ¬ l.length - k < m by omega)]
          (conv => whnf)
          (repeat (first | ((with_reducible refine HSeq.go ?_); conv => whnf) | ((with_reducible refine HMust.mk (by decide) ?_); conv => whnf) | ((with_reducible refine HIf.yes (by first | rfl | assumption | decide) ?_); conv => whnf) | ((with_reducible refine HIf.no (by first | rfl | assumption | decide) ?_); conv => whnf) | ((with_reducible refine HInt.mk _ (wrap_i64 (by omega)) ?_); conv => whnf)))
          refine HBound.mk (k + m) (by omega) (by omega) ?_
          (conv => whnf)
          refine HBound.mk k rfl (by omega) ?_
          (conv => whnf)
          have y := x.slice (i := k) (j := k + m) (by omega) (by omega)
          rw [bytesV_slice, take_drop_eq] at y
          refine y.bytes ?_
          (conv => whnf)
          exact ⟨rfl, rfl⟩

end Go.Proofs.Ytgmlbaikeepniaa.Hc
