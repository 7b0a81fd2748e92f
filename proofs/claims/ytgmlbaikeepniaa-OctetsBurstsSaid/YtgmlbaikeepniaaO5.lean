import Derived.Test.YtgmlbaikeepniaaO4
set_option linter.unusedVariables false
set_option linter.unusedSimpArgs false
namespace Go.Proofs.Ytgmlbaikeepniaa.Hc
open Go Go.H Go.Proofs
set_option maxRecDepth 100000

theorem rreadText_spec {a : Option Addr} {n c : Nat} {l : List UInt8} {h : Heap} (x : Sl h 1 a n c (l.map byteV)) (hn : n ≤ 9223372036854775000) (most : Int)
    (hm : -9223372036854775808 ≤ most ∧ most ≤ 9223372036854775807) :
    HCalls Try.prog 19 #[.slice a n c, .int .i64 most] h fun e h' => h' = h ∧ e = .returned (tupS (rdt l most)) := by
  have hl : l.length = n := by simpa using x.1
  have hc := x.2.1
  refine c19 (by simp) ?_
  (conv => whnf)
  refine HCall.mk ((rreadNum_spec x (by omega)).mono ?_)
  rintro e0 h' ⟨rfl, he⟩
  have hf := rdn_facts l 0 0 (by omega) (by simp)
  unfold rdt
  obtain ⟨m, k, e, hr⟩ : ∃ m k e, rdn l 0 0 = (m, k, e) := ⟨_, _, _, rfl⟩
  rw [hr] at hf he ⊢
  simp only [tup] at hf he ⊢
  subst he
  (conv => whnf)
  (repeat (first | ((with_reducible refine HSeq.go ?_); conv => whnf) | ((with_reducible refine HMust.mk (by decide) ?_); conv => whnf) | ((with_reducible refine HIf.yes (by first | rfl | assumption | decide) ?_); conv => whnf) | ((with_reducible refine HIf.no (by first | rfl | assumption | decide) ?_); conv => whnf) | ((with_reducible refine HInt.mk _ (wrap_i64 (by omega)) ?_); conv => whnf)))
  refine HIf.mk (fun h0 => ?_) (fun h0 => ?_)
  · have h0' : e ≠ 0 := by have := h0; simp at this; omega
    (conv => whnf)
    (repeat (first | ((with_reducible refine HSeq.go ?_); conv => whnf) | ((with_reducible refine HMust.mk (by decide) ?_); conv => whnf) | ((with_reducible refine HIf.yes (by first | rfl | assumption | decide) ?_); conv => whnf) | ((with_reducible refine HIf.no (by first | rfl | assumption | decide) ?_); conv => whnf) | ((with_reducible refine HInt.mk _ (wrap_i64 (by omega)) ?_); conv => whnf)))
    rw [if_pos h0']
    exact ⟨rfl, rfl⟩
  · have h0' : e = 0 := by have := h0; simp at this; omega
    subst h0'
    rw [if_neg (by simp)]
    have hf' : 0 < k ∧ k ≤ n ∧ k ≤ 10 ∧ m < 2 ^ 64 := by rcases hf with h | h <;> omega
    (conv => whnf)
    (repeat (first | ((with_reducible refine HSeq.go ?_); conv => whnf) | ((with_reducible refine HMust.mk (by decide) ?_); conv => whnf) | ((with_reducible refine HIf.yes (by first | rfl | assumption | decide) ?_); conv => whnf) | ((with_reducible refine HIf.no (by first | rfl | assumption | decide) ?_); conv => whnf) | ((with_reducible refine HInt.mk _ (wrap_i64 (by omega)) ?_); conv => whnf)))
    refine HIf.mk (fun h1 => ?_) (fun h1 => ?_)
    · have h1' := of_decide_eq_true h1
      (conv => whnf)
      (repeat (first | ((with_reducible refine HSeq.go ?_); conv => whnf) | ((with_reducible refine HMust.mk (by decide) ?_); conv => whnf) | ((with_reducible refine HIf.yes (by first | rfl | assumption | decide) ?_); conv => whnf) | ((with_reducible refine HIf.no (by first | rfl | assumption | decide) ?_); conv => whnf) | ((with_reducible refine HInt.mk _ (wrap_i64 (by omega)) ?_); conv => whnf)))
      rw [if_pos (.inl h1')]
      exact ⟨rfl, rfl⟩
    · have h1' := of_decide_eq_false h1
      (conv => whnf)
      (repeat (first | ((with_reducible refine HSeq.go ?_); conv => whnf) | ((with_reducible refine HMust.mk (by decide) ?_); conv => whnf) | ((with_reducible refine HIf.yes (by first | rfl | assumption | decide) ?_); conv => whnf) | ((with_reducible refine HIf.no (by first | rfl | assumption | decide) ?_); conv => whnf) | ((with_reducible refine HInt.mk _ (wrap_i64 (by omega)) ?_); conv => whnf)))
      refine HInt.mk _ (wrap_u64 (by omega)) ?_
      (conv => whnf)
      (repeat (first | ((with_reducible refine HSeq.go ?_); conv => whnf) | ((with_reducible refine HMust.mk (by decide) ?_); conv => whnf) | ((with_reducible refine HIf.yes (by first | rfl | assumption | decide) ?_); conv => whnf) | ((with_reducible refine HIf.no (by first | rfl | assumption | decide) ?_); conv => whnf) | ((with_reducible refine HInt.mk _ (wrap_i64 (by omega)) ?_); conv => whnf)))
      refine HIf.mk (fun h2 => ?_) (fun h2 => ?_)
      · have h2' := of_decide_eq_true h2
        (conv => whnf)
        (repeat (first | ((with_reducible refine HSeq.go ?_); conv => whnf) | ((with_reducible refine HMust.mk (by decide) ?_); conv => whnf) | ((with_reducible refine HIf.yes (by first | rfl | assumption | decide) ?_); conv => whnf) | ((with_reducible refine HIf.no (by first | rfl | assumption | decide) ?_); conv => whnf) | ((with_reducible refine HInt.mk _ (wrap_i64 (by omega)) ?_); conv => whnf)))
        rw [if_pos (.inr h2')]
        exact ⟨rfl, rfl⟩
      · have h2' := of_decide_eq_false h2
        rw [if_neg (show ¬ (most < 0 ∨ (m : Int) > most) by omega)]
        (conv => whnf)
        (repeat (first | ((with_reducible refine HSeq.go ?_); conv => whnf) | ((with_reducible refine HMust.mk (by decide) ?_); conv => whnf) | ((with_reducible refine HIf.yes (by first | rfl | assumption | decide) ?_); conv => whnf) | ((with_reducible refine HIf.no (by first | rfl | assumption | decide) ?_); conv => whnf) | ((with_reducible refine HInt.mk _ (wrap_i64 (by omega)) ?_); conv => whnf)))
        refine HInt.mk _ (wrap_u64 (by omega)) ?_
        (conv => whnf)
        (repeat (first | ((with_reducible refine HSeq.go ?_); conv => whnf) | ((with_reducible refine HMust.mk (by decide) ?_); conv => whnf) | ((with_reducible refine HIf.yes (by first | rfl | assumption | decide) ?_); conv => whnf) | ((with_reducible refine HIf.no (by first | rfl | assumption | decide) ?_); conv => whnf) | ((with_reducible refine HInt.mk _ (wrap_i64 (by omega)) ?_); conv => whnf)))
        refine HIf.mk (fun h3 => ?_) (fun h3 => ?_)
        · have h3' := of_decide_eq_true h3
          (conv => whnf)
          (repeat (first | ((with_reducible refine HSeq.go ?_); conv => whnf) | ((with_reducible refine HMust.mk (by decide) ?_); conv => whnf) | ((with_reducible refine HIf.yes (by first | rfl | assumption | decide) ?_); conv => whnf) | ((with_reducible refine HIf.no (by first | rfl | assumption | decide) ?_); conv => whnf) | ((with_reducible refine HInt.mk _ (wrap_i64 (by omega)) ?_); conv => whnf)))
          rw [if_pos (show l.length - k < m by omega)]
          exact ⟨rfl, rfl⟩
        · have h3' := of_decide_eq_false h3
          rw [if_neg (show ¬ l.length - k < m by omega)]
          (conv => whnf)
          (repeat (first | ((with_reducible refine HSeq.go ?_); conv => whnf) | ((with_reducible refine HMust.mk (by decide) ?_); conv => whnf) | ((with_reducible refine HIf.yes (by first | rfl | assumption | decide) ?_); conv => whnf) | ((with_reducible refine HIf.no (by first | rfl | assumption | decide) ?_); conv => whnf) | ((with_reducible refine HInt.mk _ (wrap_i64 (by omega)) ?_); conv => whnf)))
          refine HBound.mk (k + m) (by omega) (by omega) ?_
          (conv => whnf)
          refine HBound.mk k rfl (by omega) ?_
          (conv => whnf)
          have y := x.slice (i := k) (j := k + m) (by omega) (by omega)
          rw [bytesV_slice, take_drop_eq] at y
          refine y.bytes ?_
          (conv => whnf)
          (repeat (first | ((with_reducible refine HSeq.go ?_); conv => whnf) | ((with_reducible refine HMust.mk (by decide) ?_); conv => whnf) | ((with_reducible refine HIf.yes (by first | rfl | assumption | decide) ?_); conv => whnf) | ((with_reducible refine HIf.no (by first | rfl | assumption | decide) ?_); conv => whnf) | ((with_reducible refine HInt.mk _ (wrap_i64 (by omega)) ?_); conv => whnf)))
          exact ⟨rfl, rfl⟩

theorem leb300 : leb 300 = [172, 2] := by rw [leb_big (by omega), leb_small (by omega)]; rfl

theorem live_spec (h : Heap) : HCalls Try.prog 10 #[] h fun e h' => e = .returned (.bool true) ∧ Ext h h' := by
  refine c10 (by simp) ?_
  (conv => whnf)
  (repeat (first | ((with_reducible refine HSeq.go ?_); conv => whnf) | ((with_reducible refine HMust.mk (by decide) ?_); conv => whnf) | ((with_reducible refine HIf.yes (by first | rfl | assumption | decide) ?_); conv => whnf) | ((with_reducible refine HIf.no (by first | rfl | assumption | decide) ?_); conv => whnf) | ((with_reducible refine HInt.mk _ (wrap_i64 (by omega)) ?_); conv => whnf)))
  refine new_own (e := 5) 1 2 (List.map byteV [128, 0]) rfl rfl ?_
  intro h1 b1 o1 x1 _ _
  (conv => whnf)
  refine HCall.mk ((readNum_spec o1.sl (by omega)).mono ?_)
  rintro e0 h' ⟨rfl, he⟩
  rw [show tup (rdn [128, 0] 0 0) = .tuple #[.int .u64 0, .int .i64 0, .int .i64 22] from rfl] at he
  subst he
  (conv => whnf)
  (repeat (first | ((with_reducible refine HSeq.go ?_); conv => whnf) | ((with_reducible refine HMust.mk (by decide) ?_); conv => whnf) | ((with_reducible refine HIf.yes (by first | rfl | assumption | decide) ?_); conv => whnf) | ((with_reducible refine HIf.no (by first | rfl | assumption | decide) ?_); conv => whnf) | ((with_reducible refine HInt.mk _ (wrap_i64 (by omega)) ?_); conv => whnf)))
  refine new_own (e := 5) 1 2 (List.map byteV [172, 2]) rfl rfl ?_
  intro h2 b2 o2 x2 _ _
  (conv => whnf)
  refine HCall.mk ((readNum_spec o2.sl (by omega)).mono ?_)
  rintro e0 h' ⟨rfl, he⟩
  rw [show tup (rdn [172, 2] 0 0) = .tuple #[.int .u64 300, .int .i64 2, .int .i64 0] from rfl] at he
  subst he
  (conv => whnf)
  (repeat (first | ((with_reducible refine HSeq.go ?_); conv => whnf) | ((with_reducible refine HMust.mk (by decide) ?_); conv => whnf) | ((with_reducible refine HIf.yes (by first | rfl | assumption | decide) ?_); conv => whnf) | ((with_reducible refine HIf.no (by first | rfl | assumption | decide) ?_); conv => whnf) | ((with_reducible refine HInt.mk _ (wrap_i64 (by omega)) ?_); conv => whnf)))
  refine HCall.mk ((num_spec 300 (by omega) _).mono ?_)
  rintro e3 h3 ⟨a3, c3, rfl, o3, x3⟩
  rw [leb300] at o3
  rw [show (leb 300).length = 2 by rw [leb300]; rfl]
  (conv => whnf)
  (repeat (first | ((with_reducible refine HSeq.go ?_); conv => whnf) | ((with_reducible refine HMust.mk (by decide) ?_); conv => whnf) | ((with_reducible refine HIf.yes (by first | rfl | assumption | decide) ?_); conv => whnf) | ((with_reducible refine HIf.no (by first | rfl | assumption | decide) ?_); conv => whnf) | ((with_reducible refine HInt.mk _ (wrap_i64 (by omega)) ?_); conv => whnf)))
  refine new_own (e := 5) 1 2 (List.map byteV [172, 2]) rfl rfl ?_
  intro h4 b4 o4 x4 _ _
  (conv => whnf)
  refine HCall.mk ((same_spec (o3.sl.ext x4) o4.sl).mono ?_)
  rintro e0 h' ⟨rfl, he⟩
  rw [beq_self_eq_true] at he
  subst he
  (conv => whnf)
  (repeat (first | ((with_reducible refine HSeq.go ?_); conv => whnf) | ((with_reducible refine HMust.mk (by decide) ?_); conv => whnf) | ((with_reducible refine HIf.yes (by first | rfl | assumption | decide) ?_); conv => whnf) | ((with_reducible refine HIf.no (by first | rfl | assumption | decide) ?_); conv => whnf) | ((with_reducible refine HInt.mk _ (wrap_i64 (by omega)) ?_); conv => whnf)))
  exact ⟨rfl, x1.trans (x2.trans (x3.trans x4))⟩

end Go.Proofs.Ytgmlbaikeepniaa.Hc
