import Derived.Test.YtgmlbaikeepniaaO5
set_option linter.unusedVariables false
set_option linter.unusedSimpArgs false
namespace Go.Proofs.Ytgmlbaikeepniaa.Hc
open Go Go.H Go.Proofs
set_option maxRecDepth 100000

theorem leb_mono : ∀ (n m : Nat), n ≤ m → (leb n).length ≤ (leb m).length := by
  intro n
  induction n using Nat.strongRecOn with
  | ind n ih =>
    intro m hm
    by_cases h1 : n < 128
    · rw [leb_small h1]
      by_cases h2 : m < 128
      · rw [leb_small h2]; simp
      · rw [leb_big h2]; simp
    · rw [leb_big h1, leb_big (by omega : ¬ m < 128)]
      simp only [List.length_cons]
      have := ih (n / 128) (by omega) (m / 128) (Nat.div_le_div_right hm)
      omega
theorem leb_pos (n : Nat) : 1 ≤ (leb n).length := by
  by_cases h1 : n < 128
  · rw [leb_small h1]; simp
  · rw [leb_big h1]; simp
theorem wf_u64 {a : Int} (w : (Lit.int .u64 a).wf = true) : ∃ n : Nat, a = n ∧ n < 2 ^ 64 := by
  have : 0 ≤ a ∧ a ≤ 18446744073709551615 := by simpa [Lit.wf, IntKind.min, IntKind.max, IntKind.signed, IntKind.bits] using w
  exact ⟨a.toNat, by omega, by omega⟩
theorem wf_i64 {a : Int} (w : (Lit.int .i64 a).wf = true) : -9223372036854775808 ≤ a ∧ a ≤ 9223372036854775807 := by
  simpa [Lit.wf, IntKind.min, IntKind.max, IntKind.signed, IntKind.bits] using w

theorem octetsOrder_spec (a : Int) (wa : (Lit.int .u64 a).wf = true) (b : Int) (wb : (Lit.int .u64 b).wf = true) {h : Heap} :
    HCalls Try.prog 3 #[.int .u64 a, .int .u64 b] h fun e h' => e = .returned (.bool true) ∧ Ext h h' := by
  obtain ⟨n, rfl, hn⟩ := wf_u64 wa
  obtain ⟨m, rfl, hm⟩ := wf_u64 wb
  refine c3 (by simp) ?_
  (conv => whnf)
  (repeat (first | ((with_reducible refine HSeq.go ?_); conv => whnf) | ((with_reducible refine HMust.mk (by decide) ?_); conv => whnf) | ((with_reducible refine HIf.yes (by first | rfl | assumption | decide) ?_); conv => whnf) | ((with_reducible refine HIf.no (by first | rfl | assumption | decide) ?_); conv => whnf) | ((with_reducible refine HInt.mk _ (wrap_i64 (by omega)) ?_); conv => whnf)))
  refine HCall.mk ((live_spec h).mono ?_)
  rintro e h1 ⟨rfl, x1⟩
  (conv => whnf)
  have e1 : (if (m : Int) < (n : Int) then (m : Int) else (n : Int)) = ((min m n : Nat) : Int) := by split <;> omega
  have e2 : (if (m : Int) > (n : Int) then (m : Int) else (n : Int)) = ((max m n : Nat) : Int) := by split <;> omega
  rw [e1]
  refine HCall.mk ((num_spec (min m n) (by omega) _).mono ?_)
  rintro e h2 ⟨a2, c2, rfl, o2, x2⟩
  (conv => whnf)
  rw [e2]
  refine HCall.mk ((num_spec (max m n) (by omega) _).mono ?_)
  rintro e h3 ⟨a3, c3, rfl, o3, x3⟩
  (conv => whnf)
  have l1 := leb_pos (min m n)
  have l2 := leb_mono (min m n) (max m n) (by omega)
  have l3 := leb_len (max m n) (by omega)
  have f1 : decide (((leb (min m n)).length : Int) ≥ 1) = true := decide_eq_true (by omega)
  have f2 : decide (((leb (min m n)).length : Int) ≤ ((leb (max m n)).length : Int)) = true := decide_eq_true (by omega)
  have f3 : decide (((leb (max m n)).length : Int) ≤ 10) = true := decide_eq_true (by omega)
  (repeat (first | ((with_reducible refine HSeq.go ?_); conv => whnf) | ((with_reducible refine HMust.mk (by decide) ?_); conv => whnf) | ((with_reducible refine HIf.yes (by first | rfl | assumption | decide) ?_); conv => whnf) | ((with_reducible refine HIf.no (by first | rfl | assumption | decide) ?_); conv => whnf) | ((with_reducible refine HInt.mk _ (wrap_i64 (by omega)) ?_); conv => whnf)))
  exact ⟨by rw [← f3]; rfl, x1.trans (x2.trans x3)⟩

theorem octetsWrite_spec (a : Int) (wa : (Lit.int .u64 a).wf = true) (s : ByteArray) (ws : s.size ≤ 140737488351232) {h : Heap} :
    HCalls Try.prog 4 #[.int .u64 a, .string s] h fun e h' => e = .returned (.bool true) ∧ Ext h h' := by
  obtain ⟨n, rfl, hn⟩ := wf_u64 wa
  refine c4 (by simp) ?_
  (conv => whnf)
  (repeat (first | ((with_reducible refine HSeq.go ?_); conv => whnf) | ((with_reducible refine HMust.mk (by decide) ?_); conv => whnf) | ((with_reducible refine HIf.yes (by first | rfl | assumption | decide) ?_); conv => whnf) | ((with_reducible refine HIf.no (by first | rfl | assumption | decide) ?_); conv => whnf) | ((with_reducible refine HInt.mk _ (wrap_i64 (by omega)) ?_); conv => whnf)))
  refine HCall.mk ((live_spec h).mono ?_)
  rintro e h1 ⟨rfl, x1⟩
  (conv => whnf)
  (repeat (first | ((with_reducible refine HSeq.go ?_); conv => whnf) | ((with_reducible refine HMust.mk (by decide) ?_); conv => whnf) | ((with_reducible refine HIf.yes (by first | rfl | assumption | decide) ?_); conv => whnf) | ((with_reducible refine HIf.no (by first | rfl | assumption | decide) ?_); conv => whnf) | ((with_reducible refine HInt.mk _ (wrap_i64 (by omega)) ?_); conv => whnf)))
  refine HCall.mk ((num_spec n hn _).mono ?_)
  rintro e h2 ⟨a2, c2, rfl, o2, x2⟩
  (conv => whnf)
  (repeat (first | ((with_reducible refine HSeq.go ?_); conv => whnf) | ((with_reducible refine HMust.mk (by decide) ?_); conv => whnf) | ((with_reducible refine HIf.yes (by first | rfl | assumption | decide) ?_); conv => whnf) | ((with_reducible refine HIf.no (by first | rfl | assumption | decide) ?_); conv => whnf) | ((with_reducible refine HInt.mk _ (wrap_i64 (by omega)) ?_); conv => whnf)))
  refine HCall.mk ((rnum_spec n hn _).mono ?_)
  rintro e h3 ⟨a3, c3, rfl, o3, x3⟩
  (conv => whnf)
  (repeat (first | ((with_reducible refine HSeq.go ?_); conv => whnf) | ((with_reducible refine HMust.mk (by decide) ?_); conv => whnf) | ((with_reducible refine HIf.yes (by first | rfl | assumption | decide) ?_); conv => whnf) | ((with_reducible refine HIf.no (by first | rfl | assumption | decide) ?_); conv => whnf) | ((with_reducible refine HInt.mk _ (wrap_i64 (by omega)) ?_); conv => whnf)))
  refine HCall.mk ((same_spec (o2.sl.ext x3) o3.sl).mono ?_)
  rintro e h' ⟨rfl, he⟩
  rw [beq_self_eq_true] at he
  subst he
  (conv => whnf)
  (repeat (first | ((with_reducible refine HSeq.go ?_); conv => whnf) | ((with_reducible refine HMust.mk (by decide) ?_); conv => whnf) | ((with_reducible refine HIf.yes (by first | rfl | assumption | decide) ?_); conv => whnf) | ((with_reducible refine HIf.no (by first | rfl | assumption | decide) ?_); conv => whnf) | ((with_reducible refine HInt.mk _ (wrap_i64 (by omega)) ?_); conv => whnf)))
  refine HCall.mk ((text_spec s ws _).mono ?_)
  rintro e h4 ⟨a4, c4, rfl, o4, x4⟩
  (conv => whnf)
  (repeat (first | ((with_reducible refine HSeq.go ?_); conv => whnf) | ((with_reducible refine HMust.mk (by decide) ?_); conv => whnf) | ((with_reducible refine HIf.yes (by first | rfl | assumption | decide) ?_); conv => whnf) | ((with_reducible refine HIf.no (by first | rfl | assumption | decide) ?_); conv => whnf) | ((with_reducible refine HInt.mk _ (wrap_i64 (by omega)) ?_); conv => whnf)))
  refine HCall.mk ((rtext_spec s ws _).mono ?_)
  rintro e h5 ⟨a5, c5, rfl, o5, x5⟩
  (conv => whnf)
  (repeat (first | ((with_reducible refine HSeq.go ?_); conv => whnf) | ((with_reducible refine HMust.mk (by decide) ?_); conv => whnf) | ((with_reducible refine HIf.yes (by first | rfl | assumption | decide) ?_); conv => whnf) | ((with_reducible refine HIf.no (by first | rfl | assumption | decide) ?_); conv => whnf) | ((with_reducible refine HInt.mk _ (wrap_i64 (by omega)) ?_); conv => whnf)))
  refine HCall.mk ((same_spec (o4.sl.ext x5) o5.sl).mono ?_)
  rintro e h' ⟨rfl, he⟩
  rw [beq_self_eq_true] at he
  subst he
  (conv => whnf)
  (repeat (first | ((with_reducible refine HSeq.go ?_); conv => whnf) | ((with_reducible refine HMust.mk (by decide) ?_); conv => whnf) | ((with_reducible refine HIf.yes (by first | rfl | assumption | decide) ?_); conv => whnf) | ((with_reducible refine HIf.no (by first | rfl | assumption | decide) ?_); conv => whnf) | ((with_reducible refine HInt.mk _ (wrap_i64 (by omega)) ?_); conv => whnf)))
  exact ⟨rfl, x1.trans (x2.trans (x3.trans (x4.trans x5)))⟩

theorem octetsRead_spec {a : Option Addr} {n c : Nat} {l : List UInt8} {h : Heap} (x : Sl h 1 a n c (l.map byteV)) (hn : n * 1 ≤ 140737488351232) (most : Int) (wm : (Lit.int .i64 most).wf = true) :
    HCalls Try.prog 5 #[.slice a n c, .int .i64 most] h fun e h' => e = .returned (.bool true) ∧ Ext h h' := by
  have hm := wf_i64 wm
  refine c5 (by simp) ?_
  (conv => whnf)
  (repeat (first | ((with_reducible refine HSeq.go ?_); conv => whnf) | ((with_reducible refine HMust.mk (by decide) ?_); conv => whnf) | ((with_reducible refine HIf.yes (by first | rfl | assumption | decide) ?_); conv => whnf) | ((with_reducible refine HIf.no (by first | rfl | assumption | decide) ?_); conv => whnf) | ((with_reducible refine HInt.mk _ (wrap_i64 (by omega)) ?_); conv => whnf)))
  refine HCall.mk ((readNum_spec x (by omega)).mono ?_)
  rintro e h1 ⟨rfl, rfl⟩
  (conv => whnf)
  (repeat (first | ((with_reducible refine HSeq.go ?_); conv => whnf) | ((with_reducible refine HMust.mk (by decide) ?_); conv => whnf) | ((with_reducible refine HIf.yes (by first | rfl | assumption | decide) ?_); conv => whnf) | ((with_reducible refine HIf.no (by first | rfl | assumption | decide) ?_); conv => whnf) | ((with_reducible refine HInt.mk _ (wrap_i64 (by omega)) ?_); conv => whnf)))
  refine HCall.mk ((rreadNum_spec x (by omega)).mono ?_)
  rintro e h2 ⟨rfl, rfl⟩
  (conv => whnf)
  (repeat (first | ((with_reducible refine HSeq.go ?_); conv => whnf) | ((with_reducible refine HMust.mk (by decide) ?_); conv => whnf) | ((with_reducible refine HIf.yes (by first | rfl | assumption | decide) ?_); conv => whnf) | ((with_reducible refine HIf.no (by first | rfl | assumption | decide) ?_); conv => whnf) | ((with_reducible refine HInt.mk _ (wrap_i64 (by omega)) ?_); conv => whnf)))
  refine HCall.mk ((readText_spec x (by omega) most hm).mono ?_)
  rintro e h3 ⟨rfl, rfl⟩
  (conv => whnf)
  (repeat (first | ((with_reducible refine HSeq.go ?_); conv => whnf) | ((with_reducible refine HMust.mk (by decide) ?_); conv => whnf) | ((with_reducible refine HIf.yes (by first | rfl | assumption | decide) ?_); conv => whnf) | ((with_reducible refine HIf.no (by first | rfl | assumption | decide) ?_); conv => whnf) | ((with_reducible refine HInt.mk _ (wrap_i64 (by omega)) ?_); conv => whnf)))
  refine HCall.mk ((rreadText_spec x (by omega) most hm).mono ?_)
  rintro e h4 ⟨rfl, rfl⟩
  (conv => whnf)
  (repeat (first | ((with_reducible refine HSeq.go ?_); conv => whnf) | ((with_reducible refine HMust.mk (by decide) ?_); conv => whnf) | ((with_reducible refine HIf.yes (by first | rfl | assumption | decide) ?_); conv => whnf) | ((with_reducible refine HIf.no (by first | rfl | assumption | decide) ?_); conv => whnf) | ((with_reducible refine HInt.mk _ (wrap_i64 (by omega)) ?_); conv => whnf)))
  refine HCall.mk ((live_spec _).mono ?_)
  rintro e h5 ⟨rfl, x5⟩
  generalize rdn l 0 0 = r
  generalize rdt l most = t
  obtain ⟨r1, r2, r3⟩ := r
  obtain ⟨t1, t2, t3⟩ := t
  (conv => whnf)
  have f1 : ∀ k : Int, (k == k) = true := fun k => beq_self_eq_true k
  have f2 : strEq ⟨t1.toArray⟩ ⟨t1.toArray⟩ = true := by rw [strEq_list]; exact beq_self_eq_true _
  have g1 := f1 (r1 : Int); have g2 := f1 (r2 : Int); have g3 := f1 (r3 : Int); have g4 := f1 (t2 : Int); have g5 := f1 (t3 : Int)
  (repeat (first | ((with_reducible refine HSeq.go ?_); conv => whnf) | ((with_reducible refine HMust.mk (by decide) ?_); conv => whnf) | ((with_reducible refine HIf.yes (by first | rfl | assumption | decide) ?_); conv => whnf) | ((with_reducible refine HIf.no (by first | rfl | assumption | decide) ?_); conv => whnf) | ((with_reducible refine HInt.mk _ (wrap_i64 (by omega)) ?_); conv => whnf)))
  exact ⟨by rw [← g5]; rfl, x5⟩

end Go.Proofs.Ytgmlbaikeepniaa.Hc
