import Derived.Test.YtgmlbaikeepniaaC0
import Derived.Lib.Bytealg
set_option linter.unusedVariables false
set_option linter.unusedSimpArgs false
namespace Go.Proofs.Ytgmlbaikeepniaa.Hc
open Go Go.H Go.Proofs
set_option maxRecDepth 100000

/-- A number's bytes. -/
def leb (n : Nat) : List UInt8 := if n < 128 then [UInt8.ofNat n] else UInt8.ofNat (n % 128 + 128) :: leb (n / 128)
theorem leb_small {n : Nat} (h : n < 128) : leb n = [UInt8.ofNat n] := by rw [leb, if_pos h]
theorem leb_big {n : Nat} (h : ¬ n < 128) : leb n = UInt8.ofNat (n % 128 + 128) :: leb (n / 128) := by rw [leb, if_neg h]
theorem or128 (n : Nat) : ibits .or .u8 ((n % 256 : Nat) : Int) 128 = ((n % 128 + 128 : Nat) : Int) := by
  have h0 : ∀ m : Fin 256, ibits .or .u8 (m.val : Int) 128 = ((m.val % 128 + 128 : Nat) : Int) := by decide +kernel
  have h1 := h0 ⟨n % 256, by omega⟩
  rw [h1]; congr 1; simp only; omega
theorem fdiv128 (n : Nat) : ((n : Int).fdiv (2 ^ (min (Int.toNat 7) (IntKind.bits .u64)))) = ((n / 128 : Nat) : Int) := by
  show (n : Int).fdiv 128 = _
  rw [Int.fdiv_eq_ediv_of_nonneg _ (by omega)]; rfl

theorem num_spec (n : Nat) (hn : n < 2^64) (h : Heap) : HCalls Try.prog 11 #[.int .u64 n] h fun e h' => ∃ a c, e = .returned (.slice a (leb n).length c) ∧ Own h' h.size 5 1 a (leb n).length c ((leb n).map byteV) ∧ Ext h h' := by
  refine c11 (by simp) ?_
  (conv => whnf)
  (refine HSeq.go ?_; conv => whnf)
  refine loop_rule [0, 3] (fun vs h' => ∃ (m : Nat) (l : List UInt8) (a : Option Addr) (c : Nat), vs = [.int .u64 m, .slice a l.length c] ∧ m < 2^64 ∧ l ++ leb m = leb n ∧ l.length ≤ 10 ∧ m * 128 ^ l.length < 2^64 ∧ Own h' h.size 5 1 a l.length c (l.map byteV) ∧ Ext h h') (fun vs _ => match vs with | (.int _ m) :: _ => m.toNat | _ => 0) rfl ?_ ?_
  · exact ⟨n, [], none, 0, rfl, hn, rfl, by simp, by simpa using hn, Own.nil _ _ _ _, Ext.refl _⟩
  · intro u h' v0 v3
    rintro ⟨m, l, a, c, e, hm, hl, h10, hp, ho, hx⟩
    cases e
    have hs := hx.1
    (conv => whnf)
    (refine HSeq.go ?_; conv => whnf)
    refine HIf.mk (fun hb => ?_) (fun hb => ?_)
    · simp only [decide_eq_true_eq] at hb
      (conv => whnf)
      (refine HSeq.go ?_; conv => whnf)
      refine HInt.mk _ wrap_u8' ?_
      (conv => whnf)
      refine new_own 1 1 [.int .u8 (ibits .or .u8 ((m : Int) % 256) 128)] rfl rfl ?_
      intro h1 b1 o1 x1 z1 _
      (conv => whnf)
      refine o1.sl.cells ?_
      refine (ho.ext x1).append (m := 1) (by omega) rfl rfl (by simp [isOne]) (by omega) ?_
      intro h2 a2 c2 o2 k2 _ _
      (conv => whnf)
      refine HMust.mk (by decide) ?_
      (conv => whnf)
      have e1 : ibits .or .u8 ((m : Int) % 256) 128 = (((UInt8.ofNat (m % 128 + 128)).toNat : Nat) : Int) := by
        rw [show ((m : Int) % 256) = ((m % 256 : Nat) : Int) by omega, or128]; congr 1; simp; omega
      refine ⟨⟨m / 128, l ++ [UInt8.ofNat (m % 128 + 128)], a2, c2, ?_, by omega, ?_, ?_, ?_, ?_, ?_⟩, ?_⟩
      · show [Value.int .u64 ((m : Int).fdiv (2 ^ min (Int.toNat 7) (IntKind.bits .u64))), Value.slice a2 (l.length + 1) c2] = _
        rw [fdiv128]; simp
      · rw [List.append_assoc, List.singleton_append, ← leb_big (by omega)]; exact hl
      · simp; have : 2 ^ 64 ≤ 128 ^ 10 := by decide
        rcases Nat.lt_or_ge l.length 10 with h1 | h1
        · omega
        · have : l.length = 10 := by omega
          rw [this] at hp
          have : 1 * 128 ^ 10 ≤ m * 128 ^ 10 := Nat.mul_le_mul_right _ (by omega)
          omega
      · simp only [List.length_append, List.length_singleton, Nat.pow_succ]
        have : m / 128 * (128 ^ l.length * 128) ≤ m * 128 ^ l.length := by
          rw [Nat.mul_comm (128 ^ l.length), ← Nat.mul_assoc]; exact Nat.mul_le_mul_right _ (Nat.div_mul_le_self m 128)
        omega
      · have := o2
        rw [e1] at this
        simpa [byteV] using this
      · exact (hx.trans x1).keep k2
      · show (((m : Int).fdiv (2 ^ min (Int.toNat 7) (IntKind.bits .u64)))).toNat < ((m : Int)).toNat
        rw [fdiv128]; omega
    · simp only [decide_eq_false_iff_not] at hb
      (conv => whnf)
      refine HInt.mk _ wrap_u8' ?_
      (conv => whnf)
      refine new_own 1 1 [.int .u8 ((m : Int) % 256)] rfl rfl ?_
      intro h1 b1 o1 x1 z1 _
      (conv => whnf)
      refine o1.sl.cells ?_
      refine (ho.ext x1).append (m := 1) (by omega) rfl rfl (by simp [isOne]) (by omega) ?_
      intro h2 a2 c2 o2 k2 _ _
      (conv => whnf)
      have hm2 : m < 128 := by omega
      have e1 : (m : Int) % 256 = (((UInt8.ofNat m).toNat : Nat) : Int) := by simp
      rw [leb_small hm2] at hl
      have hlen : (leb n).length = l.length + 1 := by rw [← hl]; simp
      refine ⟨a2, c2, by rw [hlen]; rfl, ?_, (hx.trans x1).keep k2⟩
      rw [hlen, ← hl]
      have := o2
      rw [e1] at this
      simpa [byteV] using this
end Go.Proofs.Ytgmlbaikeepniaa.Hc
