import Derived.Test.YtgmlbaikeepniaaO1
import Derived.Lib.Strings
set_option linter.unusedVariables false
set_option linter.unusedSimpArgs false
namespace Go.Proofs.Ytgmlbaikeepniaa.Hc
open Go Go.H Go.Proofs
set_option maxRecDepth 100000

theorem leb_len (n : Nat) (h : n < 2 ^ 64) : (leb n).length ≤ 10 := by
  have key : ∀ (k n : Nat), n < 128 ^ (k + 1) → (leb n).length ≤ k + 1 := by
    intro k
    induction k with
    | zero => intro n hn; rw [leb_small (by simpa using hn)]; simp
    | succ k ih =>
      intro n hn
      by_cases h1 : n < 128
      · rw [leb_small h1]; simp
      · rw [leb_big h1]; simp only [List.length_cons]
        have := ih (n / 128) (by rw [Nat.div_lt_iff_lt_mul (by omega)]; rw [Nat.pow_succ] at hn; exact hn)
        omega
  exact key 9 n (by have : (2:Nat)^64 ≤ 128^10 := by decide
                    omega)

theorem byteV_ofNat (n : Nat) : byteV (UInt8.ofNat n) = .int .u8 ((n % 256 : Nat) : Int) := by simp [byteV]
theorem strEq_list (l m : List UInt8) : strEq ⟨l.toArray⟩ ⟨m.toArray⟩ = (l == m) := by
  have e : ∀ l : List UInt8, (⟨l.toArray⟩ : ByteArray).toList = l := fun l => by rw [Go.Lib.toList_data]
  unfold strEq; rw [e, e]

theorem same_spec {a b : Option Addr} {n m c d : Nat} {l k : List UInt8} {h : Heap} (x : Sl h 1 a n c (l.map byteV)) (y : Sl h 1 b m d (k.map byteV)) :
    HCalls Try.prog 12 #[.slice a n c, .slice b m d] h fun e h' => h' = h ∧ e = .returned (.bool (l == k)) := by
  refine c12 (by simp) ?_
  (conv => whnf)
  refine x.bytes ?_
  (conv => whnf)
  refine y.bytes ?_
  (conv => whnf)
  exact ⟨rfl, by rw [← strEq_list]; rfl⟩

theorem rnum_spec (n : Nat) : ∀ (_ : n < 2^64) (h : Heap), HCalls Try.prog 13 #[.int .u64 n] h fun e h' => ∃ a c, e = .returned (.slice a (leb n).length c) ∧ Own h' h.size 5 1 a (leb n).length c ((leb n).map byteV) ∧ Ext h h' := by
  induction n using Nat.strongRecOn with
  | ind n ih =>
    intro hn h
    have hlen := leb_len n hn
    refine c13 (by simp) ?_
    (conv => whnf)
    (refine HSeq.go ?_; conv => whnf)
    refine HIf.mk (fun hb => ?_) (fun hb => ?_)
    · have hb' : n < 128 := by have := of_decide_eq_true hb; omega
      (conv => whnf)
      refine HInt.mk _ wrap_u8' ?_
      (conv => whnf)
      (repeat (first | ((with_reducible refine HSeq.go ?_); conv => whnf) | ((with_reducible refine HMust.mk (by decide) ?_); conv => whnf) | ((with_reducible refine HIf.yes (by first | rfl | assumption | decide) ?_); conv => whnf) | ((with_reducible refine HIf.no (by first | rfl | assumption | decide) ?_); conv => whnf) | ((with_reducible refine HInt.mk _ (wrap_i64 (by omega)) ?_); conv => whnf)))
      refine new_own (e := 5) 1 1 [byteV (UInt8.ofNat n)] (by rw [byteV_ofNat]; rfl) rfl ?_
      intro h1 b1 o1 x1 z1 _
      (conv => whnf)
      rw [leb_small hb']
      exact ⟨some ⟨b1, 0, none⟩, 1, rfl, o1, x1⟩
    · have hb' : ¬ n < 128 := by have := of_decide_eq_false hb; omega
      (conv => whnf)
      refine HMust.mk (by decide) ?_
      (conv => whnf)
      refine HInt.mk ((n % 128 + 128 : Nat) : Int) (by rw [show (n : Int).tmod 128 = ((n % 128 : Nat) : Int) from rfl]; exact wrap_u64 (by omega)) ?_
      (conv => whnf)
      refine HInt.mk _ (wrap_u8 (by omega)) ?_
      (conv => whnf)
      (repeat (first | ((with_reducible refine HSeq.go ?_); conv => whnf) | ((with_reducible refine HMust.mk (by decide) ?_); conv => whnf) | ((with_reducible refine HIf.yes (by first | rfl | assumption | decide) ?_); conv => whnf) | ((with_reducible refine HIf.no (by first | rfl | assumption | decide) ?_); conv => whnf) | ((with_reducible refine HInt.mk _ (wrap_i64 (by omega)) ?_); conv => whnf)))
      refine new_own (e := 5) 1 1 [byteV (UInt8.ofNat (n % 128 + 128))] (by rw [byteV_ofNat, show (n % 128 + 128) % 256 = n % 128 + 128 by omega]) rfl ?_
      intro h1 b1 o1 x1 z1 _
      (conv => whnf)
      refine HMust.mk (by decide) ?_
      (conv => whnf)
      refine HInt.mk ((n / 128 : Nat) : Int) (by rw [show (n : Int).tdiv 128 = ((n / 128 : Nat) : Int) from rfl]; exact wrap_u64 (by omega)) ?_
      (conv => whnf)
      refine HCall.mk ((ih (n / 128) (by omega) (by omega) h1).mono ?_)
      rintro e h2 ⟨a2, c2, rfl, o2, x2⟩
      (conv => whnf)
      refine o2.sl.cells ?_
      rw [leb_big hb'] at hlen ⊢
      simp only [List.length_cons] at hlen
      refine (o1.ext x2).append (m := (leb (n / 128)).length) (by have := x1.1; have := x2.1; omega) rfl (by simp) bytesV_one (by omega) ?_
      intro h3 a3 c3 o3 k3 _ _
      (conv => whnf)
      refine ⟨a3, c3, ?_, ?_, (x1.trans x2).keep k3⟩
      · show Ending.returned (.slice a3 (1 + (leb (n / 128)).length) c3) = _
        simp only [List.length_cons, Nat.add_comm]
      · simpa [Nat.add_comm] using o3

theorem text_spec (s : ByteArray) (hs : s.size ≤ 140737488351232) (h : Heap) : HCalls Try.prog 14 #[.string s] h fun e h' => ∃ a c, e = .returned (.slice a ((leb s.size).length + s.size) c) ∧
    Own h' h.size 5 1 a ((leb s.size).length + s.size) c ((leb s.size ++ s.data.toList).map byteV) ∧ Ext h h' := by
  have hlen := leb_len s.size (by omega)
  refine c14 (by simp) ?_
  (conv => whnf)
  refine HInt.mk _ (wrap_u64 (by omega)) ?_
  (conv => whnf)
  refine HCall.mk ((num_spec s.size (by omega) h).mono ?_)
  rintro e h2 ⟨a2, c2, rfl, o2, x2⟩
  (conv => whnf)
  refine o2.append (m := s.size) x2.1 rfl (by simp) bytesV_one (by omega) ?_
  intro h3 a3 c3 o3 k3 _ _
  (conv => whnf)
  refine ⟨a3, c3, rfl, by rw [List.map_append]; exact o3, x2.keep k3⟩

theorem rtext_spec (s : ByteArray) (hs : s.size ≤ 140737488351232) (h : Heap) : HCalls Try.prog 15 #[.string s] h fun e h' => ∃ a c, e = .returned (.slice a ((leb s.size).length + s.size) c) ∧
    Own h' h.size 5 1 a ((leb s.size).length + s.size) c ((leb s.size ++ s.data.toList).map byteV) ∧ Ext h h' := by
  have hlen := leb_len s.size (by omega)
  refine c15 (by simp) ?_
  (conv => whnf)
  refine HInt.mk _ (wrap_u64 (by omega)) ?_
  (conv => whnf)
  refine HCall.mk ((rnum_spec s.size (by omega) h).mono ?_)
  rintro e h2 ⟨a2, c2, rfl, o2, x2⟩
  (conv => whnf)
  refine o2.append (m := s.size) x2.1 rfl (by simp) bytesV_one (by omega) ?_
  intro h3 a3 c3 o3 k3 _ _
  (conv => whnf)
  refine ⟨a3, c3, rfl, by rw [List.map_append]; exact o3, x2.keep k3⟩

end Go.Proofs.Ytgmlbaikeepniaa.Hc
