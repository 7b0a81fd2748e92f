import Derived.Test.YtkcnjcdggbifeaaAH
set_option linter.unusedVariables false
set_option linter.unusedSimpArgs false
namespace Go.Proofs.Ytkcnjcdggbifeaa.Hc
open Go Go.H Go.Proofs
set_option maxRecDepth 100000
set_option maxHeartbeats 4000000

/-- A panic with an Errno. -/
def Pan (n : Nat) : Ending := .panicked [{ v := .iface 28 (.int .i64 n), recovered := false }]
theorem must_ok (v : Value) (h : Heap) : HCalls Try.prog 31 #[.bool true, v] h fun e h' => e = .returned (.tuple #[]) ∧ h' = h := by
  refine c31 (by simp) ?_
  ((conv => whnf); (repeat (first | ((with_reducible refine HSeq.go ?_); conv => whnf) | ((with_reducible refine HMust.mk (by decide) ?_); conv => whnf) | ((with_reducible refine HIf.yes (by first | rfl | assumption | decide) ?_); conv => whnf) | ((with_reducible refine HIf.no (by first | rfl | assumption | decide) ?_); conv => whnf) | ((with_reducible refine HInt.mk _ (wrap_i64 (by omega)) ?_); conv => whnf))))
  exact ⟨rfl, rfl⟩
theorem must_no (n : Nat) (h : Heap) : HCalls Try.prog 31 #[.bool false, .int .i64 n] h fun e h' => e = Pan n ∧ h' = h := by
  refine c31 (by simp) ?_
  ((conv => whnf); (repeat (first | ((with_reducible refine HSeq.go ?_); conv => whnf) | ((with_reducible refine HMust.mk (by decide) ?_); conv => whnf) | ((with_reducible refine HIf.yes (by first | rfl | assumption | decide) ?_); conv => whnf) | ((with_reducible refine HIf.no (by first | rfl | assumption | decide) ?_); conv => whnf) | ((with_reducible refine HInt.mk _ (wrap_i64 (by omega)) ?_); conv => whnf))))
  exact ⟨rfl, rfl⟩

theorem kept0 {h h' : Heap} {n c B : Nat} {a : Option Addr} {xs : List Value} (x : Sl h 1 a n c xs) (k : Kept B h h') (hb : ∀ p, a = some p → 0 < n → p.block < B) : Sl h' 1 a n c xs := by
  by_cases hn : 0 < n
  · exact x.kept k fun p ep => hb p ep hn
  · exact ⟨x.1, x.2.1, x.2.2.1, fun p ep i hi => by omega⟩
/-- A reader. -/
def Rdr (h : Heap) (br : Nat) (l : List UInt8) (dp : Nat) : Prop :=
  ∃ a c, BlkW h br 45 [.slice a l.length c, .int .i64 dp] ∧ Sl h 1 a l.length c (l.map byteV) ∧ ∀ p, a = some p → 0 < l.length → p.block < br
theorem drop_sl {h : Heap} {a : Option Addr} {c k : Nat} {l : List UInt8} (x : Sl h 1 a l.length c (l.map byteV)) (hk : k ≤ l.length) :
    Sl h 1 (a.map fun p => movedTo p c k 1) (l.drop k).length (c - k) ((l.drop k).map byteV) := by
  have := x.slice (i := k) (j := l.length) hk (Nat.le_refl _)
  rw [bytesV_slice, List.take_length] at this
  rw [List.length_drop]; exact this
theorem moved_block (p : Addr) (c k s : Nat) : (movedTo p c k s).block = p.block := by unfold movedTo; split <;> simp [add_block]
theorem Rdr.ext {h h' : Heap} {br dp : Nat} {l : List UInt8} (x : Rdr h br l dp) (k : Ext h h') : Rdr h' br l dp := by
  obtain ⟨a, c, h1, h2, h3⟩ := x; exact ⟨a, c, h1.ext k, h2.ext k, h3⟩
theorem Rdr.offk {h h' : Heap} {br dp k : Nat} {l : List UInt8} (x : Rdr h br l dp) (o : Off k h h') (hk : br < k) : Rdr h' br l dp := by
  obtain ⟨a, c, h1, h2, h3⟩ := x
  exact ⟨a, c, h1.offk o (by omega), kept0 h2 (B := br) ⟨o.1, fun b hb => o.2 b (by have := h1.lt; omega) (by omega)⟩ h3, h3⟩
theorem Rdr.agree {h h' : Heap} {br dp : Nat} {l : List UInt8} (x : Rdr h br l dp) (o : Agree (fun b => b ≤ br) h h') (hs : h.size ≤ h'.size) : Rdr h' br l dp := by
  obtain ⟨a, c, h1, h2, h3⟩ := x
  exact ⟨a, c, h1.of (o _ (Nat.le_refl _)), kept0 h2 (B := br) ⟨hs, fun b hb => o b (by omega)⟩ h3, h3⟩

theorem rnumm_spec {h : Heap} {br dp : Nat} {l : List UInt8} (x : Rdr h br l dp) (hl : l.length ≤ 17179869184) :
    HCalls Try.prog 32 #[.pointer (some ⟨br, 0, none⟩)] h fun e h' => Off br h h' ∧ h'.size = h.size ∧ ((rdn l 0 0).2.2 ≠ 0 → e = Pan (rdn l 0 0).2.2) ∧
      ((rdn l 0 0).2.2 = 0 → e = .returned (.int .u64 (rdn l 0 0).1) ∧ Rdr h' br (l.drop (rdn l 0 0).2.1) dp) := by
  obtain ⟨a, c, ob, sl, hp⟩ := x
  have hok := rdn_ok l
  refine c32 (by simp) ?_
  ((conv => whnf); (repeat (first | ((with_reducible refine HSeq.go ?_); conv => whnf) | ((with_reducible refine HMust.mk (by decide) ?_); conv => whnf) | ((with_reducible refine HIf.yes (by first | rfl | assumption | decide) ?_); conv => whnf) | ((with_reducible refine HIf.no (by first | rfl | assumption | decide) ?_); conv => whnf) | ((with_reducible refine HInt.mk _ (wrap_i64 (by omega)) ?_); conv => whnf) | ((refine HMust.mk (by rfl) ?_); conv => whnf) | ((with_reducible refine blk_ld (by assumption) rfl ?_); conv => whnf) | ((with_reducible refine blk_ldN (by assumption) rfl ?_); conv => whnf) | ((with_reducible refine HInt.mk _ (wrap_u64 (by omega)) ?_); conv => whnf) | ((with_reducible refine HInt.mk _ (wrap_u8 (by omega)) ?_); conv => whnf) | ((with_reducible refine HInt.mk _ (wrap_u32 (by omega)) ?_); conv => whnf))))
  refine HCall.mk ((readNum_spec sl (by omega)).mono ?_)
  rintro e h1 ⟨rfl, rfl⟩
  obtain ⟨m, k, er, hr⟩ : ∃ m k er, rdn l 0 0 = (m, k, er) := ⟨_, _, _, rfl⟩
  rw [hr] at hok ⊢
  simp only [tup] at hok ⊢
  ((conv => whnf); (repeat (first | ((with_reducible refine HSeq.go ?_); conv => whnf) | ((with_reducible refine HMust.mk (by decide) ?_); conv => whnf) | ((with_reducible refine HIf.yes (by first | rfl | assumption | decide) ?_); conv => whnf) | ((with_reducible refine HIf.no (by first | rfl | assumption | decide) ?_); conv => whnf) | ((with_reducible refine HInt.mk _ (wrap_i64 (by omega)) ?_); conv => whnf) | ((refine HMust.mk (by rfl) ?_); conv => whnf) | ((with_reducible refine blk_ld (by assumption) rfl ?_); conv => whnf) | ((with_reducible refine blk_ldN (by assumption) rfl ?_); conv => whnf) | ((with_reducible refine HInt.mk _ (wrap_u64 (by omega)) ?_); conv => whnf) | ((with_reducible refine HInt.mk _ (wrap_u8 (by omega)) ?_); conv => whnf) | ((with_reducible refine HInt.mk _ (wrap_u32 (by omega)) ?_); conv => whnf))))
  by_cases he : er = 0
  · subst he
    have hok' : 0 < k ∧ k ≤ l.length ∧ m < 2 ^ 64 := by rcases hok with h | h <;> omega
    refine HCall.to #[.bool true, .int .i64 0] rfl ((must_ok _ h1).mono ?_)
    rintro e h2 ⟨rfl, rfl⟩
    ((conv => whnf); (repeat (first | ((with_reducible refine HSeq.go ?_); conv => whnf) | ((with_reducible refine HMust.mk (by decide) ?_); conv => whnf) | ((with_reducible refine HIf.yes (by first | rfl | assumption | decide) ?_); conv => whnf) | ((with_reducible refine HIf.no (by first | rfl | assumption | decide) ?_); conv => whnf) | ((with_reducible refine HInt.mk _ (wrap_i64 (by omega)) ?_); conv => whnf) | ((refine HMust.mk (by rfl) ?_); conv => whnf) | ((with_reducible refine blk_ld (by assumption) rfl ?_); conv => whnf) | ((with_reducible refine blk_ldN (by assumption) rfl ?_); conv => whnf) | ((with_reducible refine HInt.mk _ (wrap_u64 (by omega)) ?_); conv => whnf) | ((with_reducible refine HInt.mk _ (wrap_u8 (by omega)) ?_); conv => whnf) | ((with_reducible refine HInt.mk _ (wrap_u32 (by omega)) ?_); conv => whnf))))
    refine HBound.mk k rfl (by omega) ?_
    ((conv => whnf); (repeat (first | ((with_reducible refine HSeq.go ?_); conv => whnf) | ((with_reducible refine HMust.mk (by decide) ?_); conv => whnf) | ((with_reducible refine HIf.yes (by first | rfl | assumption | decide) ?_); conv => whnf) | ((with_reducible refine HIf.no (by first | rfl | assumption | decide) ?_); conv => whnf) | ((with_reducible refine HInt.mk _ (wrap_i64 (by omega)) ?_); conv => whnf) | ((refine HMust.mk (by rfl) ?_); conv => whnf) | ((with_reducible refine blk_ld (by assumption) rfl ?_); conv => whnf) | ((with_reducible refine blk_ldN (by assumption) rfl ?_); conv => whnf) | ((with_reducible refine HInt.mk _ (wrap_u64 (by omega)) ?_); conv => whnf) | ((with_reducible refine HInt.mk _ (wrap_u8 (by omega)) ?_); conv => whnf) | ((with_reducible refine HInt.mk _ (wrap_u32 (by omega)) ?_); conv => whnf))))
    refine store1_blk (o := 0) ob (by simp) rfl ?_
    intro h3 f3 z3 o3
    ((conv => whnf); (repeat (first | ((with_reducible refine HSeq.go ?_); conv => whnf) | ((with_reducible refine HMust.mk (by decide) ?_); conv => whnf) | ((with_reducible refine HIf.yes (by first | rfl | assumption | decide) ?_); conv => whnf) | ((with_reducible refine HIf.no (by first | rfl | assumption | decide) ?_); conv => whnf) | ((with_reducible refine HInt.mk _ (wrap_i64 (by omega)) ?_); conv => whnf) | ((refine HMust.mk (by rfl) ?_); conv => whnf) | ((with_reducible refine blk_ld (by assumption) rfl ?_); conv => whnf) | ((with_reducible refine blk_ldN (by assumption) rfl ?_); conv => whnf) | ((with_reducible refine HInt.mk _ (wrap_u64 (by omega)) ?_); conv => whnf) | ((with_reducible refine HInt.mk _ (wrap_u8 (by omega)) ?_); conv => whnf) | ((with_reducible refine HInt.mk _ (wrap_u32 (by omega)) ?_); conv => whnf))))
    have sd := kept0 (drop_sl sl hok'.2.1) (B := br) (f3.kept (Nat.le_refl _) (by have := ob.lt; omega)) (fun p ep hn => by
      cases a with
      | none => cases ep
      | some q => cases ep; rw [moved_block]; exact hp q rfl (by rw [List.length_drop] at hn; omega))
    refine ⟨f3, z3, fun h => absurd rfl h, fun _ => ⟨rfl, _, _, ?_, sd, ?_⟩⟩
    · rw [List.length_drop]; exact o3
    · intro p ep hn
      cases a with
      | none => cases ep
      | some q => cases ep; rw [moved_block]; exact hp q rfl (by rw [List.length_drop] at hn; omega)
  · have hq : ((er : Int) == 0) = false := by rw [beq_eq_false_iff_ne]; omega
    refine HCall.to #[.bool false, .int .i64 er] (by show #[Value.bool ((er : Int) == 0), _] = _; rw [hq]; rfl) ((must_no er h1).mono ?_)
    rintro e h2 ⟨rfl, rfl⟩
    ((conv => whnf); (repeat (first | ((with_reducible refine HSeq.go ?_); conv => whnf) | ((with_reducible refine HMust.mk (by decide) ?_); conv => whnf) | ((with_reducible refine HIf.yes (by first | rfl | assumption | decide) ?_); conv => whnf) | ((with_reducible refine HIf.no (by first | rfl | assumption | decide) ?_); conv => whnf) | ((with_reducible refine HInt.mk _ (wrap_i64 (by omega)) ?_); conv => whnf) | ((refine HMust.mk (by rfl) ?_); conv => whnf) | ((with_reducible refine blk_ld (by assumption) rfl ?_); conv => whnf) | ((with_reducible refine blk_ldN (by assumption) rfl ?_); conv => whnf) | ((with_reducible refine HInt.mk _ (wrap_u64 (by omega)) ?_); conv => whnf) | ((with_reducible refine HInt.mk _ (wrap_u8 (by omega)) ?_); conv => whnf) | ((with_reducible refine HInt.mk _ (wrap_u32 (by omega)) ?_); conv => whnf))))
    exact ⟨⟨Nat.le_refl _, fun _ _ _ => rfl⟩, rfl, fun _ => rfl, fun h => absurd h he⟩

end Go.Proofs.Ytkcnjcdggbifeaa.Hc
