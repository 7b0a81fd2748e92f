import Derived.Test.YtkcnjcdggbifeaaAE
set_option linter.unusedVariables false
set_option linter.unusedSimpArgs false
namespace Go.Proofs.Ytkcnjcdggbifeaa.Hc
open Go Go.H Go.Proofs
set_option maxRecDepth 100000
set_option maxHeartbeats 4000000

def WriteSpec (t : DT) : Prop := ∀ (h : Heap) (cs : List Value), Rep h t cs → may t → vol t ≤ 1073741824 →
    HCalls Try.prog 20 #[.agg cs.toArray] h fun e h' => ∃ a' c', e = .returned (.slice a' (enc t).length c') ∧ Own h' h.size 5 1 a' (enc t).length c' ((enc t).map byteV) ∧ Ext h h'

theorem write_small (t : DT) (hk : ¬ (t.kind = 5 ∨ t.kind = 6)) : WriteSpec t := by
  intro h cs ra hmay hvol
  have hle := enc_le hvol hmay
  obtain ⟨k1, n1, s1, ks1, l1⟩ := t
  simp only [DT.kind] at hk
  simp only [Rep] at ra
  obtain ⟨a1, a2, a3, a4, a5, a6, ka, kc, la, lc, xs, rfl, a7, a8, a9⟩ := ra
  have hkl := kvol_len ks1
  have hvl := vols_len l1
  simp only [may] at hmay
  obtain ⟨own1, hms⟩ := hmay
  simp only [vol] at hvol
  refine c20 (by simp) ?_
  (conv => whnf)
  refine new_var (e := 25) [.int .i64 k1, .int .i64 n1, .string s1, .slice ka ks1.length kc, .slice la l1.length lc] rfl ?_
  intro h1 bx ox x1 z1 hbx
  unfold Own1 at own1
  rcases own1 with ⟨rfl | rfl, rfl, rfl, rfl, rfl⟩ | ⟨rfl, hn, rfl, rfl, rfl⟩ | ⟨rfl, hn, rfl, rfl, rfl⟩ | ⟨rfl, rfl, hs, rfl, rfl⟩ | ⟨rfl, _⟩ | ⟨rfl, _⟩
  · ((conv => whnf); (repeat (first | ((with_reducible refine HSeq.go ?_); conv => whnf) | ((with_reducible refine HMust.mk (by decide) ?_); conv => whnf) | ((with_reducible refine HIf.yes (by first | rfl | assumption | decide) ?_); conv => whnf) | ((with_reducible refine HIf.no (by first | rfl | assumption | decide) ?_); conv => whnf) | ((with_reducible refine HInt.mk _ (wrap_i64 (by omega)) ?_); conv => whnf) | ((refine HMust.mk (by rfl) ?_); conv => whnf) | ((with_reducible refine blk_ld (by assumption) rfl ?_); conv => whnf) | ((with_reducible refine blk_ldN (by assumption) rfl ?_); conv => whnf) | ((with_reducible refine HInt.mk _ (wrap_u64 (by omega)) ?_); conv => whnf) | ((with_reducible refine HInt.mk _ (wrap_u8 (by omega)) ?_); conv => whnf) | ((with_reducible refine HInt.mk _ (wrap_u32 (by omega)) ?_); conv => whnf))))
    refine new_own (e := 5) 1 1 [byteV 0] rfl rfl ?_
    intro h2 b2 o2 x2 z2 e2
    ((conv => whnf); (repeat (first | ((with_reducible refine HSeq.go ?_); conv => whnf) | ((with_reducible refine HMust.mk (by decide) ?_); conv => whnf) | ((with_reducible refine HIf.yes (by first | rfl | assumption | decide) ?_); conv => whnf) | ((with_reducible refine HIf.no (by first | rfl | assumption | decide) ?_); conv => whnf) | ((with_reducible refine HInt.mk _ (wrap_i64 (by omega)) ?_); conv => whnf) | ((refine HMust.mk (by rfl) ?_); conv => whnf) | ((with_reducible refine blk_ld (by assumption) rfl ?_); conv => whnf) | ((with_reducible refine blk_ldN (by assumption) rfl ?_); conv => whnf) | ((with_reducible refine HInt.mk _ (wrap_u64 (by omega)) ?_); conv => whnf) | ((with_reducible refine HInt.mk _ (wrap_u8 (by omega)) ?_); conv => whnf) | ((with_reducible refine HInt.mk _ (wrap_u32 (by omega)) ?_); conv => whnf))))
    exact ⟨_, 1, rfl, o2.lower x1.1, x1.trans x2⟩
  · ((conv => whnf); (repeat (first | ((with_reducible refine HSeq.go ?_); conv => whnf) | ((with_reducible refine HMust.mk (by decide) ?_); conv => whnf) | ((with_reducible refine HIf.yes (by first | rfl | assumption | decide) ?_); conv => whnf) | ((with_reducible refine HIf.no (by first | rfl | assumption | decide) ?_); conv => whnf) | ((with_reducible refine HInt.mk _ (wrap_i64 (by omega)) ?_); conv => whnf) | ((refine HMust.mk (by rfl) ?_); conv => whnf) | ((with_reducible refine blk_ld (by assumption) rfl ?_); conv => whnf) | ((with_reducible refine blk_ldN (by assumption) rfl ?_); conv => whnf) | ((with_reducible refine HInt.mk _ (wrap_u64 (by omega)) ?_); conv => whnf) | ((with_reducible refine HInt.mk _ (wrap_u8 (by omega)) ?_); conv => whnf) | ((with_reducible refine HInt.mk _ (wrap_u32 (by omega)) ?_); conv => whnf))))
    refine new_own (e := 5) 1 1 [byteV 1] rfl rfl ?_
    intro h2 b2 o2 x2 z2 e2
    ((conv => whnf); (repeat (first | ((with_reducible refine HSeq.go ?_); conv => whnf) | ((with_reducible refine HMust.mk (by decide) ?_); conv => whnf) | ((with_reducible refine HIf.yes (by first | rfl | assumption | decide) ?_); conv => whnf) | ((with_reducible refine HIf.no (by first | rfl | assumption | decide) ?_); conv => whnf) | ((with_reducible refine HInt.mk _ (wrap_i64 (by omega)) ?_); conv => whnf) | ((refine HMust.mk (by rfl) ?_); conv => whnf) | ((with_reducible refine blk_ld (by assumption) rfl ?_); conv => whnf) | ((with_reducible refine blk_ldN (by assumption) rfl ?_); conv => whnf) | ((with_reducible refine HInt.mk _ (wrap_u64 (by omega)) ?_); conv => whnf) | ((with_reducible refine HInt.mk _ (wrap_u8 (by omega)) ?_); conv => whnf) | ((with_reducible refine HInt.mk _ (wrap_u32 (by omega)) ?_); conv => whnf))))
    exact ⟨_, 1, rfl, o2.lower x1.1, x1.trans x2⟩
  · rcases hn with rfl | rfl
    · ((conv => whnf); (repeat (first | ((with_reducible refine HSeq.go ?_); conv => whnf) | ((with_reducible refine HMust.mk (by decide) ?_); conv => whnf) | ((with_reducible refine HIf.yes (by first | rfl | assumption | decide) ?_); conv => whnf) | ((with_reducible refine HIf.no (by first | rfl | assumption | decide) ?_); conv => whnf) | ((with_reducible refine HInt.mk _ (wrap_i64 (by omega)) ?_); conv => whnf) | ((refine HMust.mk (by rfl) ?_); conv => whnf) | ((with_reducible refine blk_ld (by assumption) rfl ?_); conv => whnf) | ((with_reducible refine blk_ldN (by assumption) rfl ?_); conv => whnf) | ((with_reducible refine HInt.mk _ (wrap_u64 (by omega)) ?_); conv => whnf) | ((with_reducible refine HInt.mk _ (wrap_u8 (by omega)) ?_); conv => whnf) | ((with_reducible refine HInt.mk _ (wrap_u32 (by omega)) ?_); conv => whnf))))
      refine new_own (e := 5) 1 1 [byteV 2] rfl rfl ?_
      intro h2 b2 o2 x2 z2 e2
      ((conv => whnf); (repeat (first | ((with_reducible refine HSeq.go ?_); conv => whnf) | ((with_reducible refine HMust.mk (by decide) ?_); conv => whnf) | ((with_reducible refine HIf.yes (by first | rfl | assumption | decide) ?_); conv => whnf) | ((with_reducible refine HIf.no (by first | rfl | assumption | decide) ?_); conv => whnf) | ((with_reducible refine HInt.mk _ (wrap_i64 (by omega)) ?_); conv => whnf) | ((refine HMust.mk (by rfl) ?_); conv => whnf) | ((with_reducible refine blk_ld (by assumption) rfl ?_); conv => whnf) | ((with_reducible refine blk_ldN (by assumption) rfl ?_); conv => whnf) | ((with_reducible refine HInt.mk _ (wrap_u64 (by omega)) ?_); conv => whnf) | ((with_reducible refine HInt.mk _ (wrap_u8 (by omega)) ?_); conv => whnf) | ((with_reducible refine HInt.mk _ (wrap_u32 (by omega)) ?_); conv => whnf))))
      exact ⟨_, 1, rfl, o2.lower x1.1, x1.trans x2⟩
    · ((conv => whnf); (repeat (first | ((with_reducible refine HSeq.go ?_); conv => whnf) | ((with_reducible refine HMust.mk (by decide) ?_); conv => whnf) | ((with_reducible refine HIf.yes (by first | rfl | assumption | decide) ?_); conv => whnf) | ((with_reducible refine HIf.no (by first | rfl | assumption | decide) ?_); conv => whnf) | ((with_reducible refine HInt.mk _ (wrap_i64 (by omega)) ?_); conv => whnf) | ((refine HMust.mk (by rfl) ?_); conv => whnf) | ((with_reducible refine blk_ld (by assumption) rfl ?_); conv => whnf) | ((with_reducible refine blk_ldN (by assumption) rfl ?_); conv => whnf) | ((with_reducible refine HInt.mk _ (wrap_u64 (by omega)) ?_); conv => whnf) | ((with_reducible refine HInt.mk _ (wrap_u8 (by omega)) ?_); conv => whnf) | ((with_reducible refine HInt.mk _ (wrap_u32 (by omega)) ?_); conv => whnf))))
      refine new_own (e := 5) 1 1 [byteV 3] rfl rfl ?_
      intro h2 b2 o2 x2 z2 e2
      ((conv => whnf); (repeat (first | ((with_reducible refine HSeq.go ?_); conv => whnf) | ((with_reducible refine HMust.mk (by decide) ?_); conv => whnf) | ((with_reducible refine HIf.yes (by first | rfl | assumption | decide) ?_); conv => whnf) | ((with_reducible refine HIf.no (by first | rfl | assumption | decide) ?_); conv => whnf) | ((with_reducible refine HInt.mk _ (wrap_i64 (by omega)) ?_); conv => whnf) | ((refine HMust.mk (by rfl) ?_); conv => whnf) | ((with_reducible refine blk_ld (by assumption) rfl ?_); conv => whnf) | ((with_reducible refine blk_ldN (by assumption) rfl ?_); conv => whnf) | ((with_reducible refine HInt.mk _ (wrap_u64 (by omega)) ?_); conv => whnf) | ((with_reducible refine HInt.mk _ (wrap_u8 (by omega)) ?_); conv => whnf) | ((with_reducible refine HInt.mk _ (wrap_u32 (by omega)) ?_); conv => whnf))))
      exact ⟨_, 1, rfl, o2.lower x1.1, x1.trans x2⟩
  · ((conv => whnf); (repeat (first | ((with_reducible refine HSeq.go ?_); conv => whnf) | ((with_reducible refine HMust.mk (by decide) ?_); conv => whnf) | ((with_reducible refine HIf.yes (by first | rfl | assumption | decide) ?_); conv => whnf) | ((with_reducible refine HIf.no (by first | rfl | assumption | decide) ?_); conv => whnf) | ((with_reducible refine HInt.mk _ (wrap_i64 (by omega)) ?_); conv => whnf) | ((refine HMust.mk (by rfl) ?_); conv => whnf) | ((with_reducible refine blk_ld (by assumption) rfl ?_); conv => whnf) | ((with_reducible refine blk_ldN (by assumption) rfl ?_); conv => whnf) | ((with_reducible refine HInt.mk _ (wrap_u64 (by omega)) ?_); conv => whnf) | ((with_reducible refine HInt.mk _ (wrap_u8 (by omega)) ?_); conv => whnf) | ((with_reducible refine HInt.mk _ (wrap_u32 (by omega)) ?_); conv => whnf))))
    refine HIf.mk (fun hneg => ?_) (fun hneg => ?_)
    · have hneg' := of_decide_eq_true hneg
      unfold i64 at a2
      have hlb := leb_len (-1 - n1).toNat (by omega)
      have heq : enc (.mk 3 n1 ⟨#[]⟩ [] []) = [5] ++ leb (-1 - n1).toNat := by simp [enc, hneg']
      rw [heq] at hle ⊢
      obtain ⟨m, rfl⟩ : ∃ m : Nat, n1 = -1 - (m : Int) := ⟨(-1 - n1).toNat, by omega⟩
      have e1 : -1 - (-1 - (m : Int)) = m := by omega
      have e2 : (-1 - (-1 - (m : Int))).toNat = m := by omega
      rw [e2] at *
      have hlb2 := leb_len m (by omega)
      simp only [List.length_append, List.length_singleton] at hle
      ((conv => whnf); (repeat (first | ((with_reducible refine HSeq.go ?_); conv => whnf) | ((with_reducible refine HMust.mk (by decide) ?_); conv => whnf) | ((with_reducible refine HIf.yes (by first | rfl | assumption | decide) ?_); conv => whnf) | ((with_reducible refine HIf.no (by first | rfl | assumption | decide) ?_); conv => whnf) | ((with_reducible refine HInt.mk _ (wrap_i64 (by omega)) ?_); conv => whnf) | ((refine HMust.mk (by rfl) ?_); conv => whnf) | ((with_reducible refine blk_ld (by assumption) rfl ?_); conv => whnf) | ((with_reducible refine blk_ldN (by assumption) rfl ?_); conv => whnf) | ((with_reducible refine HInt.mk _ (wrap_u64 (by omega)) ?_); conv => whnf) | ((with_reducible refine HInt.mk _ (wrap_u8 (by omega)) ?_); conv => whnf) | ((with_reducible refine HInt.mk _ (wrap_u32 (by omega)) ?_); conv => whnf))))
      refine new_own (e := 5) 1 1 [byteV 5] rfl rfl ?_
      intro h2 b2 o2 x2 z2 e2
      ((repeat (rename BlkW h1 _ _ _ => upq; have upr := BlkW.ext upq x2; clear upq)))
      ((conv => whnf); (repeat (first | ((with_reducible refine HMust.mk (by decide) ?_); conv => whnf) | ((with_reducible refine HIf.yes (by first | rfl | assumption | decide) ?_); conv => whnf) | ((with_reducible refine HIf.no (by first | rfl | assumption | decide) ?_); conv => whnf) | ((with_reducible refine HInt.mk _ (wrap_i64 (by omega)) ?_); conv => whnf) | ((refine HMust.mk (by rfl) ?_); conv => whnf) | ((with_reducible refine blk_ld (by assumption) rfl ?_); conv => whnf) | ((with_reducible refine blk_ldN (by assumption) rfl ?_); conv => whnf) | ((with_reducible refine HInt.mk _ (wrap_u64 (by omega)) ?_); conv => whnf) | ((with_reducible refine HInt.mk _ (wrap_u8 (by omega)) ?_); conv => whnf) | ((with_reducible refine HInt.mk _ (wrap_u32 (by omega)) ?_); conv => whnf))))
      refine HCall.to #[.int .u64 (m : Int)] (by show #[Value.int .u64 (-1 - (-1 - (m : Int)))] = _; rw [e1]) ((rnum_spec m (by omega) h2).mono ?_)
      rintro e h3 ⟨a3, c3, rfl, o3, x3⟩
      ((conv => whnf); (repeat (first | ((with_reducible refine HSeq.go ?_); conv => whnf) | ((with_reducible refine HMust.mk (by decide) ?_); conv => whnf) | ((with_reducible refine HIf.yes (by first | rfl | assumption | decide) ?_); conv => whnf) | ((with_reducible refine HIf.no (by first | rfl | assumption | decide) ?_); conv => whnf) | ((with_reducible refine HInt.mk _ (wrap_i64 (by omega)) ?_); conv => whnf) | ((refine HMust.mk (by rfl) ?_); conv => whnf) | ((with_reducible refine blk_ld (by assumption) rfl ?_); conv => whnf) | ((with_reducible refine blk_ldN (by assumption) rfl ?_); conv => whnf) | ((with_reducible refine HInt.mk _ (wrap_u64 (by omega)) ?_); conv => whnf) | ((with_reducible refine HInt.mk _ (wrap_u8 (by omega)) ?_); conv => whnf) | ((with_reducible refine HInt.mk _ (wrap_u32 (by omega)) ?_); conv => whnf))))
      refine o3.sl.cells ?_
      refine Own.bytes (l0 := [5]) (more := leb m) (o2.ext x3) (by have := x2.1; have := x3.1; omega) (by simp; omega) ?_
      intro h4 a4 c4 o4 g4
      ((conv => whnf); (repeat (first | ((with_reducible refine HSeq.go ?_); conv => whnf) | ((with_reducible refine HMust.mk (by decide) ?_); conv => whnf) | ((with_reducible refine HIf.yes (by first | rfl | assumption | decide) ?_); conv => whnf) | ((with_reducible refine HIf.no (by first | rfl | assumption | decide) ?_); conv => whnf) | ((with_reducible refine HInt.mk _ (wrap_i64 (by omega)) ?_); conv => whnf) | ((refine HMust.mk (by rfl) ?_); conv => whnf) | ((with_reducible refine blk_ld (by assumption) rfl ?_); conv => whnf) | ((with_reducible refine blk_ldN (by assumption) rfl ?_); conv => whnf) | ((with_reducible refine HInt.mk _ (wrap_u64 (by omega)) ?_); conv => whnf) | ((with_reducible refine HInt.mk _ (wrap_u8 (by omega)) ?_); conv => whnf) | ((with_reducible refine HInt.mk _ (wrap_u32 (by omega)) ?_); conv => whnf))))
      exact ⟨a4, c4, rfl, o4.lower x1.1, (x1.trans (x2.trans x3)).keep (g4.kept (by have := x1.1; have := x2.1; have := x3.1; omega) (fun p ep => by have := o2.lt p ep; have := x1.1; omega))⟩
    · have hneg' := of_decide_eq_false hneg
      obtain ⟨m, rfl⟩ : ∃ m : Nat, n1 = m := ⟨n1.toNat, by omega⟩
      unfold i64 at a2
      have hlb := leb_len m (by omega)
      have heq : enc (.mk 3 m ⟨#[]⟩ [] []) = [4] ++ leb m := by simp [enc]
      rw [heq] at hle ⊢
      simp only [List.length_append, List.length_singleton] at hle
      ((conv => whnf); (repeat (first | ((with_reducible refine HSeq.go ?_); conv => whnf) | ((with_reducible refine HMust.mk (by decide) ?_); conv => whnf) | ((with_reducible refine HIf.yes (by first | rfl | assumption | decide) ?_); conv => whnf) | ((with_reducible refine HIf.no (by first | rfl | assumption | decide) ?_); conv => whnf) | ((with_reducible refine HInt.mk _ (wrap_i64 (by omega)) ?_); conv => whnf) | ((refine HMust.mk (by rfl) ?_); conv => whnf) | ((with_reducible refine blk_ld (by assumption) rfl ?_); conv => whnf) | ((with_reducible refine blk_ldN (by assumption) rfl ?_); conv => whnf) | ((with_reducible refine HInt.mk _ (wrap_u64 (by omega)) ?_); conv => whnf) | ((with_reducible refine HInt.mk _ (wrap_u8 (by omega)) ?_); conv => whnf) | ((with_reducible refine HInt.mk _ (wrap_u32 (by omega)) ?_); conv => whnf))))
      refine new_own (e := 5) 1 1 [byteV 4] rfl rfl ?_
      intro h2 b2 o2 x2 z2 e2
      ((repeat (rename BlkW h1 _ _ _ => upq; have upr := BlkW.ext upq x2; clear upq)))
      ((conv => whnf); (repeat (first | ((with_reducible refine HSeq.go ?_); conv => whnf) | ((with_reducible refine HMust.mk (by decide) ?_); conv => whnf) | ((with_reducible refine HIf.yes (by first | rfl | assumption | decide) ?_); conv => whnf) | ((with_reducible refine HIf.no (by first | rfl | assumption | decide) ?_); conv => whnf) | ((with_reducible refine HInt.mk _ (wrap_i64 (by omega)) ?_); conv => whnf) | ((refine HMust.mk (by rfl) ?_); conv => whnf) | ((with_reducible refine blk_ld (by assumption) rfl ?_); conv => whnf) | ((with_reducible refine blk_ldN (by assumption) rfl ?_); conv => whnf) | ((with_reducible refine HInt.mk _ (wrap_u64 (by omega)) ?_); conv => whnf) | ((with_reducible refine HInt.mk _ (wrap_u8 (by omega)) ?_); conv => whnf) | ((with_reducible refine HInt.mk _ (wrap_u32 (by omega)) ?_); conv => whnf))))
      refine HCall.mk ((rnum_spec m (by omega) h2).mono ?_)
      rintro e h3 ⟨a3, c3, rfl, o3, x3⟩
      ((conv => whnf); (repeat (first | ((with_reducible refine HSeq.go ?_); conv => whnf) | ((with_reducible refine HMust.mk (by decide) ?_); conv => whnf) | ((with_reducible refine HIf.yes (by first | rfl | assumption | decide) ?_); conv => whnf) | ((with_reducible refine HIf.no (by first | rfl | assumption | decide) ?_); conv => whnf) | ((with_reducible refine HInt.mk _ (wrap_i64 (by omega)) ?_); conv => whnf) | ((refine HMust.mk (by rfl) ?_); conv => whnf) | ((with_reducible refine blk_ld (by assumption) rfl ?_); conv => whnf) | ((with_reducible refine blk_ldN (by assumption) rfl ?_); conv => whnf) | ((with_reducible refine HInt.mk _ (wrap_u64 (by omega)) ?_); conv => whnf) | ((with_reducible refine HInt.mk _ (wrap_u8 (by omega)) ?_); conv => whnf) | ((with_reducible refine HInt.mk _ (wrap_u32 (by omega)) ?_); conv => whnf))))
      refine o3.sl.cells ?_
      refine Own.bytes (l0 := [4]) (more := leb m) (o2.ext x3) (by have := x2.1; have := x3.1; omega) (by simp; omega) ?_
      intro h4 a4 c4 o4 g4
      ((conv => whnf); (repeat (first | ((with_reducible refine HSeq.go ?_); conv => whnf) | ((with_reducible refine HMust.mk (by decide) ?_); conv => whnf) | ((with_reducible refine HIf.yes (by first | rfl | assumption | decide) ?_); conv => whnf) | ((with_reducible refine HIf.no (by first | rfl | assumption | decide) ?_); conv => whnf) | ((with_reducible refine HInt.mk _ (wrap_i64 (by omega)) ?_); conv => whnf) | ((refine HMust.mk (by rfl) ?_); conv => whnf) | ((with_reducible refine blk_ld (by assumption) rfl ?_); conv => whnf) | ((with_reducible refine blk_ldN (by assumption) rfl ?_); conv => whnf) | ((with_reducible refine HInt.mk _ (wrap_u64 (by omega)) ?_); conv => whnf) | ((with_reducible refine HInt.mk _ (wrap_u8 (by omega)) ?_); conv => whnf) | ((with_reducible refine HInt.mk _ (wrap_u32 (by omega)) ?_); conv => whnf))))
      exact ⟨a4, c4, rfl, o4.lower x1.1, (x1.trans (x2.trans x3)).keep (g4.kept (by have := x1.1; have := x2.1; have := x3.1; omega) (fun p ep => by have := o2.lt p ep; have := x1.1; omega))⟩
  · have hlb := txt_len s1 (by omega)
    have heq : enc (.mk 4 0 s1 [] []) = [6] ++ txt s1 := by simp [enc]
    rw [heq] at hle ⊢
    simp only [List.length_append, List.length_singleton] at hle
    ((conv => whnf); (repeat (first | ((with_reducible refine HSeq.go ?_); conv => whnf) | ((with_reducible refine HMust.mk (by decide) ?_); conv => whnf) | ((with_reducible refine HIf.yes (by first | rfl | assumption | decide) ?_); conv => whnf) | ((with_reducible refine HIf.no (by first | rfl | assumption | decide) ?_); conv => whnf) | ((with_reducible refine HInt.mk _ (wrap_i64 (by omega)) ?_); conv => whnf) | ((refine HMust.mk (by rfl) ?_); conv => whnf) | ((with_reducible refine blk_ld (by assumption) rfl ?_); conv => whnf) | ((with_reducible refine blk_ldN (by assumption) rfl ?_); conv => whnf) | ((with_reducible refine HInt.mk _ (wrap_u64 (by omega)) ?_); conv => whnf) | ((with_reducible refine HInt.mk _ (wrap_u8 (by omega)) ?_); conv => whnf) | ((with_reducible refine HInt.mk _ (wrap_u32 (by omega)) ?_); conv => whnf))))
    refine new_own (e := 5) 1 1 [byteV 6] rfl rfl ?_
    intro h2 b2 o2 x2 z2 e2
    ((repeat (rename BlkW h1 _ _ _ => upq; have upr := BlkW.ext upq x2; clear upq)))
    ((conv => whnf); (repeat (first | ((with_reducible refine HSeq.go ?_); conv => whnf) | ((with_reducible refine HMust.mk (by decide) ?_); conv => whnf) | ((with_reducible refine HIf.yes (by first | rfl | assumption | decide) ?_); conv => whnf) | ((with_reducible refine HIf.no (by first | rfl | assumption | decide) ?_); conv => whnf) | ((with_reducible refine HInt.mk _ (wrap_i64 (by omega)) ?_); conv => whnf) | ((refine HMust.mk (by rfl) ?_); conv => whnf) | ((with_reducible refine blk_ld (by assumption) rfl ?_); conv => whnf) | ((with_reducible refine blk_ldN (by assumption) rfl ?_); conv => whnf) | ((with_reducible refine HInt.mk _ (wrap_u64 (by omega)) ?_); conv => whnf) | ((with_reducible refine HInt.mk _ (wrap_u8 (by omega)) ?_); conv => whnf) | ((with_reducible refine HInt.mk _ (wrap_u32 (by omega)) ?_); conv => whnf))))
    refine HCall.mk ((rtext_spec' s1 (by omega) h2).mono ?_)
    rintro e h3 ⟨a3, c3, rfl, o3, x3⟩
    ((conv => whnf); (repeat (first | ((with_reducible refine HSeq.go ?_); conv => whnf) | ((with_reducible refine HMust.mk (by decide) ?_); conv => whnf) | ((with_reducible refine HIf.yes (by first | rfl | assumption | decide) ?_); conv => whnf) | ((with_reducible refine HIf.no (by first | rfl | assumption | decide) ?_); conv => whnf) | ((with_reducible refine HInt.mk _ (wrap_i64 (by omega)) ?_); conv => whnf) | ((refine HMust.mk (by rfl) ?_); conv => whnf) | ((with_reducible refine blk_ld (by assumption) rfl ?_); conv => whnf) | ((with_reducible refine blk_ldN (by assumption) rfl ?_); conv => whnf) | ((with_reducible refine HInt.mk _ (wrap_u64 (by omega)) ?_); conv => whnf) | ((with_reducible refine HInt.mk _ (wrap_u8 (by omega)) ?_); conv => whnf) | ((with_reducible refine HInt.mk _ (wrap_u32 (by omega)) ?_); conv => whnf))))
    refine o3.sl.cells ?_
    refine Own.bytes (l0 := [6]) (more := txt s1) (o2.ext x3) (by have := x2.1; have := x3.1; omega) (by simp; omega) ?_
    intro h4 a4 c4 o4 g4
    ((conv => whnf); (repeat (first | ((with_reducible refine HSeq.go ?_); conv => whnf) | ((with_reducible refine HMust.mk (by decide) ?_); conv => whnf) | ((with_reducible refine HIf.yes (by first | rfl | assumption | decide) ?_); conv => whnf) | ((with_reducible refine HIf.no (by first | rfl | assumption | decide) ?_); conv => whnf) | ((with_reducible refine HInt.mk _ (wrap_i64 (by omega)) ?_); conv => whnf) | ((refine HMust.mk (by rfl) ?_); conv => whnf) | ((with_reducible refine blk_ld (by assumption) rfl ?_); conv => whnf) | ((with_reducible refine blk_ldN (by assumption) rfl ?_); conv => whnf) | ((with_reducible refine HInt.mk _ (wrap_u64 (by omega)) ?_); conv => whnf) | ((with_reducible refine HInt.mk _ (wrap_u8 (by omega)) ?_); conv => whnf) | ((with_reducible refine HInt.mk _ (wrap_u32 (by omega)) ?_); conv => whnf))))
    exact ⟨a4, c4, rfl, o4.lower x1.1, (x1.trans (x2.trans x3)).keep (g4.kept (by have := x1.1; have := x2.1; have := x3.1; omega) (fun p ep => by have := o2.lt p ep; have := x1.1; omega))⟩
  · exact absurd (.inl rfl) hk
  · exact absurd (.inr rfl) hk

theorem write_list (t : DT) (hk : t.kind = 5 ∨ t.kind = 6) (ih : ∀ x ∈ t.list, WriteSpec x) : WriteSpec t := by
  intro h cs ra hmay hvol
  have hle := enc_le hvol hmay
  obtain ⟨k1, n1, s1, ks1, l1⟩ := t
  simp only [DT.kind, DT.list] at hk ih
  simp only [Rep] at ra
  obtain ⟨a1, a2, a3, a4, a5, a6, ka, kc, la, lc, xs, rfl, a7, a8, a9⟩ := ra
  have hkl := kvol_len ks1
  have hvl := vols_len l1
  simp only [may] at hmay
  obtain ⟨own1, hms⟩ := hmay
  simp only [vol] at hvol
  refine c20 (by simp) ?_
  (conv => whnf)
  refine new_var (e := 25) [.int .i64 k1, .int .i64 n1, .string s1, .slice ka ks1.length kc, .slice la l1.length lc] rfl ?_
  intro h1 bx ox x1 z1 hbx
  unfold Own1 at own1
  have q0 : (k1 == 0) = false := by rcases hk with rfl | rfl <;> rfl
  have q1 : (k1 == 1) = false := by rcases hk with rfl | rfl <;> rfl
  have q2 : (k1 == 2) = false := by rcases hk with rfl | rfl <;> rfl
  have q3 : (k1 == 3) = false := by rcases hk with rfl | rfl <;> rfl
  have q4 : (k1 == 4) = false := by rcases hk with rfl | rfl <;> rfl
  have heq : enc (.mk k1 n1 s1 ks1 l1) = (if k1 = 6 then 8 else 7) :: (leb l1.length ++ encK ks1 l1) := by
    simp only [enc]; rcases hk with rfl | rfl <;> rfl
  have hkeys : ks1 = [] ∨ ks1.length = l1.length := by
    rcases own1 with ⟨rfl | rfl, _⟩ | ⟨rfl, _⟩ | ⟨rfl, _⟩ | ⟨rfl, _⟩ | ⟨_, _, _, h⟩ | ⟨_, _, _, h⟩
    · simp at hk
    · simp at hk
    · simp at hk
    · simp at hk
    · simp at hk
    · exact .inl h
    · exact .inr h.2.2
  have hkeys5 : k1 = 5 → ks1 = [] := by
    intro e
    rcases own1 with ⟨rfl | rfl, _⟩ | ⟨rfl, _⟩ | ⟨rfl, _⟩ | ⟨rfl, _⟩ | ⟨_, _, _, h⟩ | ⟨rfl, _, _, h⟩
    · simp at e
    · simp at e
    · simp at e
    · simp at e
    · simp at e
    · exact h
    · simp at e
  have hkeys6 : k1 = 6 → ks1.length = l1.length := by
    intro e
    rcases own1 with ⟨rfl | rfl, _⟩ | ⟨rfl, _⟩ | ⟨rfl, _⟩ | ⟨rfl, _⟩ | ⟨rfl, _⟩ | ⟨_, _, _, h⟩
    · simp at e
    · simp at e
    · simp at e
    · simp at e
    · simp at e
    · simp at e
    · exact h.2.2
  rw [heq] at hle ⊢
  simp only [List.length_cons, List.length_append] at hle
  have hlb := leb_len l1.length (by omega)
  ((conv => whnf); (repeat (first | ((with_reducible refine HSeq.go ?_); conv => whnf) | ((with_reducible refine HMust.mk (by decide) ?_); conv => whnf) | ((with_reducible refine HIf.yes (by first | rfl | assumption | decide) ?_); conv => whnf) | ((with_reducible refine HIf.no (by first | rfl | assumption | decide) ?_); conv => whnf) | ((with_reducible refine HInt.mk _ (wrap_i64 (by omega)) ?_); conv => whnf) | ((refine HMust.mk (by rfl) ?_); conv => whnf) | ((with_reducible refine blk_ld (by assumption) rfl ?_); conv => whnf) | ((with_reducible refine blk_ldN (by assumption) rfl ?_); conv => whnf) | ((with_reducible refine HInt.mk _ (wrap_u64 (by omega)) ?_); conv => whnf) | ((with_reducible refine HInt.mk _ (wrap_u8 (by omega)) ?_); conv => whnf) | ((with_reducible refine HInt.mk _ (wrap_u32 (by omega)) ?_); conv => whnf))))
  refine new_own (e := 5) 1 1 [byteV 7] rfl rfl ?_
  intro h2 b2 o2 x2 z2 e2
  have ox2 := ox.ext x2
  ((conv => whnf); (repeat (first | ((with_reducible refine HSeq.go ?_); conv => whnf) | ((with_reducible refine HMust.mk (by decide) ?_); conv => whnf) | ((with_reducible refine HIf.yes (by first | rfl | assumption | decide) ?_); conv => whnf) | ((with_reducible refine HIf.no (by first | rfl | assumption | decide) ?_); conv => whnf) | ((with_reducible refine HInt.mk _ (wrap_i64 (by omega)) ?_); conv => whnf) | ((refine HMust.mk (by rfl) ?_); conv => whnf) | ((with_reducible refine blk_ld (by assumption) rfl ?_); conv => whnf) | ((with_reducible refine blk_ldN (by assumption) rfl ?_); conv => whnf) | ((with_reducible refine HInt.mk _ (wrap_u64 (by omega)) ?_); conv => whnf) | ((with_reducible refine HInt.mk _ (wrap_u8 (by omega)) ?_); conv => whnf) | ((with_reducible refine HInt.mk _ (wrap_u32 (by omega)) ?_); conv => whnf))))
  refine HCall.mk ((rnum_spec l1.length (by omega) h2).mono ?_)
  rintro e h3 ⟨a3, c3, rfl, o3, x3⟩
  have ox3 := ox2.ext x3
  ((conv => whnf); (repeat (first | ((with_reducible refine HMust.mk (by decide) ?_); conv => whnf) | ((with_reducible refine HIf.yes (by first | rfl | assumption | decide) ?_); conv => whnf) | ((with_reducible refine HIf.no (by first | rfl | assumption | decide) ?_); conv => whnf) | ((with_reducible refine HInt.mk _ (wrap_i64 (by omega)) ?_); conv => whnf) | ((refine HMust.mk (by rfl) ?_); conv => whnf) | ((with_reducible refine blk_ld (by assumption) rfl ?_); conv => whnf) | ((with_reducible refine blk_ldN (by assumption) rfl ?_); conv => whnf) | ((with_reducible refine HInt.mk _ (wrap_u64 (by omega)) ?_); conv => whnf) | ((with_reducible refine HInt.mk _ (wrap_u8 (by omega)) ?_); conv => whnf) | ((with_reducible refine HInt.mk _ (wrap_u32 (by omega)) ?_); conv => whnf))))
  refine o3.sl.cells ?_
  refine Own.bytes (l0 := [7]) (more := leb l1.length) (o2.ext x3) (by have := x2.1; have := x3.1; omega) (by simp; omega) ?_
  intro h4 a4 c4 o4 g4
  have hb2 : ∀ p, some (⟨b2, 0, none⟩ : Addr) = some p → p.block ≠ bx := fun p ep => by cases ep; show b2 ≠ bx; omega
  have ox4 := g4.blk ox3 hb2
  have k4 : Kept h1.size h3 h4 := g4.kept (by have := x2.1; have := x3.1; omega) (fun p ep => (o2.lt p ep).1)
  have x14 : Ext h1 h4 := (x2.trans x3).keep k4
  have hl4 := o4.lt
  ((conv => whnf); (repeat (first | ((with_reducible refine HMust.mk (by decide) ?_); conv => whnf) | ((with_reducible refine HIf.yes (by first | rfl | assumption | decide) ?_); conv => whnf) | ((with_reducible refine HIf.no (by first | rfl | assumption | decide) ?_); conv => whnf) | ((with_reducible refine HInt.mk _ (wrap_i64 (by omega)) ?_); conv => whnf) | ((refine HMust.mk (by rfl) ?_); conv => whnf) | ((with_reducible refine blk_ld (by assumption) rfl ?_); conv => whnf) | ((with_reducible refine blk_ldN (by assumption) rfl ?_); conv => whnf) | ((with_reducible refine HInt.mk _ (wrap_u64 (by omega)) ?_); conv => whnf) | ((with_reducible refine HInt.mk _ (wrap_u8 (by omega)) ?_); conv => whnf) | ((with_reducible refine HInt.mk _ (wrap_u32 (by omega)) ?_); conv => whnf))))
  refine cut_rule [3] (fun vs h' => vs = [.slice a4 ((if k1 = 6 then 8 else 7) :: leb l1.length).length c4] ∧ Own h' h1.size 5 1 a4 ((if k1 = 6 then 8 else 7) :: leb l1.length).length c4 (((if k1 = 6 then 8 else 7) :: leb l1.length).map byteV) ∧ Ext h1 h') rfl ?_ ?_
  · ((conv => whnf); (repeat (first | ((with_reducible refine HSeq.go ?_); conv => whnf) | ((with_reducible refine HMust.mk (by decide) ?_); conv => whnf) | ((with_reducible refine HIf.yes (by first | rfl | assumption | decide) ?_); conv => whnf) | ((with_reducible refine HIf.no (by first | rfl | assumption | decide) ?_); conv => whnf) | ((with_reducible refine HInt.mk _ (wrap_i64 (by omega)) ?_); conv => whnf) | ((refine HMust.mk (by rfl) ?_); conv => whnf) | ((with_reducible refine blk_ld (by assumption) rfl ?_); conv => whnf) | ((with_reducible refine blk_ldN (by assumption) rfl ?_); conv => whnf) | ((with_reducible refine HInt.mk _ (wrap_u64 (by omega)) ?_); conv => whnf) | ((with_reducible refine HInt.mk _ (wrap_u8 (by omega)) ?_); conv => whnf) | ((with_reducible refine HInt.mk _ (wrap_u32 (by omega)) ?_); conv => whnf))))
    refine HIf.mk (fun h6 => ?_) (fun h6 => ?_)
    · have e6 : k1 = 6 := by simpa using h6
      subst e6
      ((conv => whnf); (repeat (first | ((with_reducible refine HSeq.go ?_); conv => whnf) | ((with_reducible refine HMust.mk (by decide) ?_); conv => whnf) | ((with_reducible refine HIf.yes (by first | rfl | assumption | decide) ?_); conv => whnf) | ((with_reducible refine HIf.no (by first | rfl | assumption | decide) ?_); conv => whnf) | ((with_reducible refine HInt.mk _ (wrap_i64 (by omega)) ?_); conv => whnf) | ((refine HMust.mk (by rfl) ?_); conv => whnf) | ((with_reducible refine blk_ld (by assumption) rfl ?_); conv => whnf) | ((with_reducible refine blk_ldN (by assumption) rfl ?_); conv => whnf) | ((with_reducible refine HInt.mk _ (wrap_u64 (by omega)) ?_); conv => whnf) | ((with_reducible refine HInt.mk _ (wrap_u8 (by omega)) ?_); conv => whnf) | ((with_reducible refine HInt.mk _ (wrap_u32 (by omega)) ?_); conv => whnf))))
      refine HIdx.mk 0 rfl (by simp) ?_
      refine sl_some o4.sl (show 0 < _ by simp) fun p ep => ?_
      ((conv => whnf); (repeat (first | ((with_reducible refine HSeq.go ?_); conv => whnf) | ((with_reducible refine HMust.mk (by decide) ?_); conv => whnf) | ((with_reducible refine HIf.yes (by first | rfl | assumption | decide) ?_); conv => whnf) | ((with_reducible refine HIf.no (by first | rfl | assumption | decide) ?_); conv => whnf) | ((with_reducible refine HInt.mk _ (wrap_i64 (by omega)) ?_); conv => whnf) | ((refine HMust.mk (by rfl) ?_); conv => whnf) | ((with_reducible refine blk_ld (by assumption) rfl ?_); conv => whnf) | ((with_reducible refine blk_ldN (by assumption) rfl ?_); conv => whnf) | ((with_reducible refine HInt.mk _ (wrap_u64 (by omega)) ?_); conv => whnf) | ((with_reducible refine HInt.mk _ (wrap_u8 (by omega)) ?_); conv => whnf) | ((with_reducible refine HInt.mk _ (wrap_u32 (by omega)) ?_); conv => whnf))))
      refine o4.store ep (by simp) rfl ?_
      intro h5 f5 hp5 z5 o5
      ((conv => whnf); (repeat (first | ((with_reducible refine HSeq.go ?_); conv => whnf) | ((with_reducible refine HMust.mk (by decide) ?_); conv => whnf) | ((with_reducible refine HIf.yes (by first | rfl | assumption | decide) ?_); conv => whnf) | ((with_reducible refine HIf.no (by first | rfl | assumption | decide) ?_); conv => whnf) | ((with_reducible refine HInt.mk _ (wrap_i64 (by omega)) ?_); conv => whnf) | ((refine HMust.mk (by rfl) ?_); conv => whnf) | ((with_reducible refine blk_ld (by assumption) rfl ?_); conv => whnf) | ((with_reducible refine blk_ldN (by assumption) rfl ?_); conv => whnf) | ((with_reducible refine HInt.mk _ (wrap_u64 (by omega)) ?_); conv => whnf) | ((with_reducible refine HInt.mk _ (wrap_u8 (by omega)) ?_); conv => whnf) | ((with_reducible refine HInt.mk _ (wrap_u32 (by omega)) ?_); conv => whnf))))
      refine ⟨rfl, ?_, x14.offNew f5 hp5⟩
      exact o5
    · have e6 : k1 ≠ 6 := by simpa using h6
      ((conv => whnf); (repeat (first | ((with_reducible refine HSeq.go ?_); conv => whnf) | ((with_reducible refine HMust.mk (by decide) ?_); conv => whnf) | ((with_reducible refine HIf.yes (by first | rfl | assumption | decide) ?_); conv => whnf) | ((with_reducible refine HIf.no (by first | rfl | assumption | decide) ?_); conv => whnf) | ((with_reducible refine HInt.mk _ (wrap_i64 (by omega)) ?_); conv => whnf) | ((refine HMust.mk (by rfl) ?_); conv => whnf) | ((with_reducible refine blk_ld (by assumption) rfl ?_); conv => whnf) | ((with_reducible refine blk_ldN (by assumption) rfl ?_); conv => whnf) | ((with_reducible refine HInt.mk _ (wrap_u64 (by omega)) ?_); conv => whnf) | ((with_reducible refine HInt.mk _ (wrap_u8 (by omega)) ?_); conv => whnf) | ((with_reducible refine HInt.mk _ (wrap_u32 (by omega)) ?_); conv => whnf))))
      rw [if_neg e6]
      exact ⟨rfl, o4, x14⟩
  intro u h5 v3
  rintro ⟨e, o5, x5⟩
  cases e
  generalize hf : (if k1 = 6 then (8 : UInt8) else 7) = f at hle o5 ⊢
  have ox5 : BlkW h5 bx 25 _ := ox.ext x5
  ((conv => whnf); (repeat (first | ((with_reducible refine HSeq.go ?_); conv => whnf) | ((with_reducible refine HMust.mk (by decide) ?_); conv => whnf) | ((with_reducible refine HIf.yes (by first | rfl | assumption | decide) ?_); conv => whnf) | ((with_reducible refine HIf.no (by first | rfl | assumption | decide) ?_); conv => whnf) | ((with_reducible refine HInt.mk _ (wrap_i64 (by omega)) ?_); conv => whnf) | ((refine HMust.mk (by rfl) ?_); conv => whnf) | ((with_reducible refine blk_ld (by assumption) rfl ?_); conv => whnf) | ((with_reducible refine blk_ldN (by assumption) rfl ?_); conv => whnf) | ((with_reducible refine HInt.mk _ (wrap_u64 (by omega)) ?_); conv => whnf) | ((with_reducible refine HInt.mk _ (wrap_u8 (by omega)) ?_); conv => whnf) | ((with_reducible refine HInt.mk _ (wrap_u32 (by omega)) ?_); conv => whnf))))
  refine loop_rule [3, 61] (fun vs h' => ∃ (i : Nat) (a' : Option Addr) (c' : Nat) (bs : List UInt8), vs = [.slice a' bs.length c', .int .i64 i] ∧ i ≤ l1.length ∧ bs = f :: leb l1.length ++ encK (ks1.take i) (l1.take i) ∧
      Own h' h1.size 5 1 a' bs.length c' (bs.map byteV) ∧ Ext h1 h')
    (fun vs _ => match vs with | [_, .int _ i] => l1.length - i.toNat | _ => 0) rfl ?_ ?_
  · refine ⟨0, a4, c4, f :: leb l1.length, rfl, by omega, ?_, o5, x5⟩
    simp [encK_nil]
  · intro u h6 v3 v61
    rintro ⟨i, a6', c6, bs, e, hi, hbs, o6, x6⟩
    cases e
    have ox6 := ox.ext x6
    have x06 := x1.trans x6
    ((conv => whnf); (repeat (first | ((with_reducible refine HSeq.go ?_); conv => whnf) | ((with_reducible refine HMust.mk (by decide) ?_); conv => whnf) | ((with_reducible refine HIf.yes (by first | rfl | assumption | decide) ?_); conv => whnf) | ((with_reducible refine HIf.no (by first | rfl | assumption | decide) ?_); conv => whnf) | ((with_reducible refine HInt.mk _ (wrap_i64 (by omega)) ?_); conv => whnf) | ((refine HMust.mk (by rfl) ?_); conv => whnf) | ((with_reducible refine blk_ld (by assumption) rfl ?_); conv => whnf) | ((with_reducible refine blk_ldN (by assumption) rfl ?_); conv => whnf) | ((with_reducible refine HInt.mk _ (wrap_u64 (by omega)) ?_); conv => whnf) | ((with_reducible refine HInt.mk _ (wrap_u8 (by omega)) ?_); conv => whnf) | ((with_reducible refine HInt.mk _ (wrap_u32 (by omega)) ?_); conv => whnf))))
    refine HIf.mk (fun hb => ?_) (fun hb => ?_)
    · have hi1 : i < l1.length := by have := of_decide_eq_true hb; omega
      have hvi := vols_mem l1 l1[i] (List.getElem_mem hi1)
      have hmi := (mays_iff _).1 hms _ (List.getElem_mem hi1)
      have htk : l1.take (i + 1) = l1.take i ++ [l1[i]] := take_succ' hi1
      have hv1 := vols_take hi1
      have hk0 := kvol_take_le ks1 i
      have hen := encK_len (ks1.take i) (l1.take i) (by omega) (by omega) (fun x hx => (mays_iff _).1 hms x (List.mem_of_mem_take hx))
      have hbl : bs.length ≤ 11 + 12 * kvol (ks1.take i) + 12 * vols (l1.take i) := by
        rw [hbs]; simp only [List.length_append, List.length_cons]; omega
      have hei := enc_le (d := l1[i]) (by omega) hmi
      ((conv => whnf); (repeat (first | ((with_reducible refine HSeq.go ?_); conv => whnf) | ((with_reducible refine HMust.mk (by decide) ?_); conv => whnf) | ((with_reducible refine HIf.yes (by first | rfl | assumption | decide) ?_); conv => whnf) | ((with_reducible refine HIf.no (by first | rfl | assumption | decide) ?_); conv => whnf) | ((with_reducible refine HInt.mk _ (wrap_i64 (by omega)) ?_); conv => whnf) | ((refine HMust.mk (by rfl) ?_); conv => whnf) | ((with_reducible refine blk_ld (by assumption) rfl ?_); conv => whnf) | ((with_reducible refine blk_ldN (by assumption) rfl ?_); conv => whnf) | ((with_reducible refine HInt.mk _ (wrap_u64 (by omega)) ?_); conv => whnf) | ((with_reducible refine HInt.mk _ (wrap_u8 (by omega)) ?_); conv => whnf) | ((with_reducible refine HInt.mk _ (wrap_u32 (by omega)) ?_); conv => whnf))))
      refine HIdx.mk i rfl hi1 ?_
      refine sl_some a8 hi1 fun p ep => ?_
      ((conv => whnf); (repeat (first | ((with_reducible refine HSeq.go ?_); conv => whnf) | ((with_reducible refine HMust.mk (by decide) ?_); conv => whnf) | ((with_reducible refine HIf.yes (by first | rfl | assumption | decide) ?_); conv => whnf) | ((with_reducible refine HIf.no (by first | rfl | assumption | decide) ?_); conv => whnf) | ((with_reducible refine HInt.mk _ (wrap_i64 (by omega)) ?_); conv => whnf) | ((refine HMust.mk (by rfl) ?_); conv => whnf) | ((with_reducible refine blk_ld (by assumption) rfl ?_); conv => whnf) | ((with_reducible refine blk_ldN (by assumption) rfl ?_); conv => whnf) | ((with_reducible refine HInt.mk _ (wrap_u64 (by omega)) ?_); conv => whnf) | ((with_reducible refine HInt.mk _ (wrap_u8 (by omega)) ?_); conv => whnf) | ((with_reducible refine HInt.mk _ (wrap_u32 (by omega)) ?_); conv => whnf))))
      refine a8.loadRep0 a9 x06 ep hi1 fun as' ra1 => ?_
      ((conv => whnf); (repeat (first | ((with_reducible refine HSeq.go ?_); conv => whnf) | ((with_reducible refine HMust.mk (by decide) ?_); conv => whnf) | ((with_reducible refine HIf.yes (by first | rfl | assumption | decide) ?_); conv => whnf) | ((with_reducible refine HIf.no (by first | rfl | assumption | decide) ?_); conv => whnf) | ((with_reducible refine HInt.mk _ (wrap_i64 (by omega)) ?_); conv => whnf) | ((refine HMust.mk (by rfl) ?_); conv => whnf) | ((with_reducible refine blk_ld (by assumption) rfl ?_); conv => whnf) | ((with_reducible refine blk_ldN (by assumption) rfl ?_); conv => whnf) | ((with_reducible refine HInt.mk _ (wrap_u64 (by omega)) ?_); conv => whnf) | ((with_reducible refine HInt.mk _ (wrap_u8 (by omega)) ?_); conv => whnf) | ((with_reducible refine HInt.mk _ (wrap_u32 (by omega)) ?_); conv => whnf))))
      refine new_var (e := 25) zeroD rfl ?_
      intro h7 b7 o7 x7 z7 hb7
      ((conv => whnf); (repeat (first | ((with_reducible refine HSeq.go ?_); conv => whnf) | ((with_reducible refine HMust.mk (by decide) ?_); conv => whnf) | ((with_reducible refine HIf.yes (by first | rfl | assumption | decide) ?_); conv => whnf) | ((with_reducible refine HIf.no (by first | rfl | assumption | decide) ?_); conv => whnf) | ((with_reducible refine HInt.mk _ (wrap_i64 (by omega)) ?_); conv => whnf) | ((refine HMust.mk (by rfl) ?_); conv => whnf) | ((with_reducible refine blk_ld (by assumption) rfl ?_); conv => whnf) | ((with_reducible refine blk_ldN (by assumption) rfl ?_); conv => whnf) | ((with_reducible refine HInt.mk _ (wrap_u64 (by omega)) ?_); conv => whnf) | ((with_reducible refine HInt.mk _ (wrap_u8 (by omega)) ?_); conv => whnf) | ((with_reducible refine HInt.mk _ (wrap_u32 (by omega)) ?_); conv => whnf))))
      have hal := ra1.len
      refine HMust.mk (by simpa using hal) ?_
      refine store_new o7 (by simp [hal]) (by simpa using ra1.one) ?_
      intro h8 f8 z8 o8
      have x68 : Ext h6 h8 := x7.offNew f8 (by omega)
      have ow8 := o6.ext x68
      have ox8 := ox6.ext x68
      have x08 := x06.trans x68
      have ha6 := o6.lt
      ((conv => whnf); (repeat (first | ((with_reducible refine HMust.mk (by decide) ?_); conv => whnf) | ((with_reducible refine HIf.yes (by first | rfl | assumption | decide) ?_); conv => whnf) | ((with_reducible refine HIf.no (by first | rfl | assumption | decide) ?_); conv => whnf) | ((with_reducible refine HInt.mk _ (wrap_i64 (by omega)) ?_); conv => whnf) | ((refine HMust.mk (by rfl) ?_); conv => whnf) | ((with_reducible refine blk_ld (by assumption) rfl ?_); conv => whnf) | ((with_reducible refine blk_ldN (by assumption) rfl ?_); conv => whnf) | ((with_reducible refine HInt.mk _ (wrap_u64 (by omega)) ?_); conv => whnf) | ((with_reducible refine HInt.mk _ (wrap_u8 (by omega)) ?_); conv => whnf) | ((with_reducible refine HInt.mk _ (wrap_u32 (by omega)) ?_); conv => whnf))))
      refine cut_rule [3] (fun vs h' => ∃ a' c' bs', vs = [.slice a' bs'.length c'] ∧ bs' = bs ++ (if k1 = 6 then txt (ks1[i]?.getD ⟨#[]⟩) else []) ∧ Own h' h1.size 5 1 a' bs'.length c' (bs'.map byteV) ∧ Grew h8 a6' h' a') rfl ?_ ?_
      · ((conv => whnf); (repeat (first | ((with_reducible refine HSeq.go ?_); conv => whnf) | ((with_reducible refine HMust.mk (by decide) ?_); conv => whnf) | ((with_reducible refine HIf.yes (by first | rfl | assumption | decide) ?_); conv => whnf) | ((with_reducible refine HIf.no (by first | rfl | assumption | decide) ?_); conv => whnf) | ((with_reducible refine HInt.mk _ (wrap_i64 (by omega)) ?_); conv => whnf) | ((refine HMust.mk (by rfl) ?_); conv => whnf) | ((with_reducible refine blk_ld (by assumption) rfl ?_); conv => whnf) | ((with_reducible refine blk_ldN (by assumption) rfl ?_); conv => whnf) | ((with_reducible refine HInt.mk _ (wrap_u64 (by omega)) ?_); conv => whnf) | ((with_reducible refine HInt.mk _ (wrap_u8 (by omega)) ?_); conv => whnf) | ((with_reducible refine HInt.mk _ (wrap_u32 (by omega)) ?_); conv => whnf))))
        refine HIf.mk (fun h6 => ?_) (fun h6 => ?_)
        · have e6 : k1 = 6 := by simpa using h6
          have hkl := hkeys6 e6
          have hi2 : i < ks1.length := by omega
          have hki := kvol_mem ks1 ks1[i] (List.getElem_mem hi2)
          ((conv => whnf); (repeat (first | ((with_reducible refine HSeq.go ?_); conv => whnf) | ((with_reducible refine HMust.mk (by decide) ?_); conv => whnf) | ((with_reducible refine HIf.yes (by first | rfl | assumption | decide) ?_); conv => whnf) | ((with_reducible refine HIf.no (by first | rfl | assumption | decide) ?_); conv => whnf) | ((with_reducible refine HInt.mk _ (wrap_i64 (by omega)) ?_); conv => whnf) | ((refine HMust.mk (by rfl) ?_); conv => whnf) | ((with_reducible refine blk_ld (by assumption) rfl ?_); conv => whnf) | ((with_reducible refine blk_ldN (by assumption) rfl ?_); conv => whnf) | ((with_reducible refine HInt.mk _ (wrap_u64 (by omega)) ?_); conv => whnf) | ((with_reducible refine HInt.mk _ (wrap_u8 (by omega)) ?_); conv => whnf) | ((with_reducible refine HInt.mk _ (wrap_u32 (by omega)) ?_); conv => whnf))))
          refine HIdx.mk i rfl hi2 ?_
          refine sl_some (a7.ext x08) hi2 fun p2 ep2 => ?_
          ((conv => whnf); (repeat (first | ((with_reducible refine HSeq.go ?_); conv => whnf) | ((with_reducible refine HMust.mk (by decide) ?_); conv => whnf) | ((with_reducible refine HIf.yes (by first | rfl | assumption | decide) ?_); conv => whnf) | ((with_reducible refine HIf.no (by first | rfl | assumption | decide) ?_); conv => whnf) | ((with_reducible refine HInt.mk _ (wrap_i64 (by omega)) ?_); conv => whnf) | ((refine HMust.mk (by rfl) ?_); conv => whnf) | ((with_reducible refine blk_ld (by assumption) rfl ?_); conv => whnf) | ((with_reducible refine blk_ldN (by assumption) rfl ?_); conv => whnf) | ((with_reducible refine HInt.mk _ (wrap_u64 (by omega)) ?_); conv => whnf) | ((with_reducible refine HInt.mk _ (wrap_u8 (by omega)) ?_); conv => whnf) | ((with_reducible refine HInt.mk _ (wrap_u32 (by omega)) ?_); conv => whnf))))
          refine (a7.ext x08).load ep2 (by simpa using hi2) ?_
          rw [List.getElem_map]
          ((conv => whnf); (repeat (first | ((with_reducible refine HSeq.go ?_); conv => whnf) | ((with_reducible refine HMust.mk (by decide) ?_); conv => whnf) | ((with_reducible refine HIf.yes (by first | rfl | assumption | decide) ?_); conv => whnf) | ((with_reducible refine HIf.no (by first | rfl | assumption | decide) ?_); conv => whnf) | ((with_reducible refine HInt.mk _ (wrap_i64 (by omega)) ?_); conv => whnf) | ((refine HMust.mk (by rfl) ?_); conv => whnf) | ((with_reducible refine blk_ld (by assumption) rfl ?_); conv => whnf) | ((with_reducible refine blk_ldN (by assumption) rfl ?_); conv => whnf) | ((with_reducible refine HInt.mk _ (wrap_u64 (by omega)) ?_); conv => whnf) | ((with_reducible refine HInt.mk _ (wrap_u8 (by omega)) ?_); conv => whnf) | ((with_reducible refine HInt.mk _ (wrap_u32 (by omega)) ?_); conv => whnf))))
          refine HCall.mk ((rtext_spec' ks1[i] (by omega) h8).mono ?_)
          rintro e h9 ⟨a9', c9, rfl, o9, x9⟩
          have htl := txt_len ks1[i] (by omega)
          ((conv => whnf); (repeat (first | ((with_reducible refine HSeq.go ?_); conv => whnf) | ((with_reducible refine HMust.mk (by decide) ?_); conv => whnf) | ((with_reducible refine HIf.yes (by first | rfl | assumption | decide) ?_); conv => whnf) | ((with_reducible refine HIf.no (by first | rfl | assumption | decide) ?_); conv => whnf) | ((with_reducible refine HInt.mk _ (wrap_i64 (by omega)) ?_); conv => whnf) | ((refine HMust.mk (by rfl) ?_); conv => whnf) | ((with_reducible refine blk_ld (by assumption) rfl ?_); conv => whnf) | ((with_reducible refine blk_ldN (by assumption) rfl ?_); conv => whnf) | ((with_reducible refine HInt.mk _ (wrap_u64 (by omega)) ?_); conv => whnf) | ((with_reducible refine HInt.mk _ (wrap_u8 (by omega)) ?_); conv => whnf) | ((with_reducible refine HInt.mk _ (wrap_u32 (by omega)) ?_); conv => whnf))))
          refine o9.sl.cells ?_
          refine Own.bytes (more := txt ks1[i]) (ow8.ext x9) (by have := x9.1; have := x68.1; have := x6.1; omega) (by omega) ?_
          intro h10 a10 c10 o10 g10
          ((conv => whnf); (repeat (first | ((with_reducible refine HSeq.go ?_); conv => whnf) | ((with_reducible refine HMust.mk (by decide) ?_); conv => whnf) | ((with_reducible refine HIf.yes (by first | rfl | assumption | decide) ?_); conv => whnf) | ((with_reducible refine HIf.no (by first | rfl | assumption | decide) ?_); conv => whnf) | ((with_reducible refine HInt.mk _ (wrap_i64 (by omega)) ?_); conv => whnf) | ((refine HMust.mk (by rfl) ?_); conv => whnf) | ((with_reducible refine blk_ld (by assumption) rfl ?_); conv => whnf) | ((with_reducible refine blk_ldN (by assumption) rfl ?_); conv => whnf) | ((with_reducible refine HInt.mk _ (wrap_u64 (by omega)) ?_); conv => whnf) | ((with_reducible refine HInt.mk _ (wrap_u8 (by omega)) ?_); conv => whnf) | ((with_reducible refine HInt.mk _ (wrap_u32 (by omega)) ?_); conv => whnf))))
          exact ⟨a10, c10, _, rfl, by rw [if_pos e6, List.getElem?_eq_getElem hi2]; rfl, o10, (Grew.of_ext x9 _).trans g10⟩
        · have e6 : k1 ≠ 6 := by simpa using h6
          ((conv => whnf); (repeat (first | ((with_reducible refine HSeq.go ?_); conv => whnf) | ((with_reducible refine HMust.mk (by decide) ?_); conv => whnf) | ((with_reducible refine HIf.yes (by first | rfl | assumption | decide) ?_); conv => whnf) | ((with_reducible refine HIf.no (by first | rfl | assumption | decide) ?_); conv => whnf) | ((with_reducible refine HInt.mk _ (wrap_i64 (by omega)) ?_); conv => whnf) | ((refine HMust.mk (by rfl) ?_); conv => whnf) | ((with_reducible refine blk_ld (by assumption) rfl ?_); conv => whnf) | ((with_reducible refine blk_ldN (by assumption) rfl ?_); conv => whnf) | ((with_reducible refine HInt.mk _ (wrap_u64 (by omega)) ?_); conv => whnf) | ((with_reducible refine HInt.mk _ (wrap_u8 (by omega)) ?_); conv => whnf) | ((with_reducible refine HInt.mk _ (wrap_u32 (by omega)) ?_); conv => whnf))))
          exact ⟨a6', c6, bs, rfl, by rw [if_neg e6]; simp, ow8, Grew.refl _ _⟩
      · intro u h9 v3
        rintro ⟨a9', c9, bs', e, hbs', o9, g9⟩
        cases e
        have o89 := g9.blk o8 (fun p ep => by have := ha6 p ep; omega)
        have x19 : Ext h1 h9 := (x6.trans x68).keep (g9.kept (by have := x68.1; have := x6.1; omega) fun p ep => (ha6 p ep).1)
        have x09 : Ext h h9 := x1.trans x19
        ((conv => whnf); (repeat (first | ((with_reducible refine HSeq.go ?_); conv => whnf) | ((with_reducible refine HMust.mk (by decide) ?_); conv => whnf) | ((with_reducible refine HIf.yes (by first | rfl | assumption | decide) ?_); conv => whnf) | ((with_reducible refine HIf.no (by first | rfl | assumption | decide) ?_); conv => whnf) | ((with_reducible refine HInt.mk _ (wrap_i64 (by omega)) ?_); conv => whnf) | ((refine HMust.mk (by rfl) ?_); conv => whnf) | ((with_reducible refine blk_ld (by assumption) rfl ?_); conv => whnf) | ((with_reducible refine blk_ldN (by assumption) rfl ?_); conv => whnf) | ((with_reducible refine HInt.mk _ (wrap_u64 (by omega)) ?_); conv => whnf) | ((with_reducible refine HInt.mk _ (wrap_u8 (by omega)) ?_); conv => whnf) | ((with_reducible refine HInt.mk _ (wrap_u32 (by omega)) ?_); conv => whnf))))
        refine blk_ldN o89 (by simpa using hal) ?_
        ((conv => whnf); (repeat (first | ((with_reducible refine HSeq.go ?_); conv => whnf) | ((with_reducible refine HMust.mk (by decide) ?_); conv => whnf) | ((with_reducible refine HIf.yes (by first | rfl | assumption | decide) ?_); conv => whnf) | ((with_reducible refine HIf.no (by first | rfl | assumption | decide) ?_); conv => whnf) | ((with_reducible refine HInt.mk _ (wrap_i64 (by omega)) ?_); conv => whnf) | ((refine HMust.mk (by rfl) ?_); conv => whnf) | ((with_reducible refine blk_ld (by assumption) rfl ?_); conv => whnf) | ((with_reducible refine blk_ldN (by assumption) rfl ?_); conv => whnf) | ((with_reducible refine HInt.mk _ (wrap_u64 (by omega)) ?_); conv => whnf) | ((with_reducible refine HInt.mk _ (wrap_u8 (by omega)) ?_); conv => whnf) | ((with_reducible refine HInt.mk _ (wrap_u32 (by omega)) ?_); conv => whnf))))
        have hbl' : bs'.length + 12 * vol l1[i] ≤ 1099511627776 := by
          rw [hbs', List.length_append]
          rcases hk with rfl | rfl
          · rw [if_neg (by decide), List.length_nil]; omega
          · have hkl := hkeys6 rfl
            have hi2 : i < ks1.length := by omega
            have hk1 := kvol_take hi2
            have htl := txt_len ks1[i] (by omega)
            rw [if_pos rfl, List.getElem?_eq_getElem hi2, Option.getD_some]; omega
        refine HCall.mk ((ih l1[i] (List.getElem_mem hi1) h9 as' (Rep.ext x09 _ _ ra1) hmi (by omega)).mono ?_)
        rintro e h10 ⟨a10, c10, rfl, o10, x10⟩
        ((conv => whnf); (repeat (first | ((with_reducible refine HSeq.go ?_); conv => whnf) | ((with_reducible refine HMust.mk (by decide) ?_); conv => whnf) | ((with_reducible refine HIf.yes (by first | rfl | assumption | decide) ?_); conv => whnf) | ((with_reducible refine HIf.no (by first | rfl | assumption | decide) ?_); conv => whnf) | ((with_reducible refine HInt.mk _ (wrap_i64 (by omega)) ?_); conv => whnf) | ((refine HMust.mk (by rfl) ?_); conv => whnf) | ((with_reducible refine blk_ld (by assumption) rfl ?_); conv => whnf) | ((with_reducible refine blk_ldN (by assumption) rfl ?_); conv => whnf) | ((with_reducible refine HInt.mk _ (wrap_u64 (by omega)) ?_); conv => whnf) | ((with_reducible refine HInt.mk _ (wrap_u8 (by omega)) ?_); conv => whnf) | ((with_reducible refine HInt.mk _ (wrap_u32 (by omega)) ?_); conv => whnf))))
        refine o10.sl.cells ?_
        refine Own.bytes (more := enc l1[i]) (o9.ext x10) (by have := x10.1; have := x19.1; omega) (by omega) ?_
        intro h11 a11 c11 o11 g11
        ((conv => whnf); (repeat (first | ((with_reducible refine HSeq.go ?_); conv => whnf) | ((with_reducible refine HMust.mk (by decide) ?_); conv => whnf) | ((with_reducible refine HIf.yes (by first | rfl | assumption | decide) ?_); conv => whnf) | ((with_reducible refine HIf.no (by first | rfl | assumption | decide) ?_); conv => whnf) | ((with_reducible refine HInt.mk _ (wrap_i64 (by omega)) ?_); conv => whnf) | ((refine HMust.mk (by rfl) ?_); conv => whnf) | ((with_reducible refine blk_ld (by assumption) rfl ?_); conv => whnf) | ((with_reducible refine blk_ldN (by assumption) rfl ?_); conv => whnf) | ((with_reducible refine HInt.mk _ (wrap_u64 (by omega)) ?_); conv => whnf) | ((with_reducible refine HInt.mk _ (wrap_u8 (by omega)) ?_); conv => whnf) | ((with_reducible refine HInt.mk _ (wrap_u32 (by omega)) ?_); conv => whnf))))
        refine ⟨⟨i + 1, a11, c11, _, rfl, by omega, ?_, o11, (x19.trans x10).keep (g11.kept (by have := x10.1; have := x19.1; omega) fun p ep => by have := o9.lt p ep; omega)⟩, ?_⟩
        · rw [hbs', hbs, htk]
          rcases hk with rfl | rfl
          · rw [hkeys5 rfl, List.take_nil, List.take_nil, encK_snoc0]; simp
          · have hkl := hkeys6 rfl
            have hi2 : i < ks1.length := by omega
            rw [take_succ' hi2, encK_snoc _ _ _ _ (by simp; omega), List.getElem?_eq_getElem hi2]; simp
        · show l1.length - (((i : Int) + 1)).toNat < l1.length - ((i : Int)).toNat
          omega
    · have hge := of_decide_eq_false hb
      obtain rfl : i = l1.length := by omega
      have hkk : encK (ks1.take l1.length) (l1.take l1.length) = encK ks1 l1 := by
        rw [List.take_length]
        rcases hkeys with rfl | hk
        · simp
        · rw [← hk, List.take_length]
      rw [hkk] at hbs
      ((conv => whnf); (repeat (first | ((with_reducible refine HSeq.go ?_); conv => whnf) | ((with_reducible refine HMust.mk (by decide) ?_); conv => whnf) | ((with_reducible refine HIf.yes (by first | rfl | assumption | decide) ?_); conv => whnf) | ((with_reducible refine HIf.no (by first | rfl | assumption | decide) ?_); conv => whnf) | ((with_reducible refine HInt.mk _ (wrap_i64 (by omega)) ?_); conv => whnf) | ((refine HMust.mk (by rfl) ?_); conv => whnf) | ((with_reducible refine blk_ld (by assumption) rfl ?_); conv => whnf) | ((with_reducible refine blk_ldN (by assumption) rfl ?_); conv => whnf) | ((with_reducible refine HInt.mk _ (wrap_u64 (by omega)) ?_); conv => whnf) | ((with_reducible refine HInt.mk _ (wrap_u8 (by omega)) ?_); conv => whnf) | ((with_reducible refine HInt.mk _ (wrap_u32 (by omega)) ?_); conv => whnf))))
      have e5 : bs = f :: (leb l1.length ++ encK ks1 l1) := by rw [hbs]; simp
      rw [← e5]
      exact ⟨a6', c6, rfl, o6.lower x1.1, x06⟩

theorem write_spec : ∀ (t : DT), WriteSpec t := by
  intro t
  induction t using (measure (fun d : DT => SizeOf.sizeOf d)).wf.induction with
  | _ t ih =>
  by_cases hk : t.kind = 5 ∨ t.kind = 6
  · refine write_list t hk fun x hx => ih x ?_
    obtain ⟨k1, n1, s1, ks1, l1⟩ := t
    have := List.sizeOf_lt_of_mem hx
    show SizeOf.sizeOf x < SizeOf.sizeOf (DT.mk k1 n1 s1 ks1 l1)
    simp only [DT.mk.sizeOf_spec, DT.list] at *; omega
  · exact write_small t hk

end Go.Proofs.Ytkcnjcdggbifeaa.Hc
