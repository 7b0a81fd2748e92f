import Derived.Test.YtkcnjcdggbifeaaAD
set_option linter.unusedVariables false
set_option linter.unusedSimpArgs false
namespace Go.Proofs.Ytkcnjcdggbifeaa.Hc
open Go Go.H Go.Proofs
set_option maxRecDepth 100000
set_option maxHeartbeats 4000000

theorem lay_list (t : DT) (hk : t.kind = 5 ∨ t.kind = 6) (ih : ∀ x ∈ t.list, LaySpec x) : LaySpec t := by
  intro h0 h cs a c l0 ra e0 hmay hvol hlen own
  have hB := e0.1
  have hle := enc_le hvol hmay
  obtain ⟨k1, n1, s1, ks1, l1⟩ := t
  simp only [DT.kind, DT.list] at hk ih
  have ra0 := ra
  have ra1 := ra
  simp only [Rep] at ra1
  obtain ⟨a1, a2, a3, a4, a5, a6, ka, kc, la, lc, xs, rfl, a7, a8, a9⟩ := ra1
  have hkl := kvol_len ks1
  have hvl := vols_len l1
  have hmay0 := hmay
  simp only [may] at hmay
  obtain ⟨own1, hms⟩ := hmay
  have hvol0 := hvol
  simp only [vol] at hvol hlen
  have han := own.lt
  refine c18 (by simp) ?_
  (conv => whnf)
  refine new_var (e := 25) [.int .i64 k1, .int .i64 n1, .string s1, .slice ka ks1.length kc, .slice la l1.length lc] rfl ?_
  intro h1 bx ox x1 z1 hbx
  have hne : ∀ p, a = some p → p.block ≠ bx := fun p ep => by have := han p ep; omega
  have ow1 := own.ext x1
  unfold Own1 at own1
  have q0 : (k1 == 0) = false := by rcases hk with rfl | rfl <;> rfl
  have q1 : (k1 == 1) = false := by rcases hk with rfl | rfl <;> rfl
  have q2 : (k1 == 2) = false := by rcases hk with rfl | rfl <;> rfl
  have q3 : (k1 == 3) = false := by rcases hk with rfl | rfl <;> rfl
  have q4 : (k1 == 4) = false := by rcases hk with rfl | rfl <;> rfl
  have heq : enc (.mk k1 n1 s1 ks1 l1) = (if k1 = 6 then 8 else 7) :: (leb l1.length ++ encK ks1 l1) := by
    simp only [enc]; rcases hk with rfl | rfl <;> rfl
  have hkeys : ks1 = [] ∨ ks1.length = l1.length := by
    rcases own1 with ⟨rfl | rfl, _⟩ | ⟨rfl, _⟩ | ⟨rfl, _⟩ | ⟨rfl, _⟩ | ⟨_, _, _, h⟩ | ⟨_, _, _, h⟩
    · simp at hk
    · simp at hk
    · simp at hk
    · simp at hk
    · simp at hk
    · exact .inl h
    · exact .inr h.2.2
  have hkeys5 : k1 = 5 → ks1 = [] := by
    intro e
    rcases own1 with ⟨rfl | rfl, _⟩ | ⟨rfl, _⟩ | ⟨rfl, _⟩ | ⟨rfl, _⟩ | ⟨_, _, _, h⟩ | ⟨rfl, _, _, h⟩
    · simp at e
    · simp at e
    · simp at e
    · simp at e
    · simp at e
    · exact h
    · simp at e
  have hkeys6 : k1 = 6 → ks1.length = l1.length := by
    intro e
    rcases own1 with ⟨rfl | rfl, _⟩ | ⟨rfl, _⟩ | ⟨rfl, _⟩ | ⟨rfl, _⟩ | ⟨rfl, _⟩ | ⟨_, _, _, h⟩
    · simp at e
    · simp at e
    · simp at e
    · simp at e
    · simp at e
    · simp at e
    · exact h.2.2
  rw [heq] at hle ⊢
  simp only [List.length_cons, List.length_append] at hle
  have hlb := leb_len l1.length (by omega)
  generalize hf : (if k1 = 6 then (8 : UInt8) else 7) = f at hle ⊢
  ((conv => whnf); (repeat (first | ((with_reducible refine HMust.mk (by decide) ?_); conv => whnf) | ((with_reducible refine HIf.yes (by first | rfl | assumption | decide) ?_); conv => whnf) | ((with_reducible refine HIf.no (by first | rfl | assumption | decide) ?_); conv => whnf) | ((with_reducible refine HInt.mk _ (wrap_i64 (by omega)) ?_); conv => whnf) | ((refine HMust.mk (by rfl) ?_); conv => whnf) | ((with_reducible refine blk_ld (by assumption) rfl ?_); conv => whnf) | ((with_reducible refine blk_ldN (by assumption) rfl ?_); conv => whnf) | ((with_reducible refine HInt.mk _ (wrap_u64 (by omega)) ?_); conv => whnf) | ((with_reducible refine HInt.mk _ (wrap_u8 (by omega)) ?_); conv => whnf) | ((with_reducible refine HInt.mk _ (wrap_u32 (by omega)) ?_); conv => whnf))))
  (refine HSeq.go ?_; conv => whnf)
  ((conv => whnf); (repeat (first | ((with_reducible refine HMust.mk (by decide) ?_); conv => whnf) | ((with_reducible refine HIf.yes (by first | rfl | assumption | decide) ?_); conv => whnf) | ((with_reducible refine HIf.no (by first | rfl | assumption | decide) ?_); conv => whnf) | ((with_reducible refine HInt.mk _ (wrap_i64 (by omega)) ?_); conv => whnf) | ((refine HMust.mk (by rfl) ?_); conv => whnf) | ((with_reducible refine blk_ld (by assumption) rfl ?_); conv => whnf) | ((with_reducible refine blk_ldN (by assumption) rfl ?_); conv => whnf) | ((with_reducible refine HInt.mk _ (wrap_u64 (by omega)) ?_); conv => whnf) | ((with_reducible refine HInt.mk _ (wrap_u8 (by omega)) ?_); conv => whnf) | ((with_reducible refine HInt.mk _ (wrap_u32 (by omega)) ?_); conv => whnf))))
  (refine HSeq.go ?_; conv => whnf)
  ((conv => whnf); (repeat (first | ((with_reducible refine HMust.mk (by decide) ?_); conv => whnf) | ((with_reducible refine HIf.yes (by first | rfl | assumption | decide) ?_); conv => whnf) | ((with_reducible refine HIf.no (by first | rfl | assumption | decide) ?_); conv => whnf) | ((with_reducible refine HInt.mk _ (wrap_i64 (by omega)) ?_); conv => whnf) | ((refine HMust.mk (by rfl) ?_); conv => whnf) | ((with_reducible refine blk_ld (by assumption) rfl ?_); conv => whnf) | ((with_reducible refine blk_ldN (by assumption) rfl ?_); conv => whnf) | ((with_reducible refine HInt.mk _ (wrap_u64 (by omega)) ?_); conv => whnf) | ((with_reducible refine HInt.mk _ (wrap_u8 (by omega)) ?_); conv => whnf) | ((with_reducible refine HInt.mk _ (wrap_u32 (by omega)) ?_); conv => whnf))))
  refine cut_rule [5] (fun vs h' => vs = [.int .u8 (f.toNat : Nat)] ∧ h' = h1) rfl ?_ ?_
  · ((conv => whnf); (repeat (first | ((with_reducible refine HSeq.go ?_); conv => whnf) | ((with_reducible refine HMust.mk (by decide) ?_); conv => whnf) | ((with_reducible refine HIf.yes (by first | rfl | assumption | decide) ?_); conv => whnf) | ((with_reducible refine HIf.no (by first | rfl | assumption | decide) ?_); conv => whnf) | ((with_reducible refine HInt.mk _ (wrap_i64 (by omega)) ?_); conv => whnf) | ((refine HMust.mk (by rfl) ?_); conv => whnf) | ((with_reducible refine blk_ld (by assumption) rfl ?_); conv => whnf) | ((with_reducible refine blk_ldN (by assumption) rfl ?_); conv => whnf) | ((with_reducible refine HInt.mk _ (wrap_u64 (by omega)) ?_); conv => whnf) | ((with_reducible refine HInt.mk _ (wrap_u8 (by omega)) ?_); conv => whnf) | ((with_reducible refine HInt.mk _ (wrap_u32 (by omega)) ?_); conv => whnf))))
    refine HIf.mk (fun h6 => ?_) (fun h6 => ?_)
    · have e6 : k1 = 6 := by simpa using h6
      subst e6
      ((conv => whnf); (repeat (first | ((with_reducible refine HSeq.go ?_); conv => whnf) | ((with_reducible refine HMust.mk (by decide) ?_); conv => whnf) | ((with_reducible refine HIf.yes (by first | rfl | assumption | decide) ?_); conv => whnf) | ((with_reducible refine HIf.no (by first | rfl | assumption | decide) ?_); conv => whnf) | ((with_reducible refine HInt.mk _ (wrap_i64 (by omega)) ?_); conv => whnf) | ((refine HMust.mk (by rfl) ?_); conv => whnf) | ((with_reducible refine blk_ld (by assumption) rfl ?_); conv => whnf) | ((with_reducible refine blk_ldN (by assumption) rfl ?_); conv => whnf) | ((with_reducible refine HInt.mk _ (wrap_u64 (by omega)) ?_); conv => whnf) | ((with_reducible refine HInt.mk _ (wrap_u8 (by omega)) ?_); conv => whnf) | ((with_reducible refine HInt.mk _ (wrap_u32 (by omega)) ?_); conv => whnf))))
      exact ⟨by subst hf; rfl, rfl⟩
    · have e6 : k1 ≠ 6 := by simpa using h6
      ((conv => whnf); (repeat (first | ((with_reducible refine HSeq.go ?_); conv => whnf) | ((with_reducible refine HMust.mk (by decide) ?_); conv => whnf) | ((with_reducible refine HIf.yes (by first | rfl | assumption | decide) ?_); conv => whnf) | ((with_reducible refine HIf.no (by first | rfl | assumption | decide) ?_); conv => whnf) | ((with_reducible refine HInt.mk _ (wrap_i64 (by omega)) ?_); conv => whnf) | ((refine HMust.mk (by rfl) ?_); conv => whnf) | ((with_reducible refine blk_ld (by assumption) rfl ?_); conv => whnf) | ((with_reducible refine blk_ldN (by assumption) rfl ?_); conv => whnf) | ((with_reducible refine HInt.mk _ (wrap_u64 (by omega)) ?_); conv => whnf) | ((with_reducible refine HInt.mk _ (wrap_u8 (by omega)) ?_); conv => whnf) | ((with_reducible refine HInt.mk _ (wrap_u32 (by omega)) ?_); conv => whnf))))
      exact ⟨by subst hf; rw [if_neg e6]; rfl, rfl⟩
  intro u h1 v5
  rintro ⟨e, rfl⟩
  cases e
  (conv => whnf)
  refine cut_rule [0] (fun vs h' => ∃ a' c', vs = [.slice a' (l0 ++ f :: leb l1.length).length c'] ∧ Own h' h0.size 5 1 a' (l0 ++ f :: leb l1.length).length c' ((l0 ++ f :: leb l1.length).map byteV) ∧ Grew h1 a h' a') rfl ?_ ?_
  · ((conv => whnf); (repeat (first | ((with_reducible refine HSeq.go ?_); conv => whnf) | ((with_reducible refine HMust.mk (by decide) ?_); conv => whnf) | ((with_reducible refine HIf.yes (by first | rfl | assumption | decide) ?_); conv => whnf) | ((with_reducible refine HIf.no (by first | rfl | assumption | decide) ?_); conv => whnf) | ((with_reducible refine HInt.mk _ (wrap_i64 (by omega)) ?_); conv => whnf) | ((refine HMust.mk (by rfl) ?_); conv => whnf) | ((with_reducible refine blk_ld (by assumption) rfl ?_); conv => whnf) | ((with_reducible refine blk_ldN (by assumption) rfl ?_); conv => whnf) | ((with_reducible refine HInt.mk _ (wrap_u64 (by omega)) ?_); conv => whnf) | ((with_reducible refine HInt.mk _ (wrap_u8 (by omega)) ?_); conv => whnf) | ((with_reducible refine HInt.mk _ (wrap_u32 (by omega)) ?_); conv => whnf))))
    refine HAlt.mk ?_ ?_
    · ((conv => whnf); (repeat (first | ((with_reducible refine HSeq.go ?_); conv => whnf) | ((with_reducible refine HMust.mk (by decide) ?_); conv => whnf) | ((with_reducible refine HIf.yes (by first | rfl | assumption | decide) ?_); conv => whnf) | ((with_reducible refine HIf.no (by first | rfl | assumption | decide) ?_); conv => whnf) | ((with_reducible refine HInt.mk _ (wrap_i64 (by omega)) ?_); conv => whnf) | ((refine HMust.mk (by rfl) ?_); conv => whnf) | ((with_reducible refine blk_ld (by assumption) rfl ?_); conv => whnf) | ((with_reducible refine blk_ldN (by assumption) rfl ?_); conv => whnf) | ((with_reducible refine HInt.mk _ (wrap_u64 (by omega)) ?_); conv => whnf) | ((with_reducible refine HInt.mk _ (wrap_u8 (by omega)) ?_); conv => whnf) | ((with_reducible refine HInt.mk _ (wrap_u32 (by omega)) ?_); conv => whnf))))
      refine new_own (e := 5) 1 1 [byteV f] rfl rfl ?_
      intro h2 b2 o2 x2 z2 e2
      have ox2 := ox.ext x2
      ((conv => whnf); (repeat (first | ((with_reducible refine HSeq.go ?_); conv => whnf) | ((with_reducible refine HMust.mk (by decide) ?_); conv => whnf) | ((with_reducible refine HIf.yes (by first | rfl | assumption | decide) ?_); conv => whnf) | ((with_reducible refine HIf.no (by first | rfl | assumption | decide) ?_); conv => whnf) | ((with_reducible refine HInt.mk _ (wrap_i64 (by omega)) ?_); conv => whnf) | ((refine HMust.mk (by rfl) ?_); conv => whnf) | ((with_reducible refine blk_ld (by assumption) rfl ?_); conv => whnf) | ((with_reducible refine blk_ldN (by assumption) rfl ?_); conv => whnf) | ((with_reducible refine HInt.mk _ (wrap_u64 (by omega)) ?_); conv => whnf) | ((with_reducible refine HInt.mk _ (wrap_u8 (by omega)) ?_); conv => whnf) | ((with_reducible refine HInt.mk _ (wrap_u32 (by omega)) ?_); conv => whnf))))
      refine HAlt.mk ?_ ?_
      · ((conv => whnf); (repeat (first | ((with_reducible refine HSeq.go ?_); conv => whnf) | ((with_reducible refine HMust.mk (by decide) ?_); conv => whnf) | ((with_reducible refine HIf.yes (by first | rfl | assumption | decide) ?_); conv => whnf) | ((with_reducible refine HIf.no (by first | rfl | assumption | decide) ?_); conv => whnf) | ((with_reducible refine HInt.mk _ (wrap_i64 (by omega)) ?_); conv => whnf) | ((refine HMust.mk (by rfl) ?_); conv => whnf) | ((with_reducible refine blk_ld (by assumption) rfl ?_); conv => whnf) | ((with_reducible refine blk_ldN (by assumption) rfl ?_); conv => whnf) | ((with_reducible refine HInt.mk _ (wrap_u64 (by omega)) ?_); conv => whnf) | ((with_reducible refine HInt.mk _ (wrap_u8 (by omega)) ?_); conv => whnf) | ((with_reducible refine HInt.mk _ (wrap_u32 (by omega)) ?_); conv => whnf))))
        refine o2.sl.cells ?_
        refine Own.bytes (more := [f]) (ow1.ext x2) (by omega) (by simp; omega) ?_
        intro h3 a3 c3 o3 g3
        have hs3 := g3.1
        have ox3 := g3.blk ox2 hne
        ((conv => whnf); (repeat (first | ((with_reducible refine HSeq.go ?_); conv => whnf) | ((with_reducible refine HMust.mk (by decide) ?_); conv => whnf) | ((with_reducible refine HIf.yes (by first | rfl | assumption | decide) ?_); conv => whnf) | ((with_reducible refine HIf.no (by first | rfl | assumption | decide) ?_); conv => whnf) | ((with_reducible refine HInt.mk _ (wrap_i64 (by omega)) ?_); conv => whnf) | ((refine HMust.mk (by rfl) ?_); conv => whnf) | ((with_reducible refine blk_ld (by assumption) rfl ?_); conv => whnf) | ((with_reducible refine blk_ldN (by assumption) rfl ?_); conv => whnf) | ((with_reducible refine HInt.mk _ (wrap_u64 (by omega)) ?_); conv => whnf) | ((with_reducible refine HInt.mk _ (wrap_u8 (by omega)) ?_); conv => whnf) | ((with_reducible refine HInt.mk _ (wrap_u32 (by omega)) ?_); conv => whnf))))
        refine HCall.mk ((num_spec l1.length (by omega) h3).mono ?_)
        rintro e h4 ⟨a4, c4, rfl, o4, x4⟩
        ((conv => whnf); (repeat (first | ((with_reducible refine HSeq.go ?_); conv => whnf) | ((with_reducible refine HMust.mk (by decide) ?_); conv => whnf) | ((with_reducible refine HIf.yes (by first | rfl | assumption | decide) ?_); conv => whnf) | ((with_reducible refine HIf.no (by first | rfl | assumption | decide) ?_); conv => whnf) | ((with_reducible refine HInt.mk _ (wrap_i64 (by omega)) ?_); conv => whnf) | ((refine HMust.mk (by rfl) ?_); conv => whnf) | ((with_reducible refine blk_ld (by assumption) rfl ?_); conv => whnf) | ((with_reducible refine blk_ldN (by assumption) rfl ?_); conv => whnf) | ((with_reducible refine HInt.mk _ (wrap_u64 (by omega)) ?_); conv => whnf) | ((with_reducible refine HInt.mk _ (wrap_u8 (by omega)) ?_); conv => whnf) | ((with_reducible refine HInt.mk _ (wrap_u32 (by omega)) ?_); conv => whnf))))
        refine o4.sl.cells ?_
        refine Own.bytes (more := leb l1.length) (o3.ext x4) (by have := x4.1; omega) (by simp only [List.length_append, List.length_singleton]; omega) ?_
        intro h5 a5 c5 o5 g5
        ((conv => whnf); (repeat (first | ((with_reducible refine HSeq.go ?_); conv => whnf) | ((with_reducible refine HMust.mk (by decide) ?_); conv => whnf) | ((with_reducible refine HIf.yes (by first | rfl | assumption | decide) ?_); conv => whnf) | ((with_reducible refine HIf.no (by first | rfl | assumption | decide) ?_); conv => whnf) | ((with_reducible refine HInt.mk _ (wrap_i64 (by omega)) ?_); conv => whnf) | ((refine HMust.mk (by rfl) ?_); conv => whnf) | ((with_reducible refine blk_ld (by assumption) rfl ?_); conv => whnf) | ((with_reducible refine blk_ldN (by assumption) rfl ?_); conv => whnf) | ((with_reducible refine HInt.mk _ (wrap_u64 (by omega)) ?_); conv => whnf) | ((with_reducible refine HInt.mk _ (wrap_u8 (by omega)) ?_); conv => whnf) | ((with_reducible refine HInt.mk _ (wrap_u32 (by omega)) ?_); conv => whnf))))
        have e5 : l0 ++ [f] ++ leb l1.length = l0 ++ f :: leb l1.length := by simp
        rw [e5] at o5 ⊢
        exact ⟨a5, c5, rfl, o5, (Grew.of_ext x2 a).trans (g3.trans ((Grew.of_ext x4 _).trans g5))⟩
      · ((conv => whnf); (repeat (first | ((with_reducible refine HSeq.go ?_); conv => whnf) | ((with_reducible refine HMust.mk (by decide) ?_); conv => whnf) | ((with_reducible refine HIf.yes (by first | rfl | assumption | decide) ?_); conv => whnf) | ((with_reducible refine HIf.no (by first | rfl | assumption | decide) ?_); conv => whnf) | ((with_reducible refine HInt.mk _ (wrap_i64 (by omega)) ?_); conv => whnf) | ((refine HMust.mk (by rfl) ?_); conv => whnf) | ((with_reducible refine blk_ld (by assumption) rfl ?_); conv => whnf) | ((with_reducible refine blk_ldN (by assumption) rfl ?_); conv => whnf) | ((with_reducible refine HInt.mk _ (wrap_u64 (by omega)) ?_); conv => whnf) | ((with_reducible refine HInt.mk _ (wrap_u8 (by omega)) ?_); conv => whnf) | ((with_reducible refine HInt.mk _ (wrap_u32 (by omega)) ?_); conv => whnf))))
        refine o2.sl.cells ?_
        refine Own.bytes (more := [f]) (ow1.ext x2) (by omega) (by simp; omega) ?_
        intro h3 a3 c3 o3 g3
        have hs3 := g3.1
        have ox3 := g3.blk ox2 hne
        ((conv => whnf); (repeat (first | ((with_reducible refine HSeq.go ?_); conv => whnf) | ((with_reducible refine HMust.mk (by decide) ?_); conv => whnf) | ((with_reducible refine HIf.yes (by first | rfl | assumption | decide) ?_); conv => whnf) | ((with_reducible refine HIf.no (by first | rfl | assumption | decide) ?_); conv => whnf) | ((with_reducible refine HInt.mk _ (wrap_i64 (by omega)) ?_); conv => whnf) | ((refine HMust.mk (by rfl) ?_); conv => whnf) | ((with_reducible refine blk_ld (by assumption) rfl ?_); conv => whnf) | ((with_reducible refine blk_ldN (by assumption) rfl ?_); conv => whnf) | ((with_reducible refine HInt.mk _ (wrap_u64 (by omega)) ?_); conv => whnf) | ((with_reducible refine HInt.mk _ (wrap_u8 (by omega)) ?_); conv => whnf) | ((with_reducible refine HInt.mk _ (wrap_u32 (by omega)) ?_); conv => whnf))))
        refine HCall.mk ((num_spec l1.length (by omega) h3).mono ?_)
        rintro e h4 ⟨a4, c4, rfl, o4, x4⟩
        ((conv => whnf); (repeat (first | ((with_reducible refine HSeq.go ?_); conv => whnf) | ((with_reducible refine HMust.mk (by decide) ?_); conv => whnf) | ((with_reducible refine HIf.yes (by first | rfl | assumption | decide) ?_); conv => whnf) | ((with_reducible refine HIf.no (by first | rfl | assumption | decide) ?_); conv => whnf) | ((with_reducible refine HInt.mk _ (wrap_i64 (by omega)) ?_); conv => whnf) | ((refine HMust.mk (by rfl) ?_); conv => whnf) | ((with_reducible refine blk_ld (by assumption) rfl ?_); conv => whnf) | ((with_reducible refine blk_ldN (by assumption) rfl ?_); conv => whnf) | ((with_reducible refine HInt.mk _ (wrap_u64 (by omega)) ?_); conv => whnf) | ((with_reducible refine HInt.mk _ (wrap_u8 (by omega)) ?_); conv => whnf) | ((with_reducible refine HInt.mk _ (wrap_u32 (by omega)) ?_); conv => whnf))))
        refine o4.sl.cells ?_
        refine Own.bytes (more := leb l1.length) (o3.ext x4) (by have := x4.1; omega) (by simp only [List.length_append, List.length_singleton]; omega) ?_
        intro h5 a5 c5 o5 g5
        ((conv => whnf); (repeat (first | ((with_reducible refine HSeq.go ?_); conv => whnf) | ((with_reducible refine HMust.mk (by decide) ?_); conv => whnf) | ((with_reducible refine HIf.yes (by first | rfl | assumption | decide) ?_); conv => whnf) | ((with_reducible refine HIf.no (by first | rfl | assumption | decide) ?_); conv => whnf) | ((with_reducible refine HInt.mk _ (wrap_i64 (by omega)) ?_); conv => whnf) | ((refine HMust.mk (by rfl) ?_); conv => whnf) | ((with_reducible refine blk_ld (by assumption) rfl ?_); conv => whnf) | ((with_reducible refine blk_ldN (by assumption) rfl ?_); conv => whnf) | ((with_reducible refine HInt.mk _ (wrap_u64 (by omega)) ?_); conv => whnf) | ((with_reducible refine HInt.mk _ (wrap_u8 (by omega)) ?_); conv => whnf) | ((with_reducible refine HInt.mk _ (wrap_u32 (by omega)) ?_); conv => whnf))))
        have e5 : l0 ++ [f] ++ leb l1.length = l0 ++ f :: leb l1.length := by simp
        rw [e5] at o5 ⊢
        exact ⟨a5, c5, rfl, o5, (Grew.of_ext x2 a).trans (g3.trans ((Grew.of_ext x4 _).trans g5))⟩
    · ((conv => whnf); (repeat (first | ((with_reducible refine HSeq.go ?_); conv => whnf) | ((with_reducible refine HMust.mk (by decide) ?_); conv => whnf) | ((with_reducible refine HIf.yes (by first | rfl | assumption | decide) ?_); conv => whnf) | ((with_reducible refine HIf.no (by first | rfl | assumption | decide) ?_); conv => whnf) | ((with_reducible refine HInt.mk _ (wrap_i64 (by omega)) ?_); conv => whnf) | ((refine HMust.mk (by rfl) ?_); conv => whnf) | ((with_reducible refine blk_ld (by assumption) rfl ?_); conv => whnf) | ((with_reducible refine blk_ldN (by assumption) rfl ?_); conv => whnf) | ((with_reducible refine HInt.mk _ (wrap_u64 (by omega)) ?_); conv => whnf) | ((with_reducible refine HInt.mk _ (wrap_u8 (by omega)) ?_); conv => whnf) | ((with_reducible refine HInt.mk _ (wrap_u32 (by omega)) ?_); conv => whnf))))
      refine new_own (e := 5) 1 1 [byteV f] rfl rfl ?_
      intro h2 b2 o2 x2 z2 e2
      have ox2 := ox.ext x2
      ((conv => whnf); (repeat (first | ((with_reducible refine HSeq.go ?_); conv => whnf) | ((with_reducible refine HMust.mk (by decide) ?_); conv => whnf) | ((with_reducible refine HIf.yes (by first | rfl | assumption | decide) ?_); conv => whnf) | ((with_reducible refine HIf.no (by first | rfl | assumption | decide) ?_); conv => whnf) | ((with_reducible refine HInt.mk _ (wrap_i64 (by omega)) ?_); conv => whnf) | ((refine HMust.mk (by rfl) ?_); conv => whnf) | ((with_reducible refine blk_ld (by assumption) rfl ?_); conv => whnf) | ((with_reducible refine blk_ldN (by assumption) rfl ?_); conv => whnf) | ((with_reducible refine HInt.mk _ (wrap_u64 (by omega)) ?_); conv => whnf) | ((with_reducible refine HInt.mk _ (wrap_u8 (by omega)) ?_); conv => whnf) | ((with_reducible refine HInt.mk _ (wrap_u32 (by omega)) ?_); conv => whnf))))
      refine o2.sl.cells ?_
      refine Own.bytes (more := [f]) (ow1.ext x2) (by omega) (by simp; omega) ?_
      intro h3 a3 c3 o3 g3
      have hs3 := g3.1
      have ox3 := g3.blk ox2 hne
      ((conv => whnf); (repeat (first | ((with_reducible refine HSeq.go ?_); conv => whnf) | ((with_reducible refine HMust.mk (by decide) ?_); conv => whnf) | ((with_reducible refine HIf.yes (by first | rfl | assumption | decide) ?_); conv => whnf) | ((with_reducible refine HIf.no (by first | rfl | assumption | decide) ?_); conv => whnf) | ((with_reducible refine HInt.mk _ (wrap_i64 (by omega)) ?_); conv => whnf) | ((refine HMust.mk (by rfl) ?_); conv => whnf) | ((with_reducible refine blk_ld (by assumption) rfl ?_); conv => whnf) | ((with_reducible refine blk_ldN (by assumption) rfl ?_); conv => whnf) | ((with_reducible refine HInt.mk _ (wrap_u64 (by omega)) ?_); conv => whnf) | ((with_reducible refine HInt.mk _ (wrap_u8 (by omega)) ?_); conv => whnf) | ((with_reducible refine HInt.mk _ (wrap_u32 (by omega)) ?_); conv => whnf))))
      refine HCall.mk ((num_spec l1.length (by omega) h3).mono ?_)
      rintro e h4 ⟨a4, c4, rfl, o4, x4⟩
      ((conv => whnf); (repeat (first | ((with_reducible refine HSeq.go ?_); conv => whnf) | ((with_reducible refine HMust.mk (by decide) ?_); conv => whnf) | ((with_reducible refine HIf.yes (by first | rfl | assumption | decide) ?_); conv => whnf) | ((with_reducible refine HIf.no (by first | rfl | assumption | decide) ?_); conv => whnf) | ((with_reducible refine HInt.mk _ (wrap_i64 (by omega)) ?_); conv => whnf) | ((refine HMust.mk (by rfl) ?_); conv => whnf) | ((with_reducible refine blk_ld (by assumption) rfl ?_); conv => whnf) | ((with_reducible refine blk_ldN (by assumption) rfl ?_); conv => whnf) | ((with_reducible refine HInt.mk _ (wrap_u64 (by omega)) ?_); conv => whnf) | ((with_reducible refine HInt.mk _ (wrap_u8 (by omega)) ?_); conv => whnf) | ((with_reducible refine HInt.mk _ (wrap_u32 (by omega)) ?_); conv => whnf))))
      refine o4.sl.cells ?_
      refine Own.bytes (more := leb l1.length) (o3.ext x4) (by have := x4.1; omega) (by simp only [List.length_append, List.length_singleton]; omega) ?_
      intro h5 a5 c5 o5 g5
      ((conv => whnf); (repeat (first | ((with_reducible refine HSeq.go ?_); conv => whnf) | ((with_reducible refine HMust.mk (by decide) ?_); conv => whnf) | ((with_reducible refine HIf.yes (by first | rfl | assumption | decide) ?_); conv => whnf) | ((with_reducible refine HIf.no (by first | rfl | assumption | decide) ?_); conv => whnf) | ((with_reducible refine HInt.mk _ (wrap_i64 (by omega)) ?_); conv => whnf) | ((refine HMust.mk (by rfl) ?_); conv => whnf) | ((with_reducible refine blk_ld (by assumption) rfl ?_); conv => whnf) | ((with_reducible refine blk_ldN (by assumption) rfl ?_); conv => whnf) | ((with_reducible refine HInt.mk _ (wrap_u64 (by omega)) ?_); conv => whnf) | ((with_reducible refine HInt.mk _ (wrap_u8 (by omega)) ?_); conv => whnf) | ((with_reducible refine HInt.mk _ (wrap_u32 (by omega)) ?_); conv => whnf))))
      have e5 : l0 ++ [f] ++ leb l1.length = l0 ++ f :: leb l1.length := by simp
      rw [e5] at o5 ⊢
      exact ⟨a5, c5, rfl, o5, (Grew.of_ext x2 a).trans (g3.trans ((Grew.of_ext x4 _).trans g5))⟩
  intro u h2 v0
  rintro ⟨a2, c2, e, o2, g2⟩
  cases e
  have ox2 := g2.blk ox hne
  have hks : Kept h0.size h h2 := (Kept.trans (x1.kept hB) (g2.kept (by have := x1.1; omega) fun p ep => (han p ep).1))
  have hs2 := g2.1
  ((conv => whnf); (repeat (first | ((with_reducible refine HSeq.go ?_); conv => whnf) | ((with_reducible refine HMust.mk (by decide) ?_); conv => whnf) | ((with_reducible refine HIf.yes (by first | rfl | assumption | decide) ?_); conv => whnf) | ((with_reducible refine HIf.no (by first | rfl | assumption | decide) ?_); conv => whnf) | ((with_reducible refine HInt.mk _ (wrap_i64 (by omega)) ?_); conv => whnf) | ((refine HMust.mk (by rfl) ?_); conv => whnf) | ((with_reducible refine blk_ld (by assumption) rfl ?_); conv => whnf) | ((with_reducible refine blk_ldN (by assumption) rfl ?_); conv => whnf) | ((with_reducible refine HInt.mk _ (wrap_u64 (by omega)) ?_); conv => whnf) | ((with_reducible refine HInt.mk _ (wrap_u8 (by omega)) ?_); conv => whnf) | ((with_reducible refine HInt.mk _ (wrap_u32 (by omega)) ?_); conv => whnf))))
  refine loop_rule [0, 75] (fun vs h' => ∃ (i : Nat) (a' : Option Addr) (c' : Nat) (bs : List UInt8), vs = [.slice a' bs.length c', .int .i64 i] ∧ i ≤ l1.length ∧ bs = l0 ++ f :: leb l1.length ++ encK (ks1.take i) (l1.take i) ∧
      Own h' h0.size 5 1 a' bs.length c' (bs.map byteV) ∧ Grew h1 a h' a')
    (fun vs _ => match vs with | [_, .int _ i] => l1.length - i.toNat | _ => 0) rfl ?_ ?_
  · refine ⟨0, a2, c2, _, rfl, by omega, ?_, o2, g2⟩
    simp [encK_nil]
  · intro u h3 v0 v75
    rintro ⟨i, a3, c3, bs, e, hi, hbs, o3, g3⟩
    cases e
    have ox3 := g3.blk ox hne
    have hs3 := g3.1
    have kp3 : Kept h0.size h h3 := (Kept.trans (x1.kept hB) (g3.kept (by have := x1.1; omega) fun p ep => (han p ep).1))
    ((conv => whnf); (repeat (first | ((with_reducible refine HSeq.go ?_); conv => whnf) | ((with_reducible refine HMust.mk (by decide) ?_); conv => whnf) | ((with_reducible refine HIf.yes (by first | rfl | assumption | decide) ?_); conv => whnf) | ((with_reducible refine HIf.no (by first | rfl | assumption | decide) ?_); conv => whnf) | ((with_reducible refine HInt.mk _ (wrap_i64 (by omega)) ?_); conv => whnf) | ((refine HMust.mk (by rfl) ?_); conv => whnf) | ((with_reducible refine blk_ld (by assumption) rfl ?_); conv => whnf) | ((with_reducible refine blk_ldN (by assumption) rfl ?_); conv => whnf) | ((with_reducible refine HInt.mk _ (wrap_u64 (by omega)) ?_); conv => whnf) | ((with_reducible refine HInt.mk _ (wrap_u8 (by omega)) ?_); conv => whnf) | ((with_reducible refine HInt.mk _ (wrap_u32 (by omega)) ?_); conv => whnf))))
    refine HIf.mk (fun hb => ?_) (fun hb => ?_)
    · have hi1 : i < l1.length := by have := of_decide_eq_true hb; omega
      have hvi := vols_mem l1 l1[i] (List.getElem_mem hi1)
      have hmi := (mays_iff _).1 hms _ (List.getElem_mem hi1)
      have xe3 : Ext h0 h3 := e0.keep kp3
      have htk : l1.take (i + 1) = l1.take i ++ [l1[i]] := take_succ' hi1
      ((conv => whnf); (repeat (first | ((with_reducible refine HSeq.go ?_); conv => whnf) | ((with_reducible refine HMust.mk (by decide) ?_); conv => whnf) | ((with_reducible refine HIf.yes (by first | rfl | assumption | decide) ?_); conv => whnf) | ((with_reducible refine HIf.no (by first | rfl | assumption | decide) ?_); conv => whnf) | ((with_reducible refine HInt.mk _ (wrap_i64 (by omega)) ?_); conv => whnf) | ((refine HMust.mk (by rfl) ?_); conv => whnf) | ((with_reducible refine blk_ld (by assumption) rfl ?_); conv => whnf) | ((with_reducible refine blk_ldN (by assumption) rfl ?_); conv => whnf) | ((with_reducible refine HInt.mk _ (wrap_u64 (by omega)) ?_); conv => whnf) | ((with_reducible refine HInt.mk _ (wrap_u8 (by omega)) ?_); conv => whnf) | ((with_reducible refine HInt.mk _ (wrap_u32 (by omega)) ?_); conv => whnf))))
      refine HIdx.mk i rfl hi1 ?_
      refine sl_some a8 hi1 fun p ep => ?_
      ((conv => whnf); (repeat (first | ((with_reducible refine HSeq.go ?_); conv => whnf) | ((with_reducible refine HMust.mk (by decide) ?_); conv => whnf) | ((with_reducible refine HIf.yes (by first | rfl | assumption | decide) ?_); conv => whnf) | ((with_reducible refine HIf.no (by first | rfl | assumption | decide) ?_); conv => whnf) | ((with_reducible refine HInt.mk _ (wrap_i64 (by omega)) ?_); conv => whnf) | ((refine HMust.mk (by rfl) ?_); conv => whnf) | ((with_reducible refine blk_ld (by assumption) rfl ?_); conv => whnf) | ((with_reducible refine blk_ldN (by assumption) rfl ?_); conv => whnf) | ((with_reducible refine HInt.mk _ (wrap_u64 (by omega)) ?_); conv => whnf) | ((with_reducible refine HInt.mk _ (wrap_u8 (by omega)) ?_); conv => whnf) | ((with_reducible refine HInt.mk _ (wrap_u32 (by omega)) ?_); conv => whnf))))
      refine a8.loadRep0 a9 xe3 ep hi1 fun as' ra1 => ?_
      ((conv => whnf); (repeat (first | ((with_reducible refine HSeq.go ?_); conv => whnf) | ((with_reducible refine HMust.mk (by decide) ?_); conv => whnf) | ((with_reducible refine HIf.yes (by first | rfl | assumption | decide) ?_); conv => whnf) | ((with_reducible refine HIf.no (by first | rfl | assumption | decide) ?_); conv => whnf) | ((with_reducible refine HInt.mk _ (wrap_i64 (by omega)) ?_); conv => whnf) | ((refine HMust.mk (by rfl) ?_); conv => whnf) | ((with_reducible refine blk_ld (by assumption) rfl ?_); conv => whnf) | ((with_reducible refine blk_ldN (by assumption) rfl ?_); conv => whnf) | ((with_reducible refine HInt.mk _ (wrap_u64 (by omega)) ?_); conv => whnf) | ((with_reducible refine HInt.mk _ (wrap_u8 (by omega)) ?_); conv => whnf) | ((with_reducible refine HInt.mk _ (wrap_u32 (by omega)) ?_); conv => whnf))))
      refine new_var (e := 25) zeroD rfl ?_
      intro h4 b4 o4 x4 z4 hb4
      ((conv => whnf); (repeat (first | ((with_reducible refine HSeq.go ?_); conv => whnf) | ((with_reducible refine HMust.mk (by decide) ?_); conv => whnf) | ((with_reducible refine HIf.yes (by first | rfl | assumption | decide) ?_); conv => whnf) | ((with_reducible refine HIf.no (by first | rfl | assumption | decide) ?_); conv => whnf) | ((with_reducible refine HInt.mk _ (wrap_i64 (by omega)) ?_); conv => whnf) | ((refine HMust.mk (by rfl) ?_); conv => whnf) | ((with_reducible refine blk_ld (by assumption) rfl ?_); conv => whnf) | ((with_reducible refine blk_ldN (by assumption) rfl ?_); conv => whnf) | ((with_reducible refine HInt.mk _ (wrap_u64 (by omega)) ?_); conv => whnf) | ((with_reducible refine HInt.mk _ (wrap_u8 (by omega)) ?_); conv => whnf) | ((with_reducible refine HInt.mk _ (wrap_u32 (by omega)) ?_); conv => whnf))))
      have hal := ra1.len
      refine HMust.mk (by simpa using hal) ?_
      refine store_new o4 (by simp [hal]) (by simpa using ra1.one) ?_
      intro h5 f5 z5 o5
      have x45 : Ext h3 h5 := x4.offNew f5 (by omega)
      have ow5 := o3.ext x45
      have xe5 := xe3.trans x45
      have ha3 := o3.lt
      have ox5 := ox3.ext x45
      have hv1 := vols_take hi1
      have hk0 := kvol_take_le ks1 i
      have hen := encK_len (ks1.take i) (l1.take i) (by omega) (by omega) (fun x hx => (mays_iff _).1 hms x (List.mem_of_mem_take hx))
      have hbl : bs.length ≤ l0.length + 11 + 12 * kvol (ks1.take i) + 12 * vols (l1.take i) := by
        rw [hbs]; simp only [List.length_append, List.length_cons]; omega
      ((conv => whnf); (repeat (first | ((with_reducible refine HMust.mk (by decide) ?_); conv => whnf) | ((with_reducible refine HIf.yes (by first | rfl | assumption | decide) ?_); conv => whnf) | ((with_reducible refine HIf.no (by first | rfl | assumption | decide) ?_); conv => whnf) | ((with_reducible refine HInt.mk _ (wrap_i64 (by omega)) ?_); conv => whnf) | ((refine HMust.mk (by rfl) ?_); conv => whnf) | ((with_reducible refine blk_ld (by assumption) rfl ?_); conv => whnf) | ((with_reducible refine blk_ldN (by assumption) rfl ?_); conv => whnf) | ((with_reducible refine HInt.mk _ (wrap_u64 (by omega)) ?_); conv => whnf) | ((with_reducible refine HInt.mk _ (wrap_u8 (by omega)) ?_); conv => whnf) | ((with_reducible refine HInt.mk _ (wrap_u32 (by omega)) ?_); conv => whnf))))
      refine cut_rule [0] (fun vs h' => ∃ a' c' bs', vs = [.slice a' bs'.length c'] ∧ bs' = bs ++ (if k1 = 6 then txt (ks1[i]?.getD ⟨#[]⟩) else []) ∧ Own h' h0.size 5 1 a' bs'.length c' (bs'.map byteV) ∧ Grew h5 a3 h' a') rfl ?_ ?_
      · ((conv => whnf); (repeat (first | ((with_reducible refine HSeq.go ?_); conv => whnf) | ((with_reducible refine HMust.mk (by decide) ?_); conv => whnf) | ((with_reducible refine HIf.yes (by first | rfl | assumption | decide) ?_); conv => whnf) | ((with_reducible refine HIf.no (by first | rfl | assumption | decide) ?_); conv => whnf) | ((with_reducible refine HInt.mk _ (wrap_i64 (by omega)) ?_); conv => whnf) | ((refine HMust.mk (by rfl) ?_); conv => whnf) | ((with_reducible refine blk_ld (by assumption) rfl ?_); conv => whnf) | ((with_reducible refine blk_ldN (by assumption) rfl ?_); conv => whnf) | ((with_reducible refine HInt.mk _ (wrap_u64 (by omega)) ?_); conv => whnf) | ((with_reducible refine HInt.mk _ (wrap_u8 (by omega)) ?_); conv => whnf) | ((with_reducible refine HInt.mk _ (wrap_u32 (by omega)) ?_); conv => whnf))))
        refine HIf.mk (fun h6 => ?_) (fun h6 => ?_)
        · have e6 : k1 = 6 := by
            subst hf
            by_cases h : k1 = 6
            · exact h
            · rw [if_neg h] at h6; cases h6
          have hkl := hkeys6 e6
          have hi2 : i < ks1.length := by omega
          have hki := kvol_mem ks1 ks1[i] (List.getElem_mem hi2)
          ((conv => whnf); (repeat (first | ((with_reducible refine HSeq.go ?_); conv => whnf) | ((with_reducible refine HMust.mk (by decide) ?_); conv => whnf) | ((with_reducible refine HIf.yes (by first | rfl | assumption | decide) ?_); conv => whnf) | ((with_reducible refine HIf.no (by first | rfl | assumption | decide) ?_); conv => whnf) | ((with_reducible refine HInt.mk _ (wrap_i64 (by omega)) ?_); conv => whnf) | ((refine HMust.mk (by rfl) ?_); conv => whnf) | ((with_reducible refine blk_ld (by assumption) rfl ?_); conv => whnf) | ((with_reducible refine blk_ldN (by assumption) rfl ?_); conv => whnf) | ((with_reducible refine HInt.mk _ (wrap_u64 (by omega)) ?_); conv => whnf) | ((with_reducible refine HInt.mk _ (wrap_u8 (by omega)) ?_); conv => whnf) | ((with_reducible refine HInt.mk _ (wrap_u32 (by omega)) ?_); conv => whnf))))
          refine HIdx.mk i rfl hi2 ?_
          refine sl_some (a7.ext xe5) hi2 fun p2 ep2 => ?_
          ((conv => whnf); (repeat (first | ((with_reducible refine HSeq.go ?_); conv => whnf) | ((with_reducible refine HMust.mk (by decide) ?_); conv => whnf) | ((with_reducible refine HIf.yes (by first | rfl | assumption | decide) ?_); conv => whnf) | ((with_reducible refine HIf.no (by first | rfl | assumption | decide) ?_); conv => whnf) | ((with_reducible refine HInt.mk _ (wrap_i64 (by omega)) ?_); conv => whnf) | ((refine HMust.mk (by rfl) ?_); conv => whnf) | ((with_reducible refine blk_ld (by assumption) rfl ?_); conv => whnf) | ((with_reducible refine blk_ldN (by assumption) rfl ?_); conv => whnf) | ((with_reducible refine HInt.mk _ (wrap_u64 (by omega)) ?_); conv => whnf) | ((with_reducible refine HInt.mk _ (wrap_u8 (by omega)) ?_); conv => whnf) | ((with_reducible refine HInt.mk _ (wrap_u32 (by omega)) ?_); conv => whnf))))
          refine (a7.ext xe5).load ep2 (by simpa using hi2) ?_
          rw [List.getElem_map]
          ((conv => whnf); (repeat (first | ((with_reducible refine HSeq.go ?_); conv => whnf) | ((with_reducible refine HMust.mk (by decide) ?_); conv => whnf) | ((with_reducible refine HIf.yes (by first | rfl | assumption | decide) ?_); conv => whnf) | ((with_reducible refine HIf.no (by first | rfl | assumption | decide) ?_); conv => whnf) | ((with_reducible refine HInt.mk _ (wrap_i64 (by omega)) ?_); conv => whnf) | ((refine HMust.mk (by rfl) ?_); conv => whnf) | ((with_reducible refine blk_ld (by assumption) rfl ?_); conv => whnf) | ((with_reducible refine blk_ldN (by assumption) rfl ?_); conv => whnf) | ((with_reducible refine HInt.mk _ (wrap_u64 (by omega)) ?_); conv => whnf) | ((with_reducible refine HInt.mk _ (wrap_u8 (by omega)) ?_); conv => whnf) | ((with_reducible refine HInt.mk _ (wrap_u32 (by omega)) ?_); conv => whnf))))
          refine HCall.mk ((text_spec' ks1[i] (by omega) h5).mono ?_)
          rintro e h6 ⟨a6, c6, rfl, o6, x6⟩
          have htl := txt_len ks1[i] (by omega)
          ((conv => whnf); (repeat (first | ((with_reducible refine HSeq.go ?_); conv => whnf) | ((with_reducible refine HMust.mk (by decide) ?_); conv => whnf) | ((with_reducible refine HIf.yes (by first | rfl | assumption | decide) ?_); conv => whnf) | ((with_reducible refine HIf.no (by first | rfl | assumption | decide) ?_); conv => whnf) | ((with_reducible refine HInt.mk _ (wrap_i64 (by omega)) ?_); conv => whnf) | ((refine HMust.mk (by rfl) ?_); conv => whnf) | ((with_reducible refine blk_ld (by assumption) rfl ?_); conv => whnf) | ((with_reducible refine blk_ldN (by assumption) rfl ?_); conv => whnf) | ((with_reducible refine HInt.mk _ (wrap_u64 (by omega)) ?_); conv => whnf) | ((with_reducible refine HInt.mk _ (wrap_u8 (by omega)) ?_); conv => whnf) | ((with_reducible refine HInt.mk _ (wrap_u32 (by omega)) ?_); conv => whnf))))
          refine o6.sl.cells ?_
          refine Own.bytes (more := txt ks1[i]) (ow5.ext x6) (by have := x6.1; have := xe5.1; omega) (by omega) ?_
          intro h7 a7 c7 o7 g7
          ((conv => whnf); (repeat (first | ((with_reducible refine HSeq.go ?_); conv => whnf) | ((with_reducible refine HMust.mk (by decide) ?_); conv => whnf) | ((with_reducible refine HIf.yes (by first | rfl | assumption | decide) ?_); conv => whnf) | ((with_reducible refine HIf.no (by first | rfl | assumption | decide) ?_); conv => whnf) | ((with_reducible refine HInt.mk _ (wrap_i64 (by omega)) ?_); conv => whnf) | ((refine HMust.mk (by rfl) ?_); conv => whnf) | ((with_reducible refine blk_ld (by assumption) rfl ?_); conv => whnf) | ((with_reducible refine blk_ldN (by assumption) rfl ?_); conv => whnf) | ((with_reducible refine HInt.mk _ (wrap_u64 (by omega)) ?_); conv => whnf) | ((with_reducible refine HInt.mk _ (wrap_u8 (by omega)) ?_); conv => whnf) | ((with_reducible refine HInt.mk _ (wrap_u32 (by omega)) ?_); conv => whnf))))
          exact ⟨a7, c7, _, rfl, by rw [if_pos e6, List.getElem?_eq_getElem hi2]; rfl, o7, (Grew.of_ext x6 _).trans g7⟩
        · have e6 : k1 ≠ 6 := by
            subst hf
            intro h; rw [if_pos h] at h6; cases h6
          ((conv => whnf); (repeat (first | ((with_reducible refine HSeq.go ?_); conv => whnf) | ((with_reducible refine HMust.mk (by decide) ?_); conv => whnf) | ((with_reducible refine HIf.yes (by first | rfl | assumption | decide) ?_); conv => whnf) | ((with_reducible refine HIf.no (by first | rfl | assumption | decide) ?_); conv => whnf) | ((with_reducible refine HInt.mk _ (wrap_i64 (by omega)) ?_); conv => whnf) | ((refine HMust.mk (by rfl) ?_); conv => whnf) | ((with_reducible refine blk_ld (by assumption) rfl ?_); conv => whnf) | ((with_reducible refine blk_ldN (by assumption) rfl ?_); conv => whnf) | ((with_reducible refine HInt.mk _ (wrap_u64 (by omega)) ?_); conv => whnf) | ((with_reducible refine HInt.mk _ (wrap_u8 (by omega)) ?_); conv => whnf) | ((with_reducible refine HInt.mk _ (wrap_u32 (by omega)) ?_); conv => whnf))))
          exact ⟨a3, c3, bs, rfl, by rw [if_neg e6]; simp, ow5, Grew.refl _ _⟩
      · intro u h6 v0
        rintro ⟨a6, c6, bs', e, hbs', o6, g6⟩
        cases e
        have o56 := g6.blk o5 (fun p ep => by have := ha3 p ep; omega)
        have xe6 : Ext h0 h6 := xe5.keep (g6.kept xe5.1 fun p ep => (ha3 p ep).1)
        ((conv => whnf); (repeat (first | ((with_reducible refine HSeq.go ?_); conv => whnf) | ((with_reducible refine HMust.mk (by decide) ?_); conv => whnf) | ((with_reducible refine HIf.yes (by first | rfl | assumption | decide) ?_); conv => whnf) | ((with_reducible refine HIf.no (by first | rfl | assumption | decide) ?_); conv => whnf) | ((with_reducible refine HInt.mk _ (wrap_i64 (by omega)) ?_); conv => whnf) | ((refine HMust.mk (by rfl) ?_); conv => whnf) | ((with_reducible refine blk_ld (by assumption) rfl ?_); conv => whnf) | ((with_reducible refine blk_ldN (by assumption) rfl ?_); conv => whnf) | ((with_reducible refine HInt.mk _ (wrap_u64 (by omega)) ?_); conv => whnf) | ((with_reducible refine HInt.mk _ (wrap_u8 (by omega)) ?_); conv => whnf) | ((with_reducible refine HInt.mk _ (wrap_u32 (by omega)) ?_); conv => whnf))))
        refine blk_ldN o56 (by simpa using hal) ?_
        ((conv => whnf); (repeat (first | ((with_reducible refine HSeq.go ?_); conv => whnf) | ((with_reducible refine HMust.mk (by decide) ?_); conv => whnf) | ((with_reducible refine HIf.yes (by first | rfl | assumption | decide) ?_); conv => whnf) | ((with_reducible refine HIf.no (by first | rfl | assumption | decide) ?_); conv => whnf) | ((with_reducible refine HInt.mk _ (wrap_i64 (by omega)) ?_); conv => whnf) | ((refine HMust.mk (by rfl) ?_); conv => whnf) | ((with_reducible refine blk_ld (by assumption) rfl ?_); conv => whnf) | ((with_reducible refine blk_ldN (by assumption) rfl ?_); conv => whnf) | ((with_reducible refine HInt.mk _ (wrap_u64 (by omega)) ?_); conv => whnf) | ((with_reducible refine HInt.mk _ (wrap_u8 (by omega)) ?_); conv => whnf) | ((with_reducible refine HInt.mk _ (wrap_u32 (by omega)) ?_); conv => whnf))))
        have hbl' : bs'.length + 12 * vol l1[i] ≤ 1099511627776 := by
          rw [hbs', List.length_append]
          rcases hk with rfl | rfl
          · rw [if_neg (by decide), List.length_nil]; omega
          · have hkl := hkeys6 rfl
            have hi2 : i < ks1.length := by omega
            have hk1 := kvol_take hi2
            have htl := txt_len ks1[i] (by omega)
            rw [if_pos rfl, List.getElem?_eq_getElem hi2, Option.getD_some]; omega
        refine HCall.mk ((ih l1[i] (List.getElem_mem hi1) h0 h6 as' a6 c6 bs' ra1 xe6 hmi (by omega) hbl' o6).mono ?_)
        rintro e h7 ⟨a7, c7, rfl, o7, g7⟩
        ((conv => whnf); (repeat (first | ((with_reducible refine HSeq.go ?_); conv => whnf) | ((with_reducible refine HMust.mk (by decide) ?_); conv => whnf) | ((with_reducible refine HIf.yes (by first | rfl | assumption | decide) ?_); conv => whnf) | ((with_reducible refine HIf.no (by first | rfl | assumption | decide) ?_); conv => whnf) | ((with_reducible refine HInt.mk _ (wrap_i64 (by omega)) ?_); conv => whnf) | ((refine HMust.mk (by rfl) ?_); conv => whnf) | ((with_reducible refine blk_ld (by assumption) rfl ?_); conv => whnf) | ((with_reducible refine blk_ldN (by assumption) rfl ?_); conv => whnf) | ((with_reducible refine HInt.mk _ (wrap_u64 (by omega)) ?_); conv => whnf) | ((with_reducible refine HInt.mk _ (wrap_u8 (by omega)) ?_); conv => whnf) | ((with_reducible refine HInt.mk _ (wrap_u32 (by omega)) ?_); conv => whnf))))
        refine ⟨⟨i + 1, a7, c7, _, rfl, by omega, ?_, o7, ((g3.ext x45).trans g6).trans g7⟩, ?_⟩
        · rw [hbs', hbs, htk]
          rcases hk with rfl | rfl
          · rw [hkeys5 rfl, List.take_nil, List.take_nil, encK_snoc0]; simp
          · have hkl := hkeys6 rfl
            have hi2 : i < ks1.length := by omega
            rw [take_succ' hi2, encK_snoc _ _ _ _ (by simp; omega), List.getElem?_eq_getElem hi2]; simp
        · show l1.length - (((i : Int) + 1)).toNat < l1.length - ((i : Int)).toNat
          omega
    · have hge := of_decide_eq_false hb
      obtain rfl : i = l1.length := by omega
      have hkk : encK (ks1.take l1.length) (l1.take l1.length) = encK ks1 l1 := by
        rw [List.take_length]
        rcases hkeys with rfl | hk
        · simp
        · rw [← hk, List.take_length]
      rw [hkk] at hbs
      ((conv => whnf); (repeat (first | ((with_reducible refine HSeq.go ?_); conv => whnf) | ((with_reducible refine HMust.mk (by decide) ?_); conv => whnf) | ((with_reducible refine HIf.yes (by first | rfl | assumption | decide) ?_); conv => whnf) | ((with_reducible refine HIf.no (by first | rfl | assumption | decide) ?_); conv => whnf) | ((with_reducible refine HInt.mk _ (wrap_i64 (by omega)) ?_); conv => whnf) | ((refine HMust.mk (by rfl) ?_); conv => whnf) | ((with_reducible refine blk_ld (by assumption) rfl ?_); conv => whnf) | ((with_reducible refine blk_ldN (by assumption) rfl ?_); conv => whnf) | ((with_reducible refine HInt.mk _ (wrap_u64 (by omega)) ?_); conv => whnf) | ((with_reducible refine HInt.mk _ (wrap_u8 (by omega)) ?_); conv => whnf) | ((with_reducible refine HInt.mk _ (wrap_u32 (by omega)) ?_); conv => whnf))))
      have e5 : bs = l0 ++ f :: (leb l1.length ++ encK ks1 l1) := by rw [hbs]; simp
      rw [← e5]
      exact ⟨a3, c3, rfl, o3, (Grew.of_ext x1 a).trans g3⟩

theorem lay_spec : ∀ (t : DT), LaySpec t := by
  intro t
  induction t using (measure (fun d : DT => SizeOf.sizeOf d)).wf.induction with
  | _ t ih =>
  by_cases hk : t.kind = 5 ∨ t.kind = 6
  · refine lay_list t hk fun x hx => ih x ?_
    obtain ⟨k1, n1, s1, ks1, l1⟩ := t
    have := List.sizeOf_lt_of_mem hx
    show SizeOf.sizeOf x < SizeOf.sizeOf (DT.mk k1 n1 s1 ks1 l1)
    simp only [DT.mk.sizeOf_spec, DT.list] at *; omega
  · exact lay_small t hk

end Go.Proofs.Ytkcnjcdggbifeaa.Hc
