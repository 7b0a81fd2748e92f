import Derived.Test.YtkcnjcdggbifeaaAK
set_option linter.unusedVariables false
set_option linter.unusedSimpArgs false
namespace Go.Proofs.Ytkcnjcdggbifeaa.Hc
open Go Go.H Go.Proofs
set_option maxRecDepth 100000
set_option maxHeartbeats 4000000

theorem zero_rep (h : Heap) (k n : Int) (s : ByteArray) (hk : i64 k) (hn : i64 n) (hs : s.size ≤ 140737488351232) (S : Nat → Prop) :
    Fr S (fun h => Rep h (.mk k n s [] []) [.int .i64 k, .int .i64 n, .string s, .slice none 0 0, .slice none 0 0]) h := by
  intro h' _
  exact Rep.mk' (ks := []) (l := []) hk hn hs (by simp) (by simp) (by simp) (Sl.nil _ _) (Sl.nil _ _) (by simp only [Reps])

theorem value_spec : ∀ (d dp : Nat), d + dp = 20 → ValueSpec d dp := by
  intro d
  induction d with
  | zero => 
    intro dp hdp h br l x hl
    have hbr : br < h.size := by obtain ⟨a, c, o, _⟩ := x; exact o.lt
    obtain ⟨a, c, rb, rs, rp⟩ := x
    obtain rfl : dp = 20 := by omega
    refine c22 (by simp) ?_
    (conv => whnf)
    refine new_var (e := 25) zeroD rfl ?_
    intro h1 b2 o2 x1 z1 hb2
    have rb1 := rb.ext x1
    have off1 : Off br h h1 := x1.off
    ((conv => whnf); (repeat (first | ((with_reducible refine HSeq.go ?_); conv => whnf) | ((with_reducible refine HMust.mk (by decide) ?_); conv => whnf) | ((with_reducible refine HIf.yes (by first | rfl | assumption | decide) ?_); conv => whnf) | ((with_reducible refine HIf.no (by first | rfl | assumption | decide) ?_); conv => whnf) | ((with_reducible refine HInt.mk _ (wrap_i64 (by omega)) ?_); conv => whnf) | ((refine HMust.mk (by rfl) ?_); conv => whnf) | ((with_reducible refine blk_ld (by assumption) rfl ?_); conv => whnf) | ((with_reducible refine blk_ldN (by assumption) rfl ?_); conv => whnf) | ((with_reducible refine HInt.mk _ (wrap_u64 (by omega)) ?_); conv => whnf) | ((with_reducible refine HInt.mk _ (wrap_u8 (by omega)) ?_); conv => whnf) | ((with_reducible refine HInt.mk _ (wrap_u32 (by omega)) ?_); conv => whnf))))
    cases l with
    | nil =>
      refine HCall.to #[.bool false, .int .i64 20] rfl ((must_no 20 h1).mono ?_)
      rintro e h1 ⟨rfl, rfl⟩
      ((conv => whnf); (repeat (first | ((with_reducible refine HSeq.go ?_); conv => whnf) | ((with_reducible refine HMust.mk (by decide) ?_); conv => whnf) | ((with_reducible refine HIf.yes (by first | rfl | assumption | decide) ?_); conv => whnf) | ((with_reducible refine HIf.no (by first | rfl | assumption | decide) ?_); conv => whnf) | ((with_reducible refine HInt.mk _ (wrap_i64 (by omega)) ?_); conv => whnf) | ((refine HMust.mk (by rfl) ?_); conv => whnf) | ((with_reducible refine blk_ld (by assumption) rfl ?_); conv => whnf) | ((with_reducible refine blk_ldN (by assumption) rfl ?_); conv => whnf) | ((with_reducible refine HInt.mk _ (wrap_u64 (by omega)) ?_); conv => whnf) | ((with_reducible refine HInt.mk _ (wrap_u8 (by omega)) ?_); conv => whnf) | ((with_reducible refine HInt.mk _ (wrap_u32 (by omega)) ?_); conv => whnf))))
      exact ⟨off1, fun _ => rfl, fun h => by simp [rd] at h⟩
    | cons c0 l =>
      refine HCall.to #[.bool true, .int .i64 20] (by show #[Value.bool (decide (((c0 :: l).length : Int) > 0)), _] = _; rw [decide_eq_true (by simp)]; rfl) ((must_ok _ h1).mono ?_)
      rintro e h1 ⟨rfl, rfl⟩
      ((conv => whnf); (repeat (first | ((with_reducible refine HSeq.go ?_); conv => whnf) | ((with_reducible refine HMust.mk (by decide) ?_); conv => whnf) | ((with_reducible refine HIf.yes (by first | rfl | assumption | decide) ?_); conv => whnf) | ((with_reducible refine HIf.no (by first | rfl | assumption | decide) ?_); conv => whnf) | ((with_reducible refine HInt.mk _ (wrap_i64 (by omega)) ?_); conv => whnf) | ((refine HMust.mk (by rfl) ?_); conv => whnf) | ((with_reducible refine blk_ld (by assumption) rfl ?_); conv => whnf) | ((with_reducible refine blk_ldN (by assumption) rfl ?_); conv => whnf) | ((with_reducible refine HInt.mk _ (wrap_u64 (by omega)) ?_); conv => whnf) | ((with_reducible refine HInt.mk _ (wrap_u8 (by omega)) ?_); conv => whnf) | ((with_reducible refine HInt.mk _ (wrap_u32 (by omega)) ?_); conv => whnf))))
      refine HCall.to #[.bool false, .int .i64 31] rfl ((must_no 31 h1).mono ?_)
      rintro e h1 ⟨rfl, rfl⟩
      ((conv => whnf); (repeat (first | ((with_reducible refine HSeq.go ?_); conv => whnf) | ((with_reducible refine HMust.mk (by decide) ?_); conv => whnf) | ((with_reducible refine HIf.yes (by first | rfl | assumption | decide) ?_); conv => whnf) | ((with_reducible refine HIf.no (by first | rfl | assumption | decide) ?_); conv => whnf) | ((with_reducible refine HInt.mk _ (wrap_i64 (by omega)) ?_); conv => whnf) | ((refine HMust.mk (by rfl) ?_); conv => whnf) | ((with_reducible refine blk_ld (by assumption) rfl ?_); conv => whnf) | ((with_reducible refine blk_ldN (by assumption) rfl ?_); conv => whnf) | ((with_reducible refine HInt.mk _ (wrap_u64 (by omega)) ?_); conv => whnf) | ((with_reducible refine HInt.mk _ (wrap_u8 (by omega)) ?_); conv => whnf) | ((with_reducible refine HInt.mk _ (wrap_u32 (by omega)) ?_); conv => whnf))))
      exact ⟨off1, fun _ => rfl, fun h => by simp [rd] at h⟩
  | succ d ih =>
    intro dp hdp h br l x hl
    have hbr : br < h.size := by obtain ⟨a, c, o, _⟩ := x; exact o.lt
    have x0 := x
    obtain ⟨a, c, rb, rs, rp⟩ := x
    refine c22 (by simp) ?_
    (conv => whnf)
    refine new_var (e := 25) zeroD rfl ?_
    intro h1 b2 o2 x1 z1 hb2
    have rb1 := rb.ext x1
    have rs1 := rs.ext x1
    have off1 : Off br h h1 := x1.off
    ((conv => whnf); (repeat (first | ((with_reducible refine HSeq.go ?_); conv => whnf) | ((with_reducible refine HMust.mk (by decide) ?_); conv => whnf) | ((with_reducible refine HIf.yes (by first | rfl | assumption | decide) ?_); conv => whnf) | ((with_reducible refine HIf.no (by first | rfl | assumption | decide) ?_); conv => whnf) | ((with_reducible refine HInt.mk _ (wrap_i64 (by omega)) ?_); conv => whnf) | ((refine HMust.mk (by rfl) ?_); conv => whnf) | ((with_reducible refine blk_ld (by assumption) rfl ?_); conv => whnf) | ((with_reducible refine blk_ldN (by assumption) rfl ?_); conv => whnf) | ((with_reducible refine HInt.mk _ (wrap_u64 (by omega)) ?_); conv => whnf) | ((with_reducible refine HInt.mk _ (wrap_u8 (by omega)) ?_); conv => whnf) | ((with_reducible refine HInt.mk _ (wrap_u32 (by omega)) ?_); conv => whnf))))
    cases l with
    | nil =>
      refine HCall.to #[.bool false, .int .i64 20] rfl ((must_no 20 h1).mono ?_)
      rintro e h1 ⟨rfl, rfl⟩
      ((conv => whnf); (repeat (first | ((with_reducible refine HSeq.go ?_); conv => whnf) | ((with_reducible refine HMust.mk (by decide) ?_); conv => whnf) | ((with_reducible refine HIf.yes (by first | rfl | assumption | decide) ?_); conv => whnf) | ((with_reducible refine HIf.no (by first | rfl | assumption | decide) ?_); conv => whnf) | ((with_reducible refine HInt.mk _ (wrap_i64 (by omega)) ?_); conv => whnf) | ((refine HMust.mk (by rfl) ?_); conv => whnf) | ((with_reducible refine blk_ld (by assumption) rfl ?_); conv => whnf) | ((with_reducible refine blk_ldN (by assumption) rfl ?_); conv => whnf) | ((with_reducible refine HInt.mk _ (wrap_u64 (by omega)) ?_); conv => whnf) | ((with_reducible refine HInt.mk _ (wrap_u8 (by omega)) ?_); conv => whnf) | ((with_reducible refine HInt.mk _ (wrap_u32 (by omega)) ?_); conv => whnf))))
      exact ⟨off1, fun _ => rfl, fun h => by simp [rd] at h⟩
    | cons c0 l =>
      refine HCall.to #[.bool true, .int .i64 20] (by show #[Value.bool (decide (((c0 :: l).length : Int) > 0)), _] = _; rw [decide_eq_true (by simp)]; rfl) ((must_ok _ h1).mono ?_)
      rintro e h1 ⟨rfl, rfl⟩
      ((conv => whnf); (repeat (first | ((with_reducible refine HSeq.go ?_); conv => whnf) | ((with_reducible refine HMust.mk (by decide) ?_); conv => whnf) | ((with_reducible refine HIf.yes (by first | rfl | assumption | decide) ?_); conv => whnf) | ((with_reducible refine HIf.no (by first | rfl | assumption | decide) ?_); conv => whnf) | ((with_reducible refine HInt.mk _ (wrap_i64 (by omega)) ?_); conv => whnf) | ((refine HMust.mk (by rfl) ?_); conv => whnf) | ((with_reducible refine blk_ld (by assumption) rfl ?_); conv => whnf) | ((with_reducible refine blk_ldN (by assumption) rfl ?_); conv => whnf) | ((with_reducible refine HInt.mk _ (wrap_u64 (by omega)) ?_); conv => whnf) | ((with_reducible refine HInt.mk _ (wrap_u8 (by omega)) ?_); conv => whnf) | ((with_reducible refine HInt.mk _ (wrap_u32 (by omega)) ?_); conv => whnf))))
      refine HCall.to #[.bool true, .int .i64 31] (by show #[Value.bool (decide ((dp : Int) < 20)), _] = _; rw [decide_eq_true (by omega)]; rfl) ((must_ok _ h1).mono ?_)
      rintro e h1 ⟨rfl, rfl⟩
      ((conv => whnf); (repeat (first | ((with_reducible refine HSeq.go ?_); conv => whnf) | ((with_reducible refine HMust.mk (by decide) ?_); conv => whnf) | ((with_reducible refine HIf.yes (by first | rfl | assumption | decide) ?_); conv => whnf) | ((with_reducible refine HIf.no (by first | rfl | assumption | decide) ?_); conv => whnf) | ((with_reducible refine HInt.mk _ (wrap_i64 (by omega)) ?_); conv => whnf) | ((refine HMust.mk (by rfl) ?_); conv => whnf) | ((with_reducible refine blk_ld (by assumption) rfl ?_); conv => whnf) | ((with_reducible refine blk_ldN (by assumption) rfl ?_); conv => whnf) | ((with_reducible refine HInt.mk _ (wrap_u64 (by omega)) ?_); conv => whnf) | ((with_reducible refine HInt.mk _ (wrap_u8 (by omega)) ?_); conv => whnf) | ((with_reducible refine HInt.mk _ (wrap_u32 (by omega)) ?_); conv => whnf))))
      refine HIdx.mk 0 rfl (by simp) ?_
      refine sl_some rs1 (show 0 < _ by simp) fun p ep => ?_
      ((conv => whnf); (repeat (first | ((with_reducible refine HSeq.go ?_); conv => whnf) | ((with_reducible refine HMust.mk (by decide) ?_); conv => whnf) | ((with_reducible refine HIf.yes (by first | rfl | assumption | decide) ?_); conv => whnf) | ((with_reducible refine HIf.no (by first | rfl | assumption | decide) ?_); conv => whnf) | ((with_reducible refine HInt.mk _ (wrap_i64 (by omega)) ?_); conv => whnf) | ((refine HMust.mk (by rfl) ?_); conv => whnf) | ((with_reducible refine blk_ld (by assumption) rfl ?_); conv => whnf) | ((with_reducible refine blk_ldN (by assumption) rfl ?_); conv => whnf) | ((with_reducible refine HInt.mk _ (wrap_u64 (by omega)) ?_); conv => whnf) | ((with_reducible refine HInt.mk _ (wrap_u8 (by omega)) ?_); conv => whnf) | ((with_reducible refine HInt.mk _ (wrap_u32 (by omega)) ?_); conv => whnf))))
      refine sl_get rs1 ep (by simp) ?_
      rw [List.getElem_cons_zero]
      ((conv => whnf); (repeat (first | ((with_reducible refine HSeq.go ?_); conv => whnf) | ((with_reducible refine HMust.mk (by decide) ?_); conv => whnf) | ((with_reducible refine HIf.yes (by first | rfl | assumption | decide) ?_); conv => whnf) | ((with_reducible refine HIf.no (by first | rfl | assumption | decide) ?_); conv => whnf) | ((with_reducible refine HInt.mk _ (wrap_i64 (by omega)) ?_); conv => whnf) | ((refine HMust.mk (by rfl) ?_); conv => whnf) | ((with_reducible refine blk_ld (by assumption) rfl ?_); conv => whnf) | ((with_reducible refine blk_ldN (by assumption) rfl ?_); conv => whnf) | ((with_reducible refine HInt.mk _ (wrap_u64 (by omega)) ?_); conv => whnf) | ((with_reducible refine HInt.mk _ (wrap_u8 (by omega)) ?_); conv => whnf) | ((with_reducible refine HInt.mk _ (wrap_u32 (by omega)) ?_); conv => whnf))))
      refine HBound.mk 1 rfl (by simp) ?_
      ((conv => whnf); (repeat (first | ((with_reducible refine HSeq.go ?_); conv => whnf) | ((with_reducible refine HMust.mk (by decide) ?_); conv => whnf) | ((with_reducible refine HIf.yes (by first | rfl | assumption | decide) ?_); conv => whnf) | ((with_reducible refine HIf.no (by first | rfl | assumption | decide) ?_); conv => whnf) | ((with_reducible refine HInt.mk _ (wrap_i64 (by omega)) ?_); conv => whnf) | ((refine HMust.mk (by rfl) ?_); conv => whnf) | ((with_reducible refine blk_ld (by assumption) rfl ?_); conv => whnf) | ((with_reducible refine blk_ldN (by assumption) rfl ?_); conv => whnf) | ((with_reducible refine HInt.mk _ (wrap_u64 (by omega)) ?_); conv => whnf) | ((with_reducible refine HInt.mk _ (wrap_u8 (by omega)) ?_); conv => whnf) | ((with_reducible refine HInt.mk _ (wrap_u32 (by omega)) ?_); conv => whnf))))
      have hll : l.length ≤ 17179869184 := by simp at hl; omega
      refine blk_st rb1 (by simp) rfl ?_
      intro h3 f3 z3 rb3
      have o23 := o2.offk f3 (by omega)
      have sd := kept0 (drop_sl rs1 (k := 1) (by simp)) (B := br) (f3.kept (Nat.le_refl _) (by omega)) (fun p ep hn => by
        cases a with
        | none => cases ep
        | some q => cases ep; rw [moved_block]; exact rp q rfl (by simp))
      rw [List.drop_succ_cons, List.drop_zero] at sd
      have r3 : Rdr h3 br l dp := ⟨_, _, rb3, sd, (fun p ep hn => by
        cases a with
        | none => cases ep
        | some q => cases ep; rw [moved_block]; exact rp q rfl (by simp))⟩
      have off3 : Off br h h3 := off1.trans f3
      have hc := c0.toNat_lt
      have hrd : rd (d + 1) (c0 :: l) = rd (d + 1) (c0 :: l) := rfl
      conv at hrd => rhs; simp only [rd]
      rw [hrd]
      clear hrd
      generalize c0.toNat = n at hc ⊢
      have fin : ∀ (h4 : Heap) (k m : Int) (s : ByteArray), i64 k → i64 m → s.size ≤ 140737488351232 → ∀ (kk : Nat), Off br h h4 → Rdr h4 br ((c0 :: l).drop kk) dp →
          RdPost h br dp (c0 :: l) (.mk k m s [] [], kk, 0) (.returned (.agg #[.int .i64 k, .int .i64 m, .string s, .slice none 0 0, .slice none 0 0])) h4 := by
        intro h4 k m s hk hm hs kk o r
        exact ⟨o, fun h => absurd rfl h, fun _ => ⟨_, rfl, zero_rep h4 k m s hk hm hs _, r⟩⟩
      have fine : ∀ (h4 : Heap) (er : Nat), er ≠ 0 → Off br h h4 → RdPost h br dp (c0 :: l) (zeroT, 0, er) (Pan er) h4 := fun h4 er he o => ⟨o, fun _ => rfl, fun h => absurd h he⟩
      rcases (by omega : n = 0 ∨ n = 1 ∨ n = 2 ∨ n = 3 ∨ n = 4 ∨ n = 5 ∨ n = 6 ∨ n = 7 ∨ n = 8 ∨ 9 ≤ n) with rfl | rfl | rfl | rfl | rfl | rfl | rfl | rfl | rfl | h9
      · rw [if_pos (by decide)]
        ((conv => whnf); (repeat (first | ((with_reducible refine HSeq.go ?_); conv => whnf) | ((with_reducible refine HMust.mk (by decide) ?_); conv => whnf) | ((with_reducible refine HIf.yes (by first | rfl | assumption | decide) ?_); conv => whnf) | ((with_reducible refine HIf.no (by first | rfl | assumption | decide) ?_); conv => whnf) | ((with_reducible refine HInt.mk _ (wrap_i64 (by omega)) ?_); conv => whnf) | ((refine HMust.mk (by rfl) ?_); conv => whnf) | ((with_reducible refine blk_ld (by assumption) rfl ?_); conv => whnf) | ((with_reducible refine blk_ldN (by assumption) rfl ?_); conv => whnf) | ((with_reducible refine HInt.mk _ (wrap_u64 (by omega)) ?_); conv => whnf) | ((with_reducible refine HInt.mk _ (wrap_u8 (by omega)) ?_); conv => whnf) | ((with_reducible refine HInt.mk _ (wrap_u32 (by omega)) ?_); conv => whnf))))
        refine store_new o23 rfl (by simp [isOne]) ?_
        intro h4 f4 z4 o4
        ((conv => whnf); (repeat (first | ((with_reducible refine HSeq.go ?_); conv => whnf) | ((with_reducible refine HMust.mk (by decide) ?_); conv => whnf) | ((with_reducible refine HIf.yes (by first | rfl | assumption | decide) ?_); conv => whnf) | ((with_reducible refine HIf.no (by first | rfl | assumption | decide) ?_); conv => whnf) | ((with_reducible refine HInt.mk _ (wrap_i64 (by omega)) ?_); conv => whnf) | ((refine HMust.mk (by rfl) ?_); conv => whnf) | ((with_reducible refine blk_ld (by assumption) rfl ?_); conv => whnf) | ((with_reducible refine blk_ldN (by assumption) rfl ?_); conv => whnf) | ((with_reducible refine HInt.mk _ (wrap_u64 (by omega)) ?_); conv => whnf) | ((with_reducible refine HInt.mk _ (wrap_u8 (by omega)) ?_); conv => whnf) | ((with_reducible refine HInt.mk _ (wrap_u32 (by omega)) ?_); conv => whnf))))
        exact fin h4 0 0 ⟨#[]⟩ (by unfold i64; omega) (by unfold i64; omega) (by decide) 1 (off_of_off off3 f4 (by omega)) (r3.offk f4 (by omega))
      · rw [if_pos (by decide)]
        ((conv => whnf); (repeat (first | ((with_reducible refine HSeq.go ?_); conv => whnf) | ((with_reducible refine HMust.mk (by decide) ?_); conv => whnf) | ((with_reducible refine HIf.yes (by first | rfl | assumption | decide) ?_); conv => whnf) | ((with_reducible refine HIf.no (by first | rfl | assumption | decide) ?_); conv => whnf) | ((with_reducible refine HInt.mk _ (wrap_i64 (by omega)) ?_); conv => whnf) | ((refine HMust.mk (by rfl) ?_); conv => whnf) | ((with_reducible refine blk_ld (by assumption) rfl ?_); conv => whnf) | ((with_reducible refine blk_ldN (by assumption) rfl ?_); conv => whnf) | ((with_reducible refine HInt.mk _ (wrap_u64 (by omega)) ?_); conv => whnf) | ((with_reducible refine HInt.mk _ (wrap_u8 (by omega)) ?_); conv => whnf) | ((with_reducible refine HInt.mk _ (wrap_u32 (by omega)) ?_); conv => whnf))))
        refine store_new o23 rfl (by simp [isOne]) ?_
        intro h4 f4 z4 o4
        ((conv => whnf); (repeat (first | ((with_reducible refine HSeq.go ?_); conv => whnf) | ((with_reducible refine HMust.mk (by decide) ?_); conv => whnf) | ((with_reducible refine HIf.yes (by first | rfl | assumption | decide) ?_); conv => whnf) | ((with_reducible refine HIf.no (by first | rfl | assumption | decide) ?_); conv => whnf) | ((with_reducible refine HInt.mk _ (wrap_i64 (by omega)) ?_); conv => whnf) | ((refine HMust.mk (by rfl) ?_); conv => whnf) | ((with_reducible refine blk_ld (by assumption) rfl ?_); conv => whnf) | ((with_reducible refine blk_ldN (by assumption) rfl ?_); conv => whnf) | ((with_reducible refine HInt.mk _ (wrap_u64 (by omega)) ?_); conv => whnf) | ((with_reducible refine HInt.mk _ (wrap_u8 (by omega)) ?_); conv => whnf) | ((with_reducible refine HInt.mk _ (wrap_u32 (by omega)) ?_); conv => whnf))))
        exact fin h4 1 0 ⟨#[]⟩ (by unfold i64; omega) (by unfold i64; omega) (by decide) 1 (off_of_off off3 f4 (by omega)) (r3.offk f4 (by omega))
      · rw [if_neg (by decide)]; rw [if_pos (by decide)]
        ((conv => whnf); (repeat (first | ((with_reducible refine HSeq.go ?_); conv => whnf) | ((with_reducible refine HMust.mk (by decide) ?_); conv => whnf) | ((with_reducible refine HIf.yes (by first | rfl | assumption | decide) ?_); conv => whnf) | ((with_reducible refine HIf.no (by first | rfl | assumption | decide) ?_); conv => whnf) | ((with_reducible refine HInt.mk _ (wrap_i64 (by omega)) ?_); conv => whnf) | ((refine HMust.mk (by rfl) ?_); conv => whnf) | ((with_reducible refine blk_ld (by assumption) rfl ?_); conv => whnf) | ((with_reducible refine blk_ldN (by assumption) rfl ?_); conv => whnf) | ((with_reducible refine HInt.mk _ (wrap_u64 (by omega)) ?_); conv => whnf) | ((with_reducible refine HInt.mk _ (wrap_u8 (by omega)) ?_); conv => whnf) | ((with_reducible refine HInt.mk _ (wrap_u32 (by omega)) ?_); conv => whnf))))
        refine store_new o23 rfl (by simp [isOne]) ?_
        intro h4 f4 z4 o4
        ((conv => whnf); (repeat (first | ((with_reducible refine HSeq.go ?_); conv => whnf) | ((with_reducible refine HMust.mk (by decide) ?_); conv => whnf) | ((with_reducible refine HIf.yes (by first | rfl | assumption | decide) ?_); conv => whnf) | ((with_reducible refine HIf.no (by first | rfl | assumption | decide) ?_); conv => whnf) | ((with_reducible refine HInt.mk _ (wrap_i64 (by omega)) ?_); conv => whnf) | ((refine HMust.mk (by rfl) ?_); conv => whnf) | ((with_reducible refine blk_ld (by assumption) rfl ?_); conv => whnf) | ((with_reducible refine blk_ldN (by assumption) rfl ?_); conv => whnf) | ((with_reducible refine HInt.mk _ (wrap_u64 (by omega)) ?_); conv => whnf) | ((with_reducible refine HInt.mk _ (wrap_u8 (by omega)) ?_); conv => whnf) | ((with_reducible refine HInt.mk _ (wrap_u32 (by omega)) ?_); conv => whnf))))
        exact fin h4 2 0 ⟨#[]⟩ (by unfold i64; omega) (by unfold i64; omega) (by decide) 1 (off_of_off off3 f4 (by omega)) (r3.offk f4 (by omega))
      · rw [if_neg (by decide)]; rw [if_pos (by decide)]
        ((conv => whnf); (repeat (first | ((with_reducible refine HSeq.go ?_); conv => whnf) | ((with_reducible refine HMust.mk (by decide) ?_); conv => whnf) | ((with_reducible refine HIf.yes (by first | rfl | assumption | decide) ?_); conv => whnf) | ((with_reducible refine HIf.no (by first | rfl | assumption | decide) ?_); conv => whnf) | ((with_reducible refine HInt.mk _ (wrap_i64 (by omega)) ?_); conv => whnf) | ((refine HMust.mk (by rfl) ?_); conv => whnf) | ((with_reducible refine blk_ld (by assumption) rfl ?_); conv => whnf) | ((with_reducible refine blk_ldN (by assumption) rfl ?_); conv => whnf) | ((with_reducible refine HInt.mk _ (wrap_u64 (by omega)) ?_); conv => whnf) | ((with_reducible refine HInt.mk _ (wrap_u8 (by omega)) ?_); conv => whnf) | ((with_reducible refine HInt.mk _ (wrap_u32 (by omega)) ?_); conv => whnf))))
        refine store_new o23 rfl (by simp [isOne]) ?_
        intro h4 f4 z4 o4
        ((conv => whnf); (repeat (first | ((with_reducible refine HSeq.go ?_); conv => whnf) | ((with_reducible refine HMust.mk (by decide) ?_); conv => whnf) | ((with_reducible refine HIf.yes (by first | rfl | assumption | decide) ?_); conv => whnf) | ((with_reducible refine HIf.no (by first | rfl | assumption | decide) ?_); conv => whnf) | ((with_reducible refine HInt.mk _ (wrap_i64 (by omega)) ?_); conv => whnf) | ((refine HMust.mk (by rfl) ?_); conv => whnf) | ((with_reducible refine blk_ld (by assumption) rfl ?_); conv => whnf) | ((with_reducible refine blk_ldN (by assumption) rfl ?_); conv => whnf) | ((with_reducible refine HInt.mk _ (wrap_u64 (by omega)) ?_); conv => whnf) | ((with_reducible refine HInt.mk _ (wrap_u8 (by omega)) ?_); conv => whnf) | ((with_reducible refine HInt.mk _ (wrap_u32 (by omega)) ?_); conv => whnf))))
        exact fin h4 2 1 ⟨#[]⟩ (by unfold i64; omega) (by unfold i64; omega) (by decide) 1 (off_of_off off3 f4 (by omega)) (r3.offk f4 (by omega))
      · rw [if_neg (by decide)]; rw [if_neg (by decide)]; rw [if_pos (by decide)]
        have hrn := rdn_ok l
        ((conv => whnf); (repeat (first | ((with_reducible refine HSeq.go ?_); conv => whnf) | ((with_reducible refine HMust.mk (by decide) ?_); conv => whnf) | ((with_reducible refine HIf.yes (by first | rfl | assumption | decide) ?_); conv => whnf) | ((with_reducible refine HIf.no (by first | rfl | assumption | decide) ?_); conv => whnf) | ((with_reducible refine HInt.mk _ (wrap_i64 (by omega)) ?_); conv => whnf) | ((refine HMust.mk (by rfl) ?_); conv => whnf) | ((with_reducible refine blk_ld (by assumption) rfl ?_); conv => whnf) | ((with_reducible refine blk_ldN (by assumption) rfl ?_); conv => whnf) | ((with_reducible refine HInt.mk _ (wrap_u64 (by omega)) ?_); conv => whnf) | ((with_reducible refine HInt.mk _ (wrap_u8 (by omega)) ?_); conv => whnf) | ((with_reducible refine HInt.mk _ (wrap_u32 (by omega)) ?_); conv => whnf))))
        refine HCall.mk ((rnumm_spec r3 hll).mono ?_)
        rintro e h4 ⟨f4, z4, he1, he2⟩
        obtain ⟨m, k, er, hm⟩ : ∃ m k er, rdn l 0 0 = (m, k, er) := ⟨_, _, _, rfl⟩
        rw [hm] at he1 he2 hrn ⊢
        simp only at he1 he2 hrn ⊢
        have off4 := off3.trans f4
        by_cases h0 : er = 0
        · subst h0
          obtain ⟨rfl, r4⟩ := he2 rfl
          have hrn' : 0 < k ∧ k ≤ l.length ∧ m < 2 ^ 64 := by simpa using hrn
          rw [if_neg (by simp)]
          have o24 := o23.offk f4 (by omega)
          ((conv => whnf); (repeat (first | ((with_reducible refine HSeq.go ?_); conv => whnf) | ((with_reducible refine HMust.mk (by decide) ?_); conv => whnf) | ((with_reducible refine HIf.yes (by first | rfl | assumption | decide) ?_); conv => whnf) | ((with_reducible refine HIf.no (by first | rfl | assumption | decide) ?_); conv => whnf) | ((with_reducible refine HInt.mk _ (wrap_i64 (by omega)) ?_); conv => whnf) | ((refine HMust.mk (by rfl) ?_); conv => whnf) | ((with_reducible refine blk_ld (by assumption) rfl ?_); conv => whnf) | ((with_reducible refine blk_ldN (by assumption) rfl ?_); conv => whnf) | ((with_reducible refine HInt.mk _ (wrap_u64 (by omega)) ?_); conv => whnf) | ((with_reducible refine HInt.mk _ (wrap_u8 (by omega)) ?_); conv => whnf) | ((with_reducible refine HInt.mk _ (wrap_u32 (by omega)) ?_); conv => whnf))))
          by_cases hb : 9007199254740991 - (4 - 4) < m
          · rw [if_pos hb]
            refine HCall.to #[.bool false, .int .i64 22] (by show #[Value.bool (decide ((m : Int) ≤ _)), _] = _; rw [decide_eq_false (by omega)]; rfl) ((must_no 22 h4).mono ?_)
            rintro e h4 ⟨rfl, rfl⟩
            ((conv => whnf); (repeat (first | ((with_reducible refine HSeq.go ?_); conv => whnf) | ((with_reducible refine HMust.mk (by decide) ?_); conv => whnf) | ((with_reducible refine HIf.yes (by first | rfl | assumption | decide) ?_); conv => whnf) | ((with_reducible refine HIf.no (by first | rfl | assumption | decide) ?_); conv => whnf) | ((with_reducible refine HInt.mk _ (wrap_i64 (by omega)) ?_); conv => whnf) | ((refine HMust.mk (by rfl) ?_); conv => whnf) | ((with_reducible refine blk_ld (by assumption) rfl ?_); conv => whnf) | ((with_reducible refine blk_ldN (by assumption) rfl ?_); conv => whnf) | ((with_reducible refine HInt.mk _ (wrap_u64 (by omega)) ?_); conv => whnf) | ((with_reducible refine HInt.mk _ (wrap_u8 (by omega)) ?_); conv => whnf) | ((with_reducible refine HInt.mk _ (wrap_u32 (by omega)) ?_); conv => whnf))))
            exact fine h4 22 (by decide) off4
          · rw [if_neg hb]
            refine HCall.to #[.bool true, .int .i64 22] (by show #[Value.bool (decide ((m : Int) ≤ _)), _] = _; rw [decide_eq_true (by omega)]; rfl) ((must_ok _ h4).mono ?_)
            rintro e h4 ⟨rfl, rfl⟩
            ((conv => whnf); (repeat (first | ((with_reducible refine HSeq.go ?_); conv => whnf) | ((with_reducible refine HMust.mk (by decide) ?_); conv => whnf) | ((with_reducible refine HIf.yes (by first | rfl | assumption | decide) ?_); conv => whnf) | ((with_reducible refine HIf.no (by first | rfl | assumption | decide) ?_); conv => whnf) | ((with_reducible refine HInt.mk _ (wrap_i64 (by omega)) ?_); conv => whnf) | ((refine HMust.mk (by rfl) ?_); conv => whnf) | ((with_reducible refine blk_ld (by assumption) rfl ?_); conv => whnf) | ((with_reducible refine blk_ldN (by assumption) rfl ?_); conv => whnf) | ((with_reducible refine HInt.mk _ (wrap_u64 (by omega)) ?_); conv => whnf) | ((with_reducible refine HInt.mk _ (wrap_u8 (by omega)) ?_); conv => whnf) | ((with_reducible refine HInt.mk _ (wrap_u32 (by omega)) ?_); conv => whnf))))
            refine store_new o24 rfl (by simp [isOne]) ?_
            intro h5 f5 z5 o5
            ((conv => whnf); (repeat (first | ((with_reducible refine HSeq.go ?_); conv => whnf) | ((with_reducible refine HMust.mk (by decide) ?_); conv => whnf) | ((with_reducible refine HIf.yes (by first | rfl | assumption | decide) ?_); conv => whnf) | ((with_reducible refine HIf.no (by first | rfl | assumption | decide) ?_); conv => whnf) | ((with_reducible refine HInt.mk _ (wrap_i64 (by omega)) ?_); conv => whnf) | ((refine HMust.mk (by rfl) ?_); conv => whnf) | ((with_reducible refine blk_ld (by assumption) rfl ?_); conv => whnf) | ((with_reducible refine blk_ldN (by assumption) rfl ?_); conv => whnf) | ((with_reducible refine HInt.mk _ (wrap_u64 (by omega)) ?_); conv => whnf) | ((with_reducible refine HInt.mk _ (wrap_u8 (by omega)) ?_); conv => whnf) | ((with_reducible refine HInt.mk _ (wrap_u32 (by omega)) ?_); conv => whnf))))
            exact fin h5 3 m ⟨#[]⟩ (by unfold i64; omega) (by unfold i64; omega) (by decide) (k + 1) (off_of_off off4 f5 (by omega)) (by rw [List.drop_succ_cons]; exact r4.offk f5 (by omega))
        · obtain rfl := he1 h0
          rw [if_pos h0]
          ((conv => whnf); (repeat (first | ((with_reducible refine HSeq.go ?_); conv => whnf) | ((with_reducible refine HMust.mk (by decide) ?_); conv => whnf) | ((with_reducible refine HIf.yes (by first | rfl | assumption | decide) ?_); conv => whnf) | ((with_reducible refine HIf.no (by first | rfl | assumption | decide) ?_); conv => whnf) | ((with_reducible refine HInt.mk _ (wrap_i64 (by omega)) ?_); conv => whnf) | ((refine HMust.mk (by rfl) ?_); conv => whnf) | ((with_reducible refine blk_ld (by assumption) rfl ?_); conv => whnf) | ((with_reducible refine blk_ldN (by assumption) rfl ?_); conv => whnf) | ((with_reducible refine HInt.mk _ (wrap_u64 (by omega)) ?_); conv => whnf) | ((with_reducible refine HInt.mk _ (wrap_u8 (by omega)) ?_); conv => whnf) | ((with_reducible refine HInt.mk _ (wrap_u32 (by omega)) ?_); conv => whnf))))
          exact fine h4 er h0 off4
      · rw [if_neg (by decide)]; rw [if_neg (by decide)]; rw [if_pos (by decide)]
        have hrn := rdn_ok l
        ((conv => whnf); (repeat (first | ((with_reducible refine HSeq.go ?_); conv => whnf) | ((with_reducible refine HMust.mk (by decide) ?_); conv => whnf) | ((with_reducible refine HIf.yes (by first | rfl | assumption | decide) ?_); conv => whnf) | ((with_reducible refine HIf.no (by first | rfl | assumption | decide) ?_); conv => whnf) | ((with_reducible refine HInt.mk _ (wrap_i64 (by omega)) ?_); conv => whnf) | ((refine HMust.mk (by rfl) ?_); conv => whnf) | ((with_reducible refine blk_ld (by assumption) rfl ?_); conv => whnf) | ((with_reducible refine blk_ldN (by assumption) rfl ?_); conv => whnf) | ((with_reducible refine HInt.mk _ (wrap_u64 (by omega)) ?_); conv => whnf) | ((with_reducible refine HInt.mk _ (wrap_u8 (by omega)) ?_); conv => whnf) | ((with_reducible refine HInt.mk _ (wrap_u32 (by omega)) ?_); conv => whnf))))
        refine HCall.mk ((rnumm_spec r3 hll).mono ?_)
        rintro e h4 ⟨f4, z4, he1, he2⟩
        obtain ⟨m, k, er, hm⟩ : ∃ m k er, rdn l 0 0 = (m, k, er) := ⟨_, _, _, rfl⟩
        rw [hm] at he1 he2 hrn ⊢
        simp only at he1 he2 hrn ⊢
        have off4 := off3.trans f4
        by_cases h0 : er = 0
        · subst h0
          obtain ⟨rfl, r4⟩ := he2 rfl
          have hrn' : 0 < k ∧ k ≤ l.length ∧ m < 2 ^ 64 := by simpa using hrn
          rw [if_neg (by simp)]
          have o24 := o23.offk f4 (by omega)
          ((conv => whnf); (repeat (first | ((with_reducible refine HSeq.go ?_); conv => whnf) | ((with_reducible refine HMust.mk (by decide) ?_); conv => whnf) | ((with_reducible refine HIf.yes (by first | rfl | assumption | decide) ?_); conv => whnf) | ((with_reducible refine HIf.no (by first | rfl | assumption | decide) ?_); conv => whnf) | ((with_reducible refine HInt.mk _ (wrap_i64 (by omega)) ?_); conv => whnf) | ((refine HMust.mk (by rfl) ?_); conv => whnf) | ((with_reducible refine blk_ld (by assumption) rfl ?_); conv => whnf) | ((with_reducible refine blk_ldN (by assumption) rfl ?_); conv => whnf) | ((with_reducible refine HInt.mk _ (wrap_u64 (by omega)) ?_); conv => whnf) | ((with_reducible refine HInt.mk _ (wrap_u8 (by omega)) ?_); conv => whnf) | ((with_reducible refine HInt.mk _ (wrap_u32 (by omega)) ?_); conv => whnf))))
          by_cases hb : 9007199254740991 - (5 - 4) < m
          · rw [if_pos hb]
            refine HCall.to #[.bool false, .int .i64 22] (by show #[Value.bool (decide ((m : Int) ≤ _)), _] = _; rw [decide_eq_false (by omega)]; rfl) ((must_no 22 h4).mono ?_)
            rintro e h4 ⟨rfl, rfl⟩
            ((conv => whnf); (repeat (first | ((with_reducible refine HSeq.go ?_); conv => whnf) | ((with_reducible refine HMust.mk (by decide) ?_); conv => whnf) | ((with_reducible refine HIf.yes (by first | rfl | assumption | decide) ?_); conv => whnf) | ((with_reducible refine HIf.no (by first | rfl | assumption | decide) ?_); conv => whnf) | ((with_reducible refine HInt.mk _ (wrap_i64 (by omega)) ?_); conv => whnf) | ((refine HMust.mk (by rfl) ?_); conv => whnf) | ((with_reducible refine blk_ld (by assumption) rfl ?_); conv => whnf) | ((with_reducible refine blk_ldN (by assumption) rfl ?_); conv => whnf) | ((with_reducible refine HInt.mk _ (wrap_u64 (by omega)) ?_); conv => whnf) | ((with_reducible refine HInt.mk _ (wrap_u8 (by omega)) ?_); conv => whnf) | ((with_reducible refine HInt.mk _ (wrap_u32 (by omega)) ?_); conv => whnf))))
            exact fine h4 22 (by decide) off4
          · rw [if_neg hb]
            refine HCall.to #[.bool true, .int .i64 22] (by show #[Value.bool (decide ((m : Int) ≤ _)), _] = _; rw [decide_eq_true (by omega)]; rfl) ((must_ok _ h4).mono ?_)
            rintro e h4 ⟨rfl, rfl⟩
            ((conv => whnf); (repeat (first | ((with_reducible refine HSeq.go ?_); conv => whnf) | ((with_reducible refine HMust.mk (by decide) ?_); conv => whnf) | ((with_reducible refine HIf.yes (by first | rfl | assumption | decide) ?_); conv => whnf) | ((with_reducible refine HIf.no (by first | rfl | assumption | decide) ?_); conv => whnf) | ((with_reducible refine HInt.mk _ (wrap_i64 (by omega)) ?_); conv => whnf) | ((refine HMust.mk (by rfl) ?_); conv => whnf) | ((with_reducible refine blk_ld (by assumption) rfl ?_); conv => whnf) | ((with_reducible refine blk_ldN (by assumption) rfl ?_); conv => whnf) | ((with_reducible refine HInt.mk _ (wrap_u64 (by omega)) ?_); conv => whnf) | ((with_reducible refine HInt.mk _ (wrap_u8 (by omega)) ?_); conv => whnf) | ((with_reducible refine HInt.mk _ (wrap_u32 (by omega)) ?_); conv => whnf))))
            refine store_new o24 rfl (by simp [isOne]) ?_
            intro h5 f5 z5 o5
            ((conv => whnf); (repeat (first | ((with_reducible refine HSeq.go ?_); conv => whnf) | ((with_reducible refine HMust.mk (by decide) ?_); conv => whnf) | ((with_reducible refine HIf.yes (by first | rfl | assumption | decide) ?_); conv => whnf) | ((with_reducible refine HIf.no (by first | rfl | assumption | decide) ?_); conv => whnf) | ((with_reducible refine HInt.mk _ (wrap_i64 (by omega)) ?_); conv => whnf) | ((refine HMust.mk (by rfl) ?_); conv => whnf) | ((with_reducible refine blk_ld (by assumption) rfl ?_); conv => whnf) | ((with_reducible refine blk_ldN (by assumption) rfl ?_); conv => whnf) | ((with_reducible refine HInt.mk _ (wrap_u64 (by omega)) ?_); conv => whnf) | ((with_reducible refine HInt.mk _ (wrap_u8 (by omega)) ?_); conv => whnf) | ((with_reducible refine HInt.mk _ (wrap_u32 (by omega)) ?_); conv => whnf))))
            have hx : ibits .xor .i64 (if IntKind.signed .i64 then -1 else IntKind.max .i64) (m : Int) = -1 - (m : Int) := xor64 _ (by unfold i64; omega)
            rw [hx]
            exact fin h5 3 (-1 - (m : Int)) ⟨#[]⟩ (by unfold i64; omega) (by unfold i64; omega) (by decide) (k + 1) (off_of_off off4 f5 (by omega)) (by rw [List.drop_succ_cons]; exact r4.offk f5 (by omega))
        · obtain rfl := he1 h0
          rw [if_pos h0]
          ((conv => whnf); (repeat (first | ((with_reducible refine HSeq.go ?_); conv => whnf) | ((with_reducible refine HMust.mk (by decide) ?_); conv => whnf) | ((with_reducible refine HIf.yes (by first | rfl | assumption | decide) ?_); conv => whnf) | ((with_reducible refine HIf.no (by first | rfl | assumption | decide) ?_); conv => whnf) | ((with_reducible refine HInt.mk _ (wrap_i64 (by omega)) ?_); conv => whnf) | ((refine HMust.mk (by rfl) ?_); conv => whnf) | ((with_reducible refine blk_ld (by assumption) rfl ?_); conv => whnf) | ((with_reducible refine blk_ldN (by assumption) rfl ?_); conv => whnf) | ((with_reducible refine HInt.mk _ (wrap_u64 (by omega)) ?_); conv => whnf) | ((with_reducible refine HInt.mk _ (wrap_u8 (by omega)) ?_); conv => whnf) | ((with_reducible refine HInt.mk _ (wrap_u32 (by omega)) ?_); conv => whnf))))
          exact fine h4 er h0 off4
      · rw [if_neg (by decide)]; rw [if_neg (by decide)]; rw [if_neg (by decide)]; rw [if_pos (by decide)]
        have hrn := rdS_ok l
        ((conv => whnf); (repeat (first | ((with_reducible refine HSeq.go ?_); conv => whnf) | ((with_reducible refine HMust.mk (by decide) ?_); conv => whnf) | ((with_reducible refine HIf.yes (by first | rfl | assumption | decide) ?_); conv => whnf) | ((with_reducible refine HIf.no (by first | rfl | assumption | decide) ?_); conv => whnf) | ((with_reducible refine HInt.mk _ (wrap_i64 (by omega)) ?_); conv => whnf) | ((refine HMust.mk (by rfl) ?_); conv => whnf) | ((with_reducible refine blk_ld (by assumption) rfl ?_); conv => whnf) | ((with_reducible refine blk_ldN (by assumption) rfl ?_); conv => whnf) | ((with_reducible refine HInt.mk _ (wrap_u64 (by omega)) ?_); conv => whnf) | ((with_reducible refine HInt.mk _ (wrap_u8 (by omega)) ?_); conv => whnf) | ((with_reducible refine HInt.mk _ (wrap_u32 (by omega)) ?_); conv => whnf))))
        refine HCall.mk ((rtextm_spec r3 hll).mono ?_)
        rintro e h4 ⟨f4, z4, he1, he2⟩
        have off4 := off3.trans f4
        by_cases h0 : (rdS l).2.2 = 0
        · obtain ⟨rfl, r4⟩ := he2 h0
          rw [if_neg (by simpa using h0)]
          have o24 := o23.offk f4 (by omega)
          ((conv => whnf); (repeat (first | ((with_reducible refine HSeq.go ?_); conv => whnf) | ((with_reducible refine HMust.mk (by decide) ?_); conv => whnf) | ((with_reducible refine HIf.yes (by first | rfl | assumption | decide) ?_); conv => whnf) | ((with_reducible refine HIf.no (by first | rfl | assumption | decide) ?_); conv => whnf) | ((with_reducible refine HInt.mk _ (wrap_i64 (by omega)) ?_); conv => whnf) | ((refine HMust.mk (by rfl) ?_); conv => whnf) | ((with_reducible refine blk_ld (by assumption) rfl ?_); conv => whnf) | ((with_reducible refine blk_ldN (by assumption) rfl ?_); conv => whnf) | ((with_reducible refine HInt.mk _ (wrap_u64 (by omega)) ?_); conv => whnf) | ((with_reducible refine HInt.mk _ (wrap_u8 (by omega)) ?_); conv => whnf) | ((with_reducible refine HInt.mk _ (wrap_u32 (by omega)) ?_); conv => whnf))))
          refine store_new o24 rfl (by simp [isOne]) ?_
          intro h5 f5 z5 o5
          ((conv => whnf); (repeat (first | ((with_reducible refine HSeq.go ?_); conv => whnf) | ((with_reducible refine HMust.mk (by decide) ?_); conv => whnf) | ((with_reducible refine HIf.yes (by first | rfl | assumption | decide) ?_); conv => whnf) | ((with_reducible refine HIf.no (by first | rfl | assumption | decide) ?_); conv => whnf) | ((with_reducible refine HInt.mk _ (wrap_i64 (by omega)) ?_); conv => whnf) | ((refine HMust.mk (by rfl) ?_); conv => whnf) | ((with_reducible refine blk_ld (by assumption) rfl ?_); conv => whnf) | ((with_reducible refine blk_ldN (by assumption) rfl ?_); conv => whnf) | ((with_reducible refine HInt.mk _ (wrap_u64 (by omega)) ?_); conv => whnf) | ((with_reducible refine HInt.mk _ (wrap_u8 (by omega)) ?_); conv => whnf) | ((with_reducible refine HInt.mk _ (wrap_u32 (by omega)) ?_); conv => whnf))))
          exact fin h5 4 0 _ (by unfold i64; omega) (by unfold i64; omega) (show (rdS l).1.length ≤ _ by omega) ((rdS l).2.1 + 1) (off_of_off off4 f5 (by omega)) (by rw [List.drop_succ_cons]; exact r4.offk f5 (by omega))
        · obtain rfl := he1 h0
          rw [if_pos h0]
          ((conv => whnf); (repeat (first | ((with_reducible refine HSeq.go ?_); conv => whnf) | ((with_reducible refine HMust.mk (by decide) ?_); conv => whnf) | ((with_reducible refine HIf.yes (by first | rfl | assumption | decide) ?_); conv => whnf) | ((with_reducible refine HIf.no (by first | rfl | assumption | decide) ?_); conv => whnf) | ((with_reducible refine HInt.mk _ (wrap_i64 (by omega)) ?_); conv => whnf) | ((refine HMust.mk (by rfl) ?_); conv => whnf) | ((with_reducible refine blk_ld (by assumption) rfl ?_); conv => whnf) | ((with_reducible refine blk_ldN (by assumption) rfl ?_); conv => whnf) | ((with_reducible refine HInt.mk _ (wrap_u64 (by omega)) ?_); conv => whnf) | ((with_reducible refine HInt.mk _ (wrap_u8 (by omega)) ?_); conv => whnf) | ((with_reducible refine HInt.mk _ (wrap_u32 (by omega)) ?_); conv => whnf))))
          exact fine h4 _ h0 off4
      · rw [if_neg (by decide)]; rw [if_neg (by decide)]; rw [if_neg (by decide)]; rw [if_neg (by decide)]; rw [if_pos (by decide)]
        have hms := many_spec (d := d) (dp := dp) (by omega) (ih (dp + 1) (by omega)) false h3 br l r3 hll
        rw [show decide (7 = 8) = false from rfl]
        ((conv => whnf); (repeat (first | ((with_reducible refine HSeq.go ?_); conv => whnf) | ((with_reducible refine HMust.mk (by decide) ?_); conv => whnf) | ((with_reducible refine HIf.yes (by first | rfl | assumption | decide) ?_); conv => whnf) | ((with_reducible refine HIf.no (by first | rfl | assumption | decide) ?_); conv => whnf) | ((with_reducible refine HInt.mk _ (wrap_i64 (by omega)) ?_); conv => whnf) | ((refine HMust.mk (by rfl) ?_); conv => whnf) | ((with_reducible refine blk_ld (by assumption) rfl ?_); conv => whnf) | ((with_reducible refine blk_ldN (by assumption) rfl ?_); conv => whnf) | ((with_reducible refine HInt.mk _ (wrap_u64 (by omega)) ?_); conv => whnf) | ((with_reducible refine HInt.mk _ (wrap_u8 (by omega)) ?_); conv => whnf) | ((with_reducible refine HInt.mk _ (wrap_u32 (by omega)) ?_); conv => whnf))))
        refine HCall.mk (hms.mono ?_)
        rintro e h4 ⟨f4, he1, he2⟩
        have off4 := off3.trans f4
        by_cases h0 : (rdL (rd d) false l).2.2 = 0
        · obtain ⟨cs, rfl, rn, r4⟩ := he2 h0
          rw [if_neg (by simpa using h0)]
          have hcl := rn.get.len
          have o24 := o23.offk f4 (by omega)
          ((conv => whnf); (repeat (first | ((with_reducible refine HSeq.go ?_); conv => whnf) | ((with_reducible refine HMust.mk (by decide) ?_); conv => whnf) | ((with_reducible refine HIf.yes (by first | rfl | assumption | decide) ?_); conv => whnf) | ((with_reducible refine HIf.no (by first | rfl | assumption | decide) ?_); conv => whnf) | ((with_reducible refine HInt.mk _ (wrap_i64 (by omega)) ?_); conv => whnf) | ((refine HMust.mk (by rfl) ?_); conv => whnf) | ((with_reducible refine blk_ld (by assumption) rfl ?_); conv => whnf) | ((with_reducible refine blk_ldN (by assumption) rfl ?_); conv => whnf) | ((with_reducible refine HInt.mk _ (wrap_u64 (by omega)) ?_); conv => whnf) | ((with_reducible refine HInt.mk _ (wrap_u8 (by omega)) ?_); conv => whnf) | ((with_reducible refine HInt.mk _ (wrap_u32 (by omega)) ?_); conv => whnf))))
          refine HMust.mk (by simpa using hcl) ?_
          refine store_new o24 (by simp [hcl]) (by simpa using rn.get.one) ?_
          intro h5 f5 z5 o5
          ((conv => whnf); (repeat (first | ((with_reducible refine HSeq.go ?_); conv => whnf) | ((with_reducible refine HMust.mk (by decide) ?_); conv => whnf) | ((with_reducible refine HIf.yes (by first | rfl | assumption | decide) ?_); conv => whnf) | ((with_reducible refine HIf.no (by first | rfl | assumption | decide) ?_); conv => whnf) | ((with_reducible refine HInt.mk _ (wrap_i64 (by omega)) ?_); conv => whnf) | ((refine HMust.mk (by rfl) ?_); conv => whnf) | ((with_reducible refine blk_ld (by assumption) rfl ?_); conv => whnf) | ((with_reducible refine blk_ldN (by assumption) rfl ?_); conv => whnf) | ((with_reducible refine HInt.mk _ (wrap_u64 (by omega)) ?_); conv => whnf) | ((with_reducible refine HInt.mk _ (wrap_u8 (by omega)) ?_); conv => whnf) | ((with_reducible refine HInt.mk _ (wrap_u32 (by omega)) ?_); conv => whnf))))
          refine blk_ldN o5 (by simpa using hcl) ?_
          ((conv => whnf); (repeat (first | ((with_reducible refine HSeq.go ?_); conv => whnf) | ((with_reducible refine HMust.mk (by decide) ?_); conv => whnf) | ((with_reducible refine HIf.yes (by first | rfl | assumption | decide) ?_); conv => whnf) | ((with_reducible refine HIf.no (by first | rfl | assumption | decide) ?_); conv => whnf) | ((with_reducible refine HInt.mk _ (wrap_i64 (by omega)) ?_); conv => whnf) | ((refine HMust.mk (by rfl) ?_); conv => whnf) | ((with_reducible refine blk_ld (by assumption) rfl ?_); conv => whnf) | ((with_reducible refine blk_ldN (by assumption) rfl ?_); conv => whnf) | ((with_reducible refine HInt.mk _ (wrap_u64 (by omega)) ?_); conv => whnf) | ((with_reducible refine HInt.mk _ (wrap_u8 (by omega)) ?_); conv => whnf) | ((with_reducible refine HInt.mk _ (wrap_u32 (by omega)) ?_); conv => whnf))))
          refine ⟨off_of_off off4 f5 (by omega), fun h => absurd rfl h, fun _ => ⟨_, rfl, (rn.offk f5 (by omega)).lower (by omega), ?_⟩⟩
          rw [List.drop_succ_cons]
          exact r4.offk f5 (by omega)
        · obtain rfl := he1 h0
          rw [if_pos h0]
          ((conv => whnf); (repeat (first | ((with_reducible refine HSeq.go ?_); conv => whnf) | ((with_reducible refine HMust.mk (by decide) ?_); conv => whnf) | ((with_reducible refine HIf.yes (by first | rfl | assumption | decide) ?_); conv => whnf) | ((with_reducible refine HIf.no (by first | rfl | assumption | decide) ?_); conv => whnf) | ((with_reducible refine HInt.mk _ (wrap_i64 (by omega)) ?_); conv => whnf) | ((refine HMust.mk (by rfl) ?_); conv => whnf) | ((with_reducible refine blk_ld (by assumption) rfl ?_); conv => whnf) | ((with_reducible refine blk_ldN (by assumption) rfl ?_); conv => whnf) | ((with_reducible refine HInt.mk _ (wrap_u64 (by omega)) ?_); conv => whnf) | ((with_reducible refine HInt.mk _ (wrap_u8 (by omega)) ?_); conv => whnf) | ((with_reducible refine HInt.mk _ (wrap_u32 (by omega)) ?_); conv => whnf))))
          exact fine h4 _ h0 off4
      · rw [if_neg (by decide)]; rw [if_neg (by decide)]; rw [if_neg (by decide)]; rw [if_neg (by decide)]; rw [if_pos (by decide)]
        have hms := many_spec (d := d) (dp := dp) (by omega) (ih (dp + 1) (by omega)) true h3 br l r3 hll
        rw [show decide (8 = 8) = true from rfl]
        ((conv => whnf); (repeat (first | ((with_reducible refine HSeq.go ?_); conv => whnf) | ((with_reducible refine HMust.mk (by decide) ?_); conv => whnf) | ((with_reducible refine HIf.yes (by first | rfl | assumption | decide) ?_); conv => whnf) | ((with_reducible refine HIf.no (by first | rfl | assumption | decide) ?_); conv => whnf) | ((with_reducible refine HInt.mk _ (wrap_i64 (by omega)) ?_); conv => whnf) | ((refine HMust.mk (by rfl) ?_); conv => whnf) | ((with_reducible refine blk_ld (by assumption) rfl ?_); conv => whnf) | ((with_reducible refine blk_ldN (by assumption) rfl ?_); conv => whnf) | ((with_reducible refine HInt.mk _ (wrap_u64 (by omega)) ?_); conv => whnf) | ((with_reducible refine HInt.mk _ (wrap_u8 (by omega)) ?_); conv => whnf) | ((with_reducible refine HInt.mk _ (wrap_u32 (by omega)) ?_); conv => whnf))))
        refine HCall.mk (hms.mono ?_)
        rintro e h4 ⟨f4, he1, he2⟩
        have off4 := off3.trans f4
        by_cases h0 : (rdL (rd d) true l).2.2 = 0
        · obtain ⟨cs, rfl, rn, r4⟩ := he2 h0
          rw [if_neg (by simpa using h0)]
          have hcl := rn.get.len
          have o24 := o23.offk f4 (by omega)
          ((conv => whnf); (repeat (first | ((with_reducible refine HSeq.go ?_); conv => whnf) | ((with_reducible refine HMust.mk (by decide) ?_); conv => whnf) | ((with_reducible refine HIf.yes (by first | rfl | assumption | decide) ?_); conv => whnf) | ((with_reducible refine HIf.no (by first | rfl | assumption | decide) ?_); conv => whnf) | ((with_reducible refine HInt.mk _ (wrap_i64 (by omega)) ?_); conv => whnf) | ((refine HMust.mk (by rfl) ?_); conv => whnf) | ((with_reducible refine blk_ld (by assumption) rfl ?_); conv => whnf) | ((with_reducible refine blk_ldN (by assumption) rfl ?_); conv => whnf) | ((with_reducible refine HInt.mk _ (wrap_u64 (by omega)) ?_); conv => whnf) | ((with_reducible refine HInt.mk _ (wrap_u8 (by omega)) ?_); conv => whnf) | ((with_reducible refine HInt.mk _ (wrap_u32 (by omega)) ?_); conv => whnf))))
          refine HMust.mk (by simpa using hcl) ?_
          refine store_new o24 (by simp [hcl]) (by simpa using rn.get.one) ?_
          intro h5 f5 z5 o5
          ((conv => whnf); (repeat (first | ((with_reducible refine HSeq.go ?_); conv => whnf) | ((with_reducible refine HMust.mk (by decide) ?_); conv => whnf) | ((with_reducible refine HIf.yes (by first | rfl | assumption | decide) ?_); conv => whnf) | ((with_reducible refine HIf.no (by first | rfl | assumption | decide) ?_); conv => whnf) | ((with_reducible refine HInt.mk _ (wrap_i64 (by omega)) ?_); conv => whnf) | ((refine HMust.mk (by rfl) ?_); conv => whnf) | ((with_reducible refine blk_ld (by assumption) rfl ?_); conv => whnf) | ((with_reducible refine blk_ldN (by assumption) rfl ?_); conv => whnf) | ((with_reducible refine HInt.mk _ (wrap_u64 (by omega)) ?_); conv => whnf) | ((with_reducible refine HInt.mk _ (wrap_u8 (by omega)) ?_); conv => whnf) | ((with_reducible refine HInt.mk _ (wrap_u32 (by omega)) ?_); conv => whnf))))
          refine blk_ldN o5 (by simpa using hcl) ?_
          ((conv => whnf); (repeat (first | ((with_reducible refine HSeq.go ?_); conv => whnf) | ((with_reducible refine HMust.mk (by decide) ?_); conv => whnf) | ((with_reducible refine HIf.yes (by first | rfl | assumption | decide) ?_); conv => whnf) | ((with_reducible refine HIf.no (by first | rfl | assumption | decide) ?_); conv => whnf) | ((with_reducible refine HInt.mk _ (wrap_i64 (by omega)) ?_); conv => whnf) | ((refine HMust.mk (by rfl) ?_); conv => whnf) | ((with_reducible refine blk_ld (by assumption) rfl ?_); conv => whnf) | ((with_reducible refine blk_ldN (by assumption) rfl ?_); conv => whnf) | ((with_reducible refine HInt.mk _ (wrap_u64 (by omega)) ?_); conv => whnf) | ((with_reducible refine HInt.mk _ (wrap_u8 (by omega)) ?_); conv => whnf) | ((with_reducible refine HInt.mk _ (wrap_u32 (by omega)) ?_); conv => whnf))))
          refine ⟨off_of_off off4 f5 (by omega), fun h => absurd rfl h, fun _ => ⟨_, rfl, (rn.offk f5 (by omega)).lower (by omega), ?_⟩⟩
          rw [List.drop_succ_cons]
          exact r4.offk f5 (by omega)
        · obtain rfl := he1 h0
          rw [if_pos h0]
          ((conv => whnf); (repeat (first | ((with_reducible refine HSeq.go ?_); conv => whnf) | ((with_reducible refine HMust.mk (by decide) ?_); conv => whnf) | ((with_reducible refine HIf.yes (by first | rfl | assumption | decide) ?_); conv => whnf) | ((with_reducible refine HIf.no (by first | rfl | assumption | decide) ?_); conv => whnf) | ((with_reducible refine HInt.mk _ (wrap_i64 (by omega)) ?_); conv => whnf) | ((refine HMust.mk (by rfl) ?_); conv => whnf) | ((with_reducible refine blk_ld (by assumption) rfl ?_); conv => whnf) | ((with_reducible refine blk_ldN (by assumption) rfl ?_); conv => whnf) | ((with_reducible refine HInt.mk _ (wrap_u64 (by omega)) ?_); conv => whnf) | ((with_reducible refine HInt.mk _ (wrap_u8 (by omega)) ?_); conv => whnf) | ((with_reducible refine HInt.mk _ (wrap_u32 (by omega)) ?_); conv => whnf))))
          exact fine h4 _ h0 off4
      · rw [if_neg (by omega), if_neg (by omega), if_neg (by omega), if_neg (by omega), if_neg (by omega)]
        have q0 : ((n : Int) == 0) = false := by rw [beq_eq_false_iff_ne]; omega
        have q1 : ((n : Int) == 1) = false := by rw [beq_eq_false_iff_ne]; omega
        have q2 : ((n : Int) == 2) = false := by rw [beq_eq_false_iff_ne]; omega
        have q3 : ((n : Int) == 3) = false := by rw [beq_eq_false_iff_ne]; omega
        have q4 : ((n : Int) == 4) = false := by rw [beq_eq_false_iff_ne]; omega
        have q5 : ((n : Int) == 5) = false := by rw [beq_eq_false_iff_ne]; omega
        have q6 : ((n : Int) == 6) = false := by rw [beq_eq_false_iff_ne]; omega
        have q7 : ((n : Int) == 7) = false := by rw [beq_eq_false_iff_ne]; omega
        have q8 : ((n : Int) == 8) = false := by rw [beq_eq_false_iff_ne]; omega
        ((conv => whnf); (repeat (first | ((with_reducible refine HSeq.go ?_); conv => whnf) | ((with_reducible refine HMust.mk (by decide) ?_); conv => whnf) | ((with_reducible refine HIf.yes (by first | rfl | assumption | decide) ?_); conv => whnf) | ((with_reducible refine HIf.no (by first | rfl | assumption | decide) ?_); conv => whnf) | ((with_reducible refine HInt.mk _ (wrap_i64 (by omega)) ?_); conv => whnf) | ((refine HMust.mk (by rfl) ?_); conv => whnf) | ((with_reducible refine blk_ld (by assumption) rfl ?_); conv => whnf) | ((with_reducible refine blk_ldN (by assumption) rfl ?_); conv => whnf) | ((with_reducible refine HInt.mk _ (wrap_u64 (by omega)) ?_); conv => whnf) | ((with_reducible refine HInt.mk _ (wrap_u8 (by omega)) ?_); conv => whnf) | ((with_reducible refine HInt.mk _ (wrap_u32 (by omega)) ?_); conv => whnf))))
        exact fine h3 22 (by decide) off3

end Go.Proofs.Ytkcnjcdggbifeaa.Hc
