import Derived.Test.YtkcnjcdggbifeaaAJ
set_option linter.unusedVariables false
set_option linter.unusedSimpArgs false
namespace Go.Proofs.Ytkcnjcdggbifeaa.Hc
open Go Go.H Go.Proofs
set_option maxRecDepth 100000
set_option maxHeartbeats 4000000

/-- What a reading by panics answers. -/
def RdPost (h : Heap) (br dp : Nat) (l : List UInt8) (r : DT × Nat × Nat) (e : Ending) (h' : Heap) : Prop :=
  Off br h h' ∧ (r.2.2 ≠ 0 → e = Pan r.2.2) ∧ (r.2.2 = 0 → ∃ cs : List Value, e = .returned (.agg cs.toArray) ∧ RepN h' h.size r.1 cs ∧ Rdr h' br (l.drop r.2.1) dp)
def ValueSpec (d dp : Nat) : Prop := ∀ (h : Heap) (br : Nat) (l : List UInt8), Rdr h br l dp → l.length ≤ 17179869184 →
  HCalls Try.prog 22 #[.pointer (some ⟨br, 0, none⟩)] h (RdPost h br dp l (rd d l))

/-- The state of a reading of many. -/
def MSt (h h' : Heap) (br b4 b5 dp : Nat) (kind : Int) (l' : List UInt8) (ks : List ByteArray) (xs : List DT) : Prop :=
  ∃ ka kc la lc, Rdr h' br l' (dp + 1) ∧ Off br h h' ∧ h.size + 2 ≤ h'.size ∧ BlkW h' b4 25 zeroD ∧
    BlkW h' b5 25 [.int .i64 kind, .int .i64 0, .string ⟨#[]⟩, .slice ka ks.length kc, .slice la xs.length lc] ∧
    Own h' 0 9 1 ka ks.length kc (ks.map .string) ∧ (∀ p, ka = some p → h.size + 2 ≤ p.block) ∧
    OwnF Rep h' (fun b => h.size + 2 ≤ b ∧ ∀ p, ka = some p → p.block ≠ b) 25 5 la xs.length lc xs
theorem post_err {h h' : Heap} {br dp er : Nat} {l : List UInt8} {T : List ByteArray × List DT × Nat × Nat} {X : DT × Nat × Nat} (o : Off br h h') (ht : T.2.2.2 = er) (he : er ≠ 0) :
    RdPost h br dp l (if T.2.2.2 ≠ 0 then (zeroT, 0, T.2.2.2) else X) (Pan er) h' := by
  rw [if_pos (by omega)]
  exact ⟨o, fun _ => by rw [ht], fun h => absurd h (by simp only; omega)⟩
theorem off_trans2 {k : Nat} {h a b : Heap} (x : Off k h a) (y : Off k a b) : Off k h b := x.trans y
theorem off_of_off {h a b : Heap} {k j : Nat} (x : Off k h a) (y : Off j a b) (hj : h.size ≤ j) : Off k h b :=
  ⟨Nat.le_trans x.1 y.1, fun i hi hk => (y.2 i (Nat.lt_of_lt_of_le hi x.1) (by omega)).trans (x.2 i hi hk)⟩

theorem many_spec {d dp : Nat} (hd : d + (dp + 1) = 20) (ih : ValueSpec d (dp + 1)) (named : Bool) (h : Heap) (br : Nat) (l : List UInt8) (x : Rdr h br l dp) (hl : l.length ≤ 17179869184) :
    HCalls Try.prog 34 #[.pointer (some ⟨br, 0, none⟩), .bool named] h (RdPost h br dp l (rdL (rd d) named l)) := by
  have hbr : br < h.size := by obtain ⟨a, c, o, _⟩ := x; exact o.lt
  refine c34 (by simp) ?_
  (conv => whnf)
  refine new_var (e := 25) zeroD rfl ?_
  intro h1 b4 o4 x1 z1 hb4
  ((conv => whnf); (repeat (first | ((with_reducible refine HMust.mk (by decide) ?_); conv => whnf) | ((with_reducible refine HIf.yes (by first | rfl | assumption | decide) ?_); conv => whnf) | ((with_reducible refine HIf.no (by first | rfl | assumption | decide) ?_); conv => whnf) | ((with_reducible refine HInt.mk _ (wrap_i64 (by omega)) ?_); conv => whnf) | ((refine HMust.mk (by rfl) ?_); conv => whnf) | ((with_reducible refine blk_ld (by assumption) rfl ?_); conv => whnf) | ((with_reducible refine blk_ldN (by assumption) rfl ?_); conv => whnf) | ((with_reducible refine HInt.mk _ (wrap_u64 (by omega)) ?_); conv => whnf) | ((with_reducible refine HInt.mk _ (wrap_u8 (by omega)) ?_); conv => whnf) | ((with_reducible refine HInt.mk _ (wrap_u32 (by omega)) ?_); conv => whnf))))
  refine new_var (e := 25) zeroD rfl ?_
  intro h2 b5 o5 x2 z2 hb5
  have o4b := o4.ext x2
  ((conv => whnf); (repeat (first | ((with_reducible refine HMust.mk (by decide) ?_); conv => whnf) | ((with_reducible refine HIf.yes (by first | rfl | assumption | decide) ?_); conv => whnf) | ((with_reducible refine HIf.no (by first | rfl | assumption | decide) ?_); conv => whnf) | ((with_reducible refine HInt.mk _ (wrap_i64 (by omega)) ?_); conv => whnf) | ((refine HMust.mk (by rfl) ?_); conv => whnf) | ((with_reducible refine blk_ld (by assumption) rfl ?_); conv => whnf) | ((with_reducible refine blk_ldN (by assumption) rfl ?_); conv => whnf) | ((with_reducible refine HInt.mk _ (wrap_u64 (by omega)) ?_); conv => whnf) | ((with_reducible refine HInt.mk _ (wrap_u8 (by omega)) ?_); conv => whnf) | ((with_reducible refine HInt.mk _ (wrap_u32 (by omega)) ?_); conv => whnf))))
  refine store_new o5 rfl (by simp [isOne]) ?_
  intro h3 f3 z3 o5'
  have o43 := o4b.offk f3 (by omega)
  have x3 : Ext h h3 := (x1.trans x2).offNew f3 (by omega)
  ((conv => whnf); (repeat (first | ((with_reducible refine HMust.mk (by decide) ?_); conv => whnf) | ((with_reducible refine HIf.yes (by first | rfl | assumption | decide) ?_); conv => whnf) | ((with_reducible refine HIf.no (by first | rfl | assumption | decide) ?_); conv => whnf) | ((with_reducible refine HInt.mk _ (wrap_i64 (by omega)) ?_); conv => whnf) | ((refine HMust.mk (by rfl) ?_); conv => whnf) | ((with_reducible refine blk_ld (by assumption) rfl ?_); conv => whnf) | ((with_reducible refine blk_ldN (by assumption) rfl ?_); conv => whnf) | ((with_reducible refine HInt.mk _ (wrap_u64 (by omega)) ?_); conv => whnf) | ((with_reducible refine HInt.mk _ (wrap_u8 (by omega)) ?_); conv => whnf) | ((with_reducible refine HInt.mk _ (wrap_u32 (by omega)) ?_); conv => whnf))))
  generalize hkind : (if named = true then (6 : Int) else 5) = kind
  refine cut_rule [] (fun vs h' => Ext h h' ∧ h'.size = h.size + 2 ∧ BlkW h' b4 25 zeroD ∧ BlkW h' b5 25 [.int .i64 kind, .int .i64 0, .string ⟨#[]⟩, .slice none 0 0, .slice none 0 0]) rfl ?_ ?_
  · subst hkind
    cases named
    · ((conv => whnf); (repeat (first | ((with_reducible refine HSeq.go ?_); conv => whnf) | ((with_reducible refine HMust.mk (by decide) ?_); conv => whnf) | ((with_reducible refine HIf.yes (by first | rfl | assumption | decide) ?_); conv => whnf) | ((with_reducible refine HIf.no (by first | rfl | assumption | decide) ?_); conv => whnf) | ((with_reducible refine HInt.mk _ (wrap_i64 (by omega)) ?_); conv => whnf) | ((refine HMust.mk (by rfl) ?_); conv => whnf) | ((with_reducible refine blk_ld (by assumption) rfl ?_); conv => whnf) | ((with_reducible refine blk_ldN (by assumption) rfl ?_); conv => whnf) | ((with_reducible refine HInt.mk _ (wrap_u64 (by omega)) ?_); conv => whnf) | ((with_reducible refine HInt.mk _ (wrap_u8 (by omega)) ?_); conv => whnf) | ((with_reducible refine HInt.mk _ (wrap_u32 (by omega)) ?_); conv => whnf))))
      exact ⟨x3, by omega, o43, o5'⟩
    · ((conv => whnf); (repeat (first | ((with_reducible refine HSeq.go ?_); conv => whnf) | ((with_reducible refine HMust.mk (by decide) ?_); conv => whnf) | ((with_reducible refine HIf.yes (by first | rfl | assumption | decide) ?_); conv => whnf) | ((with_reducible refine HIf.no (by first | rfl | assumption | decide) ?_); conv => whnf) | ((with_reducible refine HInt.mk _ (wrap_i64 (by omega)) ?_); conv => whnf) | ((refine HMust.mk (by rfl) ?_); conv => whnf) | ((with_reducible refine blk_ld (by assumption) rfl ?_); conv => whnf) | ((with_reducible refine blk_ldN (by assumption) rfl ?_); conv => whnf) | ((with_reducible refine HInt.mk _ (wrap_u64 (by omega)) ?_); conv => whnf) | ((with_reducible refine HInt.mk _ (wrap_u8 (by omega)) ?_); conv => whnf) | ((with_reducible refine HInt.mk _ (wrap_u32 (by omega)) ?_); conv => whnf))))
      refine blk_st o5' (by simp) rfl ?_
      intro h4 f4 z4 o5''
      ((conv => whnf); (repeat (first | ((with_reducible refine HSeq.go ?_); conv => whnf) | ((with_reducible refine HMust.mk (by decide) ?_); conv => whnf) | ((with_reducible refine HIf.yes (by first | rfl | assumption | decide) ?_); conv => whnf) | ((with_reducible refine HIf.no (by first | rfl | assumption | decide) ?_); conv => whnf) | ((with_reducible refine HInt.mk _ (wrap_i64 (by omega)) ?_); conv => whnf) | ((refine HMust.mk (by rfl) ?_); conv => whnf) | ((with_reducible refine blk_ld (by assumption) rfl ?_); conv => whnf) | ((with_reducible refine blk_ldN (by assumption) rfl ?_); conv => whnf) | ((with_reducible refine HInt.mk _ (wrap_u64 (by omega)) ?_); conv => whnf) | ((with_reducible refine HInt.mk _ (wrap_u8 (by omega)) ?_); conv => whnf) | ((with_reducible refine HInt.mk _ (wrap_u32 (by omega)) ?_); conv => whnf))))
      exact ⟨x3.offNew f4 (by omega), by omega, o43.offk f4 (by omega), o5''⟩
  intro u h4
  rintro ⟨x4, z4, o4', o5'⟩
  have hrn := rdn_ok l
  ((conv => whnf); (repeat (first | ((with_reducible refine HSeq.go ?_); conv => whnf) | ((with_reducible refine HMust.mk (by decide) ?_); conv => whnf) | ((with_reducible refine HIf.yes (by first | rfl | assumption | decide) ?_); conv => whnf) | ((with_reducible refine HIf.no (by first | rfl | assumption | decide) ?_); conv => whnf) | ((with_reducible refine HInt.mk _ (wrap_i64 (by omega)) ?_); conv => whnf) | ((refine HMust.mk (by rfl) ?_); conv => whnf) | ((with_reducible refine blk_ld (by assumption) rfl ?_); conv => whnf) | ((with_reducible refine blk_ldN (by assumption) rfl ?_); conv => whnf) | ((with_reducible refine HInt.mk _ (wrap_u64 (by omega)) ?_); conv => whnf) | ((with_reducible refine HInt.mk _ (wrap_u8 (by omega)) ?_); conv => whnf) | ((with_reducible refine HInt.mk _ (wrap_u32 (by omega)) ?_); conv => whnf))))
  refine HCall.mk ((rnumm_spec (x.ext x4) hl).mono ?_)
  rintro e h5 ⟨f5, z5, he1, he2⟩
  unfold rdL
  rw [hkind]
  obtain ⟨m, k, er, hm⟩ : ∃ m k er, rdn l 0 0 = (m, k, er) := ⟨_, _, _, rfl⟩
  rw [hm] at he1 he2 hrn ⊢
  simp only at he1 he2 hrn ⊢
  have off5 : Off br h h5 := ⟨by have := x4.1; omega, fun i hi hk => (f5.2 i (by have := x4.1; omega) hk).trans (x4.2 i hi)⟩
  by_cases h0 : er = 0
  · subst h0
    obtain ⟨rfl, r5⟩ := he2 rfl
    have hrn' : 0 < k ∧ k ≤ l.length ∧ m < 2 ^ 64 := by simpa using hrn
    have o45 := o4'.offk f5 (by omega)
    have o55 := o5'.offk f5 (by omega)
    obtain ⟨ra, rc, rb5, rs5, rp5⟩ := r5
    rw [if_neg (by simp)]
    ((conv => whnf); (repeat (first | ((with_reducible refine HSeq.go ?_); conv => whnf) | ((with_reducible refine HMust.mk (by decide) ?_); conv => whnf) | ((with_reducible refine HIf.yes (by first | rfl | assumption | decide) ?_); conv => whnf) | ((with_reducible refine HIf.no (by first | rfl | assumption | decide) ?_); conv => whnf) | ((with_reducible refine HInt.mk _ (wrap_i64 (by omega)) ?_); conv => whnf) | ((refine HMust.mk (by rfl) ?_); conv => whnf) | ((with_reducible refine blk_ld (by assumption) rfl ?_); conv => whnf) | ((with_reducible refine blk_ldN (by assumption) rfl ?_); conv => whnf) | ((with_reducible refine HInt.mk _ (wrap_u64 (by omega)) ?_); conv => whnf) | ((with_reducible refine HInt.mk _ (wrap_u8 (by omega)) ?_); conv => whnf) | ((with_reducible refine HInt.mk _ (wrap_u32 (by omega)) ?_); conv => whnf))))
    refine blk_st rb5 (by simp) rfl ?_
    intro h6 f6 z6 rb6
    have o46 := o45.offk f6 (by omega)
    have o56 := o55.offk f6 (by omega)
    have rs6 := kept0 rs5 (B := br) (f6.kept (Nat.le_refl _) (by omega)) rp5
    have r6 : Rdr h6 br (l.drop k) (dp + 1) := ⟨ra, rc, rb6, rs6, rp5⟩
    have off6 : Off br h h6 := off5.trans f6
    ((conv => whnf); (repeat (first | ((with_reducible refine HSeq.go ?_); conv => whnf) | ((with_reducible refine HMust.mk (by decide) ?_); conv => whnf) | ((with_reducible refine HIf.yes (by first | rfl | assumption | decide) ?_); conv => whnf) | ((with_reducible refine HIf.no (by first | rfl | assumption | decide) ?_); conv => whnf) | ((with_reducible refine HInt.mk _ (wrap_i64 (by omega)) ?_); conv => whnf) | ((refine HMust.mk (by rfl) ?_); conv => whnf) | ((with_reducible refine blk_ld (by assumption) rfl ?_); conv => whnf) | ((with_reducible refine blk_ldN (by assumption) rfl ?_); conv => whnf) | ((with_reducible refine HInt.mk _ (wrap_u64 (by omega)) ?_); conv => whnf) | ((with_reducible refine HInt.mk _ (wrap_u8 (by omega)) ?_); conv => whnf) | ((with_reducible refine HInt.mk _ (wrap_u32 (by omega)) ?_); conv => whnf))))
    generalize hT : rdM (rd d) named m (l.drop k) [] [] k = T
    refine loop_rule [6] (fun vs h' => ∃ (m' : Nat) (l' : List UInt8) (ks : List ByteArray) (xs : List DT) (at' : Nat), vs = [.int .u64 m'] ∧ m' < 2 ^ 64 ∧ rdM (rd d) named m' l' ks xs at' = T ∧
        l' = l.drop at' ∧ at' ≤ l.length ∧ xs.length + l'.length ≤ l.length ∧ ks.length ≤ xs.length ∧ (∀ k ∈ ks, k.size ≤ 2147483647) ∧ MSt h h' br b4 b5 dp kind l' ks xs)
      (fun vs _ => match vs with | [.int _ i] => i.toNat | _ => 0) rfl ?_ ?_
    · exact ⟨m, l.drop k, [], [], k, rfl, hrn'.2.2, hT, rfl, hrn'.2.1, by simp, by simp, by simp, none, 0, none, 0, r6, off6, by omega, o46, o56, Own.nil _ _ _ _, fun p ep => (by cases ep), OwnF.nil _ _ _ _ _⟩
    · intro u h7 v6
      rintro ⟨m', l', ks, xs, at', e, hm', hR, hl', hat, hxl, hkx, hks, st⟩
      cases e
      ((conv => whnf); (repeat (first | ((with_reducible refine HMust.mk (by decide) ?_); conv => whnf) | ((with_reducible refine HIf.yes (by first | rfl | assumption | decide) ?_); conv => whnf) | ((with_reducible refine HIf.no (by first | rfl | assumption | decide) ?_); conv => whnf) | ((with_reducible refine HInt.mk _ (wrap_i64 (by omega)) ?_); conv => whnf) | ((refine HMust.mk (by rfl) ?_); conv => whnf) | ((with_reducible refine blk_ld (by assumption) rfl ?_); conv => whnf) | ((with_reducible refine blk_ldN (by assumption) rfl ?_); conv => whnf) | ((with_reducible refine HInt.mk _ (wrap_u64 (by omega)) ?_); conv => whnf) | ((with_reducible refine HInt.mk _ (wrap_u8 (by omega)) ?_); conv => whnf) | ((with_reducible refine HInt.mk _ (wrap_u32 (by omega)) ?_); conv => whnf))))
      refine cut_rule [] (fun vs h' => 0 < m' ∧ h' = h7) rfl ?_ ?_
      · ((conv => whnf); (repeat (first | ((with_reducible refine HSeq.go ?_); conv => whnf) | ((with_reducible refine HMust.mk (by decide) ?_); conv => whnf) | ((with_reducible refine HIf.yes (by first | rfl | assumption | decide) ?_); conv => whnf) | ((with_reducible refine HIf.no (by first | rfl | assumption | decide) ?_); conv => whnf) | ((with_reducible refine HInt.mk _ (wrap_i64 (by omega)) ?_); conv => whnf) | ((refine HMust.mk (by rfl) ?_); conv => whnf) | ((with_reducible refine blk_ld (by assumption) rfl ?_); conv => whnf) | ((with_reducible refine blk_ldN (by assumption) rfl ?_); conv => whnf) | ((with_reducible refine HInt.mk _ (wrap_u64 (by omega)) ?_); conv => whnf) | ((with_reducible refine HInt.mk _ (wrap_u8 (by omega)) ?_); conv => whnf) | ((with_reducible refine HInt.mk _ (wrap_u32 (by omega)) ?_); conv => whnf))))
        refine HIf.mk (fun hb => ?_) (fun hb => ?_)
        · have hb' := of_decide_eq_true hb
          ((conv => whnf); (repeat (first | ((with_reducible refine HSeq.go ?_); conv => whnf) | ((with_reducible refine HMust.mk (by decide) ?_); conv => whnf) | ((with_reducible refine HIf.yes (by first | rfl | assumption | decide) ?_); conv => whnf) | ((with_reducible refine HIf.no (by first | rfl | assumption | decide) ?_); conv => whnf) | ((with_reducible refine HInt.mk _ (wrap_i64 (by omega)) ?_); conv => whnf) | ((refine HMust.mk (by rfl) ?_); conv => whnf) | ((with_reducible refine blk_ld (by assumption) rfl ?_); conv => whnf) | ((with_reducible refine blk_ldN (by assumption) rfl ?_); conv => whnf) | ((with_reducible refine HInt.mk _ (wrap_u64 (by omega)) ?_); conv => whnf) | ((with_reducible refine HInt.mk _ (wrap_u8 (by omega)) ?_); conv => whnf) | ((with_reducible refine HInt.mk _ (wrap_u32 (by omega)) ?_); conv => whnf))))
          exact ⟨by omega, rfl⟩
        · have hb' := of_decide_eq_false hb
          obtain rfl : m' = 0 := by omega
          obtain ⟨ka, kc, la, lc, r7, off7, hs7, o47, o57, ok7, hk7, ol7⟩ := st
          obtain ⟨ra', rc', rb7, rs7, rp7⟩ := r7
          simp only [rdM] at hR
          subst hR
          ((conv => whnf); (repeat (first | ((with_reducible refine HSeq.go ?_); conv => whnf) | ((with_reducible refine HMust.mk (by decide) ?_); conv => whnf) | ((with_reducible refine HIf.yes (by first | rfl | assumption | decide) ?_); conv => whnf) | ((with_reducible refine HIf.no (by first | rfl | assumption | decide) ?_); conv => whnf) | ((with_reducible refine HInt.mk _ (wrap_i64 (by omega)) ?_); conv => whnf) | ((refine HMust.mk (by rfl) ?_); conv => whnf) | ((with_reducible refine blk_ld (by assumption) rfl ?_); conv => whnf) | ((with_reducible refine blk_ldN (by assumption) rfl ?_); conv => whnf) | ((with_reducible refine HInt.mk _ (wrap_u64 (by omega)) ?_); conv => whnf) | ((with_reducible refine HInt.mk _ (wrap_u8 (by omega)) ?_); conv => whnf) | ((with_reducible refine HInt.mk _ (wrap_u32 (by omega)) ?_); conv => whnf))))
          refine blk_st rb7 (by simp) rfl ?_
          intro h8 f8 z8 rb8
          have o48 := o47.offk f8 (by omega)
          have o58 := o57.offk f8 (by omega)
          have ok8 := ok7.off f8 (fun p ep => by have := hk7 p ep; omega)
          have ol8 := ol7.off f8 (fun hS => by have := hS.1; omega)
          have rs8 := kept0 rs7 (B := br) (f8.kept (Nat.le_refl _) (by omega)) rp7
          ((conv => whnf); (repeat (first | ((with_reducible refine HSeq.go ?_); conv => whnf) | ((with_reducible refine HMust.mk (by decide) ?_); conv => whnf) | ((with_reducible refine HIf.yes (by first | rfl | assumption | decide) ?_); conv => whnf) | ((with_reducible refine HIf.no (by first | rfl | assumption | decide) ?_); conv => whnf) | ((with_reducible refine HInt.mk _ (wrap_i64 (by omega)) ?_); conv => whnf) | ((refine HMust.mk (by rfl) ?_); conv => whnf) | ((with_reducible refine blk_ld (by assumption) rfl ?_); conv => whnf) | ((with_reducible refine blk_ldN (by assumption) rfl ?_); conv => whnf) | ((with_reducible refine HInt.mk _ (wrap_u64 (by omega)) ?_); conv => whnf) | ((with_reducible refine HInt.mk _ (wrap_u8 (by omega)) ?_); conv => whnf) | ((with_reducible refine HInt.mk _ (wrap_u32 (by omega)) ?_); conv => whnf))))
          refine store_new o48 rfl (by simp [isOne]) ?_
          intro h9 f9 z9 o9
          ((conv => whnf); (repeat (first | ((with_reducible refine HSeq.go ?_); conv => whnf) | ((with_reducible refine HMust.mk (by decide) ?_); conv => whnf) | ((with_reducible refine HIf.yes (by first | rfl | assumption | decide) ?_); conv => whnf) | ((with_reducible refine HIf.no (by first | rfl | assumption | decide) ?_); conv => whnf) | ((with_reducible refine HInt.mk _ (wrap_i64 (by omega)) ?_); conv => whnf) | ((refine HMust.mk (by rfl) ?_); conv => whnf) | ((with_reducible refine blk_ld (by assumption) rfl ?_); conv => whnf) | ((with_reducible refine blk_ldN (by assumption) rfl ?_); conv => whnf) | ((with_reducible refine HInt.mk _ (wrap_u64 (by omega)) ?_); conv => whnf) | ((with_reducible refine HInt.mk _ (wrap_u8 (by omega)) ?_); conv => whnf) | ((with_reducible refine HInt.mk _ (wrap_u32 (by omega)) ?_); conv => whnf))))
          rw [if_neg (by simp)]
          refine ⟨off_of_off (off7.trans f8) f9 (by omega), fun h => absurd rfl h, fun _ => ⟨_, rfl, ?_, ?_⟩⟩
          · have ok9 := ok8.off f9 (fun p ep => by have := hk7 p ep; omega)
            have ol9 := ol8.off f9 (fun hS => by have := hS.1; omega)
            have sf := ok9.sl.fr (S := fun b => h.size ≤ b ∧ b < h9.size) (fun p ep => by have := hk7 p ep; have := ok9.lt p ep; omega)
            refine (sf.and ol9.fr (U := fun b => h.size ≤ b ∧ b < h9.size) (fun _ hb => hb) (fun b hb => ⟨by have := hb.1.1; omega, hb.2⟩)).map ?_
            rintro hh ⟨q1, xs', q2, q3⟩
            exact Rep.mk' (by subst hkind; unfold i64; split <;> omega) (by unfold i64; omega) (by decide) (show ks.length ≤ _ by omega) (show xs.length ≤ _ by omega) (fun x hx => by have := hks x hx; omega) q1 q2 (Reps_iff.2 q3)
          · have e1 : ((dp + 1 : Nat) : Int) - 1 = dp := by omega
            have rb8' : BlkW h8 br 45 [.slice ra' l'.length rc', .int .i64 dp] := by rw [← e1]; exact rb8
            rw [← hl']
            exact ⟨ra', rc', rb8'.offk f9 (by omega), kept0 rs8 (B := br) (f9.kept (by omega) (by have := f8.1; have := off7.1; omega)) rp7, rp7⟩
      · intro u h7
        rintro ⟨hpos, rfl⟩
        obtain ⟨m, rfl⟩ : ∃ k, m' = k + 1 := ⟨m' - 1, by omega⟩
        ((conv => whnf); (repeat (first | ((with_reducible refine HMust.mk (by decide) ?_); conv => whnf) | ((with_reducible refine HIf.yes (by first | rfl | assumption | decide) ?_); conv => whnf) | ((with_reducible refine HIf.no (by first | rfl | assumption | decide) ?_); conv => whnf) | ((with_reducible refine HInt.mk _ (wrap_i64 (by omega)) ?_); conv => whnf) | ((refine HMust.mk (by rfl) ?_); conv => whnf) | ((with_reducible refine blk_ld (by assumption) rfl ?_); conv => whnf) | ((with_reducible refine blk_ldN (by assumption) rfl ?_); conv => whnf) | ((with_reducible refine HInt.mk _ (wrap_u64 (by omega)) ?_); conv => whnf) | ((with_reducible refine HInt.mk _ (wrap_u8 (by omega)) ?_); conv => whnf) | ((with_reducible refine HInt.mk _ (wrap_u32 (by omega)) ?_); conv => whnf))))
        (refine HSeq.go ?_; conv => whnf)
        ((conv => whnf); (repeat (first | ((with_reducible refine HMust.mk (by decide) ?_); conv => whnf) | ((with_reducible refine HIf.yes (by first | rfl | assumption | decide) ?_); conv => whnf) | ((with_reducible refine HIf.no (by first | rfl | assumption | decide) ?_); conv => whnf) | ((with_reducible refine HInt.mk _ (wrap_i64 (by omega)) ?_); conv => whnf) | ((refine HMust.mk (by rfl) ?_); conv => whnf) | ((with_reducible refine blk_ld (by assumption) rfl ?_); conv => whnf) | ((with_reducible refine blk_ldN (by assumption) rfl ?_); conv => whnf) | ((with_reducible refine HInt.mk _ (wrap_u64 (by omega)) ?_); conv => whnf) | ((with_reducible refine HInt.mk _ (wrap_u8 (by omega)) ?_); conv => whnf) | ((with_reducible refine HInt.mk _ (wrap_u32 (by omega)) ?_); conv => whnf))))
        refine cut_rule [] (fun vs h' => ∃ (l2 : List UInt8) (ks2 : List ByteArray) (at2 : Nat), MSt h h' br b4 b5 dp kind l2 ks2 xs ∧ l2 = l.drop at2 ∧ at' ≤ at2 ∧ at2 ≤ l.length ∧ ks2.length ≤ xs.length + 1 ∧ (∀ k ∈ ks2, k.size ≤ 2147483647) ∧
          T = (if (rd d l2).2.2 ≠ 0 then ([], [], 0, (rd d l2).2.2) else rdM (rd d) named m (l2.drop (rd d l2).2.1) ks2 (xs ++ [(rd d l2).1]) (at2 + (rd d l2).2.1))) rfl ?_ ?_
        · cases named
          · ((conv => whnf); (repeat (first | ((with_reducible refine HSeq.go ?_); conv => whnf) | ((with_reducible refine HMust.mk (by decide) ?_); conv => whnf) | ((with_reducible refine HIf.yes (by first | rfl | assumption | decide) ?_); conv => whnf) | ((with_reducible refine HIf.no (by first | rfl | assumption | decide) ?_); conv => whnf) | ((with_reducible refine HInt.mk _ (wrap_i64 (by omega)) ?_); conv => whnf) | ((refine HMust.mk (by rfl) ?_); conv => whnf) | ((with_reducible refine blk_ld (by assumption) rfl ?_); conv => whnf) | ((with_reducible refine blk_ldN (by assumption) rfl ?_); conv => whnf) | ((with_reducible refine HInt.mk _ (wrap_u64 (by omega)) ?_); conv => whnf) | ((with_reducible refine HInt.mk _ (wrap_u8 (by omega)) ?_); conv => whnf) | ((with_reducible refine HInt.mk _ (wrap_u32 (by omega)) ?_); conv => whnf))))
            refine ⟨l', ks, at', st, hl', Nat.le_refl _, hat, by omega, hks, ?_⟩
            rw [← hR]; simp only [rdM]
          · have hsok := rdS_ok l'
            obtain ⟨ka, kc, la, lc, r7, off7, hs7, o47, o57, ok7, hk7, ol7⟩ := st
            simp only [rdM] at hR
            ((conv => whnf); (repeat (first | ((with_reducible refine HSeq.go ?_); conv => whnf) | ((with_reducible refine HMust.mk (by decide) ?_); conv => whnf) | ((with_reducible refine HIf.yes (by first | rfl | assumption | decide) ?_); conv => whnf) | ((with_reducible refine HIf.no (by first | rfl | assumption | decide) ?_); conv => whnf) | ((with_reducible refine HInt.mk _ (wrap_i64 (by omega)) ?_); conv => whnf) | ((refine HMust.mk (by rfl) ?_); conv => whnf) | ((with_reducible refine blk_ld (by assumption) rfl ?_); conv => whnf) | ((with_reducible refine blk_ldN (by assumption) rfl ?_); conv => whnf) | ((with_reducible refine HInt.mk _ (wrap_u64 (by omega)) ?_); conv => whnf) | ((with_reducible refine HInt.mk _ (wrap_u8 (by omega)) ?_); conv => whnf) | ((with_reducible refine HInt.mk _ (wrap_u32 (by omega)) ?_); conv => whnf))))
            refine HCall.mk ((rtextm_spec r7 (by omega)).mono ?_)
            rintro e h8 ⟨f8, z8, he1, he2⟩
            have off8 := off7.trans f8
            by_cases hs0 : (rdS l').2.2 = 0
            · obtain ⟨rfl, r8⟩ := he2 hs0
              rw [if_neg (by simpa using hs0)] at hR
              have hsok' : (rdS l').1.length < (rdS l').2.1 ∧ (rdS l').2.1 ≤ l'.length ∧ (rdS l').1.length ≤ 2147483647 := by omega
              generalize hkey : (⟨(rdS l').1.toArray⟩ : ByteArray) = key at hR ⊢
              have hksz : key.size ≤ 2147483647 := by subst hkey; exact hsok'.2.2
              have o48 := o47.offk f8 (by omega)
              have o58 := o57.offk f8 (by omega)
              have ok8 := ok7.off f8 (fun p ep => by have := hk7 p ep; omega)
              have ol8 := ol7.off f8 (fun hS => by have := hS.1; omega)
              ((conv => whnf); (repeat (first | ((with_reducible refine HSeq.go ?_); conv => whnf) | ((with_reducible refine HMust.mk (by decide) ?_); conv => whnf) | ((with_reducible refine HIf.yes (by first | rfl | assumption | decide) ?_); conv => whnf) | ((with_reducible refine HIf.no (by first | rfl | assumption | decide) ?_); conv => whnf) | ((with_reducible refine HInt.mk _ (wrap_i64 (by omega)) ?_); conv => whnf) | ((refine HMust.mk (by rfl) ?_); conv => whnf) | ((with_reducible refine blk_ld (by assumption) rfl ?_); conv => whnf) | ((with_reducible refine blk_ldN (by assumption) rfl ?_); conv => whnf) | ((with_reducible refine HInt.mk _ (wrap_u64 (by omega)) ?_); conv => whnf) | ((with_reducible refine HInt.mk _ (wrap_u8 (by omega)) ?_); conv => whnf) | ((with_reducible refine HInt.mk _ (wrap_u32 (by omega)) ?_); conv => whnf))))
              refine HCall.mk ((contains_spec ok8.sl key (by omega)).mono ?_)
              rintro e h8 ⟨rfl, rfl⟩
              ((conv => whnf); (repeat (first | ((with_reducible refine HSeq.go ?_); conv => whnf) | ((with_reducible refine HMust.mk (by decide) ?_); conv => whnf) | ((with_reducible refine HIf.yes (by first | rfl | assumption | decide) ?_); conv => whnf) | ((with_reducible refine HIf.no (by first | rfl | assumption | decide) ?_); conv => whnf) | ((with_reducible refine HInt.mk _ (wrap_i64 (by omega)) ?_); conv => whnf) | ((refine HMust.mk (by rfl) ?_); conv => whnf) | ((with_reducible refine blk_ld (by assumption) rfl ?_); conv => whnf) | ((with_reducible refine blk_ldN (by assumption) rfl ?_); conv => whnf) | ((with_reducible refine HInt.mk _ (wrap_u64 (by omega)) ?_); conv => whnf) | ((with_reducible refine HInt.mk _ (wrap_u8 (by omega)) ?_); conv => whnf) | ((with_reducible refine HInt.mk _ (wrap_u32 (by omega)) ?_); conv => whnf))))
              by_cases hin : strIn ks key = true
              · rw [if_pos hin] at hR
                refine HCall.to #[.bool false, .int .i64 22] (by show #[Value.bool (!strIn ks key), _] = _; rw [hin]; rfl) ((must_no 22 h8).mono ?_)
                rintro e h8 ⟨rfl, rfl⟩
                ((conv => whnf); (repeat (first | ((with_reducible refine HSeq.go ?_); conv => whnf) | ((with_reducible refine HMust.mk (by decide) ?_); conv => whnf) | ((with_reducible refine HIf.yes (by first | rfl | assumption | decide) ?_); conv => whnf) | ((with_reducible refine HIf.no (by first | rfl | assumption | decide) ?_); conv => whnf) | ((with_reducible refine HInt.mk _ (wrap_i64 (by omega)) ?_); conv => whnf) | ((refine HMust.mk (by rfl) ?_); conv => whnf) | ((with_reducible refine blk_ld (by assumption) rfl ?_); conv => whnf) | ((with_reducible refine blk_ldN (by assumption) rfl ?_); conv => whnf) | ((with_reducible refine HInt.mk _ (wrap_u64 (by omega)) ?_); conv => whnf) | ((with_reducible refine HInt.mk _ (wrap_u8 (by omega)) ?_); conv => whnf) | ((with_reducible refine HInt.mk _ (wrap_u32 (by omega)) ?_); conv => whnf))))
                exact post_err off8 (by rw [← hR]) (by decide)
              · rw [if_neg hin] at hR
                have hin' : strIn ks key = false := by simpa using hin
                refine HCall.to #[.bool true, .int .i64 22] (by show #[Value.bool (!strIn ks key), _] = _; rw [hin']; rfl) ((must_ok _ h8).mono ?_)
                rintro e h8 ⟨rfl, rfl⟩
                ((conv => whnf); (repeat (first | ((with_reducible refine HSeq.go ?_); conv => whnf) | ((with_reducible refine HMust.mk (by decide) ?_); conv => whnf) | ((with_reducible refine HIf.yes (by first | rfl | assumption | decide) ?_); conv => whnf) | ((with_reducible refine HIf.no (by first | rfl | assumption | decide) ?_); conv => whnf) | ((with_reducible refine HInt.mk _ (wrap_i64 (by omega)) ?_); conv => whnf) | ((refine HMust.mk (by rfl) ?_); conv => whnf) | ((with_reducible refine blk_ld (by assumption) rfl ?_); conv => whnf) | ((with_reducible refine blk_ldN (by assumption) rfl ?_); conv => whnf) | ((with_reducible refine HInt.mk _ (wrap_u64 (by omega)) ?_); conv => whnf) | ((with_reducible refine HInt.mk _ (wrap_u8 (by omega)) ?_); conv => whnf) | ((with_reducible refine HInt.mk _ (wrap_u32 (by omega)) ?_); conv => whnf))))
                refine new_own (e := 9) 1 1 [.string key] rfl rfl ?_
                intro h9 b9 o9 x9 z9 e9
                have o49 := o48.ext x9
                have o59 := o58.ext x9
                have ok9 := ok8.ext x9
                have ol9 := ol8.ext x9
                have r9 := r8.ext x9
                ((conv => whnf); (repeat (first | ((with_reducible refine HSeq.go ?_); conv => whnf) | ((with_reducible refine HMust.mk (by decide) ?_); conv => whnf) | ((with_reducible refine HIf.yes (by first | rfl | assumption | decide) ?_); conv => whnf) | ((with_reducible refine HIf.no (by first | rfl | assumption | decide) ?_); conv => whnf) | ((with_reducible refine HInt.mk _ (wrap_i64 (by omega)) ?_); conv => whnf) | ((refine HMust.mk (by rfl) ?_); conv => whnf) | ((with_reducible refine blk_ld (by assumption) rfl ?_); conv => whnf) | ((with_reducible refine blk_ldN (by assumption) rfl ?_); conv => whnf) | ((with_reducible refine HInt.mk _ (wrap_u64 (by omega)) ?_); conv => whnf) | ((with_reducible refine HInt.mk _ (wrap_u8 (by omega)) ?_); conv => whnf) | ((with_reducible refine HInt.mk _ (wrap_u32 (by omega)) ?_); conv => whnf))))
                refine o9.sl.cells ?_
                refine Own.grow (m := 1) ok9 (Nat.zero_le _) rfl rfl (by simp [isOne]) (by omega) ?_
                intro h10 a10 c10 o10 g10
                have hk9 := ok9.lt
                have o510 := g10.blk o59 (fun p ep => by have := hk7 p ep; omega)
                have o410 := g10.blk o49 (fun p ep => by have := hk7 p ep; omega)
                have hs10 := g10.1
                have hb5 : b5 < h9.size := o59.lt
                have hs8 := x9.1
                have olb := (ol9.mono (T := fun b => h.size + 2 ≤ b ∧ (∀ p, ka = some p → p.block ≠ b) ∧ (∀ p, a10 = some p → p.block ≠ b)) (fun b hb hlt => ⟨hb.1, hb.2, fun p ep => by
                  rcases g10.2.2 p ep with ⟨q, eq, hq⟩ | hq
                  · rw [hq]; exact hb.2 q eq
                  · omega⟩)).agree hs10 (fun b hb => g10.2.1 b hb.2 hb.1.2.1)
                have ol10 := olb.mono (T := fun b => h.size + 2 ≤ b ∧ ∀ p, a10 = some p → p.block ≠ b) (fun b hb _ => ⟨hb.1, hb.2.2⟩)
                have r10 := r9.agree (h' := h10) (fun b hb => g10.2.1 b (by omega) (fun p ep => by have := hk7 p ep; omega)) hs10
                have hk10 : ∀ p, a10 = some p → h.size + 2 ≤ p.block := fun p ep => by
                  rcases g10.2.2 p ep with ⟨q, eq, hq⟩ | hq
                  · rw [hq]; exact hk7 q eq
                  · omega
                have off10 : Off br h h10 := ⟨by have := off8.1; omega, fun i hi hk => by
                  rw [g10.2.1 i (by have := off8.1; omega) (fun p ep => by have := hk7 p ep; omega), x9.2 i (by have := off8.1; omega), off8.2 i hi hk]⟩
                ((conv => whnf); (repeat (first | ((with_reducible refine HSeq.go ?_); conv => whnf) | ((with_reducible refine HMust.mk (by decide) ?_); conv => whnf) | ((with_reducible refine HIf.yes (by first | rfl | assumption | decide) ?_); conv => whnf) | ((with_reducible refine HIf.no (by first | rfl | assumption | decide) ?_); conv => whnf) | ((with_reducible refine HInt.mk _ (wrap_i64 (by omega)) ?_); conv => whnf) | ((refine HMust.mk (by rfl) ?_); conv => whnf) | ((with_reducible refine blk_ld (by assumption) rfl ?_); conv => whnf) | ((with_reducible refine blk_ldN (by assumption) rfl ?_); conv => whnf) | ((with_reducible refine HInt.mk _ (wrap_u64 (by omega)) ?_); conv => whnf) | ((with_reducible refine HInt.mk _ (wrap_u8 (by omega)) ?_); conv => whnf) | ((with_reducible refine HInt.mk _ (wrap_u32 (by omega)) ?_); conv => whnf))))
                refine blk_st o510 (by simp) rfl ?_
                intro h11 f11 z11 o511
                ((conv => whnf); (repeat (first | ((with_reducible refine HSeq.go ?_); conv => whnf) | ((with_reducible refine HMust.mk (by decide) ?_); conv => whnf) | ((with_reducible refine HIf.yes (by first | rfl | assumption | decide) ?_); conv => whnf) | ((with_reducible refine HIf.no (by first | rfl | assumption | decide) ?_); conv => whnf) | ((with_reducible refine HInt.mk _ (wrap_i64 (by omega)) ?_); conv => whnf) | ((refine HMust.mk (by rfl) ?_); conv => whnf) | ((with_reducible refine blk_ld (by assumption) rfl ?_); conv => whnf) | ((with_reducible refine blk_ldN (by assumption) rfl ?_); conv => whnf) | ((with_reducible refine HInt.mk _ (wrap_u64 (by omega)) ?_); conv => whnf) | ((with_reducible refine HInt.mk _ (wrap_u8 (by omega)) ?_); conv => whnf) | ((with_reducible refine HInt.mk _ (wrap_u32 (by omega)) ?_); conv => whnf))))
                refine ⟨l'.drop (rdS l').2.1, ks ++ [key], at' + (rdS l').2.1, ⟨a10, c10, la, lc, ?_, off_of_off off10 f11 (by omega), by have := f11.1; omega, o410.offk f11 (by omega), ?_, ?_, hk10, ol10.off f11 (fun hS => by have := hS.1; omega)⟩, ?_, by omega, ?_, ?_, ?_, ?_⟩
                · exact r10.offk f11 (by omega)
                · rw [List.length_append]; exact o511
                · have := o10.off f11 (fun p ep => by have := hk10 p ep; omega)
                  rw [List.length_append, List.map_append]; exact this
                · rw [hl', List.drop_drop]
                · have : l'.length = l.length - at' := by rw [hl', List.length_drop]
                  omega
                · rw [List.length_append, List.length_singleton]; omega
                · intro k hk
                  rcases List.mem_append.1 hk with h | h
                  · exact hks k h
                  · rw [List.mem_singleton] at h; rw [h]; exact hksz
                · rw [← hR]
            · obtain rfl := he1 hs0
              rw [if_pos hs0] at hR
              ((conv => whnf); (repeat (first | ((with_reducible refine HSeq.go ?_); conv => whnf) | ((with_reducible refine HMust.mk (by decide) ?_); conv => whnf) | ((with_reducible refine HIf.yes (by first | rfl | assumption | decide) ?_); conv => whnf) | ((with_reducible refine HIf.no (by first | rfl | assumption | decide) ?_); conv => whnf) | ((with_reducible refine HInt.mk _ (wrap_i64 (by omega)) ?_); conv => whnf) | ((refine HMust.mk (by rfl) ?_); conv => whnf) | ((with_reducible refine blk_ld (by assumption) rfl ?_); conv => whnf) | ((with_reducible refine blk_ldN (by assumption) rfl ?_); conv => whnf) | ((with_reducible refine HInt.mk _ (wrap_u64 (by omega)) ?_); conv => whnf) | ((with_reducible refine HInt.mk _ (wrap_u8 (by omega)) ?_); conv => whnf) | ((with_reducible refine HInt.mk _ (wrap_u32 (by omega)) ?_); conv => whnf))))
              exact post_err off8 (by rw [← hR]) hs0
        · intro u h8
          rintro ⟨l2, ks2, at2, ⟨ka, kc, la, lc, r8, off8, hs8, o48, o58, ok8, hk8, ol8⟩, hl2, hat2, hat2', hk2, hks2, hT2⟩
          have hl2l : l2.length = l.length - at2 := by rw [hl2, List.length_drop]
          have hl'l : l'.length = l.length - at' := by rw [hl', List.length_drop]
          have hvok := rd_ok d l2
          unfold RdOk at hvok
          ((conv => whnf); (repeat (first | ((with_reducible refine HSeq.go ?_); conv => whnf) | ((with_reducible refine HMust.mk (by decide) ?_); conv => whnf) | ((with_reducible refine HIf.yes (by first | rfl | assumption | decide) ?_); conv => whnf) | ((with_reducible refine HIf.no (by first | rfl | assumption | decide) ?_); conv => whnf) | ((with_reducible refine HInt.mk _ (wrap_i64 (by omega)) ?_); conv => whnf) | ((refine HMust.mk (by rfl) ?_); conv => whnf) | ((with_reducible refine blk_ld (by assumption) rfl ?_); conv => whnf) | ((with_reducible refine blk_ldN (by assumption) rfl ?_); conv => whnf) | ((with_reducible refine HInt.mk _ (wrap_u64 (by omega)) ?_); conv => whnf) | ((with_reducible refine HInt.mk _ (wrap_u8 (by omega)) ?_); conv => whnf) | ((with_reducible refine HInt.mk _ (wrap_u32 (by omega)) ?_); conv => whnf))))
          refine HCall.mk ((ih h8 br l2 r8 (by omega)).mono ?_)
          rintro e h9 ⟨f9, he1, he2⟩
          have off9 := off8.trans f9
          by_cases hv0 : (rd d l2).2.2 = 0
          · obtain ⟨cs, rfl, rn, r9⟩ := he2 hv0
            rw [if_neg (by simpa using hv0)] at hT2
            generalize hv : rd d l2 = v at *
            have rp := rn.get
            have hcl := rp.len
            have o49 := o48.offk f9 (by omega)
            have o59 := o58.offk f9 (by omega)
            have ok9 := ok8.off f9 (fun p ep => by have := hk8 p ep; omega)
            have ol9 := ol8.off f9 (fun hS => by have := hS.1; omega)
            have hka8 := ok8.lt
            have hla8 := ol8.lt
            have hs9 := f9.1
            ((conv => whnf); (repeat (first | ((with_reducible refine HSeq.go ?_); conv => whnf) | ((with_reducible refine HMust.mk (by decide) ?_); conv => whnf) | ((with_reducible refine HIf.yes (by first | rfl | assumption | decide) ?_); conv => whnf) | ((with_reducible refine HIf.no (by first | rfl | assumption | decide) ?_); conv => whnf) | ((with_reducible refine HInt.mk _ (wrap_i64 (by omega)) ?_); conv => whnf) | ((refine HMust.mk (by rfl) ?_); conv => whnf) | ((with_reducible refine blk_ld (by assumption) rfl ?_); conv => whnf) | ((with_reducible refine blk_ldN (by assumption) rfl ?_); conv => whnf) | ((with_reducible refine HInt.mk _ (wrap_u64 (by omega)) ?_); conv => whnf) | ((with_reducible refine HInt.mk _ (wrap_u8 (by omega)) ?_); conv => whnf) | ((with_reducible refine HInt.mk _ (wrap_u32 (by omega)) ?_); conv => whnf))))
            refine new_var (e := 25) zeroD rfl ?_
            intro h10 b10 o10 x10 z10 hb10
            ((conv => whnf); (repeat (first | ((with_reducible refine HSeq.go ?_); conv => whnf) | ((with_reducible refine HMust.mk (by decide) ?_); conv => whnf) | ((with_reducible refine HIf.yes (by first | rfl | assumption | decide) ?_); conv => whnf) | ((with_reducible refine HIf.no (by first | rfl | assumption | decide) ?_); conv => whnf) | ((with_reducible refine HInt.mk _ (wrap_i64 (by omega)) ?_); conv => whnf) | ((refine HMust.mk (by rfl) ?_); conv => whnf) | ((with_reducible refine blk_ld (by assumption) rfl ?_); conv => whnf) | ((with_reducible refine blk_ldN (by assumption) rfl ?_); conv => whnf) | ((with_reducible refine HInt.mk _ (wrap_u64 (by omega)) ?_); conv => whnf) | ((with_reducible refine HInt.mk _ (wrap_u8 (by omega)) ?_); conv => whnf) | ((with_reducible refine HInt.mk _ (wrap_u32 (by omega)) ?_); conv => whnf))))
            refine HMust.mk (by simpa using hcl) ?_
            refine store_new o10 (by simp [hcl]) (by simpa using rp.one) ?_
            intro h11 f11 z11 o11
            have x911 : Ext h9 h11 := x10.offNew f11 (by omega)
            have o411 := o49.ext x911
            have o511 := o59.ext x911
            have ok11 := ok9.ext x911
            have ol11 := ol9.ext x911
            have r11 := r9.ext x911
            have rn11 := rn.ext x911
            have hs11 := x911.1
            ((conv => whnf); (repeat (first | ((with_reducible refine HSeq.go ?_); conv => whnf) | ((with_reducible refine HMust.mk (by decide) ?_); conv => whnf) | ((with_reducible refine HIf.yes (by first | rfl | assumption | decide) ?_); conv => whnf) | ((with_reducible refine HIf.no (by first | rfl | assumption | decide) ?_); conv => whnf) | ((with_reducible refine HInt.mk _ (wrap_i64 (by omega)) ?_); conv => whnf) | ((refine HMust.mk (by rfl) ?_); conv => whnf) | ((with_reducible refine blk_ld (by assumption) rfl ?_); conv => whnf) | ((with_reducible refine blk_ldN (by assumption) rfl ?_); conv => whnf) | ((with_reducible refine HInt.mk _ (wrap_u64 (by omega)) ?_); conv => whnf) | ((with_reducible refine HInt.mk _ (wrap_u8 (by omega)) ?_); conv => whnf) | ((with_reducible refine HInt.mk _ (wrap_u32 (by omega)) ?_); conv => whnf))))
            refine blk_ldN o11 (by simpa using hcl) ?_
            ((conv => whnf); (repeat (first | ((with_reducible refine HSeq.go ?_); conv => whnf) | ((with_reducible refine HMust.mk (by decide) ?_); conv => whnf) | ((with_reducible refine HIf.yes (by first | rfl | assumption | decide) ?_); conv => whnf) | ((with_reducible refine HIf.no (by first | rfl | assumption | decide) ?_); conv => whnf) | ((with_reducible refine HInt.mk _ (wrap_i64 (by omega)) ?_); conv => whnf) | ((refine HMust.mk (by rfl) ?_); conv => whnf) | ((with_reducible refine blk_ld (by assumption) rfl ?_); conv => whnf) | ((with_reducible refine blk_ldN (by assumption) rfl ?_); conv => whnf) | ((with_reducible refine HInt.mk _ (wrap_u64 (by omega)) ?_); conv => whnf) | ((with_reducible refine HInt.mk _ (wrap_u8 (by omega)) ?_); conv => whnf) | ((with_reducible refine HInt.mk _ (wrap_u32 (by omega)) ?_); conv => whnf))))
            refine splN_all rfl (by simpa using hcl) ?_
            ((conv => whnf); (repeat (first | ((with_reducible refine HSeq.go ?_); conv => whnf) | ((with_reducible refine HMust.mk (by decide) ?_); conv => whnf) | ((with_reducible refine HIf.yes (by first | rfl | assumption | decide) ?_); conv => whnf) | ((with_reducible refine HIf.no (by first | rfl | assumption | decide) ?_); conv => whnf) | ((with_reducible refine HInt.mk _ (wrap_i64 (by omega)) ?_); conv => whnf) | ((refine HMust.mk (by rfl) ?_); conv => whnf) | ((with_reducible refine blk_ld (by assumption) rfl ?_); conv => whnf) | ((with_reducible refine blk_ldN (by assumption) rfl ?_); conv => whnf) | ((with_reducible refine HInt.mk _ (wrap_u64 (by omega)) ?_); conv => whnf) | ((with_reducible refine HInt.mk _ (wrap_u8 (by omega)) ?_); conv => whnf) | ((with_reducible refine HInt.mk _ (wrap_u32 (by omega)) ?_); conv => whnf))))
            refine new_own (e := 25) 5 1 cs rfl (by simpa using hcl) ?_
            intro h12 b12 o12 x12 z12 hb12
            have o412 := o411.ext x12
            have o512 := o511.ext x12
            have ok12 := ok11.ext x12
            have ol12 := ol11.ext x12
            have r12 := r11.ext x12
            have rn12 := rn11.ext x12
            have hs12 := x12.1
            ((conv => whnf); (repeat (first | ((with_reducible refine HSeq.go ?_); conv => whnf) | ((with_reducible refine HMust.mk (by decide) ?_); conv => whnf) | ((with_reducible refine HIf.yes (by first | rfl | assumption | decide) ?_); conv => whnf) | ((with_reducible refine HIf.no (by first | rfl | assumption | decide) ?_); conv => whnf) | ((with_reducible refine HInt.mk _ (wrap_i64 (by omega)) ?_); conv => whnf) | ((refine HMust.mk (by rfl) ?_); conv => whnf) | ((with_reducible refine blk_ld (by assumption) rfl ?_); conv => whnf) | ((with_reducible refine blk_ldN (by assumption) rfl ?_); conv => whnf) | ((with_reducible refine HInt.mk _ (wrap_u64 (by omega)) ?_); conv => whnf) | ((with_reducible refine HInt.mk _ (wrap_u8 (by omega)) ?_); conv => whnf) | ((with_reducible refine HInt.mk _ (wrap_u32 (by omega)) ?_); conv => whnf))))
            refine o12.sl.cells ?_
            refine ol12.push (fun b hb => ⟨by omega, fun p ep => by have := hka8 p ep; omega⟩) rfl hcl (by simpa using rp.one) (by omega) (rn12.mono fun b hb => ⟨⟨by omega, fun p ep => by have := hka8 p ep; omega⟩, hb.2, fun p ep => by have := (hla8 p ep).2; omega⟩) ?_
            intro h13 a13 c13 ol13 g13
            have hs13 := g13.1
            have hla : ∀ p, la = some p → h.size + 2 ≤ p.block := fun p ep => (hla8 p ep).1.1
            have o513 : BlkW h13 b5 25 _ := o512.of (g13.2.1 _ (by omega) (fun p ep => by have := hla p ep; omega))
            have o413 : BlkW h13 b4 25 _ := o412.of (g13.2.1 _ (by omega) (fun p ep => by have := hla p ep; omega))
            have ok13 := ok12.agree (S := fun b => b < h12.size ∧ ∀ p, la = some p → p.block ≠ b) (fun b hb => g13.2.1 b hb.1 hb.2) (fun p ep => ⟨(ok12.lt p ep).2, fun q eq he => (hla8 q eq).1.2 p ep he.symm⟩)
            have r13 := r12.agree (h' := h13) (fun b hb => g13.2.1 b (by omega) (fun p ep => by have := hla p ep; omega)) hs13
            have off13 : Off br h h13 := ⟨by have := off9.1; omega, fun i hi hk => by
              rw [g13.2.1 i (by have := off9.1; omega) (fun p ep => by have := hla p ep; omega), x12.2 i (by have := off9.1; omega), x911.2 i (by have := off9.1; omega), off9.2 i hi hk]⟩
            ((conv => whnf); (repeat (first | ((with_reducible refine HSeq.go ?_); conv => whnf) | ((with_reducible refine HMust.mk (by decide) ?_); conv => whnf) | ((with_reducible refine HIf.yes (by first | rfl | assumption | decide) ?_); conv => whnf) | ((with_reducible refine HIf.no (by first | rfl | assumption | decide) ?_); conv => whnf) | ((with_reducible refine HInt.mk _ (wrap_i64 (by omega)) ?_); conv => whnf) | ((refine HMust.mk (by rfl) ?_); conv => whnf) | ((with_reducible refine blk_ld (by assumption) rfl ?_); conv => whnf) | ((with_reducible refine blk_ldN (by assumption) rfl ?_); conv => whnf) | ((with_reducible refine HInt.mk _ (wrap_u64 (by omega)) ?_); conv => whnf) | ((with_reducible refine HInt.mk _ (wrap_u8 (by omega)) ?_); conv => whnf) | ((with_reducible refine HInt.mk _ (wrap_u32 (by omega)) ?_); conv => whnf))))
            refine blk_st o513 (by simp) rfl ?_
            intro h14 f14 z14 o514
            ((conv => whnf); (repeat (first | ((with_reducible refine HSeq.go ?_); conv => whnf) | ((with_reducible refine HMust.mk (by decide) ?_); conv => whnf) | ((with_reducible refine HIf.yes (by first | rfl | assumption | decide) ?_); conv => whnf) | ((with_reducible refine HIf.no (by first | rfl | assumption | decide) ?_); conv => whnf) | ((with_reducible refine HInt.mk _ (wrap_i64 (by omega)) ?_); conv => whnf) | ((refine HMust.mk (by rfl) ?_); conv => whnf) | ((with_reducible refine blk_ld (by assumption) rfl ?_); conv => whnf) | ((with_reducible refine blk_ldN (by assumption) rfl ?_); conv => whnf) | ((with_reducible refine HInt.mk _ (wrap_u64 (by omega)) ?_); conv => whnf) | ((with_reducible refine HInt.mk _ (wrap_u8 (by omega)) ?_); conv => whnf) | ((with_reducible refine HInt.mk _ (wrap_u32 (by omega)) ?_); conv => whnf))))
            have hvl : 0 < v.2.1 ∧ v.2.1 ≤ l2.length := by omega
            refine ⟨⟨m, l2.drop v.2.1, ks2, xs ++ [v.1], at2 + v.2.1, by show [Value.int .u64 (((m + 1 : Nat) : Int) - 1)] = _; rw [show ((m + 1 : Nat) : Int) - 1 = m by omega], by omega, hT2.symm, by rw [hl2, List.drop_drop], by omega, by rw [List.length_append, List.length_drop, List.length_singleton]; omega, by rw [List.length_append, List.length_singleton]; omega, hks2,
              ka, kc, a13, c13, r13.offk f14 (by omega), off_of_off off13 f14 (by omega), by have := f14.1; omega, o413.offk f14 (by omega), ?_, ok13.off f14 (fun p ep => by have := hk8 p ep; omega), hk8, ?_⟩, ?_⟩
            · rw [List.length_append]; exact o514
            · have := ol13.off f14 (fun hS => by have := hS.1; omega)
              rw [List.length_append]; exact this
            · show (((m + 1 : Nat) : Int) - 1).toNat < ((m + 1 : Nat) : Int).toNat
              omega
          · obtain rfl := he1 hv0
            rw [if_pos hv0] at hT2
            ((conv => whnf); (repeat (first | ((with_reducible refine HSeq.go ?_); conv => whnf) | ((with_reducible refine HMust.mk (by decide) ?_); conv => whnf) | ((with_reducible refine HIf.yes (by first | rfl | assumption | decide) ?_); conv => whnf) | ((with_reducible refine HIf.no (by first | rfl | assumption | decide) ?_); conv => whnf) | ((with_reducible refine HInt.mk _ (wrap_i64 (by omega)) ?_); conv => whnf) | ((refine HMust.mk (by rfl) ?_); conv => whnf) | ((with_reducible refine blk_ld (by assumption) rfl ?_); conv => whnf) | ((with_reducible refine blk_ldN (by assumption) rfl ?_); conv => whnf) | ((with_reducible refine HInt.mk _ (wrap_u64 (by omega)) ?_); conv => whnf) | ((with_reducible refine HInt.mk _ (wrap_u8 (by omega)) ?_); conv => whnf) | ((with_reducible refine HInt.mk _ (wrap_u32 (by omega)) ?_); conv => whnf))))
            exact post_err off9 (by rw [hT2]) hv0
  · obtain rfl := he1 h0
    ((conv => whnf); (repeat (first | ((with_reducible refine HSeq.go ?_); conv => whnf) | ((with_reducible refine HMust.mk (by decide) ?_); conv => whnf) | ((with_reducible refine HIf.yes (by first | rfl | assumption | decide) ?_); conv => whnf) | ((with_reducible refine HIf.no (by first | rfl | assumption | decide) ?_); conv => whnf) | ((with_reducible refine HInt.mk _ (wrap_i64 (by omega)) ?_); conv => whnf) | ((refine HMust.mk (by rfl) ?_); conv => whnf) | ((with_reducible refine blk_ld (by assumption) rfl ?_); conv => whnf) | ((with_reducible refine blk_ldN (by assumption) rfl ?_); conv => whnf) | ((with_reducible refine HInt.mk _ (wrap_u64 (by omega)) ?_); conv => whnf) | ((with_reducible refine HInt.mk _ (wrap_u8 (by omega)) ?_); conv => whnf) | ((with_reducible refine HInt.mk _ (wrap_u32 (by omega)) ?_); conv => whnf))))
    rw [if_pos h0]
    exact ⟨off5, fun _ => rfl, fun h => absurd h h0⟩

end Go.Proofs.Ytkcnjcdggbifeaa.Hc
