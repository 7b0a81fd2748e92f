import Derived.Test.YtkcnjcdggbifeaaAM
set_option linter.unusedVariables false
set_option linter.unusedSimpArgs false
namespace Go.Proofs.Ytkcnjcdggbifeaa.Hc
open Go Go.H Go.Proofs
set_option maxRecDepth 100000
set_option maxHeartbeats 4000000

def RReadSpec (d dp : Nat) : Prop := ∀ (h : Heap) (a : Option Addr) (c : Nat) (l : List UInt8), Sl h 1 a l.length c (l.map byteV) → l.length ≤ 17179869184 →
  HCalls Try.prog 23 #[.slice a l.length c, .int .i64 dp] h (RPost h (rd d l))
def RMSt (h h' : Heap) (b3 b6 : Nat) (kind : Int) (ks : List ByteArray) (xs : List DT) : Prop :=
  ∃ ka kc la lc, Ext h h' ∧ h.size + 2 ≤ h'.size ∧ BlkW h' b6 25 zeroD ∧
    BlkW h' b3 25 [.int .i64 kind, .int .i64 0, .string ⟨#[]⟩, .slice ka ks.length kc, .slice la xs.length lc] ∧
    Own h' 0 9 1 ka ks.length kc (ks.map .string) ∧ (∀ p, ka = some p → h.size + 2 ≤ p.block) ∧
    OwnF Rep h' (fun b => h.size + 2 ≤ b ∧ ∀ p, ka = some p → p.block ≠ b) 25 5 la xs.length lc xs

theorem rmany_spec {d dp : Nat} (hd : d + (dp + 1) = 20) (ih : RReadSpec d (dp + 1)) (named : Bool) (kind : Int) (hkind : kind = if named = true then 6 else 5) (h : Heap) (a : Option Addr) (c : Nat) (l : List UInt8)
    (x : Sl h 1 a l.length c (l.map byteV)) (hl : l.length ≤ 17179869184) :
    HCalls Try.prog 37 #[.agg #[.int .i64 kind, .int .i64 0, .string ⟨#[]⟩, .slice none 0 0, .slice none 0 0], .slice a l.length c, .int .i64 dp] h (RPost h (rdL (rd d) named l)) := by
  refine c37 (by simp) ?_
  (conv => whnf)
  refine new_var (e := 25) [.int .i64 kind, .int .i64 0, .string ⟨#[]⟩, .slice none 0 0, .slice none 0 0] rfl ?_
  intro h1 b3 o3 x1 z1 hb3
  ((conv => whnf); (repeat (first | ((with_reducible refine HMust.mk (by decide) ?_); conv => whnf) | ((with_reducible refine HIf.yes (by first | rfl | assumption | decide) ?_); conv => whnf) | ((with_reducible refine HIf.no (by first | rfl | assumption | decide) ?_); conv => whnf) | ((with_reducible refine HInt.mk _ (wrap_i64 (by omega)) ?_); conv => whnf) | ((refine HMust.mk (by rfl) ?_); conv => whnf) | ((with_reducible refine blk_ld (by assumption) rfl ?_); conv => whnf) | ((with_reducible refine blk_ldN (by assumption) rfl ?_); conv => whnf) | ((with_reducible refine HInt.mk _ (wrap_u64 (by omega)) ?_); conv => whnf) | ((with_reducible refine HInt.mk _ (wrap_u8 (by omega)) ?_); conv => whnf) | ((with_reducible refine HInt.mk _ (wrap_u32 (by omega)) ?_); conv => whnf))))
  refine new_var (e := 25) zeroD rfl ?_
  intro h2 b6 o6 x2 z2 hb6
  have o32 := o3.ext x2
  have x02 := x1.trans x2
  have hrn := rdn_ok l
  ((conv => whnf); (repeat (first | ((with_reducible refine HSeq.go ?_); conv => whnf) | ((with_reducible refine HMust.mk (by decide) ?_); conv => whnf) | ((with_reducible refine HIf.yes (by first | rfl | assumption | decide) ?_); conv => whnf) | ((with_reducible refine HIf.no (by first | rfl | assumption | decide) ?_); conv => whnf) | ((with_reducible refine HInt.mk _ (wrap_i64 (by omega)) ?_); conv => whnf) | ((refine HMust.mk (by rfl) ?_); conv => whnf) | ((with_reducible refine blk_ld (by assumption) rfl ?_); conv => whnf) | ((with_reducible refine blk_ldN (by assumption) rfl ?_); conv => whnf) | ((with_reducible refine HInt.mk _ (wrap_u64 (by omega)) ?_); conv => whnf) | ((with_reducible refine HInt.mk _ (wrap_u8 (by omega)) ?_); conv => whnf) | ((with_reducible refine HInt.mk _ (wrap_u32 (by omega)) ?_); conv => whnf))))
  refine HCall.mk ((rreadNum_spec (x.ext x02) (by omega)).mono ?_)
  rintro e h2 ⟨rfl, rfl⟩
  unfold rdL
  rw [← hkind]
  have fin : ∀ (hh : Heap) (er : Nat), Ext h hh → BlkW hh b6 25 zeroD → RPost h (zeroT, 0, er) (.returned (.tuple #[.agg zeroD.toArray, .int .i64 0, .int .i64 er])) hh := fun hh er x _ => ⟨zeroD, rfl, zeroT_rep _ _, x⟩
  obtain ⟨m, k, er, hm⟩ : ∃ m k er, rdn l 0 0 = (m, k, er) := ⟨_, _, _, rfl⟩
  rw [hm] at hrn ⊢
  simp only [tup] at hrn ⊢
  by_cases h0 : er = 0
  · subst h0
    have hrn' : 0 < k ∧ k ≤ l.length ∧ m < 2 ^ 64 := by simpa using hrn
    rw [if_neg (by simp)]
    generalize hT : rdM (rd d) named m (l.drop k) [] [] k = T
    ((conv => whnf); (repeat (first | ((with_reducible refine HSeq.go ?_); conv => whnf) | ((with_reducible refine HMust.mk (by decide) ?_); conv => whnf) | ((with_reducible refine HIf.yes (by first | rfl | assumption | decide) ?_); conv => whnf) | ((with_reducible refine HIf.no (by first | rfl | assumption | decide) ?_); conv => whnf) | ((with_reducible refine HInt.mk _ (wrap_i64 (by omega)) ?_); conv => whnf) | ((refine HMust.mk (by rfl) ?_); conv => whnf) | ((with_reducible refine blk_ld (by assumption) rfl ?_); conv => whnf) | ((with_reducible refine blk_ldN (by assumption) rfl ?_); conv => whnf) | ((with_reducible refine HInt.mk _ (wrap_u64 (by omega)) ?_); conv => whnf) | ((with_reducible refine HInt.mk _ (wrap_u8 (by omega)) ?_); conv => whnf) | ((with_reducible refine HInt.mk _ (wrap_u32 (by omega)) ?_); conv => whnf))))
    have post_no : ∀ (hh : Heap) (er : Nat) (X : DT × Nat × Nat), T.2.2.2 = er → er ≠ 0 → Ext h hh → BlkW hh b6 25 zeroD → RPost h (if T.2.2.2 ≠ 0 then (zeroT, 0, T.2.2.2) else X) (.returned (.tuple #[.agg zeroD.toArray, .int .i64 0, .int .i64 er])) hh := by
      intro hh er X ht he xx oo
      rw [if_pos (by omega), ht]; exact fin hh er xx oo
    refine loop_rule [10, 12] (fun vs h' => ∃ (i at' : Nat) (ks : List ByteArray) (xs : List DT), vs = [.int .i64 at', .int .u64 i] ∧ i ≤ m ∧ rdM (rd d) named (m - i) (l.drop at') ks xs at' = T ∧
        at' ≤ l.length ∧ xs.length ≤ at' ∧ ks.length ≤ xs.length ∧ (∀ k ∈ ks, k.size ≤ 2147483647) ∧ RMSt h h' b3 b6 kind ks xs)
      (fun vs _ => match vs with | [_, .int _ i] => m - i.toNat | _ => 0) rfl ?_ ?_
    · exact ⟨0, k, [], [], rfl, by omega, by rw [Nat.sub_zero]; exact hT, hrn'.2.1, by simp, by simp, by simp, none, 0, none, 0, x02, by omega, o6, o32, Own.nil _ _ _ _, fun p ep => (by cases ep), OwnF.nil _ _ _ _ _⟩
    · intro u h7 v10 v12
      rintro ⟨i, at', ks, xs, e, him, hR, hat, hxl, hkx, hks, st⟩
      cases e
      ((conv => whnf); (repeat (first | ((with_reducible refine HMust.mk (by decide) ?_); conv => whnf) | ((with_reducible refine HIf.yes (by first | rfl | assumption | decide) ?_); conv => whnf) | ((with_reducible refine HIf.no (by first | rfl | assumption | decide) ?_); conv => whnf) | ((with_reducible refine HInt.mk _ (wrap_i64 (by omega)) ?_); conv => whnf) | ((refine HMust.mk (by rfl) ?_); conv => whnf) | ((with_reducible refine blk_ld (by assumption) rfl ?_); conv => whnf) | ((with_reducible refine blk_ldN (by assumption) rfl ?_); conv => whnf) | ((with_reducible refine HInt.mk _ (wrap_u64 (by omega)) ?_); conv => whnf) | ((with_reducible refine HInt.mk _ (wrap_u8 (by omega)) ?_); conv => whnf) | ((with_reducible refine HInt.mk _ (wrap_u32 (by omega)) ?_); conv => whnf))))
      refine cut_rule [] (fun vs h' => i < m ∧ h' = h7) rfl ?_ ?_
      · ((conv => whnf); (repeat (first | ((with_reducible refine HSeq.go ?_); conv => whnf) | ((with_reducible refine HMust.mk (by decide) ?_); conv => whnf) | ((with_reducible refine HIf.yes (by first | rfl | assumption | decide) ?_); conv => whnf) | ((with_reducible refine HIf.no (by first | rfl | assumption | decide) ?_); conv => whnf) | ((with_reducible refine HInt.mk _ (wrap_i64 (by omega)) ?_); conv => whnf) | ((refine HMust.mk (by rfl) ?_); conv => whnf) | ((with_reducible refine blk_ld (by assumption) rfl ?_); conv => whnf) | ((with_reducible refine blk_ldN (by assumption) rfl ?_); conv => whnf) | ((with_reducible refine HInt.mk _ (wrap_u64 (by omega)) ?_); conv => whnf) | ((with_reducible refine HInt.mk _ (wrap_u8 (by omega)) ?_); conv => whnf) | ((with_reducible refine HInt.mk _ (wrap_u32 (by omega)) ?_); conv => whnf))))
        refine HIf.mk (fun hb => ?_) (fun hb => ?_)
        · have hb' := of_decide_eq_true hb
          ((conv => whnf); (repeat (first | ((with_reducible refine HSeq.go ?_); conv => whnf) | ((with_reducible refine HMust.mk (by decide) ?_); conv => whnf) | ((with_reducible refine HIf.yes (by first | rfl | assumption | decide) ?_); conv => whnf) | ((with_reducible refine HIf.no (by first | rfl | assumption | decide) ?_); conv => whnf) | ((with_reducible refine HInt.mk _ (wrap_i64 (by omega)) ?_); conv => whnf) | ((refine HMust.mk (by rfl) ?_); conv => whnf) | ((with_reducible refine blk_ld (by assumption) rfl ?_); conv => whnf) | ((with_reducible refine blk_ldN (by assumption) rfl ?_); conv => whnf) | ((with_reducible refine HInt.mk _ (wrap_u64 (by omega)) ?_); conv => whnf) | ((with_reducible refine HInt.mk _ (wrap_u8 (by omega)) ?_); conv => whnf) | ((with_reducible refine HInt.mk _ (wrap_u32 (by omega)) ?_); conv => whnf))))
          exact ⟨by omega, rfl⟩
        · have hb' := of_decide_eq_false hb
          obtain rfl : i = m := by omega
          obtain ⟨ka, kc, la, lc, x7, hs7, o67, o37, ok7, hk7, ol7⟩ := st
          rw [Nat.sub_self] at hR
          simp only [rdM] at hR
          subst hR
          ((conv => whnf); (repeat (first | ((with_reducible refine HSeq.go ?_); conv => whnf) | ((with_reducible refine HMust.mk (by decide) ?_); conv => whnf) | ((with_reducible refine HIf.yes (by first | rfl | assumption | decide) ?_); conv => whnf) | ((with_reducible refine HIf.no (by first | rfl | assumption | decide) ?_); conv => whnf) | ((with_reducible refine HInt.mk _ (wrap_i64 (by omega)) ?_); conv => whnf) | ((refine HMust.mk (by rfl) ?_); conv => whnf) | ((with_reducible refine blk_ld (by assumption) rfl ?_); conv => whnf) | ((with_reducible refine blk_ldN (by assumption) rfl ?_); conv => whnf) | ((with_reducible refine HInt.mk _ (wrap_u64 (by omega)) ?_); conv => whnf) | ((with_reducible refine HInt.mk _ (wrap_u8 (by omega)) ?_); conv => whnf) | ((with_reducible refine HInt.mk _ (wrap_u32 (by omega)) ?_); conv => whnf))))
          refine store_new o67 rfl (by simp [isOne]) ?_
          intro h9 f9 z9 o9
          ((conv => whnf); (repeat (first | ((with_reducible refine HSeq.go ?_); conv => whnf) | ((with_reducible refine HMust.mk (by decide) ?_); conv => whnf) | ((with_reducible refine HIf.yes (by first | rfl | assumption | decide) ?_); conv => whnf) | ((with_reducible refine HIf.no (by first | rfl | assumption | decide) ?_); conv => whnf) | ((with_reducible refine HInt.mk _ (wrap_i64 (by omega)) ?_); conv => whnf) | ((refine HMust.mk (by rfl) ?_); conv => whnf) | ((with_reducible refine blk_ld (by assumption) rfl ?_); conv => whnf) | ((with_reducible refine blk_ldN (by assumption) rfl ?_); conv => whnf) | ((with_reducible refine HInt.mk _ (wrap_u64 (by omega)) ?_); conv => whnf) | ((with_reducible refine HInt.mk _ (wrap_u8 (by omega)) ?_); conv => whnf) | ((with_reducible refine HInt.mk _ (wrap_u32 (by omega)) ?_); conv => whnf))))
          rw [if_neg (by simp)]
          refine ⟨_, rfl, ?_, x7.offNew f9 (by omega)⟩
          have ok9 := ok7.off f9 (fun p ep => by have := hk7 p ep; omega)
          have ol9 := ol7.off f9 (fun hS => by have := hS.1; omega)
          have sf := ok9.sl.fr (S := fun b => h.size ≤ b ∧ b < h9.size) (fun p ep => by have := hk7 p ep; have := ok9.lt p ep; omega)
          refine (sf.and ol9.fr (U := fun b => h.size ≤ b ∧ b < h9.size) (fun _ hb => hb) (fun b hb => ⟨by have := hb.1.1; omega, hb.2⟩)).map ?_
          rintro hh ⟨q1, xs', q2, q3⟩
          exact Rep.mk' (by subst hkind; unfold i64; split <;> omega) (by unfold i64; omega) (by decide) (show ks.length ≤ _ by omega) (show xs.length ≤ _ by omega) (fun x hx => by have := hks x hx; omega) q1 q2 (Reps_iff.2 q3)
      · intro u h7
        rintro ⟨hpos, rfl⟩
        obtain ⟨n, hn⟩ : ∃ n, m - i = n + 1 := ⟨m - i - 1, by omega⟩
        have hn' : m - (i + 1) = n := by omega
        rw [hn] at hR
        ((conv => whnf); (repeat (first | ((with_reducible refine HMust.mk (by decide) ?_); conv => whnf) | ((with_reducible refine HIf.yes (by first | rfl | assumption | decide) ?_); conv => whnf) | ((with_reducible refine HIf.no (by first | rfl | assumption | decide) ?_); conv => whnf) | ((with_reducible refine HInt.mk _ (wrap_i64 (by omega)) ?_); conv => whnf) | ((refine HMust.mk (by rfl) ?_); conv => whnf) | ((with_reducible refine blk_ld (by assumption) rfl ?_); conv => whnf) | ((with_reducible refine blk_ldN (by assumption) rfl ?_); conv => whnf) | ((with_reducible refine HInt.mk _ (wrap_u64 (by omega)) ?_); conv => whnf) | ((with_reducible refine HInt.mk _ (wrap_u8 (by omega)) ?_); conv => whnf) | ((with_reducible refine HInt.mk _ (wrap_u32 (by omega)) ?_); conv => whnf))))
        (refine HSeq.go ?_; conv => whnf)
        ((conv => whnf); (repeat (first | ((with_reducible refine HMust.mk (by decide) ?_); conv => whnf) | ((with_reducible refine HIf.yes (by first | rfl | assumption | decide) ?_); conv => whnf) | ((with_reducible refine HIf.no (by first | rfl | assumption | decide) ?_); conv => whnf) | ((with_reducible refine HInt.mk _ (wrap_i64 (by omega)) ?_); conv => whnf) | ((refine HMust.mk (by rfl) ?_); conv => whnf) | ((with_reducible refine blk_ld (by assumption) rfl ?_); conv => whnf) | ((with_reducible refine blk_ldN (by assumption) rfl ?_); conv => whnf) | ((with_reducible refine HInt.mk _ (wrap_u64 (by omega)) ?_); conv => whnf) | ((with_reducible refine HInt.mk _ (wrap_u8 (by omega)) ?_); conv => whnf) | ((with_reducible refine HInt.mk _ (wrap_u32 (by omega)) ?_); conv => whnf))))
        refine cut_rule [10] (fun vs h' => ∃ (ks2 : List ByteArray) (at2 : Nat), vs = [.int .i64 at2] ∧ RMSt h h' b3 b6 kind ks2 xs ∧ at' ≤ at2 ∧ at2 ≤ l.length ∧ ks2.length ≤ xs.length + 1 ∧ (∀ k ∈ ks2, k.size ≤ 2147483647) ∧
          T = (if (rd d (l.drop at2)).2.2 ≠ 0 then ([], [], 0, (rd d (l.drop at2)).2.2) else rdM (rd d) named n ((l.drop at2).drop (rd d (l.drop at2)).2.1) ks2 (xs ++ [(rd d (l.drop at2)).1]) (at2 + (rd d (l.drop at2)).2.1))) rfl ?_ ?_
        · obtain ⟨ka, kc, la, lc, x7, hs7, o67, o37, ok7, hk7, ol7⟩ := st
          cases named
          · have hkk : kind = 5 := by rw [hkind]; rfl
            subst hkk
            ((conv => whnf); (repeat (first | ((with_reducible refine HSeq.go ?_); conv => whnf) | ((with_reducible refine HMust.mk (by decide) ?_); conv => whnf) | ((with_reducible refine HIf.yes (by first | rfl | assumption | decide) ?_); conv => whnf) | ((with_reducible refine HIf.no (by first | rfl | assumption | decide) ?_); conv => whnf) | ((with_reducible refine HInt.mk _ (wrap_i64 (by omega)) ?_); conv => whnf) | ((refine HMust.mk (by rfl) ?_); conv => whnf) | ((with_reducible refine blk_ld (by assumption) rfl ?_); conv => whnf) | ((with_reducible refine blk_ldN (by assumption) rfl ?_); conv => whnf) | ((with_reducible refine HInt.mk _ (wrap_u64 (by omega)) ?_); conv => whnf) | ((with_reducible refine HInt.mk _ (wrap_u8 (by omega)) ?_); conv => whnf) | ((with_reducible refine HInt.mk _ (wrap_u32 (by omega)) ?_); conv => whnf))))
            refine ⟨ks, at', rfl, ⟨ka, kc, la, lc, x7, hs7, o67, o37, ok7, hk7, ol7⟩, Nat.le_refl _, hat, by omega, hks, ?_⟩
            rw [← hR]; simp only [rdM]
          · have hkk : kind = 6 := by rw [hkind]; rfl
            subst hkk
            have hsok := rdS_ok (l.drop at')
            rw [List.length_drop] at hsok
            simp only [rdM] at hR
            have sd := drop_sl (x.ext x7) hat
            ((conv => whnf); (repeat (first | ((with_reducible refine HSeq.go ?_); conv => whnf) | ((with_reducible refine HMust.mk (by decide) ?_); conv => whnf) | ((with_reducible refine HIf.yes (by first | rfl | assumption | decide) ?_); conv => whnf) | ((with_reducible refine HIf.no (by first | rfl | assumption | decide) ?_); conv => whnf) | ((with_reducible refine HInt.mk _ (wrap_i64 (by omega)) ?_); conv => whnf) | ((refine HMust.mk (by rfl) ?_); conv => whnf) | ((with_reducible refine blk_ld (by assumption) rfl ?_); conv => whnf) | ((with_reducible refine blk_ldN (by assumption) rfl ?_); conv => whnf) | ((with_reducible refine HInt.mk _ (wrap_u64 (by omega)) ?_); conv => whnf) | ((with_reducible refine HInt.mk _ (wrap_u8 (by omega)) ?_); conv => whnf) | ((with_reducible refine HInt.mk _ (wrap_u32 (by omega)) ?_); conv => whnf))))
            refine HBound.mk at' rfl (by omega) ?_
            ((conv => whnf); (repeat (first | ((with_reducible refine HSeq.go ?_); conv => whnf) | ((with_reducible refine HMust.mk (by decide) ?_); conv => whnf) | ((with_reducible refine HIf.yes (by first | rfl | assumption | decide) ?_); conv => whnf) | ((with_reducible refine HIf.no (by first | rfl | assumption | decide) ?_); conv => whnf) | ((with_reducible refine HInt.mk _ (wrap_i64 (by omega)) ?_); conv => whnf) | ((refine HMust.mk (by rfl) ?_); conv => whnf) | ((with_reducible refine blk_ld (by assumption) rfl ?_); conv => whnf) | ((with_reducible refine blk_ldN (by assumption) rfl ?_); conv => whnf) | ((with_reducible refine HInt.mk _ (wrap_u64 (by omega)) ?_); conv => whnf) | ((with_reducible refine HInt.mk _ (wrap_u8 (by omega)) ?_); conv => whnf) | ((with_reducible refine HInt.mk _ (wrap_u32 (by omega)) ?_); conv => whnf))))
            refine HCall.to #[.slice (a.map fun p => movedTo p c at' 1) (l.drop at').length (c - at')] (by rw [List.length_drop]; rfl) ((rtextD_spec sd (by rw [List.length_drop]; omega)).mono ?_)
            rintro e h7 ⟨rfl, rfl⟩
            obtain ⟨s1, k1, e1, hs1⟩ : ∃ s1 k1 e1, rdS (l.drop at') = (s1, k1, e1) := ⟨_, _, _, rfl⟩
            rw [hs1] at hsok hR ⊢
            simp only [tupS] at hsok hR ⊢
            by_cases hs0 : e1 = 0
            · subst hs0
              rw [if_neg (by simp)] at hR
              have hsok' : s1.length < k1 ∧ k1 ≤ l.length - at' ∧ s1.length ≤ 2147483647 := by omega
              generalize hkey : (⟨s1.toArray⟩ : ByteArray) = key at hR ⊢
              have hksz : key.size ≤ 2147483647 := by subst hkey; exact hsok'.2.2
              ((conv => whnf); (repeat (first | ((with_reducible refine HSeq.go ?_); conv => whnf) | ((with_reducible refine HMust.mk (by decide) ?_); conv => whnf) | ((with_reducible refine HIf.yes (by first | rfl | assumption | decide) ?_); conv => whnf) | ((with_reducible refine HIf.no (by first | rfl | assumption | decide) ?_); conv => whnf) | ((with_reducible refine HInt.mk _ (wrap_i64 (by omega)) ?_); conv => whnf) | ((refine HMust.mk (by rfl) ?_); conv => whnf) | ((with_reducible refine blk_ld (by assumption) rfl ?_); conv => whnf) | ((with_reducible refine blk_ldN (by assumption) rfl ?_); conv => whnf) | ((with_reducible refine HInt.mk _ (wrap_u64 (by omega)) ?_); conv => whnf) | ((with_reducible refine HInt.mk _ (wrap_u8 (by omega)) ?_); conv => whnf) | ((with_reducible refine HInt.mk _ (wrap_u32 (by omega)) ?_); conv => whnf))))
              refine HCall.mk ((has_spec ok7.sl key (by omega)).mono ?_)
              rintro e h8 ⟨rfl, rfl⟩
              by_cases hin : strIn ks key = true
              · rw [if_pos hin] at hR
                rw [hin]
                ((conv => whnf); (repeat (first | ((with_reducible refine HSeq.go ?_); conv => whnf) | ((with_reducible refine HMust.mk (by decide) ?_); conv => whnf) | ((with_reducible refine HIf.yes (by first | rfl | assumption | decide) ?_); conv => whnf) | ((with_reducible refine HIf.no (by first | rfl | assumption | decide) ?_); conv => whnf) | ((with_reducible refine HInt.mk _ (wrap_i64 (by omega)) ?_); conv => whnf) | ((refine HMust.mk (by rfl) ?_); conv => whnf) | ((with_reducible refine blk_ld (by assumption) rfl ?_); conv => whnf) | ((with_reducible refine blk_ldN (by assumption) rfl ?_); conv => whnf) | ((with_reducible refine HInt.mk _ (wrap_u64 (by omega)) ?_); conv => whnf) | ((with_reducible refine HInt.mk _ (wrap_u8 (by omega)) ?_); conv => whnf) | ((with_reducible refine HInt.mk _ (wrap_u32 (by omega)) ?_); conv => whnf))))
                refine store_new o67 rfl (by simp [isOne]) ?_
                intro h9 f9 z9 o9
                ((conv => whnf); (repeat (first | ((with_reducible refine HSeq.go ?_); conv => whnf) | ((with_reducible refine HMust.mk (by decide) ?_); conv => whnf) | ((with_reducible refine HIf.yes (by first | rfl | assumption | decide) ?_); conv => whnf) | ((with_reducible refine HIf.no (by first | rfl | assumption | decide) ?_); conv => whnf) | ((with_reducible refine HInt.mk _ (wrap_i64 (by omega)) ?_); conv => whnf) | ((refine HMust.mk (by rfl) ?_); conv => whnf) | ((with_reducible refine blk_ld (by assumption) rfl ?_); conv => whnf) | ((with_reducible refine blk_ldN (by assumption) rfl ?_); conv => whnf) | ((with_reducible refine HInt.mk _ (wrap_u64 (by omega)) ?_); conv => whnf) | ((with_reducible refine HInt.mk _ (wrap_u8 (by omega)) ?_); conv => whnf) | ((with_reducible refine HInt.mk _ (wrap_u32 (by omega)) ?_); conv => whnf))))
                exact post_no h9 22 _ (by rw [← hR]) (by decide) (x7.offNew f9 (by omega)) o9
              · rw [if_neg hin] at hR
                have hin' : strIn ks key = false := by simpa using hin
                rw [hin']
                ((conv => whnf); (repeat (first | ((with_reducible refine HSeq.go ?_); conv => whnf) | ((with_reducible refine HMust.mk (by decide) ?_); conv => whnf) | ((with_reducible refine HIf.yes (by first | rfl | assumption | decide) ?_); conv => whnf) | ((with_reducible refine HIf.no (by first | rfl | assumption | decide) ?_); conv => whnf) | ((with_reducible refine HInt.mk _ (wrap_i64 (by omega)) ?_); conv => whnf) | ((refine HMust.mk (by rfl) ?_); conv => whnf) | ((with_reducible refine blk_ld (by assumption) rfl ?_); conv => whnf) | ((with_reducible refine blk_ldN (by assumption) rfl ?_); conv => whnf) | ((with_reducible refine HInt.mk _ (wrap_u64 (by omega)) ?_); conv => whnf) | ((with_reducible refine HInt.mk _ (wrap_u8 (by omega)) ?_); conv => whnf) | ((with_reducible refine HInt.mk _ (wrap_u32 (by omega)) ?_); conv => whnf))))
                refine new_own (e := 9) 1 1 [.string key] rfl rfl ?_
                intro h9 b9 o9 x9 z9 e9
                have o69 := o67.ext x9
                have o39 := o37.ext x9
                have ok9 := ok7.ext x9
                have ol9 := ol7.ext x9
                ((conv => whnf); (repeat (first | ((with_reducible refine HSeq.go ?_); conv => whnf) | ((with_reducible refine HMust.mk (by decide) ?_); conv => whnf) | ((with_reducible refine HIf.yes (by first | rfl | assumption | decide) ?_); conv => whnf) | ((with_reducible refine HIf.no (by first | rfl | assumption | decide) ?_); conv => whnf) | ((with_reducible refine HInt.mk _ (wrap_i64 (by omega)) ?_); conv => whnf) | ((refine HMust.mk (by rfl) ?_); conv => whnf) | ((with_reducible refine blk_ld (by assumption) rfl ?_); conv => whnf) | ((with_reducible refine blk_ldN (by assumption) rfl ?_); conv => whnf) | ((with_reducible refine HInt.mk _ (wrap_u64 (by omega)) ?_); conv => whnf) | ((with_reducible refine HInt.mk _ (wrap_u8 (by omega)) ?_); conv => whnf) | ((with_reducible refine HInt.mk _ (wrap_u32 (by omega)) ?_); conv => whnf))))
                refine o9.sl.cells ?_
                refine Own.grow (m := 1) ok9 (Nat.zero_le _) rfl rfl (by simp [isOne]) (by omega) ?_
                intro h10 a10 c10 o10 g10
                have hk9 := ok9.lt
                have o310 := g10.blk o39 (fun p ep => by have := hk7 p ep; omega)
                have o610 := g10.blk o69 (fun p ep => by have := hk7 p ep; omega)
                have hs10 := g10.1
                have hs8 := x9.1
                have olb := (ol9.mono (T := fun b => h.size + 2 ≤ b ∧ (∀ p, ka = some p → p.block ≠ b) ∧ (∀ p, a10 = some p → p.block ≠ b)) (fun b hb hlt => ⟨hb.1, hb.2, fun p ep => by
                  rcases g10.2.2 p ep with ⟨q, eq, hq⟩ | hq
                  · rw [hq]; exact hb.2 q eq
                  · omega⟩)).agree hs10 (fun b hb => g10.2.1 b hb.2 hb.1.2.1)
                have ol10 := olb.mono (T := fun b => h.size + 2 ≤ b ∧ ∀ p, a10 = some p → p.block ≠ b) (fun b hb _ => ⟨hb.1, hb.2.2⟩)
                have hk10 : ∀ p, a10 = some p → h.size + 2 ≤ p.block := fun p ep => by
                  rcases g10.2.2 p ep with ⟨q, eq, hq⟩ | hq
                  · rw [hq]; exact hk7 q eq
                  · omega
                have x10 : Ext h h10 := (x7.trans x9).keep (g10.kept (by omega) fun p ep => by have := hk7 p ep; omega)
                ((conv => whnf); (repeat (first | ((with_reducible refine HSeq.go ?_); conv => whnf) | ((with_reducible refine HMust.mk (by decide) ?_); conv => whnf) | ((with_reducible refine HIf.yes (by first | rfl | assumption | decide) ?_); conv => whnf) | ((with_reducible refine HIf.no (by first | rfl | assumption | decide) ?_); conv => whnf) | ((with_reducible refine HInt.mk _ (wrap_i64 (by omega)) ?_); conv => whnf) | ((refine HMust.mk (by rfl) ?_); conv => whnf) | ((with_reducible refine blk_ld (by assumption) rfl ?_); conv => whnf) | ((with_reducible refine blk_ldN (by assumption) rfl ?_); conv => whnf) | ((with_reducible refine HInt.mk _ (wrap_u64 (by omega)) ?_); conv => whnf) | ((with_reducible refine HInt.mk _ (wrap_u8 (by omega)) ?_); conv => whnf) | ((with_reducible refine HInt.mk _ (wrap_u32 (by omega)) ?_); conv => whnf))))
                refine blk_st o310 (by simp) rfl ?_
                intro h11 f11 z11 o311
                ((conv => whnf); (repeat (first | ((with_reducible refine HSeq.go ?_); conv => whnf) | ((with_reducible refine HMust.mk (by decide) ?_); conv => whnf) | ((with_reducible refine HIf.yes (by first | rfl | assumption | decide) ?_); conv => whnf) | ((with_reducible refine HIf.no (by first | rfl | assumption | decide) ?_); conv => whnf) | ((with_reducible refine HInt.mk _ (wrap_i64 (by omega)) ?_); conv => whnf) | ((refine HMust.mk (by rfl) ?_); conv => whnf) | ((with_reducible refine blk_ld (by assumption) rfl ?_); conv => whnf) | ((with_reducible refine blk_ldN (by assumption) rfl ?_); conv => whnf) | ((with_reducible refine HInt.mk _ (wrap_u64 (by omega)) ?_); conv => whnf) | ((with_reducible refine HInt.mk _ (wrap_u8 (by omega)) ?_); conv => whnf) | ((with_reducible refine HInt.mk _ (wrap_u32 (by omega)) ?_); conv => whnf))))
                refine ⟨ks ++ [key], at' + k1, rfl, ⟨a10, c10, la, lc, x10.offNew f11 (by omega), by have := f11.1; omega, o610.offk f11 (by omega), ?_, ?_, hk10, ol10.off f11 (fun hS => by have := hS.1; omega)⟩, by omega, by omega, ?_, ?_, ?_⟩
                · rw [List.length_append]; exact o311
                · have := o10.off f11 (fun p ep => by have := hk10 p ep; omega)
                  rw [List.length_append, List.map_append]; exact this
                · rw [List.length_append, List.length_singleton]; omega
                · intro k hk
                  rcases List.mem_append.1 hk with h | h
                  · exact hks k h
                  · rw [List.mem_singleton] at h; rw [h]; exact hksz
                · rw [← hR, List.drop_drop]
            · rw [if_pos hs0] at hR
              have q0 : ((e1 : Int) != 0) = true := by simp; omega
              ((conv => whnf); (repeat (first | ((with_reducible refine HSeq.go ?_); conv => whnf) | ((with_reducible refine HMust.mk (by decide) ?_); conv => whnf) | ((with_reducible refine HIf.yes (by first | rfl | assumption | decide) ?_); conv => whnf) | ((with_reducible refine HIf.no (by first | rfl | assumption | decide) ?_); conv => whnf) | ((with_reducible refine HInt.mk _ (wrap_i64 (by omega)) ?_); conv => whnf) | ((refine HMust.mk (by rfl) ?_); conv => whnf) | ((with_reducible refine blk_ld (by assumption) rfl ?_); conv => whnf) | ((with_reducible refine blk_ldN (by assumption) rfl ?_); conv => whnf) | ((with_reducible refine HInt.mk _ (wrap_u64 (by omega)) ?_); conv => whnf) | ((with_reducible refine HInt.mk _ (wrap_u8 (by omega)) ?_); conv => whnf) | ((with_reducible refine HInt.mk _ (wrap_u32 (by omega)) ?_); conv => whnf))))
              refine store_new o67 rfl (by simp [isOne]) ?_
              intro h9 f9 z9 o9
              ((conv => whnf); (repeat (first | ((with_reducible refine HSeq.go ?_); conv => whnf) | ((with_reducible refine HMust.mk (by decide) ?_); conv => whnf) | ((with_reducible refine HIf.yes (by first | rfl | assumption | decide) ?_); conv => whnf) | ((with_reducible refine HIf.no (by first | rfl | assumption | decide) ?_); conv => whnf) | ((with_reducible refine HInt.mk _ (wrap_i64 (by omega)) ?_); conv => whnf) | ((refine HMust.mk (by rfl) ?_); conv => whnf) | ((with_reducible refine blk_ld (by assumption) rfl ?_); conv => whnf) | ((with_reducible refine blk_ldN (by assumption) rfl ?_); conv => whnf) | ((with_reducible refine HInt.mk _ (wrap_u64 (by omega)) ?_); conv => whnf) | ((with_reducible refine HInt.mk _ (wrap_u8 (by omega)) ?_); conv => whnf) | ((with_reducible refine HInt.mk _ (wrap_u32 (by omega)) ?_); conv => whnf))))
              exact post_no h9 e1 _ (by rw [← hR]) hs0 (x7.offNew f9 (by omega)) o9
        · intro u h8 v10
          rintro ⟨ks2, at2, e, ⟨ka, kc, la, lc, x8, hs8, o68, o38, ok8, hk8, ol8⟩, hat2, hat2', hk2, hks2, hT2⟩
          cases e
          have hvok := rd_ok d (l.drop at2)
          unfold RdOk at hvok
          rw [List.length_drop] at hvok
          have sd := drop_sl (x.ext x8) hat2'
          ((conv => whnf); (repeat (first | ((with_reducible refine HSeq.go ?_); conv => whnf) | ((with_reducible refine HMust.mk (by decide) ?_); conv => whnf) | ((with_reducible refine HIf.yes (by first | rfl | assumption | decide) ?_); conv => whnf) | ((with_reducible refine HIf.no (by first | rfl | assumption | decide) ?_); conv => whnf) | ((with_reducible refine HInt.mk _ (wrap_i64 (by omega)) ?_); conv => whnf) | ((refine HMust.mk (by rfl) ?_); conv => whnf) | ((with_reducible refine blk_ld (by assumption) rfl ?_); conv => whnf) | ((with_reducible refine blk_ldN (by assumption) rfl ?_); conv => whnf) | ((with_reducible refine HInt.mk _ (wrap_u64 (by omega)) ?_); conv => whnf) | ((with_reducible refine HInt.mk _ (wrap_u8 (by omega)) ?_); conv => whnf) | ((with_reducible refine HInt.mk _ (wrap_u32 (by omega)) ?_); conv => whnf))))
          refine HBound.mk at2 rfl (by omega) ?_
          ((conv => whnf); (repeat (first | ((with_reducible refine HSeq.go ?_); conv => whnf) | ((with_reducible refine HMust.mk (by decide) ?_); conv => whnf) | ((with_reducible refine HIf.yes (by first | rfl | assumption | decide) ?_); conv => whnf) | ((with_reducible refine HIf.no (by first | rfl | assumption | decide) ?_); conv => whnf) | ((with_reducible refine HInt.mk _ (wrap_i64 (by omega)) ?_); conv => whnf) | ((refine HMust.mk (by rfl) ?_); conv => whnf) | ((with_reducible refine blk_ld (by assumption) rfl ?_); conv => whnf) | ((with_reducible refine blk_ldN (by assumption) rfl ?_); conv => whnf) | ((with_reducible refine HInt.mk _ (wrap_u64 (by omega)) ?_); conv => whnf) | ((with_reducible refine HInt.mk _ (wrap_u8 (by omega)) ?_); conv => whnf) | ((with_reducible refine HInt.mk _ (wrap_u32 (by omega)) ?_); conv => whnf))))
          refine HCall.to #[.slice (a.map fun p => movedTo p c at2 1) (l.drop at2).length (c - at2), .int .i64 ((dp + 1 : Nat) : Int)] (by rw [List.length_drop]; rfl) ((ih h8 _ _ (l.drop at2) sd (by rw [List.length_drop]; omega)).mono ?_)
          rintro e h9 ⟨cs, rfl, rn, x9⟩
          have x09 := x8.trans x9
          have rp := rn.get
          have hcl := rp.len
          have o69 := o68.ext x9
          have o39 := o38.ext x9
          have ok9 := ok8.ext x9
          have ol9 := ol8.ext x9
          have hka8 := ok8.lt
          have hla8 := ol8.lt
          have hs9 := x9.1
          ((conv => whnf); (repeat (first | ((with_reducible refine HSeq.go ?_); conv => whnf) | ((with_reducible refine HMust.mk (by decide) ?_); conv => whnf) | ((with_reducible refine HIf.yes (by first | rfl | assumption | decide) ?_); conv => whnf) | ((with_reducible refine HIf.no (by first | rfl | assumption | decide) ?_); conv => whnf) | ((with_reducible refine HInt.mk _ (wrap_i64 (by omega)) ?_); conv => whnf) | ((refine HMust.mk (by rfl) ?_); conv => whnf) | ((with_reducible refine blk_ld (by assumption) rfl ?_); conv => whnf) | ((with_reducible refine blk_ldN (by assumption) rfl ?_); conv => whnf) | ((with_reducible refine HInt.mk _ (wrap_u64 (by omega)) ?_); conv => whnf) | ((with_reducible refine HInt.mk _ (wrap_u8 (by omega)) ?_); conv => whnf) | ((with_reducible refine HInt.mk _ (wrap_u32 (by omega)) ?_); conv => whnf))))
          refine new_var (e := 25) zeroD rfl ?_
          intro h10 b10 o10 x10 z10 hb10
          ((conv => whnf); (repeat (first | ((with_reducible refine HSeq.go ?_); conv => whnf) | ((with_reducible refine HMust.mk (by decide) ?_); conv => whnf) | ((with_reducible refine HIf.yes (by first | rfl | assumption | decide) ?_); conv => whnf) | ((with_reducible refine HIf.no (by first | rfl | assumption | decide) ?_); conv => whnf) | ((with_reducible refine HInt.mk _ (wrap_i64 (by omega)) ?_); conv => whnf) | ((refine HMust.mk (by rfl) ?_); conv => whnf) | ((with_reducible refine blk_ld (by assumption) rfl ?_); conv => whnf) | ((with_reducible refine blk_ldN (by assumption) rfl ?_); conv => whnf) | ((with_reducible refine HInt.mk _ (wrap_u64 (by omega)) ?_); conv => whnf) | ((with_reducible refine HInt.mk _ (wrap_u8 (by omega)) ?_); conv => whnf) | ((with_reducible refine HInt.mk _ (wrap_u32 (by omega)) ?_); conv => whnf))))
          refine HMust.mk (by simpa using hcl) ?_
          refine store_new o10 (by simp [hcl]) (by simpa using rp.one) ?_
          intro h11 f11 z11 o11
          have x911 : Ext h9 h11 := x10.offNew f11 (by omega)
          have o611 := o69.ext x911
          have o311 := o39.ext x911
          have ok11 := ok9.ext x911
          have ol11 := ol9.ext x911
          have rn11 := rn.ext x911
          have hs11 := x911.1
          ((conv => whnf); (repeat (first | ((with_reducible refine HMust.mk (by decide) ?_); conv => whnf) | ((with_reducible refine HIf.yes (by first | rfl | assumption | decide) ?_); conv => whnf) | ((with_reducible refine HIf.no (by first | rfl | assumption | decide) ?_); conv => whnf) | ((with_reducible refine HInt.mk _ (wrap_i64 (by omega)) ?_); conv => whnf) | ((refine HMust.mk (by rfl) ?_); conv => whnf) | ((with_reducible refine blk_ld (by assumption) rfl ?_); conv => whnf) | ((with_reducible refine blk_ldN (by assumption) rfl ?_); conv => whnf) | ((with_reducible refine HInt.mk _ (wrap_u64 (by omega)) ?_); conv => whnf) | ((with_reducible refine HInt.mk _ (wrap_u8 (by omega)) ?_); conv => whnf) | ((with_reducible refine HInt.mk _ (wrap_u32 (by omega)) ?_); conv => whnf))))
          by_cases hv0 : (rd d (l.drop at2)).2.2 = 0
          · have q0 : (((rd d (l.drop at2)).2.2 : Int) != 0) = false := by rw [hv0]; rfl
            rw [if_neg (by simpa using hv0)] at hT2
            generalize hv : rd d (l.drop at2) = v at *
            ((conv => whnf); (repeat (first | ((with_reducible refine HSeq.go ?_); conv => whnf) | ((with_reducible refine HMust.mk (by decide) ?_); conv => whnf) | ((with_reducible refine HIf.yes (by first | rfl | assumption | decide) ?_); conv => whnf) | ((with_reducible refine HIf.no (by first | rfl | assumption | decide) ?_); conv => whnf) | ((with_reducible refine HInt.mk _ (wrap_i64 (by omega)) ?_); conv => whnf) | ((refine HMust.mk (by rfl) ?_); conv => whnf) | ((with_reducible refine blk_ld (by assumption) rfl ?_); conv => whnf) | ((with_reducible refine blk_ldN (by assumption) rfl ?_); conv => whnf) | ((with_reducible refine HInt.mk _ (wrap_u64 (by omega)) ?_); conv => whnf) | ((with_reducible refine HInt.mk _ (wrap_u8 (by omega)) ?_); conv => whnf) | ((with_reducible refine HInt.mk _ (wrap_u32 (by omega)) ?_); conv => whnf))))
            refine blk_ldN o11 (by simpa using hcl) ?_
            ((conv => whnf); (repeat (first | ((with_reducible refine HSeq.go ?_); conv => whnf) | ((with_reducible refine HMust.mk (by decide) ?_); conv => whnf) | ((with_reducible refine HIf.yes (by first | rfl | assumption | decide) ?_); conv => whnf) | ((with_reducible refine HIf.no (by first | rfl | assumption | decide) ?_); conv => whnf) | ((with_reducible refine HInt.mk _ (wrap_i64 (by omega)) ?_); conv => whnf) | ((refine HMust.mk (by rfl) ?_); conv => whnf) | ((with_reducible refine blk_ld (by assumption) rfl ?_); conv => whnf) | ((with_reducible refine blk_ldN (by assumption) rfl ?_); conv => whnf) | ((with_reducible refine HInt.mk _ (wrap_u64 (by omega)) ?_); conv => whnf) | ((with_reducible refine HInt.mk _ (wrap_u8 (by omega)) ?_); conv => whnf) | ((with_reducible refine HInt.mk _ (wrap_u32 (by omega)) ?_); conv => whnf))))
            refine splN_all rfl (by simpa using hcl) ?_
            ((conv => whnf); (repeat (first | ((with_reducible refine HSeq.go ?_); conv => whnf) | ((with_reducible refine HMust.mk (by decide) ?_); conv => whnf) | ((with_reducible refine HIf.yes (by first | rfl | assumption | decide) ?_); conv => whnf) | ((with_reducible refine HIf.no (by first | rfl | assumption | decide) ?_); conv => whnf) | ((with_reducible refine HInt.mk _ (wrap_i64 (by omega)) ?_); conv => whnf) | ((refine HMust.mk (by rfl) ?_); conv => whnf) | ((with_reducible refine blk_ld (by assumption) rfl ?_); conv => whnf) | ((with_reducible refine blk_ldN (by assumption) rfl ?_); conv => whnf) | ((with_reducible refine HInt.mk _ (wrap_u64 (by omega)) ?_); conv => whnf) | ((with_reducible refine HInt.mk _ (wrap_u8 (by omega)) ?_); conv => whnf) | ((with_reducible refine HInt.mk _ (wrap_u32 (by omega)) ?_); conv => whnf))))
            refine new_own (e := 25) 5 1 cs rfl (by simpa using hcl) ?_
            intro h12 b12 o12 x12 z12 hb12
            have o612 := o611.ext x12
            have o312 := o311.ext x12
            have ok12 := ok11.ext x12
            have ol12 := ol11.ext x12
            have rn12 := rn11.ext x12
            have hs12 := x12.1
            ((conv => whnf); (repeat (first | ((with_reducible refine HSeq.go ?_); conv => whnf) | ((with_reducible refine HMust.mk (by decide) ?_); conv => whnf) | ((with_reducible refine HIf.yes (by first | rfl | assumption | decide) ?_); conv => whnf) | ((with_reducible refine HIf.no (by first | rfl | assumption | decide) ?_); conv => whnf) | ((with_reducible refine HInt.mk _ (wrap_i64 (by omega)) ?_); conv => whnf) | ((refine HMust.mk (by rfl) ?_); conv => whnf) | ((with_reducible refine blk_ld (by assumption) rfl ?_); conv => whnf) | ((with_reducible refine blk_ldN (by assumption) rfl ?_); conv => whnf) | ((with_reducible refine HInt.mk _ (wrap_u64 (by omega)) ?_); conv => whnf) | ((with_reducible refine HInt.mk _ (wrap_u8 (by omega)) ?_); conv => whnf) | ((with_reducible refine HInt.mk _ (wrap_u32 (by omega)) ?_); conv => whnf))))
            refine o12.sl.cells ?_
            refine ol12.push (fun b hb => ⟨by omega, fun p ep => by have := hka8 p ep; omega⟩) rfl hcl (by simpa using rp.one) (by omega) (rn12.mono fun b hb => ⟨⟨by omega, fun p ep => by have := hka8 p ep; omega⟩, hb.2, fun p ep => by have := (hla8 p ep).2; omega⟩) ?_
            intro h13 a13 c13 ol13 g13
            have hs13 := g13.1
            have hla : ∀ p, la = some p → h.size + 2 ≤ p.block := fun p ep => (hla8 p ep).1.1
            have o313 : BlkW h13 b3 25 _ := o312.of (g13.2.1 _ (by omega) (fun p ep => by have := hla p ep; omega))
            have o613 : BlkW h13 b6 25 _ := o612.of (g13.2.1 _ (by omega) (fun p ep => by have := hla p ep; omega))
            have ok13 := ok12.agree (S := fun b => b < h12.size ∧ ∀ p, la = some p → p.block ≠ b) (fun b hb => g13.2.1 b hb.1 hb.2) (fun p ep => ⟨(ok12.lt p ep).2, fun q eq he => (hla8 q eq).1.2 p ep he.symm⟩)
            have x13 : Ext h h13 := ⟨by omega, fun i hi => by
              rw [g13.2.1 i (by omega) (fun p ep => by have := hla p ep; omega), x12.2 i (by omega), x911.2 i (by omega), x9.2 i (by omega), x8.2 i hi]⟩
            ((conv => whnf); (repeat (first | ((with_reducible refine HSeq.go ?_); conv => whnf) | ((with_reducible refine HMust.mk (by decide) ?_); conv => whnf) | ((with_reducible refine HIf.yes (by first | rfl | assumption | decide) ?_); conv => whnf) | ((with_reducible refine HIf.no (by first | rfl | assumption | decide) ?_); conv => whnf) | ((with_reducible refine HInt.mk _ (wrap_i64 (by omega)) ?_); conv => whnf) | ((refine HMust.mk (by rfl) ?_); conv => whnf) | ((with_reducible refine blk_ld (by assumption) rfl ?_); conv => whnf) | ((with_reducible refine blk_ldN (by assumption) rfl ?_); conv => whnf) | ((with_reducible refine HInt.mk _ (wrap_u64 (by omega)) ?_); conv => whnf) | ((with_reducible refine HInt.mk _ (wrap_u8 (by omega)) ?_); conv => whnf) | ((with_reducible refine HInt.mk _ (wrap_u32 (by omega)) ?_); conv => whnf))))
            refine blk_st o313 (by simp) rfl ?_
            intro h14 f14 z14 o314
            ((conv => whnf); (repeat (first | ((with_reducible refine HSeq.go ?_); conv => whnf) | ((with_reducible refine HMust.mk (by decide) ?_); conv => whnf) | ((with_reducible refine HIf.yes (by first | rfl | assumption | decide) ?_); conv => whnf) | ((with_reducible refine HIf.no (by first | rfl | assumption | decide) ?_); conv => whnf) | ((with_reducible refine HInt.mk _ (wrap_i64 (by omega)) ?_); conv => whnf) | ((refine HMust.mk (by rfl) ?_); conv => whnf) | ((with_reducible refine blk_ld (by assumption) rfl ?_); conv => whnf) | ((with_reducible refine blk_ldN (by assumption) rfl ?_); conv => whnf) | ((with_reducible refine HInt.mk _ (wrap_u64 (by omega)) ?_); conv => whnf) | ((with_reducible refine HInt.mk _ (wrap_u8 (by omega)) ?_); conv => whnf) | ((with_reducible refine HInt.mk _ (wrap_u32 (by omega)) ?_); conv => whnf))))
            have hvl : 0 < v.2.1 ∧ v.2.1 ≤ l.length - at2 := by omega
            refine ⟨⟨i + 1, at2 + v.2.1, ks2, xs ++ [v.1], rfl, by omega, ?_, by omega, by rw [List.length_append, List.length_singleton]; omega, by rw [List.length_append, List.length_singleton]; omega, hks2,
              ka, kc, a13, c13, x13.offNew f14 (by omega), by have := f14.1; omega, o613.offk f14 (by omega), ?_, ok13.off f14 (fun p ep => by have := hk8 p ep; omega), hk8, ?_⟩, ?_⟩
            · rw [hn', hT2, List.drop_drop]
            · rw [List.length_append]; exact o314
            · have := ol13.off f14 (fun hS => by have := hS.1; omega)
              rw [List.length_append]; exact this
            · show m - (((i : Int) + 1)).toNat < m - ((i : Int)).toNat
              omega
          · rw [if_pos hv0] at hT2
            have q0 : (((rd d (l.drop at2)).2.2 : Int) != 0) = true := by simp; omega
            ((conv => whnf); (repeat (first | ((with_reducible refine HSeq.go ?_); conv => whnf) | ((with_reducible refine HMust.mk (by decide) ?_); conv => whnf) | ((with_reducible refine HIf.yes (by first | rfl | assumption | decide) ?_); conv => whnf) | ((with_reducible refine HIf.no (by first | rfl | assumption | decide) ?_); conv => whnf) | ((with_reducible refine HInt.mk _ (wrap_i64 (by omega)) ?_); conv => whnf) | ((refine HMust.mk (by rfl) ?_); conv => whnf) | ((with_reducible refine blk_ld (by assumption) rfl ?_); conv => whnf) | ((with_reducible refine blk_ldN (by assumption) rfl ?_); conv => whnf) | ((with_reducible refine HInt.mk _ (wrap_u64 (by omega)) ?_); conv => whnf) | ((with_reducible refine HInt.mk _ (wrap_u8 (by omega)) ?_); conv => whnf) | ((with_reducible refine HInt.mk _ (wrap_u32 (by omega)) ?_); conv => whnf))))
            refine store_new o611 rfl (by simp [isOne]) ?_
            intro h12 f12 z12 o12
            ((conv => whnf); (repeat (first | ((with_reducible refine HSeq.go ?_); conv => whnf) | ((with_reducible refine HMust.mk (by decide) ?_); conv => whnf) | ((with_reducible refine HIf.yes (by first | rfl | assumption | decide) ?_); conv => whnf) | ((with_reducible refine HIf.no (by first | rfl | assumption | decide) ?_); conv => whnf) | ((with_reducible refine HInt.mk _ (wrap_i64 (by omega)) ?_); conv => whnf) | ((refine HMust.mk (by rfl) ?_); conv => whnf) | ((with_reducible refine blk_ld (by assumption) rfl ?_); conv => whnf) | ((with_reducible refine blk_ldN (by assumption) rfl ?_); conv => whnf) | ((with_reducible refine HInt.mk _ (wrap_u64 (by omega)) ?_); conv => whnf) | ((with_reducible refine HInt.mk _ (wrap_u8 (by omega)) ?_); conv => whnf) | ((with_reducible refine HInt.mk _ (wrap_u32 (by omega)) ?_); conv => whnf))))
            exact post_no h12 _ _ (by rw [hT2]) hv0 ((x09.trans x911).offNew f12 (by omega)) o12
  · rw [if_pos h0]
    have q0 : ((er : Int) != 0) = true := by simp; omega
    ((conv => whnf); (repeat (first | ((with_reducible refine HSeq.go ?_); conv => whnf) | ((with_reducible refine HMust.mk (by decide) ?_); conv => whnf) | ((with_reducible refine HIf.yes (by first | rfl | assumption | decide) ?_); conv => whnf) | ((with_reducible refine HIf.no (by first | rfl | assumption | decide) ?_); conv => whnf) | ((with_reducible refine HInt.mk _ (wrap_i64 (by omega)) ?_); conv => whnf) | ((refine HMust.mk (by rfl) ?_); conv => whnf) | ((with_reducible refine blk_ld (by assumption) rfl ?_); conv => whnf) | ((with_reducible refine blk_ldN (by assumption) rfl ?_); conv => whnf) | ((with_reducible refine HInt.mk _ (wrap_u64 (by omega)) ?_); conv => whnf) | ((with_reducible refine HInt.mk _ (wrap_u8 (by omega)) ?_); conv => whnf) | ((with_reducible refine HInt.mk _ (wrap_u32 (by omega)) ?_); conv => whnf))))
    refine store_new o6 rfl (by simp [isOne]) ?_
    intro h3 f3 z3 o3
    ((conv => whnf); (repeat (first | ((with_reducible refine HSeq.go ?_); conv => whnf) | ((with_reducible refine HMust.mk (by decide) ?_); conv => whnf) | ((with_reducible refine HIf.yes (by first | rfl | assumption | decide) ?_); conv => whnf) | ((with_reducible refine HIf.no (by first | rfl | assumption | decide) ?_); conv => whnf) | ((with_reducible refine HInt.mk _ (wrap_i64 (by omega)) ?_); conv => whnf) | ((refine HMust.mk (by rfl) ?_); conv => whnf) | ((with_reducible refine blk_ld (by assumption) rfl ?_); conv => whnf) | ((with_reducible refine blk_ldN (by assumption) rfl ?_); conv => whnf) | ((with_reducible refine HInt.mk _ (wrap_u64 (by omega)) ?_); conv => whnf) | ((with_reducible refine HInt.mk _ (wrap_u8 (by omega)) ?_); conv => whnf) | ((with_reducible refine HInt.mk _ (wrap_u32 (by omega)) ?_); conv => whnf))))
    exact fin h3 er (x02.offNew f3 (by omega)) o3

end Go.Proofs.Ytkcnjcdggbifeaa.Hc
