/- The reference's disk. -/
import Derived.Test.YtlbmhpjefpdekaaX6
import Derived.Test.YtlbmhpjefpdekaaG1
set_option linter.unusedVariables false
set_option linter.unusedSimpArgs false
namespace Go.Proofs.Ytlbmhpjefpdekaa.Hc
open Go Go.H Go.Proofs
set_option maxRecDepth 100000
set_option maxHeartbeats 8000000

/-- A row of texts. -/
def tab (n : Nat) (F : Nat → ByteArray) : List Value := (List.range n).map fun j => .string (F j)
theorem tab_len (n : Nat) (F : Nat → ByteArray) : (tab n F).length = n := by unfold tab; simp
theorem tab_get (n : Nat) (F : Nat → ByteArray) (i : Nat) (hi : i < (tab n F).length) : (tab n F)[i] = .string (F i) := by
  have hi' : i < n := by rw [tab_len] at hi; exact hi
  have : (tab n F)[i]? = some (.string (F i)) := by
    unfold tab
    rw [List.getElem?_map, List.getElem?_range hi']; rfl
  exact (List.getElem?_eq_some_iff.1 this).2
theorem tab_set (n : Nat) (F : Nat → ByteArray) (i : Nat) (v : ByteArray) : (tab n F).set i (.string v) = tab n (fun j => if j = i then v else F j) := by
  apply List.ext_getElem
  · simp [tab]
  · intro k h1 h2
    rw [List.getElem_set]
    by_cases e : i = k
    · subst e; rw [if_pos rfl, tab_get, if_pos rfl]
    · have : k ≠ i := fun h => e h.symm
      rw [if_neg e, tab_get, tab_get, if_neg this]
theorem tab_congr {n : Nat} {F G : Nat → ByteArray} (h : ∀ j, j < n → F j = G j) : tab n F = tab n G := by
  unfold tab
  apply List.map_congr_left
  intro j hj
  rw [h j (List.mem_range.1 hj)]
def DK.fV (d : DK) (j : Nat) : ByteArray := (d.firm j).getD zeroB
def DK.wV (d : DK) (j : Nat) : ByteArray := (d.waits j).getD ⟨#[]⟩
/-- Block b holds the reference's disk; its rows are blocks fb and wb. -/
structure RR (h : Heap) (b fb wb : Nat) (d : DK) : Prop where
  ok : d.Ok
  fc : ∃ fc wc, BlkW h b 60 [.slice (some ⟨fb, 0, none⟩) d.many fc, .slice (some ⟨wb, 0, none⟩) d.many wc, .bool d.off, .int .i64 d.fuse, .int .i64 d.acts] ∧
    Own h 0 9 1 (some ⟨fb, 0, none⟩) d.many fc (tab d.many d.fV) ∧ Own h 0 9 1 (some ⟨wb, 0, none⟩) d.many wc (tab d.many d.wV)
  n1 : b ≠ fb
  n2 : b ≠ wb
  n3 : fb ≠ wb
theorem own_offS {S : List Nat} {h h' : Heap} {B e size n c k : Nat} {xs : List Value} (x : Own h B e size (some ⟨k, 0, none⟩) n c xs) (o : OffS S h h') (hk : k ∉ S) : Own h' B e size (some ⟨k, 0, none⟩) n c xs :=
  x.agree (S := fun q => q < h.size ∧ q ∉ S) (fun q hq => o.2 q hq.1 hq.2) (fun p ep => by cases ep; exact ⟨(x.lt _ rfl).2, hk⟩)
theorem RR.offS {S : List Nat} {h h' : Heap} {b fb wb : Nat} {d : DK} (x : RR h b fb wb d) (k : OffS S h h') (h1 : b ∉ S) (h2 : fb ∉ S) (h3 : wb ∉ S) : RR h' b fb wb d := by
  obtain ⟨fc, wc, o, f, w⟩ := x.fc
  exact ⟨x.ok, ⟨fc, wc, BlkW.offS o k h1, own_offS f k h2, own_offS w k h3⟩, x.n1, x.n2, x.n3⟩
theorem RR.ext {h h' : Heap} {b fb wb : Nat} {d : DK} (x : RR h b fb wb d) (k : Ext h h') : RR h' b fb wb d := x.offS (S := []) (OffS.of_ext k) (by simp) (by simp) (by simp)
theorem RR.lt {h : Heap} {b fb wb : Nat} {d : DK} (x : RR h b fb wb d) : b < h.size ∧ fb < h.size ∧ wb < h.size := by
  obtain ⟨fc, wc, o, f, w⟩ := x.fc
  exact ⟨o.lt, (f.lt _ rfl).2, (w.lt _ rfl).2⟩
theorem own_off {h h' : Heap} {B e size n c k r : Nat} {xs : List Value} (x : Own h B e size (some ⟨k, 0, none⟩) n c xs) (o : Off r h h') (hk : k ≠ r) : Own h' B e size (some ⟨k, 0, none⟩) n c xs := x.off o (fun p ep => by cases ep; exact hk)
theorem str_ne {s : ByteArray} (h : s.size = 4096) : strEq s ⟨#[]⟩ = false := (strEq_no _ _).2 (by rintro rfl; cases h)
theorem DK.wV_none {d : DK} {j : Nat} (h : d.waits j = none) : d.wV j = ⟨#[]⟩ := by unfold DK.wV; rw [h]; rfl
theorem DK.wV_some {d : DK} {j : Nat} {s : ByteArray} (h : d.waits j = some s) : d.wV j = s := by unfold DK.wV; rw [h]; rfl
theorem DK.wV_eq {d : DK} (k : d.Ok) (j : Nat) : strEq (d.wV j) ⟨#[]⟩ = (d.waits j).isNone := by
  cases h : d.waits j with
  | none => rw [DK.wV_none h]; exact (strEq_iff _ _).2 rfl
  | some s => rw [DK.wV_some h]; exact str_ne (k.wm j s h).2

theorem rison_spec {h : Heap} {b fb wb : Nat} {d : DK} (x : RR h b fb wb d) : HCalls Try.prog 35 #[.pointer (some ⟨b, 0, none⟩)] h fun e h' => e = .returned (.bool (!d.off)) ∧ h' = h := by
  obtain ⟨fc, wc, o, f, w⟩ := x.fc
  refine c35 (by simp) ?_
  ((conv=>whnf);repeat((first|(with_reducible first|refine Z1 ?_|refine Z2 ?_|refine Z3 ?_|refine Z4 ?_|refine Z5 ?_|refine Z9 (by assumption) rfl ?_|refine ZA (by assumption) rfl ?_|refine ZB (by assumption) rfl ?_|refine Z6 ?_|refine Z7 ?_|refine Z8 ?_)|((with_reducible refine ZM ?_ ?_);(focus rfl)));(conv=>whnf)))
  exact ⟨rfl, rfl⟩
theorem racts_spec {h : Heap} {b fb wb : Nat} {d : DK} (x : RR h b fb wb d) : HCalls Try.prog 34 #[.pointer (some ⟨b, 0, none⟩)] h fun e h' => e = .returned (.int .i64 d.acts) ∧ h' = h := by
  obtain ⟨fc, wc, o, f, w⟩ := x.fc
  refine c34 (by simp) ?_
  ((conv=>whnf);repeat((first|(with_reducible first|refine Z1 ?_|refine Z2 ?_|refine Z3 ?_|refine Z4 ?_|refine Z5 ?_|refine Z9 (by assumption) rfl ?_|refine ZA (by assumption) rfl ?_|refine ZB (by assumption) rfl ?_|refine Z6 ?_|refine Z7 ?_|refine Z8 ?_)|((with_reducible refine ZM ?_ ?_);(focus rfl)));(conv=>whnf)))
  exact ⟨rfl, rfl⟩
theorem rsectors_spec {h : Heap} {b fb wb : Nat} {d : DK} (x : RR h b fb wb d) : HCalls Try.prog 13 #[.pointer (some ⟨b, 0, none⟩)] h fun e h' => e = .returned (.int .i64 d.many) ∧ h' = h := by
  obtain ⟨fc, wc, o, f, w⟩ := x.fc
  refine c13 (by simp) ?_
  ((conv=>whnf);repeat((first|(with_reducible first|refine Z1 ?_|refine Z2 ?_|refine Z3 ?_|refine Z4 ?_|refine Z5 ?_|refine Z9 (by assumption) rfl ?_|refine ZA (by assumption) rfl ?_|refine ZB (by assumption) rfl ?_|refine Z6 ?_|refine Z7 ?_|refine Z8 ?_)|((with_reducible refine ZM ?_ ?_);(focus rfl)));(conv=>whnf)))
  exact ⟨rfl, rfl⟩
theorem rfuse_spec {h : Heap} {b fb wb : Nat} {d : DK} (x : RR h b fb wb d) (n : Int) (hn : n ≤ 9223372036854775807) : HCalls Try.prog 31 #[.pointer (some ⟨b, 0, none⟩), .int .i64 n] h fun e h' => e = .returned (.tuple #[]) ∧ RR h' b fb wb (d.fused n) ∧ OffS [b, fb, wb] h h' := by
  obtain ⟨fc, wc, o, f, w⟩ := x.fc
  have k := x.ok
  refine c31 (by simp) ?_
  ((conv=>whnf);repeat((first|(with_reducible first|refine Z1 ?_|refine Z2 ?_|refine Z3 ?_|refine Z4 ?_|refine Z5 ?_|refine Z9 (by assumption) rfl ?_|refine ZA (by assumption) rfl ?_|refine ZB (by assumption) rfl ?_|refine Z6 ?_|refine Z7 ?_|refine Z8 ?_)|((with_reducible refine ZM ?_ ?_);(focus rfl)));(conv=>whnf)))
  refine blk_st (o := 3) o (by simp) rfl ?_
  intro h' g z o'
  ((conv=>whnf);repeat((first|(with_reducible first|refine Z1 ?_|refine Z2 ?_|refine Z3 ?_|refine Z4 ?_|refine Z5 ?_|refine Z9 (by assumption) rfl ?_|refine ZA (by assumption) rfl ?_|refine ZB (by assumption) rfl ?_|refine Z6 ?_|refine Z7 ?_|refine Z8 ?_)|((with_reducible refine ZM ?_ ?_);(focus rfl)));(conv=>whnf)))
  refine ⟨rfl, ⟨⟨k.m1, k.m2, ?_, ?_, k.ac, k.wm, k.fm⟩, ⟨fc, wc, o', own_off f g (Ne.symm x.n1), own_off w g (Ne.symm x.n2)⟩, x.n1, x.n2, x.n3⟩, OffS.of_off g (by simp)⟩
  · show (-1 : Int) ≤ (if -1 > n then -1 else n); split <;> omega
  · show (if -1 > n then (-1 : Int) else n) ≤ _; split <;> omega
theorem ract_spec {h : Heap} {b fb wb : Nat} {d : DK} (x : RR h b fb wb d) (ha : d.acts ≤ 999999) : HCalls Try.prog 42 #[.pointer (some ⟨b, 0, none⟩)] h fun e h' => e = .returned (.bool (d.act.1 == 0)) ∧ RR h' b fb wb d.act.2 ∧ OffS [b, fb, wb] h h' := by
  have k := DK.act_ok x.ok ha
  have hk := x.ok
  have k1 := hk.f1
  have k2 := hk.f2
  obtain ⟨fc, wc, o, f, w⟩ := x.fc
  have n1 := x.n1
  have n2 := x.n2
  refine c42 (by simp) ?_
  unfold DK.act at k ⊢
  by_cases h0 : d.fuse = 0
  · have q : (d.fuse == 0) = true := beq_iff_eq.2 h0
    rw [if_pos h0] at k ⊢
    ((conv=>whnf);repeat((first|(with_reducible first|refine Z1 ?_|refine Z2 ?_|refine Z3 ?_|refine Z4 ?_|refine Z5 ?_|refine Z9 (by assumption) rfl ?_|refine ZA (by assumption) rfl ?_|refine ZB (by assumption) rfl ?_|refine Z6 ?_|refine Z7 ?_|refine Z8 ?_)|((with_reducible refine ZM ?_ ?_);(focus rfl)));(conv=>whnf)))
    refine blk_st (o := 2) o (by simp) rfl ?_
    intro h' g z o'
    ((conv=>whnf);repeat((first|(with_reducible first|refine Z1 ?_|refine Z2 ?_|refine Z3 ?_|refine Z4 ?_|refine Z5 ?_|refine Z9 (by assumption) rfl ?_|refine ZA (by assumption) rfl ?_|refine ZB (by assumption) rfl ?_|refine Z6 ?_|refine Z7 ?_|refine Z8 ?_)|((with_reducible refine ZM ?_ ?_);(focus rfl)));(conv=>whnf)))
    exact ⟨rfl, ⟨k, ⟨fc, wc, o', own_off f g (Ne.symm n1), own_off w g (Ne.symm n2)⟩, n1, n2, x.n3⟩, OffS.of_off g (by simp)⟩
  · have q : (d.fuse == 0) = false := beq_eq_false_iff_ne.2 h0
    rw [if_neg h0] at k ⊢
    by_cases h1 : 0 < d.fuse
    · have q1 : decide (d.fuse > 0) = true := decide_eq_true h1
      simp only [if_pos h1] at k ⊢
      ((conv=>whnf);repeat((first|(with_reducible first|refine Z1 ?_|refine Z2 ?_|refine Z3 ?_|refine Z4 ?_|refine Z5 ?_|refine Z9 (by assumption) rfl ?_|refine ZA (by assumption) rfl ?_|refine ZB (by assumption) rfl ?_|refine Z6 ?_|refine Z7 ?_|refine Z8 ?_)|((with_reducible refine ZM ?_ ?_);(focus rfl)));(conv=>whnf)))
      refine blk_st (o := 3) o (by simp) rfl ?_
      intro h1 g1 z1 o1
      ((conv=>whnf);repeat((first|(with_reducible first|refine Z1 ?_|refine Z2 ?_|refine Z3 ?_|refine Z4 ?_|refine Z5 ?_|refine Z9 (by assumption) rfl ?_|refine ZA (by assumption) rfl ?_|refine ZB (by assumption) rfl ?_|refine Z6 ?_|refine Z7 ?_|refine Z8 ?_)|((with_reducible refine ZM ?_ ?_);(focus rfl)));(conv=>whnf)))
      refine blk_st (o := 4) o1 (by simp) rfl ?_
      intro h2 g2 z2 o2
      have g12 := g1.trans g2
      ((conv=>whnf);repeat((first|(with_reducible first|refine Z1 ?_|refine Z2 ?_|refine Z3 ?_|refine Z4 ?_|refine Z5 ?_|refine Z9 (by assumption) rfl ?_|refine ZA (by assumption) rfl ?_|refine ZB (by assumption) rfl ?_|refine Z6 ?_|refine Z7 ?_|refine Z8 ?_)|((with_reducible refine ZM ?_ ?_);(focus rfl)));(conv=>whnf)))
      exact ⟨rfl, ⟨k, ⟨fc, wc, o2, own_off f g12 (Ne.symm n1), own_off w g12 (Ne.symm n2)⟩, n1, n2, x.n3⟩, OffS.of_off g12 (by simp)⟩
    · have q1 : decide (d.fuse > 0) = false := decide_eq_false h1
      simp only [if_neg h1] at k ⊢
      ((conv=>whnf);repeat((first|(with_reducible first|refine Z1 ?_|refine Z2 ?_|refine Z3 ?_|refine Z4 ?_|refine Z5 ?_|refine Z9 (by assumption) rfl ?_|refine ZA (by assumption) rfl ?_|refine ZB (by assumption) rfl ?_|refine Z6 ?_|refine Z7 ?_|refine Z8 ?_)|((with_reducible refine ZM ?_ ?_);(focus rfl)));(conv=>whnf)))
      refine blk_st (o := 4) o (by simp) rfl ?_
      intro h2 g2 z2 o2
      ((conv=>whnf);repeat((first|(with_reducible first|refine Z1 ?_|refine Z2 ?_|refine Z3 ?_|refine Z4 ?_|refine Z5 ?_|refine Z9 (by assumption) rfl ?_|refine ZA (by assumption) rfl ?_|refine ZB (by assumption) rfl ?_|refine Z6 ?_|refine Z7 ?_|refine Z8 ?_)|((with_reducible refine ZM ?_ ?_);(focus rfl)));(conv=>whnf)))
      exact ⟨rfl, ⟨k, ⟨fc, wc, o2, own_off f g2 (Ne.symm n1), own_off w g2 (Ne.symm n2)⟩, n1, n2, x.n3⟩, OffS.of_off g2 (by simp)⟩
theorem DK.refused_cases (d : DK) (i : Int) : (d.off = true ∧ d.refused i = 160) ∨ (d.off = false ∧ (i < 0 ∨ (d.many : Int) ≤ i) ∧ d.refused i = 4) ∨ (d.off = false ∧ (0 ≤ i ∧ i < d.many) ∧ d.refused i = 0) := by
  unfold DK.refused
  cases d.off
  · by_cases h : i < 0 ∨ (d.many : Int) ≤ i
    · exact .inr (.inl ⟨rfl, h, by rw [if_neg (by simp), if_pos h]⟩)
    · exact .inr (.inr ⟨rfl, by omega, by rw [if_neg (by simp), if_neg h]⟩)
  · exact .inl ⟨rfl, rfl⟩
/-- A text as bytes. -/
theorem bytes_new {h : Heap} {s : ByteArray} {c : Nat} (hc : s.size ≤ c) : Own (h.push (.cells ((s.data.map fun b => Value.int .u8 b.toNat) ++ Array.replicate (c - s.size) (.int .u8 0)) 5 (c, c + 1))) h.size 5 1 (some ⟨h.size, 0, none⟩) s.data.toList.length c (s.data.toList.map byteV) := by
  have hl : s.data.toList.length = s.size := rfl
  refine ⟨by simp, by omega, (by intro e; cases e), fun p ep => ?_⟩
  cases ep
  refine ⟨h.size, List.replicate (c - s.size) (.int .u8 0), rfl, Nat.le_refl _, by simp [hl], (c, c + 1), ?_, ?_⟩
  · rw [Array.getElem?_push_size]
    congr 2
    apply Array.ext'
    simp [byteV]
  · intro i hi
    have : i < c := by
      rw [List.length_append, List.length_map, List.length_replicate, hl] at hi; omega
    show ¬ (c ≤ i ∧ i < c + 1)
    omega
theorem rread_spec {h : Heap} {b fb wb : Nat} {d : DK} (x : RR h b fb wb d) (i : Int) : HCalls Try.prog 30 #[.pointer (some ⟨b, 0, none⟩), .int .i64 i] h fun e h' =>
    ∃ (a : Option Addr) (c : Nat), e = .returned (.tuple #[.slice a (d.told i).length c, .int .i64 (d.refused i)]) ∧ Own h' h.size 5 1 a (d.told i).length c ((d.told i).map byteV) ∧ Ext h h' := by
  obtain ⟨fc, wc, o, f, w⟩ := x.fc
  refine c30 (by simp) ?_
  unfold DK.told
  rcases d.refused_cases i with ⟨h1, h2⟩ | ⟨h1, h2, h3⟩ | ⟨h1, h2, h3⟩
  · rw [h1] at o
    rw [h2, if_neg (by decide)]
    ((conv=>whnf);repeat((first|(with_reducible first|refine Z1 ?_|refine Z2 ?_|refine Z3 ?_|refine Z4 ?_|refine Z5 ?_|refine Z9 (by assumption) rfl ?_|refine ZA (by assumption) rfl ?_|refine ZB (by assumption) rfl ?_|refine Z6 ?_|refine Z7 ?_|refine Z8 ?_)|((with_reducible refine ZM ?_ ?_);(focus rfl)));(conv=>whnf)))
    exact ⟨none, 0, rfl, Own.nil _ _ _ _, Ext.refl _⟩
  · rw [h1] at o
    rw [h3, if_neg (by decide)]
    by_cases hi : i < 0
    · have q : decide (i < 0) = true := decide_eq_true hi
      ((conv=>whnf);repeat((first|(with_reducible first|refine Z1 ?_|refine Z2 ?_|refine Z3 ?_|refine Z4 ?_|refine Z5 ?_|refine Z9 (by assumption) rfl ?_|refine ZA (by assumption) rfl ?_|refine ZB (by assumption) rfl ?_|refine Z6 ?_|refine Z7 ?_|refine Z8 ?_)|((with_reducible refine ZM ?_ ?_);(focus rfl)));(conv=>whnf)))
      exact ⟨none, 0, rfl, Own.nil _ _ _ _, Ext.refl _⟩
    · have q : decide (i < 0) = false := decide_eq_false hi
      have q2 : decide (i ≥ (d.many : Int)) = true := decide_eq_true (by omega)
      ((conv=>whnf);repeat((first|(with_reducible first|refine Z1 ?_|refine Z2 ?_|refine Z3 ?_|refine Z4 ?_|refine Z5 ?_|refine Z9 (by assumption) rfl ?_|refine ZA (by assumption) rfl ?_|refine ZB (by assumption) rfl ?_|refine Z6 ?_|refine Z7 ?_|refine Z8 ?_)|((with_reducible refine ZM ?_ ?_);(focus rfl)));(conv=>whnf)))
      exact ⟨none, 0, rfl, Own.nil _ _ _ _, Ext.refl _⟩
  · rw [h1] at o
    rw [h3, if_pos rfl]
    obtain ⟨n, rfl⟩ := Int.eq_ofNat_of_zero_le h2.1
    rw [Int.toNat_natCast]
    have hsl := DK.sec_len x.ok n
    have hn : n < d.many := by omega
    have q : decide ((n : Int) < 0) = false := decide_eq_false (by omega)
    have q2 : decide ((n : Int) ≥ (d.many : Int)) = false := decide_eq_false (by omega)
    have hwe := DK.wV_eq x.ok n
    have fin : ∀ s : ByteArray, d.sec n = s → ∀ c, s.size ≤ c → ∃ (a : Option Addr) (c' : Nat), Ending.returned (.tuple #[.slice (some ⟨h.size, 0, none⟩) s.size c, .int .i64 0]) = .returned (.tuple #[.slice a (d.sec n).data.toList.length c', .int .i64 0]) ∧ Own (h.push (.cells ((s.data.map fun b => Value.int .u8 b.toNat) ++ Array.replicate (c - s.size) (.int .u8 0)) 5 (c, c + 1))) h.size 5 1 a (d.sec n).data.toList.length c' ((d.sec n).data.toList.map byteV) ∧ Ext h (h.push (.cells ((s.data.map fun b => Value.int .u8 b.toNat) ++ Array.replicate (c - s.size) (.int .u8 0)) 5 (c, c + 1))) := by
      intro s hs c hc
      rw [hs]
      exact ⟨some ⟨h.size, 0, none⟩, c, rfl, bytes_new hc, Ext.push _ _⟩
    ((conv=>whnf);repeat((first|(with_reducible first|refine Z1 ?_|refine Z2 ?_|refine Z3 ?_|refine Z4 ?_|refine Z5 ?_|refine Z9 (by assumption) rfl ?_|refine ZA (by assumption) rfl ?_|refine ZB (by assumption) rfl ?_|refine Z6 ?_|refine Z7 ?_|refine Z8 ?_)|((with_reducible refine ZM ?_ ?_);(focus rfl)));(conv=>whnf)))
    refine HIdx.mk n rfl hn ?_
    refine sl_some w.sl hn fun p ep => ?_
    cases ep
    ((conv=>whnf);repeat((first|(with_reducible first|refine Z1 ?_|refine Z2 ?_|refine Z3 ?_|refine Z4 ?_|refine Z5 ?_|refine Z9 (by assumption) rfl ?_|refine ZA (by assumption) rfl ?_|refine ZB (by assumption) rfl ?_|refine Z6 ?_|refine Z7 ?_|refine Z8 ?_)|((with_reducible refine ZM ?_ ?_);(focus rfl)));(conv=>whnf)))
    refine w.sl.load rfl (by rw [tab_len]; exact hn) ?_
    rw [tab_get]
    cases hw : d.waits n with
    | none =>
      have q3 : (!strEq (d.wV n) ⟨#[]⟩) = false := by rw [hwe, hw]; rfl
      ((conv=>whnf);repeat((first|(with_reducible first|refine Z1 ?_|refine Z2 ?_|refine Z3 ?_|refine Z4 ?_|refine Z5 ?_|refine Z9 (by assumption) rfl ?_|refine ZA (by assumption) rfl ?_|refine ZB (by assumption) rfl ?_|refine Z6 ?_|refine Z7 ?_|refine Z8 ?_)|((with_reducible refine ZM ?_ ?_);(focus rfl)));(conv=>whnf)))
      refine HIdx.mk n rfl hn ?_
      refine sl_some f.sl hn fun p ep => ?_
      cases ep
      ((conv=>whnf);repeat((first|(with_reducible first|refine Z1 ?_|refine Z2 ?_|refine Z3 ?_|refine Z4 ?_|refine Z5 ?_|refine Z9 (by assumption) rfl ?_|refine ZA (by assumption) rfl ?_|refine ZB (by assumption) rfl ?_|refine Z6 ?_|refine Z7 ?_|refine Z8 ?_)|((with_reducible refine ZM ?_ ?_);(focus rfl)));(conv=>whnf)))
      refine f.sl.load rfl (by rw [tab_len]; exact hn) ?_
      rw [tab_get]
      have hs : d.sec n = d.fV n := by unfold DK.sec DK.fV; rw [hw]
      rw [hs] at hsl
      ((conv=>whnf);repeat((first|(with_reducible first|refine Z1 ?_|refine Z2 ?_|refine Z3 ?_|refine Z4 ?_|refine Z5 ?_|refine Z9 (by assumption) rfl ?_|refine ZA (by assumption) rfl ?_|refine ZB (by assumption) rfl ?_|refine Z6 ?_|refine Z7 ?_|refine Z8 ?_)|((with_reducible refine ZM ?_ ?_);(focus rfl)));(conv=>whnf)))
      refine HMust.mk (by have : (d.fV n).size = 4096 := hsl; omega) ?_
      intro c hc
      refine ⟨?_⟩
      ((conv=>whnf);repeat((first|(with_reducible first|refine Z1 ?_|refine Z2 ?_|refine Z3 ?_|refine Z4 ?_|refine Z5 ?_|refine Z9 (by assumption) rfl ?_|refine ZA (by assumption) rfl ?_|refine ZB (by assumption) rfl ?_|refine Z6 ?_|refine Z7 ?_|refine Z8 ?_)|((with_reducible refine ZM ?_ ?_);(focus rfl)));(conv=>whnf)))
      exact fin _ hs c hc
    | some s =>
      have q3 : (!strEq (d.wV n) ⟨#[]⟩) = true := by rw [hwe, hw]; rfl
      ((conv=>whnf);repeat((first|(with_reducible first|refine Z1 ?_|refine Z2 ?_|refine Z3 ?_|refine Z4 ?_|refine Z5 ?_|refine Z9 (by assumption) rfl ?_|refine ZA (by assumption) rfl ?_|refine ZB (by assumption) rfl ?_|refine Z6 ?_|refine Z7 ?_|refine Z8 ?_)|((with_reducible refine ZM ?_ ?_);(focus rfl)));(conv=>whnf)))
      refine HIdx.mk n rfl hn ?_
      refine sl_some w.sl hn fun p ep => ?_
      cases ep
      ((conv=>whnf);repeat((first|(with_reducible first|refine Z1 ?_|refine Z2 ?_|refine Z3 ?_|refine Z4 ?_|refine Z5 ?_|refine Z9 (by assumption) rfl ?_|refine ZA (by assumption) rfl ?_|refine ZB (by assumption) rfl ?_|refine Z6 ?_|refine Z7 ?_|refine Z8 ?_)|((with_reducible refine ZM ?_ ?_);(focus rfl)));(conv=>whnf)))
      refine w.sl.load rfl (by rw [tab_len]; exact hn) ?_
      rw [tab_get]
      have hs : d.sec n = d.wV n := by unfold DK.sec; rw [hw]; exact (DK.wV_some hw).symm
      rw [hs] at hsl
      ((conv=>whnf);repeat((first|(with_reducible first|refine Z1 ?_|refine Z2 ?_|refine Z3 ?_|refine Z4 ?_|refine Z5 ?_|refine Z9 (by assumption) rfl ?_|refine ZA (by assumption) rfl ?_|refine ZB (by assumption) rfl ?_|refine Z6 ?_|refine Z7 ?_|refine Z8 ?_)|((with_reducible refine ZM ?_ ?_);(focus rfl)));(conv=>whnf)))
      refine HMust.mk (by have : (d.wV n).size = 4096 := hsl; omega) ?_
      intro c hc
      refine ⟨?_⟩
      ((conv=>whnf);repeat((first|(with_reducible first|refine Z1 ?_|refine Z2 ?_|refine Z3 ?_|refine Z4 ?_|refine Z5 ?_|refine Z9 (by assumption) rfl ?_|refine ZA (by assumption) rfl ?_|refine ZB (by assumption) rfl ?_|refine Z6 ?_|refine Z7 ?_|refine Z8 ?_)|((with_reducible refine ZM ?_ ?_);(focus rfl)));(conv=>whnf)))
      exact fin _ hs c hc

end Go.Proofs.Ytlbmhpjefpdekaa.Hc
