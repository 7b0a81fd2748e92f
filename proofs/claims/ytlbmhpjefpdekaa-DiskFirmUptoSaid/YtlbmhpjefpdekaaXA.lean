/- The reference's New; the bytes that a Write has. -/
import Derived.Test.YtlbmhpjefpdekaaX9
set_option linter.unusedVariables false
set_option linter.unusedSimpArgs false
namespace Go.Proofs.Ytlbmhpjefpdekaa.Hc
open Go Go.H Go.Proofs
set_option maxRecDepth 100000
set_option maxHeartbeats 8000000

theorem rnew_spec (n : Int) (h : Heap) : HCalls Try.prog 9 #[.int .i64 n] h fun e h' => Ext h h' ∧
    ((1 ≤ n ∧ n ≤ 2048 ∧ ∃ b fb wb, e = .returned (.tuple #[.pointer (some ⟨b, 0, none⟩), .int .i64 0]) ∧ RR h' b fb wb (DK.new n.toNat) ∧ h.size ≤ b ∧ h.size ≤ fb ∧ h.size ≤ wb) ∨ (¬ (1 ≤ n ∧ n ≤ 2048) ∧ e = .returned (.tuple #[.pointer none, .int .i64 1]))) := by
  refine c9 (by simp) ?_
  by_cases h1 : n < 1
  · have q : decide (n < 1) = true := decide_eq_true h1
    ((conv=>whnf);repeat((first|(with_reducible first|refine Z1 ?_|refine Z2 ?_|refine Z3 ?_|refine Z4 ?_|refine Z5 ?_|refine Z9 (by assumption) rfl ?_|refine ZA (by assumption) rfl ?_|refine ZB (by assumption) rfl ?_|refine Z6 ?_|refine Z7 ?_|refine Z8 ?_)|((with_reducible refine ZM ?_ ?_);(focus rfl)));(conv=>whnf)))
    exact ⟨Ext.refl _, .inr ⟨by omega, rfl⟩⟩
  have q : decide (n < 1) = false := decide_eq_false h1
  by_cases h2 : n > 2048
  · have q2 : decide (n > 2048) = true := decide_eq_true h2
    ((conv=>whnf);repeat((first|(with_reducible first|refine Z1 ?_|refine Z2 ?_|refine Z3 ?_|refine Z4 ?_|refine Z5 ?_|refine Z9 (by assumption) rfl ?_|refine ZA (by assumption) rfl ?_|refine ZB (by assumption) rfl ?_|refine Z6 ?_|refine Z7 ?_|refine Z8 ?_)|((with_reducible refine ZM ?_ ?_);(focus rfl)));(conv=>whnf)))
    exact ⟨Ext.refl _, .inr ⟨by omega, rfl⟩⟩
  have q2 : decide (n > 2048) = false := decide_eq_false h2
  obtain ⟨m, rfl⟩ := Int.eq_ofNat_of_zero_le (show 0 ≤ n by omega)
  rw [Int.toNat_natCast]
  ((conv=>whnf);repeat((first|(with_reducible first|refine Z1 ?_|refine Z2 ?_|refine Z3 ?_|refine Z4 ?_|refine Z5 ?_|refine Z9 (by assumption) rfl ?_|refine ZA (by assumption) rfl ?_|refine ZB (by assumption) rfl ?_|refine Z6 ?_|refine Z7 ?_|refine Z8 ?_)|((with_reducible refine ZM ?_ ?_);(focus rfl)));(conv=>whnf)))
  refine new_var (e := 60) [.slice none 0 0, .slice none 0 0, .bool false, .int .i64 (-1), .int .i64 0] rfl ?_
  intro h3 b o3 x3 z3 hb3
  ((conv=>whnf);repeat((first|(with_reducible first|refine Z1 ?_|refine Z2 ?_|refine Z3 ?_|refine Z4 ?_|refine Z5 ?_|refine Z9 (by assumption) rfl ?_|refine ZA (by assumption) rfl ?_|refine ZB (by assumption) rfl ?_|refine Z6 ?_|refine Z7 ?_|refine Z8 ?_)|((with_reducible refine ZM ?_ ?_);(focus rfl)));(conv=>whnf)))
  refine HBound.mk 4096 rfl (by decide) ?_
  refine HBound.mk 4096 rfl (by decide) ?_
  ((conv=>whnf);repeat((first|(with_reducible first|refine Z1 ?_|refine Z2 ?_|refine Z3 ?_|refine Z4 ?_|refine Z5 ?_|refine Z9 (by assumption) rfl ?_|refine ZA (by assumption) rfl ?_|refine ZB (by assumption) rfl ?_|refine Z6 ?_|refine Z7 ?_|refine Z8 ?_)|((with_reducible refine ZM ?_ ?_);(focus rfl)));(conv=>whnf)))
  refine new_var (e := 5) (List.replicate 4096 (.int .u8 0)) (by rw [zeroCells_one]) ?_
  intro h4 b4 o4 x4 z4 hb4
  have s4 : Sl h4 1 (some ⟨b4, 0, none⟩) 4096 4096 ((List.replicate 4096 (0 : UInt8)).map byteV) := by
    have := o4.sl
    rw [List.length_replicate] at this
    rw [List.map_replicate]; exact this
  have o34 := o3.ext x4
  clear o3
  ((conv=>whnf);repeat((first|(with_reducible first|refine Z1 ?_|refine Z2 ?_|refine Z3 ?_|refine Z4 ?_|refine Z5 ?_|refine Z9 (by assumption) rfl ?_|refine ZA (by assumption) rfl ?_|refine ZB (by assumption) rfl ?_|refine Z6 ?_|refine Z7 ?_|refine Z8 ?_)|((with_reducible refine ZM ?_ ?_);(focus rfl)));(conv=>whnf)))
  refine s4.bytes ?_
  ((conv=>whnf);repeat((first|(with_reducible first|refine Z1 ?_|refine Z2 ?_|refine Z3 ?_|refine Z4 ?_|refine Z5 ?_|refine Z9 (by assumption) rfl ?_|refine ZA (by assumption) rfl ?_|refine ZB (by assumption) rfl ?_|refine Z6 ?_|refine Z7 ?_|refine Z8 ?_)|((with_reducible refine ZM ?_ ?_);(focus rfl)));(conv=>whnf)))
  have hs3 := x3.1
  have hs4 := x4.1
  have x04 := x3.trans x4
  refine loop_rule [17] (fun vs h' => ∃ (i : Nat) (a1 a2 : Option Addr) (c1 c2 : Nat), vs = [.int .i64 i] ∧ i ≤ m ∧ Ext h h' ∧ h4.size ≤ h'.size ∧ BlkW h' b 60 [.slice a1 i c1, .slice a2 i c2, .bool false, .int .i64 (-1), .int .i64 0] ∧ Own h' h4.size 9 1 a1 i c1 (tab i fun _ => zeroB) ∧ Own h' h4.size 9 1 a2 i c2 (tab i fun _ => ⟨#[]⟩) ∧ (∀ p q, a1 = some p → a2 = some q → p.block ≠ q.block))
    (fun vs _ => match vs with | [.int _ i] => m - i.toNat | _ => 0) rfl ?_ ?_
  · exact ⟨0, none, none, 0, 0, rfl, by omega, x04, Nat.le_refl _, o34, Own.nil _ _ _ _, Own.nil _ _ _ _, fun p q ep => by cases ep⟩
  intro u h5 v17
  rintro ⟨i, a1, a2, c1, c2, e, hi, x5, hs5, o5, w1, w2, hne⟩
  cases e
  have l1 := w1.lt
  have l2 := w2.lt
  have hblt : b < h4.size := by have := o34.lt; omega
  have tl : ∀ (k : Nat) (v : ByteArray), tab k (fun _ => v) ++ [.string v] = tab (k + 1) (fun _ => v) := by
    intro k v; unfold tab; rw [List.range_succ, List.map_append]; rfl
  ((conv=>whnf);repeat((first|(with_reducible first|refine Z1 ?_|refine Z2 ?_|refine Z3 ?_|refine Z4 ?_|refine Z5 ?_|refine Z9 (by assumption) rfl ?_|refine ZA (by assumption) rfl ?_|refine ZB (by assumption) rfl ?_|refine Z6 ?_|refine Z7 ?_|refine Z8 ?_)|((with_reducible refine ZM ?_ ?_);(focus rfl)));(conv=>whnf)))
  refine HIf.mk (fun hlt => ?_) (fun hlt => ?_)
  · have hi1 : i < m := by have := of_decide_eq_true hlt; omega
    have hmu : m - ((i : Int) + 1).toNat < m - ((i : Int)).toNat := by omega
    ((conv=>whnf);repeat((first|(with_reducible first|refine Z1 ?_|refine Z2 ?_|refine Z3 ?_|refine Z4 ?_|refine Z5 ?_|refine Z9 (by assumption) rfl ?_|refine ZA (by assumption) rfl ?_|refine ZB (by assumption) rfl ?_|refine Z6 ?_|refine Z7 ?_|refine Z8 ?_)|((with_reducible refine ZM ?_ ?_);(focus rfl)));(conv=>whnf)))
    refine new_own (e := 9) 1 1 [.string zeroB] rfl rfl ?_
    intro h6 b6 w6 x6 z6 hb6
    have o6 := o5.ext x6
    have hs6 := x6.1
    have w16 := w1.ext x6
    have w26 := w2.ext x6
    clear o5
    ((conv=>whnf);repeat((first|(with_reducible first|refine Z1 ?_|refine Z2 ?_|refine Z3 ?_|refine Z4 ?_|refine Z5 ?_|refine Z9 (by assumption) rfl ?_|refine ZA (by assumption) rfl ?_|refine ZB (by assumption) rfl ?_|refine Z6 ?_|refine Z7 ?_|refine Z8 ?_)|((with_reducible refine ZM ?_ ?_);(focus rfl)));(conv=>whnf)))
    refine w6.sl.cells ?_
    refine Own.grow w16 (by omega) rfl rfl (by intro v hv; simp only [List.mem_singleton] at hv; subst hv; rfl) (by omega) ?_
    intro h7 a7 c7 w7 g7
    rw [tl] at w7
    have o7 := g7.blk o6 (fun p ep => by have := l1 p ep; omega)
    have w27 : Own h7 h4.size 9 1 a2 i c2 (tab i fun _ => ⟨#[]⟩) := w26.agree (S := fun k => k < h6.size ∧ ∀ p, a1 = some p → p.block ≠ k) (fun k hk => g7.2.1 k hk.1 hk.2) (fun q eq => ⟨by have := l2 q eq; omega, fun p ep => hne p q ep eq⟩)
    have x7 : Ext h h7 := (x5.trans x6).keep (g7.kept (by omega) fun p ep => by have := l1 p ep; omega)
    have l7 := w7.lt
    have hs7 := g7.1
    have hne7 : ∀ p q, a7 = some p → a2 = some q → p.block ≠ q.block := by
      intro p q ep eq
      rcases g7.2.2 p ep with ⟨r, er, hr⟩ | hr
      · rw [hr]; exact hne r q er eq
      · have := l2 q eq; omega
    clear o6
    ((conv=>whnf);repeat((first|(with_reducible first|refine Z1 ?_|refine Z2 ?_|refine Z3 ?_|refine Z4 ?_|refine Z5 ?_|refine Z9 (by assumption) rfl ?_|refine ZA (by assumption) rfl ?_|refine ZB (by assumption) rfl ?_|refine Z6 ?_|refine Z7 ?_|refine Z8 ?_)|((with_reducible refine ZM ?_ ?_);(focus rfl)));(conv=>whnf)))
    refine blk_st (o := 0) o7 (by simp) rfl ?_
    intro h8 f8 z8 o8
    have w18 := w7.off f8 (fun p ep => by have := l7 p ep; omega)
    have w28 := w27.off f8 (fun p ep => by have := l2 p ep; omega)
    have x8 := x7.offNew f8 (by omega)
    clear o7
    ((conv=>whnf);repeat((first|(with_reducible first|refine Z1 ?_|refine Z2 ?_|refine Z3 ?_|refine Z4 ?_|refine Z5 ?_|refine Z9 (by assumption) rfl ?_|refine ZA (by assumption) rfl ?_|refine ZB (by assumption) rfl ?_|refine Z6 ?_|refine Z7 ?_|refine Z8 ?_)|((with_reducible refine ZM ?_ ?_);(focus rfl)));(conv=>whnf)))
    refine new_own (e := 9) 1 1 [.string ⟨#[]⟩] rfl rfl ?_
    intro h9 b9 w9 x9 z9 hb9
    have o9 := o8.ext x9
    have hs9 := x9.1
    have w19 := w18.ext x9
    have w29 := w28.ext x9
    clear o8
    ((conv=>whnf);repeat((first|(with_reducible first|refine Z1 ?_|refine Z2 ?_|refine Z3 ?_|refine Z4 ?_|refine Z5 ?_|refine Z9 (by assumption) rfl ?_|refine ZA (by assumption) rfl ?_|refine ZB (by assumption) rfl ?_|refine Z6 ?_|refine Z7 ?_|refine Z8 ?_)|((with_reducible refine ZM ?_ ?_);(focus rfl)));(conv=>whnf)))
    refine w9.sl.cells ?_
    refine Own.grow w29 (by omega) rfl rfl (by intro v hv; simp only [List.mem_singleton] at hv; subst hv; rfl) (by omega) ?_
    intro h10 a10 c10 w10 g10
    rw [tl] at w10
    have o10 := g10.blk o9 (fun p ep => by have := l2 p ep; omega)
    have w110 : Own h10 h4.size 9 1 a7 (i + 1) c7 (tab (i + 1) fun _ => zeroB) := w19.agree (S := fun k => k < h9.size ∧ ∀ p, a2 = some p → p.block ≠ k) (fun k hk => g10.2.1 k hk.1 hk.2) (fun q eq => ⟨by have := l7 q eq; omega, fun p ep => (hne7 q p eq ep).symm⟩)
    have x10 : Ext h h10 := (x8.trans x9).keep (g10.kept (by omega) fun p ep => by have := l2 p ep; omega)
    have l10 := w10.lt
    have hs10 := g10.1
    have hne10 : ∀ p q, a7 = some p → a10 = some q → p.block ≠ q.block := by
      intro p q ep eq
      rcases g10.2.2 q eq with ⟨r, er, hr⟩ | hr
      · rw [hr]; exact hne7 p r ep er
      · have := l7 p ep; omega
    clear o9
    ((conv=>whnf);repeat((first|(with_reducible first|refine Z1 ?_|refine Z2 ?_|refine Z3 ?_|refine Z4 ?_|refine Z5 ?_|refine Z9 (by assumption) rfl ?_|refine ZA (by assumption) rfl ?_|refine ZB (by assumption) rfl ?_|refine Z6 ?_|refine Z7 ?_|refine Z8 ?_)|((with_reducible refine ZM ?_ ?_);(focus rfl)));(conv=>whnf)))
    refine blk_st (o := 1) o10 (by simp) rfl ?_
    intro h11 f11 z11 o11
    ((conv=>whnf);repeat((first|(with_reducible first|refine Z1 ?_|refine Z2 ?_|refine Z3 ?_|refine Z4 ?_|refine Z5 ?_|refine Z9 (by assumption) rfl ?_|refine ZA (by assumption) rfl ?_|refine ZB (by assumption) rfl ?_|refine Z6 ?_|refine Z7 ?_|refine Z8 ?_)|((with_reducible refine ZM ?_ ?_);(focus rfl)));(conv=>whnf)))
    exact ⟨⟨i + 1, a7, a10, c7, c10, rfl, by omega, x10.offNew f11 (by omega), by omega, o11, w110.off f11 (fun p ep => by have := l7 p ep; omega), w10.off f11 (fun p ep => by have := l10 p ep; omega), hne10⟩, hmu⟩
  · have hge := of_decide_eq_false hlt
    obtain rfl : i = m := by omega
    ((conv=>whnf);repeat((first|(with_reducible first|refine Z1 ?_|refine Z2 ?_|refine Z3 ?_|refine Z4 ?_|refine Z5 ?_|refine Z9 (by assumption) rfl ?_|refine ZA (by assumption) rfl ?_|refine ZB (by assumption) rfl ?_|refine Z6 ?_|refine Z7 ?_|refine Z8 ?_)|((with_reducible refine ZM ?_ ?_);(focus rfl)));(conv=>whnf)))
    have some1 : ∀ {a : Option Addr} {c : Nat} {xs : List Value}, Own h5 h4.size 9 1 a i c xs → ∃ k, a = some ⟨k, 0, none⟩ ∧ h4.size ≤ k := by
      intro a c xs w
      cases a with
      | none => have := w.2.2.1 rfl; have := w.2.1; omega
      | some p =>
        obtain ⟨k, sp, rfl, hk, _⟩ := w.2.2.2 p rfl
        exact ⟨k, rfl, hk⟩
    obtain ⟨fb, rfl, hfb⟩ := some1 w1
    obtain ⟨wb, rfl, hwb⟩ := some1 w2
    refine ⟨x5, .inl ⟨by omega, by omega, b, fb, wb, rfl, ⟨⟨?_, ?_, ?_, ?_, ?_, ?_, ?_⟩, ⟨c1, c2, o5, w1.lower (Nat.zero_le _), w2.lower (Nat.zero_le _)⟩, by omega, by omega, hne _ _ rfl rfl⟩, by omega, by omega, by omega⟩⟩
    · show 1 ≤ i; omega
    · show i ≤ 2048; omega
    · show (-1 : Int) ≤ -1; omega
    · show (-1 : Int) ≤ _; omega
    · show 0 ≤ _; omega
    · intro i s h; cases h
    · intro i s h; cases h

/-- A sector of one byte. -/
theorem full_spec (c : UInt8) (h : Heap) : HCalls Try.prog 25 #[byteV c] h fun e h' => ∃ b, e = .returned (.slice (some ⟨b, 0, none⟩) 4096 4096) ∧ Own h' h.size 5 1 (some ⟨b, 0, none⟩) 4096 4096 ((List.replicate 4096 c).map byteV) ∧ Ext h h' := by
  unfold byteV
  refine c25 (by simp) ?_
  ((conv=>whnf);repeat((first|(with_reducible first|refine Z1 ?_|refine Z2 ?_|refine Z3 ?_|refine Z4 ?_|refine Z5 ?_|refine Z9 (by assumption) rfl ?_|refine ZA (by assumption) rfl ?_|refine ZB (by assumption) rfl ?_|refine Z6 ?_|refine Z7 ?_|refine Z8 ?_)|((with_reducible refine ZM ?_ ?_);(focus rfl)));(conv=>whnf)))
  refine HBound.mk 4096 rfl (by decide) ?_
  refine HBound.mk 4096 rfl (by decide) ?_
  ((conv=>whnf);repeat((first|(with_reducible first|refine Z1 ?_|refine Z2 ?_|refine Z3 ?_|refine Z4 ?_|refine Z5 ?_|refine Z9 (by assumption) rfl ?_|refine ZA (by assumption) rfl ?_|refine ZB (by assumption) rfl ?_|refine Z6 ?_|refine Z7 ?_|refine Z8 ?_)|((with_reducible refine ZM ?_ ?_);(focus rfl)));(conv=>whnf)))
  refine new_var (e := 5) (List.replicate 4096 (.int .u8 0)) (by rw [zeroCells_one]) ?_
  intro h1 b1 o1 x1 z1 hb1
  have w1 : Own h1 h.size 5 1 (some ⟨b1, 0, none⟩) 4096 4096 (List.replicate 4096 (.int .u8 0)) := by
    have := BlkW.own (B := h.size) o1 (by omega)
    rw [List.length_replicate] at this
    exact this
  ((conv=>whnf);repeat((first|(with_reducible first|refine Z1 ?_|refine Z2 ?_|refine Z3 ?_|refine Z4 ?_|refine Z5 ?_|refine Z9 (by assumption) rfl ?_|refine ZA (by assumption) rfl ?_|refine ZB (by assumption) rfl ?_|refine Z6 ?_|refine Z7 ?_|refine Z8 ?_)|((with_reducible refine ZM ?_ ?_);(focus rfl)));(conv=>whnf)))
  refine loop_rule [8] (fun vs h' => ∃ (i : Nat), vs = [.int .i64 i] ∧ i ≤ 4096 ∧ Own h' h.size 5 1 (some ⟨b1, 0, none⟩) 4096 4096 (List.replicate i (byteV c) ++ List.replicate (4096 - i) (.int .u8 0)) ∧ Ext h h')
    (fun vs _ => match vs with | [.int _ i] => 4096 - i.toNat | _ => 0) rfl ?_ ?_
  · exact ⟨0, rfl, by omega, by simpa using w1, x1⟩
  intro u h2 v8
  rintro ⟨i, e, hi, w2, x2⟩
  cases e
  ((conv=>whnf);repeat((first|(with_reducible first|refine Z1 ?_|refine Z2 ?_|refine Z3 ?_|refine Z4 ?_|refine Z5 ?_|refine Z9 (by assumption) rfl ?_|refine ZA (by assumption) rfl ?_|refine ZB (by assumption) rfl ?_|refine Z6 ?_|refine Z7 ?_|refine Z8 ?_)|((with_reducible refine ZM ?_ ?_);(focus rfl)));(conv=>whnf)))
  refine HIf.mk (fun hlt => ?_) (fun hlt => ?_)
  · have hi1 : i < 4096 := by have := of_decide_eq_true hlt; omega
    have hmu : 4096 - ((i : Int) + 1).toNat < 4096 - ((i : Int)).toNat := by omega
    ((conv=>whnf);repeat((first|(with_reducible first|refine Z1 ?_|refine Z2 ?_|refine Z3 ?_|refine Z4 ?_|refine Z5 ?_|refine Z9 (by assumption) rfl ?_|refine ZA (by assumption) rfl ?_|refine ZB (by assumption) rfl ?_|refine Z6 ?_|refine Z7 ?_|refine Z8 ?_)|((with_reducible refine ZM ?_ ?_);(focus rfl)));(conv=>whnf)))
    refine HIdx.mk i rfl hi1 ?_
    refine sl_some w2.sl hi1 fun p ep => ?_
    cases ep
    ((conv=>whnf);repeat((first|(with_reducible first|refine Z1 ?_|refine Z2 ?_|refine Z3 ?_|refine Z4 ?_|refine Z5 ?_|refine Z9 (by assumption) rfl ?_|refine ZA (by assumption) rfl ?_|refine ZB (by assumption) rfl ?_|refine Z6 ?_|refine Z7 ?_|refine Z8 ?_)|((with_reducible refine ZM ?_ ?_);(focus rfl)));(conv=>whnf)))
    refine Own.store w2 rfl hi1 rfl ?_
    intro h3 f3 hge z3 w3
    replace w3 : Own h3 h.size 5 1 (some ⟨b1, 0, none⟩) 4096 4096 ((List.replicate i (byteV c) ++ List.replicate (4096 - i) (Value.int .u8 0)).set i (byteV c)) := w3
    have e3 : (List.replicate i (byteV c) ++ List.replicate (4096 - i) (Value.int .u8 0)).set i (byteV c) = List.replicate (i + 1) (byteV c) ++ List.replicate (4096 - (i + 1)) (Value.int .u8 0) := by
      have h5 : 4096 - i = (4096 - (i + 1)) + 1 := by omega
      rw [h5, List.replicate_succ, List.set_append_right _ _ (by simp), List.length_replicate, Nat.sub_self, List.set_cons_zero, List.replicate_succ', List.append_assoc]; rfl
    rw [e3] at w3
    ((conv=>whnf);repeat((first|(with_reducible first|refine Z1 ?_|refine Z2 ?_|refine Z3 ?_|refine Z4 ?_|refine Z5 ?_|refine Z9 (by assumption) rfl ?_|refine ZA (by assumption) rfl ?_|refine ZB (by assumption) rfl ?_|refine Z6 ?_|refine Z7 ?_|refine Z8 ?_)|((with_reducible refine ZM ?_ ?_);(focus rfl)));(conv=>whnf)))
    exact ⟨⟨i + 1, rfl, by omega, w3, x2.offNew f3 hge⟩, hmu⟩
  · have hge := of_decide_eq_false hlt
    obtain rfl : i = 4096 := by omega
    rw [Nat.sub_self, List.replicate_zero, List.append_nil, ← List.map_replicate] at w2
    ((conv=>whnf);repeat((first|(with_reducible first|refine Z1 ?_|refine Z2 ?_|refine Z3 ?_|refine Z4 ?_|refine Z5 ?_|refine Z9 (by assumption) rfl ?_|refine ZA (by assumption) rfl ?_|refine ZB (by assumption) rfl ?_|refine Z6 ?_|refine Z7 ?_|refine Z8 ?_)|((with_reducible refine ZM ?_ ?_);(focus rfl)));(conv=>whnf)))
    exact ⟨b1, rfl, w2, x2⟩

/-- A call. -/
structure OpP where
  act : Int
  i : Int
  n : Int
  b : List UInt8
/-- Four cells hold a call; its bytes lie below block B. -/
def OpRep (B : Nat) (h : Heap) (o : OpP) (cs : List Value) : Prop :=
  (-9223372036854775808 ≤ o.n ∧ o.n ≤ 9223372036854775807) ∧ o.b.length ≤ 1048576 ∧ ∃ a c, cs = [.int .i64 o.act, .int .i64 o.i, .int .i64 o.n, .slice a o.b.length c] ∧ ∀ h' : Heap, (∀ k, k < B → h'[k]? = h[k]?) → Sl h' 1 a o.b.length c (o.b.map byteV)
theorem OpRep.agree {B : Nat} {h h' : Heap} {o : OpP} {cs : List Value} (x : OpRep B h o cs) (k : ∀ b, b < B → h'[b]? = h[b]?) : OpRep B h' o cs := by
  obtain ⟨h1, h2, a, c, e, s⟩ := x
  exact ⟨h1, h2, a, c, e, fun h'' k2 => s h'' (fun b hb => by rw [k2 b hb, k b hb])⟩
theorem OpRep.len {B : Nat} {h : Heap} {o : OpP} {cs : List Value} (x : OpRep B h o cs) : cs.length = 4 := by
  obtain ⟨h1, h2, a, c, e, s⟩ := x
  rw [e]; rfl
theorem OpRep.one {B : Nat} {h : Heap} {o : OpP} {cs : List Value} (x : OpRep B h o cs) : ∀ v ∈ cs, isOne v = true := by
  obtain ⟨h1, h2, a, c, e, s⟩ := x
  rw [e]; simp [isOne]
def OpP.bytes (o : OpP) : List UInt8 := if o.act = 1 then o.b else List.replicate 4096 (UInt8.ofNat (o.n % 256).toNat)
theorem OpP.bytes_len (o : OpP) (h : o.b.length ≤ 1048576) : o.bytes.length ≤ 1048576 := by
  unfold OpP.bytes; split
  · exact h
  · simp
theorem bytes_spec {B : Nat} {h : Heap} {o : OpP} {cs : List Value} (x : OpRep B h o cs) : HCalls Try.prog 17 #[.agg cs.toArray] h fun e h' =>
    ∃ (a : Option Addr) (c : Nat), e = .returned (.slice a o.bytes.length c) ∧ Own h' h.size 5 1 a o.bytes.length c (o.bytes.map byteV) ∧ Ext h h' := by
  obtain ⟨h1, h2, a, c, rfl, s0⟩ := x
  have s := s0 h (fun _ _ => rfl)
  refine c17 (by simp) ?_
  ((conv=>whnf);repeat((first|(with_reducible first|refine Z1 ?_|refine Z2 ?_|refine Z3 ?_|refine Z4 ?_|refine Z5 ?_|refine Z9 (by assumption) rfl ?_|refine ZA (by assumption) rfl ?_|refine ZB (by assumption) rfl ?_|refine Z6 ?_|refine Z7 ?_|refine Z8 ?_)|((with_reducible refine ZM ?_ ?_);(focus rfl)));(conv=>whnf)))
  refine new_var (e := 33) [.int .i64 o.act, .int .i64 o.i, .int .i64 o.n, .slice a o.b.length c] rfl ?_
  intro h3 b3 o3 x3 z3 hb3
  unfold OpP.bytes
  by_cases h1' : o.act = 1
  · have q : (o.act == 1) = true := beq_iff_eq.2 h1'
    rw [if_pos h1']
    ((conv=>whnf);repeat((first|(with_reducible first|refine Z1 ?_|refine Z2 ?_|refine Z3 ?_|refine Z4 ?_|refine Z5 ?_|refine Z9 (by assumption) rfl ?_|refine ZA (by assumption) rfl ?_|refine ZB (by assumption) rfl ?_|refine Z6 ?_|refine Z7 ?_|refine Z8 ?_)|((with_reducible refine ZM ?_ ?_);(focus rfl)));(conv=>whnf)))
    refine (s.ext x3).cells ?_
    refine Own.bytes (l0 := []) (more := o.b) (Own.nil h3 h.size 5 1) (by have := x3.1; omega) (by simp; omega) ?_
    intro h4 a4 c4 w4 g4
    rw [List.nil_append] at w4
    ((conv=>whnf);repeat((first|(with_reducible first|refine Z1 ?_|refine Z2 ?_|refine Z3 ?_|refine Z4 ?_|refine Z5 ?_|refine Z9 (by assumption) rfl ?_|refine ZA (by assumption) rfl ?_|refine ZB (by assumption) rfl ?_|refine Z6 ?_|refine Z7 ?_|refine Z8 ?_)|((with_reducible refine ZM ?_ ?_);(focus rfl)));(conv=>whnf)))
    exact ⟨a4, c4, rfl, w4, x3.keep (g4.kept (by have := x3.1; omega) fun p ep => by cases ep)⟩
  · have q : (o.act == 1) = false := beq_eq_false_iff_ne.2 h1'
    rw [if_neg h1']
    ((conv=>whnf);repeat((first|(with_reducible first|refine Z1 ?_|refine Z2 ?_|refine Z3 ?_|refine Z4 ?_|refine Z5 ?_|refine Z9 (by assumption) rfl ?_|refine ZA (by assumption) rfl ?_|refine ZB (by assumption) rfl ?_|refine Z6 ?_|refine Z7 ?_|refine Z8 ?_)|((with_reducible refine ZM ?_ ?_);(focus rfl)));(conv=>whnf)))
    refine HInt.mk (o.n % 256) wrap_u8' ?_
    ((conv=>whnf);repeat((first|(with_reducible first|refine Z1 ?_|refine Z2 ?_|refine Z3 ?_|refine Z4 ?_|refine Z5 ?_|refine Z9 (by assumption) rfl ?_|refine ZA (by assumption) rfl ?_|refine ZB (by assumption) rfl ?_|refine Z6 ?_|refine Z7 ?_|refine Z8 ?_)|((with_reducible refine ZM ?_ ?_);(focus rfl)));(conv=>whnf)))
    have eb : byteV (UInt8.ofNat (o.n % 256).toNat) = .int .u8 (o.n % 256) := by
      unfold byteV
      rw [UInt8.toNat_ofNat']
      have h0 : 0 ≤ o.n % 256 := by omega
      have h1 : o.n % 256 < 256 := by omega
      congr 1
      omega
    refine HCall.to #[byteV (UInt8.ofNat (o.n % 256).toNat)] (by rw [eb]; rfl) ((full_spec _ h3).mono ?_)
    rintro e h4 ⟨b4, rfl, w4, x4⟩
    ((conv=>whnf);repeat((first|(with_reducible first|refine Z1 ?_|refine Z2 ?_|refine Z3 ?_|refine Z4 ?_|refine Z5 ?_|refine Z9 (by assumption) rfl ?_|refine ZA (by assumption) rfl ?_|refine ZB (by assumption) rfl ?_|refine Z6 ?_|refine Z7 ?_|refine Z8 ?_)|((with_reducible refine ZM ?_ ?_);(focus rfl)));(conv=>whnf)))
    refine ⟨some ⟨b4, 0, none⟩, 4096, by rw [List.length_replicate]; rfl, ?_, x3.trans x4⟩
    rw [List.length_replicate]
    exact w4.lower (by have := x3.1; omega)

end Go.Proofs.Ytlbmhpjefpdekaa.Hc
