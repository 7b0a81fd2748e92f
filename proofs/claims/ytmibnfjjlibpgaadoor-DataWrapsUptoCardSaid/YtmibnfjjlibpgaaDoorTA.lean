/- The example, live. -/
import Derived.Test.YtmibnfjjlibpgaaDoorT9
set_option linter.unusedVariables false
set_option linter.unusedSimpArgs false
namespace Go.Proofs.YtmibnfjjlibpgaaDoor.Hc
open Go Go.H Go.Proofs
set_option maxRecDepth 100000
set_option maxHeartbeats 8000000

theorem Sl.mk5 {h : Heap} {b e n : Nat} {cs : List Value} (x : BlkW h b e cs) (hl : cs.length = n * 5) : Sl h 5 (some ⟨b, 0, none⟩) n n cs :=
  ⟨hl, Nat.le_refl _, fun e => (by cases e), fun p ep i hi => by cases ep; rw [add_mk, Nat.zero_add, x.blk.cell]⟩
def abDT : DT := .mk 6 0 ⟨#[]⟩ [⟨#[0, 97]⟩, ⟨#[0, 98]⟩] [.mk 3 1 ⟨#[]⟩ [] [], .mk 5 0 ⟨#[]⟩ [] [.mk 1 0 ⟨#[]⟩ [] [], .mk 4 0 ⟨#[0, 120]⟩ [] []]]
theorem ab_spec (h : Heap) : HCalls Tryd.prog 23 #[] h fun e h' => ∃ cs : List Value, e = .returned (.agg cs.toArray) ∧ Rep h' abDT cs ∧ Ext h h' := by
  refine c23 (by simp) ?_
  ((conv=>whnf);repeat((first|(with_reducible first|refine Z1 ?_|refine Z2 ?_|refine Z3 ?_|refine Z4 ?_|refine Z5 ?_|refine Z9 (by assumption) rfl ?_|refine ZA (by assumption) rfl ?_|refine ZB (by assumption) rfl ?_|refine Z6 ?_|refine Z7 ?_|refine Z8 ?_)|((with_reducible refine ZM ?_ ?_);(focus rfl)));(conv=>whnf)))
  refine new_var (e := 25) zeroD rfl ?_
  intro h1 b1 o1 x1 z1 hb1
  ((conv=>whnf);repeat((first|(with_reducible first|refine Z1 ?_|refine Z2 ?_|refine Z3 ?_|refine Z4 ?_|refine Z5 ?_|refine Z9 (by assumption) rfl ?_|refine ZA (by assumption) rfl ?_|refine ZB (by assumption) rfl ?_|refine Z6 ?_|refine Z7 ?_|refine Z8 ?_)|((with_reducible refine ZM ?_ ?_);(focus rfl)));(conv=>whnf)))
  refine new_var (e := 9) [.string ⟨#[0, 97]⟩, .string ⟨#[0, 98]⟩] rfl ?_
  intro h2 b2 o2 x2 z2 hb2
  ((conv=>whnf);repeat((first|(with_reducible first|refine Z1 ?_|refine Z2 ?_|refine Z3 ?_|refine Z4 ?_|refine Z5 ?_|refine Z9 (by assumption) rfl ?_|refine ZA (by assumption) rfl ?_|refine ZB (by assumption) rfl ?_|refine Z6 ?_|refine Z7 ?_|refine Z8 ?_)|((with_reducible refine ZM ?_ ?_);(focus rfl)));(conv=>whnf)))
  refine new_var (e := 25) [.int .i64 1, .int .i64 0, .string ⟨#[]⟩, .slice none 0 0, .slice none 0 0, .int .i64 4, .int .i64 0, .string ⟨#[0, 120]⟩, .slice none 0 0, .slice none 0 0] rfl ?_
  intro h3 b3 o3 x3 z3 hb3
  ((conv=>whnf);repeat((first|(with_reducible first|refine Z1 ?_|refine Z2 ?_|refine Z3 ?_|refine Z4 ?_|refine Z5 ?_|refine Z9 (by assumption) rfl ?_|refine ZA (by assumption) rfl ?_|refine ZB (by assumption) rfl ?_|refine Z6 ?_|refine Z7 ?_|refine Z8 ?_)|((with_reducible refine ZM ?_ ?_);(focus rfl)));(conv=>whnf)))
  refine new_var (e := 25) [.int .i64 3, .int .i64 1, .string ⟨#[]⟩, .slice none 0 0, .slice none 0 0, .int .i64 5, .int .i64 0, .string ⟨#[]⟩, .slice none 0 0, .slice (some ⟨b3, 0, none⟩) 2 2] rfl ?_
  intro h4 b4 o4 x4 z4 hb4
  have x14 := x2.trans (x3.trans x4)
  ((conv=>whnf);repeat((first|(with_reducible first|refine Z1 ?_|refine Z2 ?_|refine Z3 ?_|refine Z4 ?_|refine Z5 ?_|refine Z9 (by assumption) rfl ?_|refine ZA (by assumption) rfl ?_|refine ZB (by assumption) rfl ?_|refine Z6 ?_|refine Z7 ?_|refine Z8 ?_)|((with_reducible refine ZM ?_ ?_);(focus rfl)));(conv=>whnf)))
  refine store_new (vs := [.int .i64 6, .int .i64 0, .string ⟨#[]⟩, .slice (some ⟨b2, 0, none⟩) 2 2, .slice (some ⟨b4, 0, none⟩) 2 2]) (o1.ext x14) rfl (by simp [isOne]) ?_
  intro h5 f5 z5 o5
  have b1lt := o1.lt
  have b2lt := o2.lt
  have b3lt := o3.lt
  have hs1 := x1.1
  have hs2 := x2.1
  have hs3 := x3.1
  have hs4 := x4.1
  have p2 := (o2.ext (x3.trans x4)).offk f5 (by omega)
  have p3 := (o3.ext x4).offk f5 (by omega)
  have p4 := o4.offk f5 (by omega)
  ((conv=>whnf);repeat((first|(with_reducible first|refine Z1 ?_|refine Z2 ?_|refine Z3 ?_|refine Z4 ?_|refine Z5 ?_|refine Z9 (by assumption) rfl ?_|refine ZA (by assumption) rfl ?_|refine ZB (by assumption) rfl ?_|refine Z6 ?_|refine Z7 ?_|refine Z8 ?_)|((with_reducible refine ZM ?_ ?_);(focus rfl)));(conv=>whnf)))
  refine ⟨_, rfl, ?_, ((x1.trans x14).offNew f5 (by omega))⟩
  unfold abDT
  simp only [Rep, Reps]
  have i0 : ∀ n : Int, 0 ≤ n → n ≤ 9 → i64 n := fun n h0 h1 => by unfold i64; omega
  refine ⟨i0 _ (by decide) (by decide), i0 _ (by decide) (by decide), by decide, by simp, by simp, by simp; decide, some ⟨b2, 0, none⟩, 2, some ⟨b4, 0, none⟩, 2, _, rfl, p2.sl, Sl.mk5 p4 rfl, [.int .i64 3, .int .i64 1, .string ⟨#[]⟩, .slice none 0 0, .slice none 0 0], [.int .i64 5, .int .i64 0, .string ⟨#[]⟩, .slice none 0 0, .slice (some ⟨b3, 0, none⟩) 2 2], rfl, ?_, [.int .i64 5, .int .i64 0, .string ⟨#[]⟩, .slice none 0 0, .slice (some ⟨b3, 0, none⟩) 2 2], [], rfl, ?_, rfl⟩
  · exact ⟨i0 _ (by decide) (by decide), i0 _ (by decide) (by decide), by decide, by simp, by simp, by simp, none, 0, none, 0, [], rfl, Sl.nil _ _, Sl.nil _ _, rfl⟩
  · refine ⟨i0 _ (by decide) (by decide), i0 _ (by decide) (by decide), by decide, by simp, by simp, by simp, none, 0, some ⟨b3, 0, none⟩, 2, _, rfl, Sl.nil _ _, Sl.mk5 p3 rfl, [.int .i64 1, .int .i64 0, .string ⟨#[]⟩, .slice none 0 0, .slice none 0 0], [.int .i64 4, .int .i64 0, .string ⟨#[0, 120]⟩, .slice none 0 0, .slice none 0 0], rfl, ?_, [.int .i64 4, .int .i64 0, .string ⟨#[0, 120]⟩, .slice none 0 0, .slice none 0 0], [], rfl, ?_, rfl⟩
    · exact ⟨i0 _ (by decide) (by decide), i0 _ (by decide) (by decide), by decide, by simp, by simp, by simp, none, 0, none, 0, [], rfl, Sl.nil _ _, Sl.nil _ _, rfl⟩
    · exact ⟨i0 _ (by decide) (by decide), i0 _ (by decide) (by decide), by decide, by simp, by simp, by simp, none, 0, none, 0, [], rfl, Sl.nil _ _, Sl.nil _ _, rfl⟩

theorem ab_may : may abDT := by
  have hg : GoodKeys [⟨#[0, 97]⟩, ⟨#[0, 98]⟩] 2 := ⟨by decide, by decide, rfl⟩
  unfold abDT
  simp only [may, mays, Own1, List.length_cons, List.length_nil]
  simp [hg]
  decide
theorem ab_vol : vol abDT = 38 := by decide
theorem ab_deep : deep abDT ≤ 20 := by decide
theorem ab_txt : txt abDT = [123, 34, 97, 34, 58, 49, 44, 34, 98, 34, 58, 91, 110, 117, 108, 108, 44, 34, 120, 34, 93, 125] := by
  have e1 : Lib.itoa 1 = [49] := by unfold Lib.itoa; rw [if_neg (by decide)]; rw [Lib.decDigits]; rfl
  unfold abDT
  simp only [txt, txts]
  rw [e1]
  decide
theorem ab_sz : sz abDT = 5 := by decide
theorem ab_get : getX abDT ⟨#[0, 97]⟩ = (.mk 3 1 ⟨#[]⟩ [] [], true) := by
  unfold getX abDT
  simp [getP, DT.keys, DT.list]
theorem nine_not : ¬ may (.mk 9 0 ⟨#[]⟩ [] []) := by
  simp only [may, Own1]; omega

theorem live_spec (h : Heap) (gl : Glob h) : HCalls Tryd.prog 10 #[] h fun e h' => e = .returned (.bool true) ∧ Ext h h' := by
  refine c10 (by simp) ?_
  ((conv=>whnf);repeat((first|(with_reducible first|refine Z1 ?_|refine Z2 ?_|refine Z3 ?_|refine Z4 ?_|refine Z5 ?_|refine Z9 (by assumption) rfl ?_|refine ZA (by assumption) rfl ?_|refine ZB (by assumption) rfl ?_|refine Z6 ?_|refine Z7 ?_|refine Z8 ?_)|((with_reducible refine ZM ?_ ?_);(focus rfl)));(conv=>whnf)))
  refine HCall.mk ((ab_spec h).mono ?_)
  rintro e h1 ⟨cs1, rfl, r1, x1⟩
  ((conv=>whnf);repeat((first|(with_reducible first|refine Z1 ?_|refine Z2 ?_|refine Z3 ?_|refine Z4 ?_|refine Z5 ?_|refine Z9 (by assumption) rfl ?_|refine ZA (by assumption) rfl ?_|refine ZB (by assumption) rfl ?_|refine Z6 ?_|refine Z7 ?_|refine Z8 ?_)|((with_reducible refine ZM ?_ ?_);(focus rfl)));(conv=>whnf)))
  refine HCall.mk ((text_spec abDT h1 cs1 r1 (by rw [ab_vol]; decide) (by have := ab_deep; omega) (gl.ext x1)).mono ?_)
  rintro e h2 ⟨n, s, rfl, ⟨hc, hs⟩, x2⟩
  obtain rfl : n = 0 := by
    have := ab_may
    have := ab_deep
    rcases hc with h | h | h
    · exact h.2.2
    · omega
    · exact absurd ab_may h.1
  rw [if_pos rfl, ab_txt] at hs
  subst hs
  have x12 := x1.trans x2
  ((conv=>whnf);repeat((first|(with_reducible first|refine Z1 ?_|refine Z2 ?_|refine Z3 ?_|refine Z4 ?_|refine Z5 ?_|refine Z9 (by assumption) rfl ?_|refine ZA (by assumption) rfl ?_|refine ZB (by assumption) rfl ?_|refine Z6 ?_|refine Z7 ?_|refine Z8 ?_)|((with_reducible refine ZM ?_ ?_);(focus rfl)));(conv=>whnf)))
  refine HCall.mk ((ab_spec h2).mono ?_)
  rintro e h3 ⟨cs3, rfl, r3, x3⟩
  ((conv=>whnf);repeat((first|(with_reducible first|refine Z1 ?_|refine Z2 ?_|refine Z3 ?_|refine Z4 ?_|refine Z5 ?_|refine Z9 (by assumption) rfl ?_|refine ZA (by assumption) rfl ?_|refine ZB (by assumption) rfl ?_|refine Z6 ?_|refine Z7 ?_|refine Z8 ?_)|((with_reducible refine ZM ?_ ?_);(focus rfl)));(conv=>whnf)))
  refine HCall.mk ((get_spec abDT ⟨#[0, 97]⟩ h3 cs3 r3 (by rw [ab_vol]; decide)).mono ?_)
  rintro e h4 ⟨ds, rfl, r4, x4⟩
  rw [ab_get] at r4 ⊢
  have rl := r4.len
  ((conv=>whnf);repeat((first|(with_reducible first|refine Z1 ?_|refine Z2 ?_|refine Z3 ?_|refine Z4 ?_|refine Z5 ?_|refine Z9 (by assumption) rfl ?_|refine ZA (by assumption) rfl ?_|refine ZB (by assumption) rfl ?_|refine Z6 ?_|refine Z7 ?_|refine Z8 ?_)|((with_reducible refine ZM ?_ ?_);(focus rfl)));(conv=>whnf)))
  refine new_var (e := 25) zeroD rfl ?_
  intro h5 b5 o5 x5 z5 hb5
  ((conv=>whnf);repeat((first|(with_reducible first|refine Z1 ?_|refine Z2 ?_|refine Z3 ?_|refine Z4 ?_|refine Z5 ?_|refine Z9 (by assumption) rfl ?_|refine ZA (by assumption) rfl ?_|refine ZB (by assumption) rfl ?_|refine Z6 ?_|refine Z7 ?_|refine Z8 ?_)|((with_reducible refine ZM ?_ ?_);(focus rfl)));(conv=>whnf)))
  refine HMust.mk (by simpa using rl) ?_
  refine store_new o5 (by simpa using rl) (by simpa using r4.one) ?_
  intro h6 f6 z6 o6
  have x46 : Ext h4 h6 := x5.offNew f6 (by omega)
  have x06 := x12.trans (x3.trans (x4.trans x46))
  have qs : strEq ⟨#[123, 34, 97, 34, 58, 49, 44, 34, 98, 34, 58, 91, 110, 117, 108, 108, 44, 34, 120, 34, 93, 125]⟩ ⟨#[123, 34, 97, 34, 58, 49, 44, 34, 98, 34, 58, 91, 110, 117, 108, 108, 44, 34, 120, 34, 93, 125]⟩ = true := (strEq_iff _ _).2 rfl
  ((conv=>whnf);repeat((first|(with_reducible first|refine Z1 ?_|refine Z2 ?_|refine Z3 ?_|refine Z4 ?_|refine Z5 ?_|refine Z9 (by assumption) rfl ?_|refine ZA (by assumption) rfl ?_|refine ZB (by assumption) rfl ?_|refine Z6 ?_|refine Z7 ?_|refine Z8 ?_)|((with_reducible refine ZM ?_ ?_);(focus rfl)));(conv=>whnf)))
  refine HCall.mk ((ab_spec h6).mono ?_)
  rintro e h7 ⟨cs7, rfl, r7, x7⟩
  ((conv=>whnf);repeat((first|(with_reducible first|refine Z1 ?_|refine Z2 ?_|refine Z3 ?_|refine Z4 ?_|refine Z5 ?_|refine Z9 (by assumption) rfl ?_|refine ZA (by assumption) rfl ?_|refine ZB (by assumption) rfl ?_|refine Z6 ?_|refine Z7 ?_|refine Z8 ?_)|((with_reducible refine ZM ?_ ?_);(focus rfl)));(conv=>whnf)))
  refine HCall.mk ((size_spec abDT h7 cs7 r7 (by rw [ab_vol]; decide)).mono ?_)
  rintro e h8 ⟨rfl, x8⟩
  rw [ab_sz]
  have o8 := o6.ext (x7.trans x8)
  simp only [Rep] at r4
  obtain ⟨_, _, _, _, _, _, ka, kc, la, lc, xs, rfl, _⟩ := r4
  ((conv=>whnf);repeat((first|(with_reducible first|refine Z1 ?_|refine Z2 ?_|refine Z3 ?_|refine Z4 ?_|refine Z5 ?_|refine Z9 (by assumption) rfl ?_|refine ZA (by assumption) rfl ?_|refine ZB (by assumption) rfl ?_|refine Z6 ?_|refine Z7 ?_|refine Z8 ?_)|((with_reducible refine ZM ?_ ?_);(focus rfl)));(conv=>whnf)))
  have er : Rep h8 (.mk 9 0 ⟨#[]⟩ [] []) [.int .i64 9, .int .i64 0, .string ⟨#[]⟩, .slice none 0 0, .slice none 0 0] := by
    simp only [Rep]
    exact ⟨by unfold i64; omega, by unfold i64; omega, by decide, by simp, by simp, by simp, none, 0, none, 0, [], rfl, Sl.nil _ _, Sl.nil _ _, by simp [Reps]⟩
  refine HCall.mk ((check17_spec (.mk 9 0 ⟨#[]⟩ [] []) h8 _ er (by simp [deep, deeps])).mono ?_)
  rintro e h9 ⟨n, rfl, hc9, x9⟩
  obtain rfl : n = 30 := by
    rcases hc9 with h | h | h
    · exact absurd h.1 nine_not
    · exact absurd h.1 nine_not
    · exact h.2
  ((conv=>whnf);repeat((first|(with_reducible first|refine Z1 ?_|refine Z2 ?_|refine Z3 ?_|refine Z4 ?_|refine Z5 ?_|refine Z9 (by assumption) rfl ?_|refine ZA (by assumption) rfl ?_|refine ZB (by assumption) rfl ?_|refine Z6 ?_|refine Z7 ?_|refine Z8 ?_)|((with_reducible refine ZM ?_ ?_);(focus rfl)));(conv=>whnf)))
  refine HCall.mk ((ab_spec h9).mono ?_)
  rintro e h10 ⟨cs10, rfl, r10, x10⟩
  ((conv=>whnf);repeat((first|(with_reducible first|refine Z1 ?_|refine Z2 ?_|refine Z3 ?_|refine Z4 ?_|refine Z5 ?_|refine Z9 (by assumption) rfl ?_|refine ZA (by assumption) rfl ?_|refine ZB (by assumption) rfl ?_|refine Z6 ?_|refine Z7 ?_|refine Z8 ?_)|((with_reducible refine ZM ?_ ?_);(focus rfl)));(conv=>whnf)))
  refine HCall.mk ((ab_spec h10).mono ?_)
  rintro e h11 ⟨cs11, rfl, r11, x11⟩
  ((conv=>whnf);repeat((first|(with_reducible first|refine Z1 ?_|refine Z2 ?_|refine Z3 ?_|refine Z4 ?_|refine Z5 ?_|refine Z9 (by assumption) rfl ?_|refine ZA (by assumption) rfl ?_|refine ZB (by assumption) rfl ?_|refine Z6 ?_|refine Z7 ?_|refine Z8 ?_)|((with_reducible refine ZM ?_ ?_);(focus rfl)));(conv=>whnf)))
  refine HCall.mk ((same15_spec abDT abDT h11 cs10 cs11 (Rep.ext x11 _ _ r10) r11).mono ?_)
  rintro e h12 ⟨r, rfl, hr, x12'⟩
  obtain rfl : r = true := hr.2 rfl
  ((conv=>whnf);repeat((first|(with_reducible first|refine Z1 ?_|refine Z2 ?_|refine Z3 ?_|refine Z4 ?_|refine Z5 ?_|refine Z9 (by assumption) rfl ?_|refine ZA (by assumption) rfl ?_|refine ZB (by assumption) rfl ?_|refine Z6 ?_|refine Z7 ?_|refine Z8 ?_)|((with_reducible refine ZM ?_ ?_);(focus rfl)));(conv=>whnf)))
  exact ⟨rfl, x06.trans (x7.trans (x8.trans (x9.trans (x10.trans (x11.trans x12')))))⟩

end Go.Proofs.YtmibnfjjlibpgaaDoor.Hc
