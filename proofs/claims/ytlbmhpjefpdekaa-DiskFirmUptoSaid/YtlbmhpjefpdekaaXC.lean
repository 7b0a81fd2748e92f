/- The chapter's examples. -/
import Derived.Test.YtlbmhpjefpdekaaXB
set_option linter.unusedVariables false
set_option linter.unusedSimpArgs false
namespace Go.Proofs.Ytlbmhpjefpdekaa.Hc
open Go Go.H Go.Proofs
set_option maxRecDepth 100000
set_option maxHeartbeats 16000000

def fullL (c : UInt8) : List UInt8 := List.replicate 4096 c
theorem fullL_len (c : UInt8) : (fullL c).length = 4096 := List.length_replicate ..
theorem fullL_spec (c : UInt8) (h : Heap) : HCalls Try.prog 25 #[byteV c] h fun e h' => ∃ b, e = .returned (.slice (some ⟨b, 0, none⟩) (fullL c).length 4096) ∧ Own h' h.size 5 1 (some ⟨b, 0, none⟩) (fullL c).length 4096 ((fullL c).map byteV) ∧ Ext h h' := by
  refine (full_spec c h).mono ?_
  rintro e h' ⟨b, rfl, w, x⟩
  exact ⟨b, by rw [fullL_len], by rw [fullL_len]; exact w, x⟩
def fullB (c : UInt8) : ByteArray := ⟨(fullL c).toArray⟩
theorem fullB_size (c : UInt8) : (fullB c).size = 4096 := fullL_len c
theorem write_good {d : DK} {i : Nat} {b : ByteArray} (h1 : d.off = false) (h2 : i < d.many) (h3 : b.size = 4096) (h4 : d.fuse ≠ 0) :
    d.write (i : Int) b = (0, { d with fuse := if 0 < d.fuse then d.fuse - 1 else d.fuse, acts := d.acts + 1, waits := setG d.waits i b }) := by
  have hr : d.refused (i : Int) = 0 := by unfold DK.refused; rw [h1, if_neg (by simp), if_neg (by omega)]
  have ha : d.act = (0, { d with fuse := if 0 < d.fuse then d.fuse - 1 else d.fuse, acts := d.acts + 1 }) := by unfold DK.act; rw [if_neg h4]
  unfold DK.write
  rw [hr, if_neg (by simp), if_neg (by rw [h3]; simp), ha, if_pos rfl, Int.toNat_natCast]
def D1 : DK := ⟨4, 1, -1, false, fun _ => none, setG (fun _ => none) 0 (fullB 1)⟩
def D2 : DK := ⟨4, 2, -1, false, fun _ => none, setG (setG (fun _ => none) 0 (fullB 1)) 3 (fullB 2)⟩
theorem e1 : (DK.new 4).write 0 (fullB 1) = (0, D1) := write_good (d := DK.new 4) (i := 0) rfl (by decide) (fullB_size 1) (by decide)
theorem e2 : D1.write 3 (fullB 2) = (0, D2) := write_good (d := D1) (i := 3) rfl (by decide) (fullB_size 2) (by decide)
theorem keys2 : keysOf (setG (setG (fun _ => none) 0 (fullB 1)) 3 (fullB 2)) = [0, 3] := by
  refine Eq.trans (b := (List.range 2048).filter fun i => i == 0 || i == 3) ?_ (by decide +kernel)
  unfold keysOf
  apply List.filter_congr
  intro i _
  unfold setG
  by_cases h3 : i = 3
  · subst h3; rfl
  · by_cases h0 : i = 0
    · subst h0; rfl
    · rw [if_neg h3, if_neg h0]; simp [h3, h0]
def firm3 : Nat → Option ByteArray := fun j => if j = 0 then some (fullB 1) else none
def D3 : DK := ⟨4, 2, -1, true, firm3, fun _ => none⟩
theorem e3 : D2.cut [1, 0] = D3 := by
  have hk : keysOf D2.waits = [0, 3] := keys2
  unfold DK.cut
  rw [hk]
  unfold D3
  congr 1
def D4 : DK := ⟨4, 2, -1, false, firm3, fun _ => none⟩
theorem keys0 : keysOf (fun _ => none) = [] := by unfold keysOf; rw [List.filter_eq_nil_iff]; simp
theorem e4 : D3.on = D4 := by
  have hk : keysOf D3.waits = [] := keys0
  unfold DK.on
  rw [if_pos (show D3.off = true from rfl)]
  unfold DK.cut
  rw [hk]
  try rfl
def D5 : DK := ⟨4, 2, 1, false, firm3, fun _ => none⟩
theorem e5 : D4.fused 1 = D5 := rfl
def D6 : DK := ⟨4, 3, 0, false, firm3, setG (fun _ => none) 1 (fullB 3)⟩
theorem e6 : D5.write 1 (fullB 3) = (0, D6) := write_good (d := D5) (i := 1) rfl (by decide) (fullB_size 3) (by decide)
def D7 : DK := ⟨4, 3, 0, true, firm3, setG (fun _ => none) 1 (fullB 3)⟩
theorem e7 : D6.flush = (160, D7) := by
  unfold DK.flush
  rw [if_neg (show ¬ D6.off = true from by decide)]
  rfl
theorem told40 : D4.told 0 = fullL 1 := by
  unfold DK.told
  rw [if_pos (show D4.refused 0 = 0 from rfl)]
  show (D4.sec 0).data.toList = _
  have : D4.sec 0 = fullB 1 := rfl
  rw [this]; unfold fullB; simp
theorem told43 : D4.told 3 = fullL 0 := by
  unfold DK.told
  rw [if_pos (show D4.refused 3 = 0 from rfl)]
  show (D4.sec 3).data.toList = _
  have : D4.sec 3 = zeroB := rfl
  rw [this]; unfold zeroB fullL; simp
theorem told30 : D3.told 0 = [] ∧ D3.refused 0 = 160 := ⟨rfl, rfl⟩

theorem live_spec (h : Heap) : HCalls Try.prog 7 #[] h fun e h' => e = .returned (.bool true) ∧ Ext h h' := by
  refine c7 (by simp) ?_
  ((conv=>whnf);repeat((first|(with_reducible first|refine Z1 ?_|refine Z2 ?_|refine Z3 ?_|refine Z4 ?_|refine Z5 ?_|refine Z9 (by assumption) rfl ?_|refine ZA (by assumption) rfl ?_|refine ZB (by assumption) rfl ?_|refine Z6 ?_|refine Z7 ?_|refine Z8 ?_)|((with_reducible refine ZM ?_ ?_);(focus rfl)));(conv=>whnf)))
  refine HCall.mk ((new_disk 4 h).mono ?_)
  rintro e h1 ⟨x1, ⟨_, _, b, rf, rw, rfl, d1, g1, g2, g3⟩ | ⟨hh, _⟩⟩
  rotate_left
  · omega
  have hs1 := x1.1
  have dlt := d1.lt
  have lo : ∀ u ∈ [b, rf, rw], h.size ≤ u := by intro u hu; simp only [List.mem_cons, List.not_mem_nil, or_false] at hu; omega
  have hi : ∀ u ∈ [b, rf, rw], u < h1.size := by intro u hu; simp only [List.mem_cons, List.not_mem_nil, or_false] at hu; omega
  have d1 : DR h1 b rf rw (DK.new 4) := d1
  have qn : (bif false then !(some (⟨b, 0, none⟩ : Addr)).isNone else (some (⟨b, 0, none⟩ : Addr)).isNone) = false := rfl
  ((conv=>whnf);repeat((first|(with_reducible first|refine Z1 ?_|refine Z2 ?_|refine Z3 ?_|refine Z4 ?_|refine Z5 ?_|refine Z9 (by assumption) rfl ?_|refine ZA (by assumption) rfl ?_|refine ZB (by assumption) rfl ?_|refine Z6 ?_|refine Z7 ?_|refine Z8 ?_)|((with_reducible refine ZM ?_ ?_);(focus rfl)));(conv=>whnf)))
  refine HCall.to #[byteV 1] rfl ((fullL_spec 1 h1).mono ?_)
  rintro e h2 ⟨q2, rfl, w2, x2⟩
  have hs2 := x2.1
  have l2 := w2.lt
  ((conv=>whnf);repeat((first|(with_reducible first|refine Z1 ?_|refine Z2 ?_|refine Z3 ?_|refine Z4 ?_|refine Z5 ?_|refine Z9 (by assumption) rfl ?_|refine ZA (by assumption) rfl ?_|refine ZB (by assumption) rfl ?_|refine Z6 ?_|refine Z7 ?_|refine Z8 ?_)|((with_reducible refine ZM ?_ ?_);(focus rfl)));(conv=>whnf)))
  refine HCall.mk ((write_spec (d1.ext x2) (by decide) 0 w2.sl (fun p ep => by have := l2 p ep; exact ⟨fun hm => by have := hi _ hm; omega, this.2⟩)).mono ?_)
  rintro e h3 ⟨rfl, d3, f3⟩
  have y3 : Ext h h3 := f3.ext (x1.trans x2) lo
  have hs3 := f3.1
  have d3 : DR h3 b rf rw D1 := by
    have : (DK.write (DK.new 4) 0 ⟨(fullL 1).toArray⟩).2 = D1 := congrArg Prod.snd e1
    rw [← this]; exact d3
  ((conv=>whnf);repeat((first|(with_reducible first|refine Z1 ?_|refine Z2 ?_|refine Z3 ?_|refine Z4 ?_|refine Z5 ?_|refine Z9 (by assumption) rfl ?_|refine ZA (by assumption) rfl ?_|refine ZB (by assumption) rfl ?_|refine Z6 ?_|refine Z7 ?_|refine Z8 ?_)|((with_reducible refine ZM ?_ ?_);(focus rfl)));(conv=>whnf)))
  refine HCall.to #[byteV 2] rfl ((fullL_spec 2 h3).mono ?_)
  rintro e h4 ⟨q4, rfl, w4, x4⟩
  have hs4 := x4.1
  have l4 := w4.lt
  ((conv=>whnf);repeat((first|(with_reducible first|refine Z1 ?_|refine Z2 ?_|refine Z3 ?_|refine Z4 ?_|refine Z5 ?_|refine Z9 (by assumption) rfl ?_|refine ZA (by assumption) rfl ?_|refine ZB (by assumption) rfl ?_|refine Z6 ?_|refine Z7 ?_|refine Z8 ?_)|((with_reducible refine ZM ?_ ?_);(focus rfl)));(conv=>whnf)))
  refine HCall.mk ((write_spec (d3.ext x4) (by decide) 3 w4.sl (fun p ep => by have := l4 p ep; exact ⟨fun hm => by have := hi _ hm; omega, this.2⟩)).mono ?_)
  rintro e h5 ⟨rfl, d5, f5⟩
  have y5 : Ext h h5 := f5.ext (y3.trans x4) lo
  have hs5 := f5.1
  have d5 : DR h5 b rf rw D2 := by
    have : (D1.write 3 ⟨(fullL 2).toArray⟩).2 = D2 := congrArg Prod.snd e2
    rw [← this]; exact d5
  ((conv=>whnf);repeat((first|(with_reducible first|refine Z1 ?_|refine Z2 ?_|refine Z3 ?_|refine Z4 ?_|refine Z5 ?_|refine Z9 (by assumption) rfl ?_|refine ZA (by assumption) rfl ?_|refine ZB (by assumption) rfl ?_|refine Z6 ?_|refine Z7 ?_|refine Z8 ?_)|((with_reducible refine ZM ?_ ?_);(focus rfl)));(conv=>whnf)))
  refine new_own (e := 5) 1 2 ([1, 0].map byteV) rfl rfl ?_
  intro h6 b6 w6 x6 z6 hb6
  have hs6 := x6.1
  have l6 := w6.lt
  have s6 : Sl h6 1 (some ⟨b6, 0, none⟩) ([1, 0] : List UInt8).length 2 (([1, 0] : List UInt8).map byteV) := w6.sl
  ((conv=>whnf);repeat((first|(with_reducible first|refine Z1 ?_|refine Z2 ?_|refine Z3 ?_|refine Z4 ?_|refine Z5 ?_|refine Z9 (by assumption) rfl ?_|refine ZA (by assumption) rfl ?_|refine ZB (by assumption) rfl ?_|refine Z6 ?_|refine Z7 ?_|refine Z8 ?_)|((with_reducible refine ZM ?_ ?_);(focus rfl)));(conv=>whnf)))
  refine HCall.mk ((cut_spec (d5.ext x6) (fun h' k => s6.fr (S := fun q => q < h6.size ∧ q ∉ [b, rf, rw]) (fun p ep => by have := l6 p ep; exact ⟨this.2, fun hm => by have := hi _ hm; omega⟩) h' (fun q hq => k q hq.1 hq.2)) (by simp)).mono ?_)
  rintro e h7 ⟨rfl, d7, f7⟩
  rw [e3] at d7
  have y7 : Ext h h7 := f7.ext (y5.trans x6) lo
  have hs7 := f7.1
  ((conv=>whnf);repeat((first|(with_reducible first|refine Z1 ?_|refine Z2 ?_|refine Z3 ?_|refine Z4 ?_|refine Z5 ?_|refine Z9 (by assumption) rfl ?_|refine ZA (by assumption) rfl ?_|refine ZB (by assumption) rfl ?_|refine Z6 ?_|refine Z7 ?_|refine Z8 ?_)|((with_reducible refine ZM ?_ ?_);(focus rfl)));(conv=>whnf)))
  refine HCall.mk ((read_spec d7 0).mono ?_)
  rintro e h8 ⟨a8, c8, rfl, w8, x8⟩
  rw [told30.2]
  ((conv=>whnf);repeat((first|(with_reducible first|refine Z1 ?_|refine Z2 ?_|refine Z3 ?_|refine Z4 ?_|refine Z5 ?_|refine Z9 (by assumption) rfl ?_|refine ZA (by assumption) rfl ?_|refine ZB (by assumption) rfl ?_|refine Z6 ?_|refine Z7 ?_|refine Z8 ?_)|((with_reducible refine ZM ?_ ?_);(focus rfl)));(conv=>whnf)))
  refine HCall.mk ((on_spec (d7.ext x8)).mono ?_)
  rintro e h9 ⟨rfl, d9, f9⟩
  rw [e4] at d9
  have y9 : Ext h h9 := f9.ext (y7.trans x8) lo
  have hs9 := f9.1
  have hs8 := x8.1
  ((conv=>whnf);repeat((first|(with_reducible first|refine Z1 ?_|refine Z2 ?_|refine Z3 ?_|refine Z4 ?_|refine Z5 ?_|refine Z9 (by assumption) rfl ?_|refine ZA (by assumption) rfl ?_|refine ZB (by assumption) rfl ?_|refine Z6 ?_|refine Z7 ?_|refine Z8 ?_)|((with_reducible refine ZM ?_ ?_);(focus rfl)));(conv=>whnf)))
  refine HCall.mk ((read_spec d9 0).mono ?_)
  rintro e h10 ⟨a10, c10, rfl, w10, x10⟩
  have hs10 := x10.1
  rw [told40] at w10 ⊢
  ((conv=>whnf);repeat((first|(with_reducible first|refine Z1 ?_|refine Z2 ?_|refine Z3 ?_|refine Z4 ?_|refine Z5 ?_|refine Z9 (by assumption) rfl ?_|refine ZA (by assumption) rfl ?_|refine ZB (by assumption) rfl ?_|refine Z6 ?_|refine Z7 ?_|refine Z8 ?_)|((with_reducible refine ZM ?_ ?_);(focus rfl)));(conv=>whnf)))
  refine HCall.mk ((read_spec (d9.ext x10) 3).mono ?_)
  rintro e h11 ⟨a11, c11, rfl, w11, x11⟩
  have hs11 := x11.1
  rw [told43] at w11 ⊢
  have w10' := w10.ext x11
  ((conv=>whnf);repeat((first|(with_reducible first|refine Z1 ?_|refine Z2 ?_|refine Z3 ?_|refine Z4 ?_|refine Z5 ?_|refine Z9 (by assumption) rfl ?_|refine ZA (by assumption) rfl ?_|refine ZB (by assumption) rfl ?_|refine Z6 ?_|refine Z7 ?_|refine Z8 ?_)|((with_reducible refine ZM ?_ ?_);(focus rfl)));(conv=>whnf)))
  refine HCall.mk ((fuse_spec ((d9.ext x10).ext x11) 1 (by decide)).mono ?_)
  rintro e h12 ⟨rfl, d12, f12⟩
  rw [e5] at d12
  have y12 : Ext h h12 := f12.ext (y9.trans (x10.trans x11)) lo
  have hs12 := f12.1
  have w1012 := own_S w10' f12 (fun u hu => by have := hi u hu; omega)
  have w1112 := own_S w11 f12 (fun u hu => by have := hi u hu; omega)
  ((conv=>whnf);repeat((first|(with_reducible first|refine Z1 ?_|refine Z2 ?_|refine Z3 ?_|refine Z4 ?_|refine Z5 ?_|refine Z9 (by assumption) rfl ?_|refine ZA (by assumption) rfl ?_|refine ZB (by assumption) rfl ?_|refine Z6 ?_|refine Z7 ?_|refine Z8 ?_)|((with_reducible refine ZM ?_ ?_);(focus rfl)));(conv=>whnf)))
  refine HCall.to #[byteV 3] rfl ((fullL_spec 3 h12).mono ?_)
  rintro e h13 ⟨q13, rfl, w13, x13⟩
  have hs13 := x13.1
  have l13 := w13.lt
  ((conv=>whnf);repeat((first|(with_reducible first|refine Z1 ?_|refine Z2 ?_|refine Z3 ?_|refine Z4 ?_|refine Z5 ?_|refine Z9 (by assumption) rfl ?_|refine ZA (by assumption) rfl ?_|refine ZB (by assumption) rfl ?_|refine Z6 ?_|refine Z7 ?_|refine Z8 ?_)|((with_reducible refine ZM ?_ ?_);(focus rfl)));(conv=>whnf)))
  refine HCall.mk ((write_spec (d12.ext x13) (by decide) 1 w13.sl (fun p ep => by have := l13 p ep; exact ⟨fun hm => by have := hi _ hm; omega, this.2⟩)).mono ?_)
  rintro e h14 ⟨rfl, d14, f14⟩
  have y14 : Ext h h14 := f14.ext (y12.trans x13) lo
  have hs14 := f14.1
  have e60 : (D5.write 1 ⟨(fullL 3).toArray⟩).1 = 0 := congrArg Prod.fst e6
  have d14 : DR h14 b rf rw D6 := by
    have : (D5.write 1 ⟨(fullL 3).toArray⟩).2 = D6 := congrArg Prod.snd e6
    rw [← this]; exact d14
  rw [e60]
  have w1014 := own_S (w1012.ext x13) f14 (fun u hu => by have := hi u hu; omega)
  have w1114 := own_S (w1112.ext x13) f14 (fun u hu => by have := hi u hu; omega)
  ((conv=>whnf);repeat((first|(with_reducible first|refine Z1 ?_|refine Z2 ?_|refine Z3 ?_|refine Z4 ?_|refine Z5 ?_|refine Z9 (by assumption) rfl ?_|refine ZA (by assumption) rfl ?_|refine ZB (by assumption) rfl ?_|refine Z6 ?_|refine Z7 ?_|refine Z8 ?_)|((with_reducible refine ZM ?_ ?_);(focus rfl)));(conv=>whnf)))
  refine HCall.mk ((flush_spec d14 (by decide)).mono ?_)
  rintro e h15 ⟨rfl, d15, f15⟩
  rw [e7] at d15 ⊢
  have y15 : Ext h h15 := f15.ext y14 lo
  have hs15 := f15.1
  have w1015 := own_S w1014 f15 (fun u hu => by have := hi u hu; omega)
  have w1115 := own_S w1114 f15 (fun u hu => by have := hi u hu; omega)
  ((conv=>whnf);repeat((first|(with_reducible first|refine Z1 ?_|refine Z2 ?_|refine Z3 ?_|refine Z4 ?_|refine Z5 ?_|refine Z9 (by assumption) rfl ?_|refine ZA (by assumption) rfl ?_|refine ZB (by assumption) rfl ?_|refine Z6 ?_|refine Z7 ?_|refine Z8 ?_)|((with_reducible refine ZM ?_ ?_);(focus rfl)));(conv=>whnf)))
  refine HCall.to #[byteV 1] rfl ((fullL_spec 1 h15).mono ?_)
  rintro e h16 ⟨q16, rfl, w16, x16⟩
  ((conv=>whnf);repeat((first|(with_reducible first|refine Z1 ?_|refine Z2 ?_|refine Z3 ?_|refine Z4 ?_|refine Z5 ?_|refine Z9 (by assumption) rfl ?_|refine ZA (by assumption) rfl ?_|refine ZB (by assumption) rfl ?_|refine Z6 ?_|refine Z7 ?_|refine Z8 ?_)|((with_reducible refine ZM ?_ ?_);(focus rfl)));(conv=>whnf)))
  refine HCall.mk ((same2_spec (w1015.ext x16).sl w16.sl).mono ?_)
  rintro e h16 ⟨rfl, rfl⟩
  rw [decide_eq_true (rfl : fullL 1 = fullL 1)]
  ((conv=>whnf);repeat((first|(with_reducible first|refine Z1 ?_|refine Z2 ?_|refine Z3 ?_|refine Z4 ?_|refine Z5 ?_|refine Z9 (by assumption) rfl ?_|refine ZA (by assumption) rfl ?_|refine ZB (by assumption) rfl ?_|refine Z6 ?_|refine Z7 ?_|refine Z8 ?_)|((with_reducible refine ZM ?_ ?_);(focus rfl)));(conv=>whnf)))
  refine HCall.to #[byteV 0] rfl ((fullL_spec 0 h16).mono ?_)
  rintro e h17 ⟨q17, rfl, w17, x17⟩
  ((conv=>whnf);repeat((first|(with_reducible first|refine Z1 ?_|refine Z2 ?_|refine Z3 ?_|refine Z4 ?_|refine Z5 ?_|refine Z9 (by assumption) rfl ?_|refine ZA (by assumption) rfl ?_|refine ZB (by assumption) rfl ?_|refine Z6 ?_|refine Z7 ?_|refine Z8 ?_)|((with_reducible refine ZM ?_ ?_);(focus rfl)));(conv=>whnf)))
  refine HCall.mk ((same2_spec ((w1115.ext x16).ext x17).sl w17.sl).mono ?_)
  rintro e h17 ⟨rfl, rfl⟩
  rw [decide_eq_true (rfl : fullL 0 = fullL 0)]
  have d17 : DR h17 b rf rw D7 := (d15.ext x16).ext x17
  ((conv=>whnf);repeat((first|(with_reducible first|refine Z1 ?_|refine Z2 ?_|refine Z3 ?_|refine Z4 ?_|refine Z5 ?_|refine Z9 (by assumption) rfl ?_|refine ZA (by assumption) rfl ?_|refine ZB (by assumption) rfl ?_|refine Z6 ?_|refine Z7 ?_|refine Z8 ?_)|((with_reducible refine ZM ?_ ?_);(focus rfl)));(conv=>whnf)))
  refine HCall.mk ((isOn_spec d17).mono ?_)
  rintro e h17 ⟨rfl, rfl⟩
  ((conv=>whnf);repeat((first|(with_reducible first|refine Z1 ?_|refine Z2 ?_|refine Z3 ?_|refine Z4 ?_|refine Z5 ?_|refine Z9 (by assumption) rfl ?_|refine ZA (by assumption) rfl ?_|refine ZB (by assumption) rfl ?_|refine Z6 ?_|refine Z7 ?_|refine Z8 ?_)|((with_reducible refine ZM ?_ ?_);(focus rfl)));(conv=>whnf)))
  refine HCall.mk ((sectors_spec d17).mono ?_)
  rintro e h17 ⟨rfl, rfl⟩
  ((conv=>whnf);repeat((first|(with_reducible first|refine Z1 ?_|refine Z2 ?_|refine Z3 ?_|refine Z4 ?_|refine Z5 ?_|refine Z9 (by assumption) rfl ?_|refine ZA (by assumption) rfl ?_|refine ZB (by assumption) rfl ?_|refine Z6 ?_|refine Z7 ?_|refine Z8 ?_)|((with_reducible refine ZM ?_ ?_);(focus rfl)));(conv=>whnf)))
  refine HCall.mk ((acts_spec d17).mono ?_)
  rintro e h17 ⟨rfl, rfl⟩
  ((conv=>whnf);repeat((first|(with_reducible first|refine Z1 ?_|refine Z2 ?_|refine Z3 ?_|refine Z4 ?_|refine Z5 ?_|refine Z9 (by assumption) rfl ?_|refine ZA (by assumption) rfl ?_|refine ZB (by assumption) rfl ?_|refine Z6 ?_|refine Z7 ?_|refine Z8 ?_)|((with_reducible refine ZM ?_ ?_);(focus rfl)));(conv=>whnf)))
  exact ⟨rfl, y15.trans (x16.trans x17)⟩

end Go.Proofs.Ytlbmhpjefpdekaa.Hc
