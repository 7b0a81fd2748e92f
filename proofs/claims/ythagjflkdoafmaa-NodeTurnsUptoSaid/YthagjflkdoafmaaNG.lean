import Derived.Test.YthagjflkdoafmaaND
import Derived.Test.YthagjflkdoafmaaNF
set_option linter.unusedVariables false
set_option linter.unusedSimpArgs false
namespace Go.Proofs.Ythagjflkdoafmaa.Hc
open Go Go.H Go.Proofs
set_option maxRecDepth 100000
set_option maxHeartbeats 4000000

def lk : ND := ⟨[⟨#[107]⟩], [⟨#[118]⟩], []⟩
def lbd : ND := ⟨[⟨#[98]⟩, ⟨#[100]⟩], [], []⟩
theorem lk_may : NMay lk := by
  refine ⟨.inl ⟨rfl, by decide, rfl⟩, ?_, by decide, by simp [lk]⟩
  intro j hj hj2
  have : j = 0 := by simp [lk] at hj; exact hj
  subst this
  exact ⟨by show (⟨#[107]⟩ : ByteArray).size ≤ 256; decide, fun h => by omega⟩
theorem zeros_no : rDec (List.replicate 4096 0) = .no 21 := by
  have e : unf (List.replicate 4096 0) 4096 = ([], 0, 21) := by
    unfold unf
    have h1 : (List.replicate 4096 (0 : UInt8)).length = 4096 := List.length_replicate
    have h2 : wordN (List.replicate 4096 0) = 0 := by rfl
    have h3 : (List.replicate 4096 (0 : UInt8)).take 4 = [0, 0, 0, 0] := by rfl
    have h4 : wordN ((List.replicate 4096 (0 : UInt8)).drop 4) = 0 := by rfl
    have h5 : crc [0, 0, 0, 0] ≠ 0 := by decide +kernel
    rw [h1, h2, h3, h4, if_neg (by omega), if_neg (by omega), if_neg (by omega), List.take_zero, List.append_nil, if_pos h5]
  unfold rDec
  rw [if_neg (by rw [List.length_replicate]; omega), e, if_pos (by simp)]

theorem live_spec (h : Heap) : HCalls Try.prog 12 #[] h fun e h' => e = .returned (.bool true) ∧ Ext h h' := by
  refine c12 (by simp) ?_
  ((conv=>whnf);repeat((first|(with_reducible first|refine Z1 ?_|refine Z2 ?_|refine Z3 ?_|refine Z4 ?_|refine Z5 ?_|refine Z9 (by assumption) rfl ?_|refine ZA (by assumption) rfl ?_|refine ZB (by assumption) rfl ?_|refine Z6 ?_|refine Z7 ?_|refine Z8 ?_)|((with_reducible refine ZM ?_ ?_);(focus rfl)));(conv=>whnf)))
  refine new_own (e := 9) 1 1 [.string ⟨#[107]⟩] rfl rfl ?_
  intro h1 b1 w1 x1 z1 hb1
  ((conv=>whnf);repeat((first|(with_reducible first|refine Z1 ?_|refine Z2 ?_|refine Z3 ?_|refine Z4 ?_|refine Z5 ?_|refine Z9 (by assumption) rfl ?_|refine ZA (by assumption) rfl ?_|refine ZB (by assumption) rfl ?_|refine Z6 ?_|refine Z7 ?_|refine Z8 ?_)|((with_reducible refine ZM ?_ ?_);(focus rfl)));(conv=>whnf)))
  refine new_own (e := 9) 1 1 [.string ⟨#[118]⟩] rfl rfl ?_
  intro h2 b2 w2 x2 z2 hb2
  ((conv=>whnf);repeat((first|(with_reducible first|refine Z1 ?_|refine Z2 ?_|refine Z3 ?_|refine Z4 ?_|refine Z5 ?_|refine Z9 (by assumption) rfl ?_|refine ZA (by assumption) rfl ?_|refine ZB (by assumption) rfl ?_|refine Z6 ?_|refine Z7 ?_|refine Z8 ?_)|((with_reducible refine ZM ?_ ?_);(focus rfl)));(conv=>whnf)))
  refine new_var (e := 26) zeroN rfl ?_
  intro h3 b3 o3 x3 z3 hb3
  ((conv=>whnf);repeat((first|(with_reducible first|refine Z1 ?_|refine Z2 ?_|refine Z3 ?_|refine Z4 ?_|refine Z5 ?_|refine Z9 (by assumption) rfl ?_|refine ZA (by assumption) rfl ?_|refine ZB (by assumption) rfl ?_|refine Z6 ?_|refine Z7 ?_|refine Z8 ?_)|((with_reducible refine ZM ?_ ?_);(focus rfl)));(conv=>whnf)))
  refine store_new o3 rfl (by intro v hv; simp only [List.mem_cons, List.not_mem_nil, or_false] at hv; rcases hv with rfl | rfl | rfl <;> rfl) ?_
  intro h4 f4 z4 o4
  have w14 := ((w1.ext x2).ext x3).off f4 (fun p ep => by cases ep; show b1 ≠ b3; omega)
  have w24 := (w2.ext x3).off f4 (fun p ep => by cases ep; show b2 ≠ b3; omega)
  have rk : NRep h4 lk [.slice (some ⟨b1, 0, none⟩) 1 1, .slice (some ⟨b2, 0, none⟩) 1 1, .slice none 0 0] :=
    ⟨by decide, by decide, by decide, by decide, by decide, by simp [lk], _, _, _, _, _, _, rfl, w14.sl, w24.sl, Sl.nil _ _⟩
  have x04 : Ext h h4 := ((x1.trans x2).trans x3).offNew f4 (by omega)
  have hkl : ∀ (a : Option Addr), ([.slice (some ⟨b1, 0, none⟩) 1 1, .slice (some ⟨b2, 0, none⟩) 1 1, .slice none 0 0] : List Value).length = 3 := fun _ => rfl
  ((conv=>whnf);repeat((first|(with_reducible first|refine Z1 ?_|refine Z2 ?_|refine Z3 ?_|refine Z4 ?_|refine Z5 ?_|refine Z9 (by assumption) rfl ?_|refine ZA (by assumption) rfl ?_|refine ZB (by assumption) rfl ?_|refine Z6 ?_|refine Z7 ?_|refine Z8 ?_)|((with_reducible refine ZM ?_ ?_);(focus rfl)));(conv=>whnf)))
  refine HCall.mk ((encodeN_spec rk).mono ?_)
  rintro e h5 ⟨r, a5, c5, l5, rfl, hr, hl5, w5, x5⟩
  obtain rfl : r = true := hr.2 lk_may
  rw [if_pos rfl] at hl5
  subst hl5
  have o5 := o4.ext x5
  have x05 := x04.trans x5
  have rk5 := rk.ext x5
  have s5 := w5.sl
  have hsl := secN_len lk_may
  ((conv=>whnf);repeat((first|(with_reducible first|refine Z1 ?_|refine Z2 ?_|refine Z3 ?_|refine Z4 ?_|refine Z5 ?_|refine Z9 (by assumption) rfl ?_|refine ZA (by assumption) rfl ?_|refine ZB (by assumption) rfl ?_|refine Z6 ?_|refine Z7 ?_|refine Z8 ?_)|((with_reducible refine ZM ?_ ?_);(focus rfl)));(conv=>whnf)))
  refine HCall.mk ((decodeN_spec s5 (by rw [hsl]; omega)).mono ?_)
  rintro e h6 ⟨cs6, rfl, nf6, x6⟩
  rw [secN_eq, rDec_sec (encN_len lk_may), rNode_enc lk_may] at nf6 ⊢
  have o6 := o5.ext x6
  have x06 := x05.trans x6
  have rk6 := rk5.ext x6
  have rm6 : NRep h6 lk cs6 := nf6.get
  have hc6 := rm6.len
  ((conv=>whnf);repeat((first|(with_reducible first|refine Z1 ?_|refine Z2 ?_|refine Z3 ?_|refine Z4 ?_|refine Z5 ?_|refine Z9 (by assumption) rfl ?_|refine ZA (by assumption) rfl ?_|refine ZB (by assumption) rfl ?_|refine Z6 ?_|refine Z7 ?_|refine Z8 ?_)|((with_reducible refine ZM ?_ ?_);(focus rfl)));(conv=>whnf)))
  refine new_var (e := 26) zeroN rfl ?_
  intro h7 b7 o7 x7 z7 hb7
  ((conv=>whnf);repeat((first|(with_reducible first|refine Z1 ?_|refine Z2 ?_|refine Z3 ?_|refine Z4 ?_|refine Z5 ?_|refine Z9 (by assumption) rfl ?_|refine ZA (by assumption) rfl ?_|refine ZB (by assumption) rfl ?_|refine Z6 ?_|refine Z7 ?_|refine Z8 ?_)|((with_reducible refine ZM ?_ ?_);(focus rfl)));(conv=>whnf)))
  refine HMust.mk hc6 ?_
  refine store_new o7 hc6 rm6.one ?_
  intro h8 f8 z8 o8
  have x68 : Ext h6 h8 := x7.offNew f8 (by omega)
  have o38 := o6.ext x68
  have x08 := x06.trans x68
  have rk8 := rk6.ext x68
  have rm8 := rm6.ext x68
  ((conv=>whnf);repeat((first|(with_reducible first|refine Z1 ?_|refine Z2 ?_|refine Z3 ?_|refine Z4 ?_|refine Z5 ?_|refine Z9 (by assumption) rfl ?_|refine ZA (by assumption) rfl ?_|refine ZB (by assumption) rfl ?_|refine Z6 ?_|refine Z7 ?_|refine Z8 ?_)|((with_reducible refine ZM ?_ ?_);(focus rfl)));(conv=>whnf)))
  refine HBound.mk 4096 rfl (by omega) ?_
  refine HBound.mk 4096 rfl (by omega) ?_
  ((conv=>whnf);repeat((first|(with_reducible first|refine Z1 ?_|refine Z2 ?_|refine Z3 ?_|refine Z4 ?_|refine Z5 ?_|refine Z9 (by assumption) rfl ?_|refine ZA (by assumption) rfl ?_|refine ZB (by assumption) rfl ?_|refine Z6 ?_|refine Z7 ?_|refine Z8 ?_)|((with_reducible refine ZM ?_ ?_);(focus rfl)));(conv=>whnf)))
  refine new_own (e := 5) 1 4096 (List.replicate 4096 (.int .u8 0)) (by rw [zeroCells_one]) (by rw [List.length_replicate]) ?_
  intro h9 b9 w9 x9 z9 hb9
  have s9 : Sl h9 1 (some ⟨b9, 0, none⟩) 4096 4096 ((List.replicate 4096 (0 : UInt8)).map byteV) := by rw [List.map_replicate]; exact w9.sl
  have o39 := o38.ext x9
  have o89 := o8.ext x9
  have x09 := x08.trans x9
  have rk9 := rk8.ext x9
  have rm9 := rm8.ext x9
  ((conv=>whnf);repeat((first|(with_reducible first|refine Z1 ?_|refine Z2 ?_|refine Z3 ?_|refine Z4 ?_|refine Z5 ?_|refine Z9 (by assumption) rfl ?_|refine ZA (by assumption) rfl ?_|refine ZB (by assumption) rfl ?_|refine Z6 ?_|refine Z7 ?_|refine Z8 ?_)|((with_reducible refine ZM ?_ ?_);(focus rfl)));(conv=>whnf)))
  refine HCall.mk ((decodeN_spec s9 (by omega)).mono ?_)
  rintro e h10 ⟨cs10, rfl, nf10, x10⟩
  rw [zeros_no] at nf10 ⊢
  have o310 := o39.ext x10
  have o810 := o89.ext x10
  have x010 := x09.trans x10
  have rk10 := rk9.ext x10
  have rm10 := rm9.ext x10
  have hc10 := nf10.get.len
  have ho10 := nf10.get.one
  ((conv=>whnf);repeat((first|(with_reducible first|refine Z1 ?_|refine Z2 ?_|refine Z3 ?_|refine Z4 ?_|refine Z5 ?_|refine Z9 (by assumption) rfl ?_|refine ZA (by assumption) rfl ?_|refine ZB (by assumption) rfl ?_|refine Z6 ?_|refine Z7 ?_|refine Z8 ?_)|((with_reducible refine ZM ?_ ?_);(focus rfl)));(conv=>whnf)))
  refine new_var (e := 26) zeroN rfl ?_
  intro h11 b11 o11 x11 z11 hb11
  ((conv=>whnf);repeat((first|(with_reducible first|refine Z1 ?_|refine Z2 ?_|refine Z3 ?_|refine Z4 ?_|refine Z5 ?_|refine Z9 (by assumption) rfl ?_|refine ZA (by assumption) rfl ?_|refine ZB (by assumption) rfl ?_|refine Z6 ?_|refine Z7 ?_|refine Z8 ?_)|((with_reducible refine ZM ?_ ?_);(focus rfl)));(conv=>whnf)))
  refine HMust.mk hc10 ?_
  refine store_new o11 hc10 ho10 ?_
  intro h12 f12 z12 o12
  have x1012 : Ext h10 h12 := x11.offNew f12 (by omega)
  have o3 := o310.ext x1012
  have o8 := o810.ext x1012
  have x0c := x010.trans x1012
  have rk := rk10.ext x1012
  have rm := rm10.ext x1012
  clear o4 o5 o6 o38 o39 o310 o89 o810 rk5 rk6 rk8 rk9 rk10 rm6 rm8 rm9 rm10 x04 x05 x06 x08 x09 x010 w14 w24 w5 s5 w9 s9 nf6 nf10 x1 x2 x3 x5 x6 x7 x9 x10 x11 x68 x1012 w1 w2 o7 o11 f4 f8 f12
  ((conv=>whnf);repeat((first|(with_reducible first|refine Z1 ?_|refine Z2 ?_|refine Z3 ?_|refine Z4 ?_|refine Z5 ?_|refine Z9 (by assumption) rfl ?_|refine ZA (by assumption) rfl ?_|refine ZB (by assumption) rfl ?_|refine Z6 ?_|refine Z7 ?_|refine Z8 ?_|refine ZB (by assumption) (by assumption) ?_)|((with_reducible refine ZM ?_ ?_);(focus rfl)));(conv=>whnf)))
  have q1 : (((secL (encN lk)).length : Int) == 4096) = true := by rw [← secN_eq, hsl]; rfl
  have q2 : (((childN lbd.keys ⟨#[98]⟩ : Nat) : Int) == 1) = true := by decide +kernel
  have one : decide (lk = lk) = true := decide_eq_true rfl
  refine HAlt.mk ?_ ?_
  all_goals
    ((conv=>whnf);repeat((first|(with_reducible first|refine Z1 ?_|refine Z2 ?_|refine Z3 ?_|refine Z4 ?_|refine Z5 ?_|refine Z9 (by assumption) rfl ?_|refine ZA (by assumption) rfl ?_|refine ZB (by assumption) rfl ?_|refine Z6 ?_|refine Z7 ?_|refine Z8 ?_|refine ZB (by assumption) (by assumption) ?_)|((with_reducible refine ZM ?_ ?_);(focus rfl)));(conv=>whnf)))
    refine HCall.mk ((toldN_spec rm).mono ?_)
    rintro e hA ⟨rfl, xx⟩
    replace o3 := o3.ext xx
    replace o8 := o8.ext xx
    replace rk := rk.ext xx
    replace rm := rm.ext xx
    replace x0c := x0c.trans xx
    clear xx
    ((conv=>whnf);repeat((first|(with_reducible first|refine Z1 ?_|refine Z2 ?_|refine Z3 ?_|refine Z4 ?_|refine Z5 ?_|refine Z9 (by assumption) rfl ?_|refine ZA (by assumption) rfl ?_|refine ZB (by assumption) rfl ?_|refine Z6 ?_|refine Z7 ?_|refine Z8 ?_|refine ZB (by assumption) (by assumption) ?_)|((with_reducible refine ZM ?_ ?_);(focus rfl)));(conv=>whnf)))
    refine HCall.mk ((toldN_spec rk).mono ?_)
    rintro e hB ⟨rfl, xx⟩
    replace o3 := o3.ext xx
    replace o8 := o8.ext xx
    replace rk := rk.ext xx
    replace rm := rm.ext xx
    replace x0c := x0c.trans xx
    clear xx
    ((conv=>whnf);repeat((first|(with_reducible first|refine Z1 ?_|refine Z2 ?_|refine Z3 ?_|refine Z4 ?_|refine Z5 ?_|refine Z9 (by assumption) rfl ?_|refine ZA (by assumption) rfl ?_|refine ZB (by assumption) rfl ?_|refine Z6 ?_|refine Z7 ?_|refine Z8 ?_|refine ZB (by assumption) (by assumption) ?_)|((with_reducible refine ZM ?_ ?_);(focus rfl)));(conv=>whnf)))
    refine HCall.mk ((rsameN_spec rm rk).mono ?_)
    rintro e hC ⟨he, xx⟩
    rw [one] at he
    subst he
    replace o3 := o3.ext xx
    replace o8 := o8.ext xx
    replace rk := rk.ext xx
    replace rm := rm.ext xx
    replace x0c := x0c.trans xx
    clear xx
    ((conv=>whnf);repeat((first|(with_reducible first|refine Z1 ?_|refine Z2 ?_|refine Z3 ?_|refine Z4 ?_|refine Z5 ?_|refine Z9 (by assumption) rfl ?_|refine ZA (by assumption) rfl ?_|refine ZB (by assumption) rfl ?_|refine Z6 ?_|refine Z7 ?_|refine Z8 ?_|refine ZB (by assumption) (by assumption) ?_)|((with_reducible refine ZM ?_ ?_);(focus rfl)));(conv=>whnf)))
    refine new_own (e := 9) 1 2 [.string ⟨#[98]⟩, .string ⟨#[100]⟩] rfl rfl ?_
    intro hD bD wD xx zD hbD
    replace o3 := o3.ext xx
    replace o8 := o8.ext xx
    replace rk := rk.ext xx
    replace rm := rm.ext xx
    replace x0c := x0c.trans xx
    clear xx
    have rbd : NRep hD lbd [.slice (some ⟨bD, 0, none⟩) 2 2, .slice none 0 0, .slice none 0 0] :=
      ⟨by decide, by decide, by decide, by decide, by decide, by simp [lbd], _, _, _, _, _, _, rfl, wD.sl, Sl.nil _ _, Sl.nil _ _⟩
    ((conv=>whnf);repeat((first|(with_reducible first|refine Z1 ?_|refine Z2 ?_|refine Z3 ?_|refine Z4 ?_|refine Z5 ?_|refine Z9 (by assumption) rfl ?_|refine ZA (by assumption) rfl ?_|refine ZB (by assumption) rfl ?_|refine Z6 ?_|refine Z7 ?_|refine Z8 ?_|refine ZB (by assumption) (by assumption) ?_)|((with_reducible refine ZM ?_ ?_);(focus rfl)));(conv=>whnf)))
    refine HCall.mk ((childN_spec _ rbd).mono ?_)
    rintro e hE ⟨rfl, xx⟩
    replace o3 := o3.ext xx
    replace o8 := o8.ext xx
    replace rk := rk.ext xx
    replace rm := rm.ext xx
    replace x0c := x0c.trans xx
    clear xx
    ((conv=>whnf);repeat((first|(with_reducible first|refine Z1 ?_|refine Z2 ?_|refine Z3 ?_|refine Z4 ?_|refine Z5 ?_|refine Z9 (by assumption) rfl ?_|refine ZA (by assumption) rfl ?_|refine ZB (by assumption) rfl ?_|refine Z6 ?_|refine Z7 ?_|refine Z8 ?_|refine ZB (by assumption) (by assumption) ?_)|((with_reducible refine ZM ?_ ?_);(focus rfl)));(conv=>whnf)))
    refine HCall.mk ((sameN_spec rk rm).mono ?_)
    rintro e hF ⟨he, xx⟩
    rw [one] at he
    subst he
    replace x0c := x0c.trans xx
    ((conv=>whnf);repeat((first|(with_reducible first|refine Z1 ?_|refine Z2 ?_|refine Z3 ?_|refine Z4 ?_|refine Z5 ?_|refine Z9 (by assumption) rfl ?_|refine ZA (by assumption) rfl ?_|refine ZB (by assumption) rfl ?_|refine Z6 ?_|refine Z7 ?_|refine Z8 ?_|refine ZB (by assumption) (by assumption) ?_)|((with_reducible refine ZM ?_ ?_);(focus rfl)));(conv=>whnf)))
    exact ⟨rfl, x0c⟩

end Go.Proofs.Ythagjflkdoafmaa.Hc
