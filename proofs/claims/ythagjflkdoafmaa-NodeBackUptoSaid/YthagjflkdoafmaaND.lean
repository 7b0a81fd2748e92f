import Derived.Test.YthagjflkdoafmaaNC
set_option linter.unusedVariables false
set_option linter.unusedSimpArgs false
namespace Go.Proofs.Ythagjflkdoafmaa.Hc
open Go Go.H Go.Proofs
set_option maxRecDepth 100000
set_option maxHeartbeats 4000000

theorem rNode0_no {l : List UInt8} {e : Nat} (h : rNode0 l = .no e) : rNode l = .no e := by unfold rNode; rw [h]; rfl
theorem rdecodeN_spec {h : Heap} {a : Option Addr} {n c : Nat} {l : List UInt8} (x : Sl h 1 a n c (l.map byteV)) (hn : n ≤ 17179869184) :
    HCalls Try.prog 22 #[.slice a n c] h (DecP h (rDec l)) := by
  have hl : l.length = n := by simpa using x.1
  refine c22 (by simp) ?_
  (conv => whnf)
  refine new_var (e := 25) zeroN rfl ?_
  intro h1 b2 o2 x1 z1 hb2
  by_cases h4 : n = 4096
  · have q0 : ((n : Int) != 4096) = false := by subst h4; rfl
    ((conv=>whnf);repeat((first|(with_reducible first|refine Z1 ?_|refine Z2 ?_|refine Z3 ?_|refine Z4 ?_|refine Z5 ?_|refine Z9 (by assumption) rfl ?_|refine ZA (by assumption) rfl ?_|refine ZB (by assumption) rfl ?_|refine Z6 ?_|refine Z7 ?_|refine Z8 ?_)|((with_reducible refine ZM ?_ ?_);(focus rfl)));(conv=>whnf)))
    refine HCall.mk ((runframe_spec (x.ext x1) (by omega) 4096 (by omega)).mono ?_)
    rintro e h3 ⟨a3, c3, rfl, w3, x3⟩
    have huo := unf_ok l (by omega)
    have hrd : rDec l = if (unf l 4096).2.2 ≠ 0 then .no (unf l 4096).2.2 else if anyNz (l.drop (unf l 4096).2.1) = true then .no 22 else rNode (unf l 4096).1 := by unfold rDec; rw [if_neg (by omega)]
    obtain ⟨body, k, er, hu⟩ : ∃ body k er, unf l 4096 = (body, k, er) := ⟨_, _, _, rfl⟩
    rw [hu] at hrd w3 huo ⊢
    simp only at hrd w3 huo ⊢
    rw [hrd]
    have x03 := x1.trans x3
    have o23 := o2.ext x3
    by_cases he : er = 0
    · subst he
      rw [if_neg (by simp)]
      have hk : k ≤ 4096 ∧ k = 8 + body.length := by rcases huo with h | h <;> omega
      subst hl
      have sd := drop_sl (x.ext x03) (k := k) (by omega)
      rw [List.length_drop] at sd
      have i0 : (l.drop k).length = l.length - k := List.length_drop
      ((conv=>whnf);repeat((first|(with_reducible first|refine Z1 ?_|refine Z2 ?_|refine Z3 ?_|refine Z4 ?_|refine Z5 ?_|refine Z9 (by assumption) rfl ?_|refine ZA (by assumption) rfl ?_|refine ZB (by assumption) rfl ?_|refine Z6 ?_|refine Z7 ?_|refine Z8 ?_)|((with_reducible refine ZM ?_ ?_);(focus rfl)));(conv=>whnf)))
      refine HBound.mk k rfl (by have := x.2.1; omega) ?_
      ((conv=>whnf);repeat((first|(with_reducible first|refine Z2 ?_|refine Z3 ?_|refine Z4 ?_|refine Z5 ?_|refine Z9 (by assumption) rfl ?_|refine ZA (by assumption) rfl ?_|refine ZB (by assumption) rfl ?_|refine Z6 ?_|refine Z7 ?_|refine Z8 ?_)|((with_reducible refine ZM ?_ ?_);(focus rfl)));(conv=>whnf)))
      refine loop_rule [29] (fun vs h' => ∃ (i : Nat), vs = [.int .i64 i] ∧ i ≤ l.length - k ∧ anyNz ((l.drop k).take i) = false ∧ h' = h3)
        (fun vs _ => match vs with | [.int _ i] => l.length - k - i.toNat | _ => 0) rfl ?_ ?_
      · exact ⟨0, rfl, by omega, by simp [anyNz], rfl⟩
      intro u h3 v29
      rintro ⟨i, e, hi, hz, rfl⟩
      cases e
      ((conv=>whnf);repeat((first|(with_reducible first|refine Z1 ?_|refine Z2 ?_|refine Z3 ?_|refine Z4 ?_|refine Z5 ?_|refine Z9 (by assumption) rfl ?_|refine ZA (by assumption) rfl ?_|refine ZB (by assumption) rfl ?_|refine Z6 ?_|refine Z7 ?_|refine Z8 ?_)|((with_reducible refine ZM ?_ ?_);(focus rfl)));(conv=>whnf)))
      refine HIf.mk (fun hlt => ?_) (fun hlt => ?_)
      · have hi1 : i < l.length - k := by have := of_decide_eq_true hlt; omega
        have hmu : l.length - k - ((i : Int) + 1).toNat < l.length - k - ((i : Int)).toNat := by omega
        have i1 : i < (l.drop k).length := by omega
        ((conv=>whnf);repeat((first|(with_reducible first|refine Z1 ?_|refine Z2 ?_|refine Z3 ?_|refine Z4 ?_|refine Z5 ?_|refine Z9 (by assumption) rfl ?_|refine ZA (by assumption) rfl ?_|refine ZB (by assumption) rfl ?_|refine Z6 ?_|refine Z7 ?_|refine Z8 ?_)|((with_reducible refine ZM ?_ ?_);(focus rfl)));(conv=>whnf)))
        refine HIdx.mk i rfl hi1 ?_
        refine sl_some sd hi1 fun p ep => ?_
        ((conv=>whnf);repeat((first|(with_reducible first|refine Z1 ?_|refine Z2 ?_|refine Z3 ?_|refine Z4 ?_|refine Z5 ?_|refine Z9 (by assumption) rfl ?_|refine ZA (by assumption) rfl ?_|refine ZB (by assumption) rfl ?_|refine Z6 ?_|refine Z7 ?_|refine Z8 ?_)|((with_reducible refine ZM ?_ ?_);(focus rfl)));(conv=>whnf)))
        refine sl_get sd ep i1 ?_
        have hst : anyNz ((l.drop k).take (i + 1)) = (anyNz ((l.drop k).take i) || decide ((l.drop k)[i].toNat ≠ 0)) := by
          unfold anyNz
          rw [List.take_add_one, List.getElem?_eq_getElem i1, List.any_append]; simp
        by_cases hc : (l.drop k)[i].toNat = 0
        · have q1 : (((l.drop k)[i].toNat : Int) != 0) = false := by rw [hc]; rfl
          ((conv=>whnf);repeat((first|(with_reducible first|refine Z1 ?_|refine Z2 ?_|refine Z3 ?_|refine Z4 ?_|refine Z5 ?_|refine Z9 (by assumption) rfl ?_|refine ZA (by assumption) rfl ?_|refine ZB (by assumption) rfl ?_|refine Z6 ?_|refine Z7 ?_|refine Z8 ?_)|((with_reducible refine ZM ?_ ?_);(focus rfl)));(conv=>whnf)))
          exact ⟨⟨i + 1, rfl, by omega, by rw [hst, hz, decide_eq_false (by simpa using hc)]; rfl, rfl⟩, hmu⟩
        · have q1 : (((l.drop k)[i].toNat : Int) != 0) = true := by rw [bne_iff_ne]; omega
          have hany : anyNz (l.drop k) = true := by
            unfold anyNz
            rw [List.any_eq_true]
            exact ⟨_, List.getElem_mem i1, decide_eq_true hc⟩
          rw [if_pos hany]
          ((conv=>whnf);repeat((first|(with_reducible first|refine Z1 ?_|refine Z2 ?_|refine Z3 ?_|refine Z4 ?_|refine Z5 ?_|refine Z9 (by assumption) rfl ?_|refine ZA (by assumption) rfl ?_|refine ZB (by assumption) rfl ?_|refine Z6 ?_|refine Z7 ?_|refine Z8 ?_)|((with_reducible refine ZM ?_ ?_);(focus rfl)));(conv=>whnf)))
          refine store_new o23 rfl zeroN_one ?_
          intro h5 f5 z5 o25
          ((conv=>whnf);repeat((first|(with_reducible first|refine Z1 ?_|refine Z2 ?_|refine Z3 ?_|refine Z4 ?_|refine Z5 ?_|refine Z9 (by assumption) rfl ?_|refine ZA (by assumption) rfl ?_|refine ZB (by assumption) rfl ?_|refine Z6 ?_|refine Z7 ?_|refine Z8 ?_)|((with_reducible refine ZM ?_ ?_);(focus rfl)));(conv=>whnf)))
          exact ⟨zeroN, rfl, zeroN_fr _ _, x03.offNew f5 (by omega)⟩
      · have hge := of_decide_eq_false hlt
        obtain rfl : i = l.length - k := by omega
        rw [List.take_of_length_le (by omega)] at hz
        rw [if_neg (by rw [hz]; simp)]
        ((conv=>whnf);repeat((first|(with_reducible first|refine Z1 ?_|refine Z2 ?_|refine Z3 ?_|refine Z4 ?_|refine Z5 ?_|refine Z9 (by assumption) rfl ?_|refine ZA (by assumption) rfl ?_|refine ZB (by assumption) rfl ?_|refine Z6 ?_|refine Z7 ?_|refine Z8 ?_)|((with_reducible refine ZM ?_ ?_);(focus rfl)));(conv=>whnf)))
        refine new_var (e := 72) [.slice a3 body.length c3, .int .i64 0] rfl ?_
        intro h5 br or x5 z5 hbr
        have o25 := o23.ext x5
        have x05 := x03.trans x5
        have l23 := o23.lt
        have r5 : RdrR h5 br body 0 := ⟨a3, c3, or, w3.sl.ext x5, fun p ep _ => by have := (w3.lt p ep).2; omega⟩
        ((conv=>whnf);repeat((first|(with_reducible first|refine Z1 ?_|refine Z2 ?_|refine Z3 ?_|refine Z4 ?_|refine Z5 ?_|refine Z9 (by assumption) rfl ?_|refine ZA (by assumption) rfl ?_|refine ZB (by assumption) rfl ?_|refine Z6 ?_|refine Z7 ?_|refine Z8 ?_)|((with_reducible refine ZM ?_ ?_);(focus rfl)));(conv=>whnf)))
        refine HCall.mk ((rnodeR_spec r5 (by omega)).mono ?_)
        rintro e h6 ⟨f6, er, r, cs, rfl, hcl, hco, ⟨ka, kn, kc, va, vn, vc, ia, kidn, ic, rfl⟩, rr6, hm⟩
        have o26 := o25.offk f6 (by omega)
        have x06 : Ext h h6 := x05.offNew f6 (by omega)
        have hz6 := f6.1
        have hz5 := x05.1
        have w36 := (w3.ext x5).off f6 (fun p ep => by have := (w3.lt p ep).2; omega)
        ((conv=>whnf);repeat((first|(with_reducible first|refine Z1 ?_|refine Z2 ?_|refine Z3 ?_|refine Z4 ?_|refine Z5 ?_|refine Z9 (by assumption) rfl ?_|refine ZA (by assumption) rfl ?_|refine ZB (by assumption) rfl ?_|refine Z6 ?_|refine Z7 ?_|refine Z8 ?_)|((with_reducible refine ZM ?_ ?_);(focus rfl)));(conv=>whnf)))
        refine new_var (e := 25) zeroN rfl ?_
        intro h7 b10 o7 x7 z7 hb10
        ((conv=>whnf);repeat((first|(with_reducible first|refine Z1 ?_|refine Z2 ?_|refine Z3 ?_|refine Z4 ?_|refine Z5 ?_|refine Z9 (by assumption) rfl ?_|refine ZA (by assumption) rfl ?_|refine ZB (by assumption) rfl ?_|refine Z6 ?_|refine Z7 ?_|refine Z8 ?_)|((with_reducible refine ZM ?_ ?_);(focus rfl)));(conv=>whnf)))
        refine store_new o7 rfl hco ?_
        intro h8 f8 z8 o8
        have x68 : Ext h6 h8 := x7.offNew f8 (by omega)
        have x08 := x06.trans x68
        have o28 := o26.ext x68
        have rr8 := rr6.ext x68
        have w38 := w36.ext x68
        obtain ⟨ar, cr, ob8, sl8, hp8⟩ := rr8
        have rr8 : RdrR h8 br r er := ⟨ar, cr, ob8, sl8, hp8⟩
        have bad : ∀ (hh : Heap) (k : Nat), Ext h hh → rNode body = .no k → DecP h (rNode body) (.returned (.tuple #[.agg zeroN.toArray, .int .i64 k])) hh := by
          intro hh k xh hr
          rw [hr]
          exact ⟨zeroN, rfl, zeroN_fr _ _, xh⟩
        ((conv=>whnf);repeat((first|(with_reducible first|refine Z2 ?_|refine Z3 ?_|refine Z4 ?_|refine Z5 ?_|refine Z9 (by assumption) rfl ?_|refine ZA (by assumption) rfl ?_|refine ZB (by assumption) rfl ?_|refine Z6 ?_|refine Z7 ?_|refine Z8 ?_)|((with_reducible refine ZM ?_ ?_);(focus rfl)));(conv=>whnf)))
        (refine HSeq.go ?_; conv => whnf)
        have hbr : br < h6.size := by have := or.lt; omega
        have hob8 : BlkW h8 br 72 [.slice ar r.length cr, .int .i64 er] := ob8
        by_cases h0 : er = 0
        · subst h0
          cases hr0 : rNode0 body with
          | no k => rw [hr0] at hm; exact absurd rfl hm.2
          | ok d r' =>
          rw [hr0] at hm
          obtain ⟨_, rfl, nf⟩ := hm
          have hbody : ∃ kd body', body = kd :: body' := by
            cases body with
            | nil => simp [rNode0] at hr0
            | cons kd b => exact ⟨kd, b, rfl⟩
          obtain ⟨kd, body', hbd⟩ := hbody
          have hR : rNode body = rFin kd.toNat (.ok d r) := by unfold rNode; rw [hr0, hbd]; rfl
          have nf8 : NFr h8 h5.size d [.slice ka kn kc, .slice va vn vc, .slice ia kidn ic] := (nf.frame (x68.agree fun b hb => hb.2)).mono fun b hb => ⟨hb.1, by have := x68.1; omega⟩
          by_cases hr : r = []
          · subst hr
            ((conv=>whnf);repeat((first|(with_reducible first|refine Z2 ?_|refine Z3 ?_|refine Z4 ?_|refine Z5 ?_|refine Z9 (by assumption) rfl ?_|refine ZA (by assumption) rfl ?_|refine ZB (by assumption) rfl ?_|refine Z6 ?_|refine Z7 ?_|refine Z8 ?_)|((with_reducible refine ZM ?_ ?_);(focus rfl)));(conv=>whnf)))
            (refine HSeq.go ?_; conv => whnf)
            ((conv=>whnf);repeat((first|(with_reducible first|refine Z2 ?_|refine Z3 ?_|refine Z4 ?_|refine Z5 ?_|refine Z9 (by assumption) rfl ?_|refine ZA (by assumption) rfl ?_|refine ZB (by assumption) rfl ?_|refine Z6 ?_|refine Z7 ?_|refine Z8 ?_)|((with_reducible refine ZM ?_ ?_);(focus rfl)));(conv=>whnf)))
            refine HCall.mk ((rmayN_spec nf8.get).mono ?_)
            rintro e h9 ⟨rr, rfl, hrr, x9⟩
            have o89 := o8.ext x9
            have o29 := o28.ext x9
            have ob9 := ob8.ext x9
            have rr9 := rr8.ext x9
            have x09 := x08.trans x9
            have w39 := w38.ext x9
            have hs9 := x9.1
            have hs8 := x68.1
            have nf9 := (nf8.frame (x9.agree fun b hb => hb.2)).mono (T := fun b => h5.size ≤ b ∧ b < h9.size) fun b hb => ⟨by omega, by omega⟩
            have hkn : kidn = d.kids.length := by
              obtain ⟨_, _, _, _, _, _, _, _, _, _, _, _, he, _⟩ := nf8.get
              injection he with _ he; injection he with _ he; injection he with he _; injection he
            have badc : (¬ NMay d ∨ kd.toNat = 1 ∧ d.kids = []) → rNode body = .no 190 := by
              intro hc; rw [hR]; simp only [rFin, ne_eq, not_true, if_false]; rw [if_pos hc]
            have goodc : ¬ (¬ NMay d ∨ kd.toNat = 1 ∧ d.kids = []) → rNode body = .ok d [] := by
              intro hc; rw [hR]; simp only [rFin, ne_eq, not_true, if_false]; rw [if_neg hc]
            have l29 := o29.lt
            have l89 := o89.lt
            cases rr with
            | false =>
              have hnm : ¬ NMay d := fun h => by have := hrr.2 h; cases this
              ((conv=>whnf);repeat((first|(with_reducible first|refine Z2 ?_|refine Z3 ?_|refine Z4 ?_|refine Z5 ?_|refine Z9 (by assumption) rfl ?_|refine ZA (by assumption) rfl ?_|refine ZB (by assumption) rfl ?_|refine Z6 ?_|refine Z7 ?_|refine Z8 ?_)|((with_reducible refine ZM ?_ ?_);(focus rfl)));(conv=>whnf)))
              refine HCall.mk ((fail_spec (k := 190) rr9).mono ?_)
              rintro e h10 ⟨rfl, f10, z10, rr10⟩
              have o210 := o29.offk f10 (by omega)
              have x010 : Ext h h10 := x09.offNew f10 (by omega)
              obtain ⟨aq, cq, ob10, sl10, hp10⟩ := rr10
              ((conv=>whnf);repeat((first|(with_reducible first|refine Z2 ?_|refine Z3 ?_|refine Z4 ?_|refine Z5 ?_|refine Z9 (by assumption) rfl ?_|refine ZA (by assumption) rfl ?_|refine ZB (by assumption) rfl ?_|refine Z6 ?_|refine Z7 ?_|refine Z8 ?_)|((with_reducible refine ZM ?_ ?_);(focus rfl)));(conv=>whnf)))
              (refine HSeq.go ?_; conv => whnf)
              ((conv=>whnf);repeat((first|(with_reducible first|refine Z2 ?_|refine Z3 ?_|refine Z4 ?_|refine Z5 ?_|refine Z9 (by assumption) rfl ?_|refine ZA (by assumption) rfl ?_|refine ZB (by assumption) rfl ?_|refine Z6 ?_|refine Z7 ?_|refine Z8 ?_)|((with_reducible refine ZM ?_ ?_);(focus rfl)));(conv=>whnf)))
              ((conv=>whnf);repeat((first|(with_reducible first|refine Z1 ?_|refine Z2 ?_|refine Z3 ?_|refine Z4 ?_|refine Z5 ?_|refine Z9 (by assumption) rfl ?_|refine ZA (by assumption) rfl ?_|refine ZB (by assumption) rfl ?_|refine Z6 ?_|refine Z7 ?_|refine Z8 ?_)|((with_reducible refine ZM ?_ ?_);(focus rfl)));(conv=>whnf)))
              refine HAlt.mk ?_ ?_
              all_goals
                ((conv=>whnf);repeat((first|(with_reducible first|refine Z1 ?_|refine Z2 ?_|refine Z3 ?_|refine Z4 ?_|refine Z5 ?_|refine Z9 (by assumption) rfl ?_|refine ZA (by assumption) rfl ?_|refine ZB (by assumption) rfl ?_|refine Z6 ?_|refine Z7 ?_|refine Z8 ?_)|((with_reducible refine ZM ?_ ?_);(focus rfl)));(conv=>whnf)))
                refine store_new o210 rfl zeroN_one ?_
                intro h12 f12 z12 o212
                have ob12 := ob10.offk f12 (by omega)
                ((conv=>whnf);repeat((first|(with_reducible first|refine Z1 ?_|refine Z2 ?_|refine Z3 ?_|refine Z4 ?_|refine Z5 ?_|refine Z9 (by assumption) rfl ?_|refine ZA (by assumption) rfl ?_|refine ZB (by assumption) rfl ?_|refine Z6 ?_|refine Z7 ?_|refine Z8 ?_)|((with_reducible refine ZM ?_ ?_);(focus rfl)));(conv=>whnf)))
                exact bad h12 _ (x010.offNew f12 (by omega)) (badc (.inl hnm))
            | true =>
              have hnm : NMay d := hrr.1 rfl
              have hib : 0 < body.length := by rw [hbd]; simp
              have hk0 : (body.map byteV)[0]? = some (byteV kd) := by rw [hbd]; rfl
              ((conv=>whnf);repeat((first|(with_reducible first|refine Z2 ?_|refine Z3 ?_|refine Z4 ?_|refine Z5 ?_|refine Z9 (by assumption) rfl ?_|refine ZA (by assumption) rfl ?_|refine ZB (by assumption) rfl ?_|refine Z6 ?_|refine Z7 ?_|refine Z8 ?_)|((with_reducible refine ZM ?_ ?_);(focus rfl)));(conv=>whnf)))
              refine HIdx.mk 0 rfl hib ?_
              refine sl_some (i := 0) w39.sl hib fun p ep => ?_
              ((conv=>whnf);repeat((first|(with_reducible first|refine Z2 ?_|refine Z3 ?_|refine Z4 ?_|refine Z5 ?_|refine Z9 (by assumption) rfl ?_|refine ZA (by assumption) rfl ?_|refine ZB (by assumption) rfl ?_|refine Z6 ?_|refine Z7 ?_|refine Z8 ?_)|((with_reducible refine ZM ?_ ?_);(focus rfl)));(conv=>whnf)))
              refine ⟨byteV kd, by have := w39.sl.2.2.2 p ep 0 (by omega); rw [this]; exact hk0, ?_⟩
              unfold byteV
              by_cases hk1 : kd.toNat = 1
              · have q6 : ((kd.toNat : Int) == 1) = true := by rw [beq_iff_eq]; omega
                by_cases hz : d.kids = []
                · have q7 : ((kidn : Int) == 0) = true := by rw [hkn, hz]; rfl
                  ((conv=>whnf);repeat((first|(with_reducible first|refine Z2 ?_|refine Z3 ?_|refine Z4 ?_|refine Z5 ?_|refine Z9 (by assumption) rfl ?_|refine ZA (by assumption) rfl ?_|refine ZB (by assumption) rfl ?_|refine Z6 ?_|refine Z7 ?_|refine Z8 ?_)|((with_reducible refine ZM ?_ ?_);(focus rfl)));(conv=>whnf)))
                  refine HCall.mk ((fail_spec (k := 190) rr9).mono ?_)
                  rintro e h10 ⟨rfl, f10, z10, rr10⟩
                  have o210 := o29.offk f10 (by omega)
                  have x010 : Ext h h10 := x09.offNew f10 (by omega)
                  obtain ⟨aq, cq, ob10, sl10, hp10⟩ := rr10
                  ((conv=>whnf);repeat((first|(with_reducible first|refine Z2 ?_|refine Z3 ?_|refine Z4 ?_|refine Z5 ?_|refine Z9 (by assumption) rfl ?_|refine ZA (by assumption) rfl ?_|refine ZB (by assumption) rfl ?_|refine Z6 ?_|refine Z7 ?_|refine Z8 ?_)|((with_reducible refine ZM ?_ ?_);(focus rfl)));(conv=>whnf)))
                  (refine HSeq.go ?_; conv => whnf)
                  ((conv=>whnf);repeat((first|(with_reducible first|refine Z2 ?_|refine Z3 ?_|refine Z4 ?_|refine Z5 ?_|refine Z9 (by assumption) rfl ?_|refine ZA (by assumption) rfl ?_|refine ZB (by assumption) rfl ?_|refine Z6 ?_|refine Z7 ?_|refine Z8 ?_)|((with_reducible refine ZM ?_ ?_);(focus rfl)));(conv=>whnf)))
                  ((conv=>whnf);repeat((first|(with_reducible first|refine Z1 ?_|refine Z2 ?_|refine Z3 ?_|refine Z4 ?_|refine Z5 ?_|refine Z9 (by assumption) rfl ?_|refine ZA (by assumption) rfl ?_|refine ZB (by assumption) rfl ?_|refine Z6 ?_|refine Z7 ?_|refine Z8 ?_)|((with_reducible refine ZM ?_ ?_);(focus rfl)));(conv=>whnf)))
                  refine HAlt.mk ?_ ?_
                  all_goals
                    ((conv=>whnf);repeat((first|(with_reducible first|refine Z1 ?_|refine Z2 ?_|refine Z3 ?_|refine Z4 ?_|refine Z5 ?_|refine Z9 (by assumption) rfl ?_|refine ZA (by assumption) rfl ?_|refine ZB (by assumption) rfl ?_|refine Z6 ?_|refine Z7 ?_|refine Z8 ?_)|((with_reducible refine ZM ?_ ?_);(focus rfl)));(conv=>whnf)))
                    refine store_new o210 rfl zeroN_one ?_
                    intro h12 f12 z12 o212
                    have ob12 := ob10.offk f12 (by omega)
                    ((conv=>whnf);repeat((first|(with_reducible first|refine Z1 ?_|refine Z2 ?_|refine Z3 ?_|refine Z4 ?_|refine Z5 ?_|refine Z9 (by assumption) rfl ?_|refine ZA (by assumption) rfl ?_|refine ZB (by assumption) rfl ?_|refine Z6 ?_|refine Z7 ?_|refine Z8 ?_)|((with_reducible refine ZM ?_ ?_);(focus rfl)));(conv=>whnf)))
                    exact bad h12 _ (x010.offNew f12 (by omega)) (badc (.inr ⟨hk1, hz⟩))
                · have q7 : ((kidn : Int) == 0) = false := by rw [hkn, beq_eq_false_iff_ne]; have := List.length_pos_iff.2 hz; omega
                  have hgood := goodc (by simp [hnm, hz])
                  ((conv=>whnf);repeat((first|(with_reducible first|refine Z2 ?_|refine Z3 ?_|refine Z4 ?_|refine Z5 ?_|refine Z9 (by assumption) rfl ?_|refine ZA (by assumption) rfl ?_|refine ZB (by assumption) rfl ?_|refine Z6 ?_|refine Z7 ?_|refine Z8 ?_)|((with_reducible refine ZM ?_ ?_);(focus rfl)));(conv=>whnf)))
                  (refine HSeq.go ?_; conv => whnf)
                  ((conv=>whnf);repeat((first|(with_reducible first|refine Z2 ?_|refine Z3 ?_|refine Z4 ?_|refine Z5 ?_|refine Z9 (by assumption) rfl ?_|refine ZA (by assumption) rfl ?_|refine ZB (by assumption) rfl ?_|refine Z6 ?_|refine Z7 ?_|refine Z8 ?_)|((with_reducible refine ZM ?_ ?_);(focus rfl)));(conv=>whnf)))
                  refine store_new o29 rfl hco ?_
                  intro h12 f12 z12 o212
                  ((conv=>whnf);repeat((first|(with_reducible first|refine Z1 ?_|refine Z2 ?_|refine Z3 ?_|refine Z4 ?_|refine Z5 ?_|refine Z9 (by assumption) rfl ?_|refine ZA (by assumption) rfl ?_|refine ZB (by assumption) rfl ?_|refine Z6 ?_|refine Z7 ?_|refine Z8 ?_)|((with_reducible refine ZM ?_ ?_);(focus rfl)));(conv=>whnf)))
                  rw [hgood]
                  exact ⟨_, rfl, (nf9.frame (h' := h12) fun b hb => f12.2 b (by omega) (by omega)).mono fun b hb => ⟨by omega, by omega⟩, x09.offNew f12 (by omega)⟩
              · have q6 : ((kd.toNat : Int) == 1) = false := by rw [beq_eq_false_iff_ne]; omega
                have hgood := goodc (by simp [hnm, hk1])
                ((conv=>whnf);repeat((first|(with_reducible first|refine Z2 ?_|refine Z3 ?_|refine Z4 ?_|refine Z5 ?_|refine Z9 (by assumption) rfl ?_|refine ZA (by assumption) rfl ?_|refine ZB (by assumption) rfl ?_|refine Z6 ?_|refine Z7 ?_|refine Z8 ?_)|((with_reducible refine ZM ?_ ?_);(focus rfl)));(conv=>whnf)))
                (refine HSeq.go ?_; conv => whnf)
                ((conv=>whnf);repeat((first|(with_reducible first|refine Z2 ?_|refine Z3 ?_|refine Z4 ?_|refine Z5 ?_|refine Z9 (by assumption) rfl ?_|refine ZA (by assumption) rfl ?_|refine ZB (by assumption) rfl ?_|refine Z6 ?_|refine Z7 ?_|refine Z8 ?_)|((with_reducible refine ZM ?_ ?_);(focus rfl)));(conv=>whnf)))
                refine store_new o29 rfl hco ?_
                intro h12 f12 z12 o212
                ((conv=>whnf);repeat((first|(with_reducible first|refine Z1 ?_|refine Z2 ?_|refine Z3 ?_|refine Z4 ?_|refine Z5 ?_|refine Z9 (by assumption) rfl ?_|refine ZA (by assumption) rfl ?_|refine ZB (by assumption) rfl ?_|refine Z6 ?_|refine Z7 ?_|refine Z8 ?_)|((with_reducible refine ZM ?_ ?_);(focus rfl)));(conv=>whnf)))
                rw [hgood]
                exact ⟨_, rfl, (nf9.frame (h' := h12) fun b hb => f12.2 b (by omega) (by omega)).mono fun b hb => ⟨by omega, by omega⟩, x09.offNew f12 (by omega)⟩
          · have q5 : decide ((r.length : Int) > 0) = true := decide_eq_true (by have := List.length_pos_iff.2 hr; omega)
            have hR2 : rNode body = .no 22 := by rw [hR]; simp only [rFin]; rw [if_pos hr]
            ((conv=>whnf);repeat((first|(with_reducible first|refine Z2 ?_|refine Z3 ?_|refine Z4 ?_|refine Z5 ?_|refine Z9 (by assumption) rfl ?_|refine ZA (by assumption) rfl ?_|refine ZB (by assumption) rfl ?_|refine Z6 ?_|refine Z7 ?_|refine Z8 ?_)|((with_reducible refine ZM ?_ ?_);(focus rfl)));(conv=>whnf)))
            refine HCall.mk ((fail_spec (k := 22) rr8).mono ?_)
            rintro e h10 ⟨rfl, f10, z10, rr10⟩
            have hs8 := x68.1
            have o210 := o28.offk f10 (by omega)
            have x010 : Ext h h10 := x08.offNew f10 (by omega)
            obtain ⟨aq, cq, ob10, sl10, hp10⟩ := rr10
            ((conv=>whnf);repeat((first|(with_reducible first|refine Z2 ?_|refine Z3 ?_|refine Z4 ?_|refine Z5 ?_|refine Z9 (by assumption) rfl ?_|refine ZA (by assumption) rfl ?_|refine ZB (by assumption) rfl ?_|refine Z6 ?_|refine Z7 ?_|refine Z8 ?_)|((with_reducible refine ZM ?_ ?_);(focus rfl)));(conv=>whnf)))
            (refine HSeq.go ?_; conv => whnf)
            ((conv=>whnf);repeat((first|(with_reducible first|refine Z2 ?_|refine Z3 ?_|refine Z4 ?_|refine Z5 ?_|refine Z9 (by assumption) rfl ?_|refine ZA (by assumption) rfl ?_|refine ZB (by assumption) rfl ?_|refine Z6 ?_|refine Z7 ?_|refine Z8 ?_)|((with_reducible refine ZM ?_ ?_);(focus rfl)));(conv=>whnf)))
            (refine HSeq.go ?_; conv => whnf)
            ((conv=>whnf);repeat((first|(with_reducible first|refine Z2 ?_|refine Z3 ?_|refine Z4 ?_|refine Z5 ?_|refine Z9 (by assumption) rfl ?_|refine ZA (by assumption) rfl ?_|refine ZB (by assumption) rfl ?_|refine Z6 ?_|refine Z7 ?_|refine Z8 ?_)|((with_reducible refine ZM ?_ ?_);(focus rfl)));(conv=>whnf)))
            ((conv=>whnf);repeat((first|(with_reducible first|refine Z1 ?_|refine Z2 ?_|refine Z3 ?_|refine Z4 ?_|refine Z5 ?_|refine Z9 (by assumption) rfl ?_|refine ZA (by assumption) rfl ?_|refine ZB (by assumption) rfl ?_|refine Z6 ?_|refine Z7 ?_|refine Z8 ?_)|((with_reducible refine ZM ?_ ?_);(focus rfl)));(conv=>whnf)))
            refine HAlt.mk ?_ ?_
            all_goals
              ((conv=>whnf);repeat((first|(with_reducible first|refine Z1 ?_|refine Z2 ?_|refine Z3 ?_|refine Z4 ?_|refine Z5 ?_|refine Z9 (by assumption) rfl ?_|refine ZA (by assumption) rfl ?_|refine ZB (by assumption) rfl ?_|refine Z6 ?_|refine Z7 ?_|refine Z8 ?_)|((with_reducible refine ZM ?_ ?_);(focus rfl)));(conv=>whnf)))
              refine store_new o210 rfl zeroN_one ?_
              intro h12 f12 z12 o212
              have ob12 := ob10.offk f12 (by omega)
              ((conv=>whnf);repeat((first|(with_reducible first|refine Z1 ?_|refine Z2 ?_|refine Z3 ?_|refine Z4 ?_|refine Z5 ?_|refine Z9 (by assumption) rfl ?_|refine ZA (by assumption) rfl ?_|refine ZB (by assumption) rfl ?_|refine Z6 ?_|refine Z7 ?_|refine Z8 ?_)|((with_reducible refine ZM ?_ ?_);(focus rfl)));(conv=>whnf)))
              exact bad h12 _ (x010.offNew f12 (by omega)) hR2
        · have q5 : ((er : Int) == 0) = false := by rw [beq_eq_false_iff_ne]; omega
          have q6 : ((er : Int) != 0) = true := by rw [bne_iff_ne]; omega
          have hR2 : rNode body = .no er := by
            cases hr0 : rNode0 body with
            | no k => rw [hr0] at hm; rw [hm.1]; exact rNode0_no hr0
            | ok d r' => rw [hr0] at hm; exact absurd hm.1 h0
          have hs8 := x68.1
          ((conv=>whnf);repeat((first|(with_reducible first|refine Z2 ?_|refine Z3 ?_|refine Z4 ?_|refine Z5 ?_|refine Z9 (by assumption) rfl ?_|refine ZA (by assumption) rfl ?_|refine ZB (by assumption) rfl ?_|refine Z6 ?_|refine Z7 ?_|refine Z8 ?_)|((with_reducible refine ZM ?_ ?_);(focus rfl)));(conv=>whnf)))
          (refine HSeq.go ?_; conv => whnf)
          ((conv=>whnf);repeat((first|(with_reducible first|refine Z2 ?_|refine Z3 ?_|refine Z4 ?_|refine Z5 ?_|refine Z9 (by assumption) rfl ?_|refine ZA (by assumption) rfl ?_|refine ZB (by assumption) rfl ?_|refine Z6 ?_|refine Z7 ?_|refine Z8 ?_)|((with_reducible refine ZM ?_ ?_);(focus rfl)));(conv=>whnf)))
          (refine HSeq.go ?_; conv => whnf)
          ((conv=>whnf);repeat((first|(with_reducible first|refine Z2 ?_|refine Z3 ?_|refine Z4 ?_|refine Z5 ?_|refine Z9 (by assumption) rfl ?_|refine ZA (by assumption) rfl ?_|refine ZB (by assumption) rfl ?_|refine Z6 ?_|refine Z7 ?_|refine Z8 ?_)|((with_reducible refine ZM ?_ ?_);(focus rfl)));(conv=>whnf)))
          ((conv=>whnf);repeat((first|(with_reducible first|refine Z1 ?_|refine Z2 ?_|refine Z3 ?_|refine Z4 ?_|refine Z5 ?_|refine Z9 (by assumption) rfl ?_|refine ZA (by assumption) rfl ?_|refine ZB (by assumption) rfl ?_|refine Z6 ?_|refine Z7 ?_|refine Z8 ?_)|((with_reducible refine ZM ?_ ?_);(focus rfl)));(conv=>whnf)))
          refine HAlt.mk ?_ ?_
          all_goals
            ((conv=>whnf);repeat((first|(with_reducible first|refine Z1 ?_|refine Z2 ?_|refine Z3 ?_|refine Z4 ?_|refine Z5 ?_|refine Z9 (by assumption) rfl ?_|refine ZA (by assumption) rfl ?_|refine ZB (by assumption) rfl ?_|refine Z6 ?_|refine Z7 ?_|refine Z8 ?_)|((with_reducible refine ZM ?_ ?_);(focus rfl)));(conv=>whnf)))
            refine store_new o28 rfl zeroN_one ?_
            intro h12 f12 z12 o212
            have ob12 := ob8.offk f12 (by omega)
            ((conv=>whnf);repeat((first|(with_reducible first|refine Z1 ?_|refine Z2 ?_|refine Z3 ?_|refine Z4 ?_|refine Z5 ?_|refine Z9 (by assumption) rfl ?_|refine ZA (by assumption) rfl ?_|refine ZB (by assumption) rfl ?_|refine Z6 ?_|refine Z7 ?_|refine Z8 ?_)|((with_reducible refine ZM ?_ ?_);(focus rfl)));(conv=>whnf)))
            exact bad h12 _ (x08.offNew f12 (by omega)) hR2
    · rw [if_pos he]
      have q1 : ((er : Int) != 0) = true := by rw [bne_iff_ne]; omega
      ((conv=>whnf);repeat((first|(with_reducible first|refine Z1 ?_|refine Z2 ?_|refine Z3 ?_|refine Z4 ?_|refine Z5 ?_|refine Z9 (by assumption) rfl ?_|refine ZA (by assumption) rfl ?_|refine ZB (by assumption) rfl ?_|refine Z6 ?_|refine Z7 ?_|refine Z8 ?_)|((with_reducible refine ZM ?_ ?_);(focus rfl)));(conv=>whnf)))
      refine store_new o23 rfl zeroN_one ?_
      intro h5 f5 z5 o25
      ((conv=>whnf);repeat((first|(with_reducible first|refine Z1 ?_|refine Z2 ?_|refine Z3 ?_|refine Z4 ?_|refine Z5 ?_|refine Z9 (by assumption) rfl ?_|refine ZA (by assumption) rfl ?_|refine ZB (by assumption) rfl ?_|refine Z6 ?_|refine Z7 ?_|refine Z8 ?_)|((with_reducible refine ZM ?_ ?_);(focus rfl)));(conv=>whnf)))
      exact ⟨zeroN, rfl, zeroN_fr _ _, x03.offNew f5 (by omega)⟩
  · have q0 : ((n : Int) != 4096) = true := by rw [bne_iff_ne]; omega
    have hrd : rDec l = .no 2 := by unfold rDec; rw [if_pos (by omega)]
    rw [hrd]
    ((conv=>whnf);repeat((first|(with_reducible first|refine Z1 ?_|refine Z2 ?_|refine Z3 ?_|refine Z4 ?_|refine Z5 ?_|refine Z9 (by assumption) rfl ?_|refine ZA (by assumption) rfl ?_|refine ZB (by assumption) rfl ?_|refine Z6 ?_|refine Z7 ?_|refine Z8 ?_)|((with_reducible refine ZM ?_ ?_);(focus rfl)));(conv=>whnf)))
    refine store_new o2 rfl zeroN_one ?_
    intro h3 f3 z3 o23
    ((conv=>whnf);repeat((first|(with_reducible first|refine Z1 ?_|refine Z2 ?_|refine Z3 ?_|refine Z4 ?_|refine Z5 ?_|refine Z9 (by assumption) rfl ?_|refine ZA (by assumption) rfl ?_|refine ZB (by assumption) rfl ?_|refine Z6 ?_|refine Z7 ?_|refine Z8 ?_)|((with_reducible refine ZM ?_ ?_);(focus rfl)));(conv=>whnf)))
    exact ⟨zeroN, rfl, zeroN_fr _ _, x1.offNew f3 (by omega)⟩

end Go.Proofs.Ythagjflkdoafmaa.Hc
