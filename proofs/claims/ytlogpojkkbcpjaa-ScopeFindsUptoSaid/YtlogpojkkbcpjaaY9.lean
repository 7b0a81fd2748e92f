/- tree.may. -/
import Derived.Test.YtlogpojkkbcpjaaY8
set_option linter.unusedVariables false
set_option linter.unusedSimpArgs false
namespace Go.Proofs.Ytlogpojkkbcpjaa.Hc
open Go Go.H Go.Proofs
set_option maxRecDepth 100000
set_option maxHeartbeats 4000000
theorem even_spec (t : ByteArray) (h : Heap) : HCalls Try.prog 46 #[.string t] h fun e h' => e = .returned (.bool (evenB t)) ∧ h' = h := by
  refine c46 (by simp) ?_
  ((conv=>whnf);repeat((first|(with_reducible first|refine Z1 ?_|refine Z2 ?_|refine Z3 ?_|refine Z4 ?_|refine Z5 ?_|refine Z9 (by assumption) rfl ?_|refine ZA (by assumption) rfl ?_|refine ZB (by assumption) rfl ?_|refine Z6 ?_|refine Z7 ?_|refine Z8 ?_)|((with_reducible refine ZM ?_ ?_);(focus rfl)));(conv=>whnf)))
  exact ⟨rfl, rfl⟩
theorem case_len (d : NT) (h : mayT d = true) (hk : d.kind = 37) : 0 < d.l.length := by
  cases d with
  | mk k nm n t ns l =>
  simp only [NT.kind, NT.l] at hk ⊢
  subst hk
  have e : formOf 37 l.length = some ⟨⟨#[]⟩, 0, false, false, ⟨#[102, 42, 115]⟩⟩ := rfl
  simp only [mayT, e, Bool.and_eq_true] at h
  have h1 := h.1.1.2
  unfold lenOk at h1
  rw [Bool.and_eq_true] at h1
  have h2 := h1.1
  have e3 : (cutF ⟨#[102, 42, 115]⟩).1.length = 1 := by decide +kernel
  simp only [e3, Bool.not_eq_true', decide_eq_false_iff_not] at h2
  omega
theorem may_spec : ∀ (m : Nat) (d : NT) (_ : cnt d = m) (h : Heap) (cs : List Value) (_ : TRep h d cs) (_ : Glb h) (_ : cnt d ≤ 4194304),
    HCalls Try.prog 31 #[.agg cs.toArray] h fun e h' => e = .returned (.bool (mayT d)) ∧ Ext h h' := by
  intro m
  induction m using Nat.strongRecOn with
  | ind m ih =>
  intro d hm h cs r g hc
  cases d with
  | mk k nm n t ns l =>
  simp only [TRep] at r
  have r0 := r
  obtain ⟨b1, b2, b3, b4, b5, b6, b7, ka, kc, la, lc, ys, rfl, s1, s2, s3⟩ := r
  refine c31 (by simp) ?_
  ((conv=>whnf);repeat((first|(with_reducible first|refine Z1 ?_|refine Z2 ?_|refine Z3 ?_|refine Z4 ?_|refine Z5 ?_|refine Z9 (by assumption) rfl ?_|refine ZA (by assumption) rfl ?_|refine ZB (by assumption) rfl ?_|refine Z6 ?_|refine Z7 ?_|refine Z8 ?_)|((with_reducible refine ZM ?_ ?_);(focus rfl)));(conv=>whnf)))
  refine new_var (e := 26) [.int .i64 k, .string nm, .int .i64 n, .string t, .slice ka ns.length kc, .slice la l.length lc] rfl ?_
  intro h1 bn o1 x1 z1 hbn
  ((conv=>whnf);repeat((first|(with_reducible first|refine Z1 ?_|refine Z2 ?_|refine Z3 ?_|refine Z4 ?_|refine Z5 ?_|refine Z9 (by assumption) rfl ?_|refine ZA (by assumption) rfl ?_|refine ZB (by assumption) rfl ?_|refine Z6 ?_|refine Z7 ?_|refine Z8 ?_)|((with_reducible refine ZM ?_ ?_);(focus rfl)));(conv=>whnf)))
  refine HCall.mk ((of_spec (d := .mk k nm n t ns l) (TRep.ext x1 (by simp only [TRep]; exact r0))).mono ?_)
  rintro e h2 ⟨⟨v, rfl, ⟨hv5, hv1⟩, hv⟩, x2⟩
  have o2 := o1.ext x2
  clear o1
  rw [show NT.kind (.mk k nm n t ns l) = k from rfl, show NT.l (.mk k nm n t ns l) = l from rfl] at hv ⊢
  ((conv=>whnf);repeat((first|(with_reducible first|refine Z1 ?_|refine Z2 ?_|refine Z3 ?_|refine Z4 ?_|refine Z5 ?_|refine Z9 (by assumption) rfl ?_|refine ZA (by assumption) rfl ?_|refine ZB (by assumption) rfl ?_|refine Z6 ?_|refine Z7 ?_|refine Z8 ?_)|((with_reducible refine ZM ?_ ?_);(focus rfl)));(conv=>whnf)))
  refine new_var (e := 58) zeroF rfl ?_
  intro h3 bf of x3 z3 hbf
  have o3 := o2.ext x3
  clear o2
  ((conv=>whnf);repeat((first|(with_reducible first|refine Z1 ?_|refine Z2 ?_|refine Z3 ?_|refine Z4 ?_|refine Z5 ?_|refine Z9 (by assumption) rfl ?_|refine ZA (by assumption) rfl ?_|refine ZB (by assumption) rfl ?_|refine Z6 ?_|refine Z7 ?_|refine Z8 ?_)|((with_reducible refine ZM ?_ ?_);(focus rfl)));(conv=>whnf)))
  refine HMust.mk (by simpa using hv5) ?_
  refine store_blk of (by simp [hv5]) (by simpa using hv1) ?_
  intro h4 f4 z4 o4
  have of4 : BlkW h4 bf 58 v := by
    have e : (zeroF : List Value).drop (0 + v.toArray.toList.length) = [] := by simp [hv5]
    rw [e] at o4
    simpa using o4
  have x24 : Ext h2 h4 := x3.offNew f4 (by omega)
  have o34 : BlkW h4 bn 26 [.int .i64 k, .string nm, .int .i64 n, .string t, .slice ka ns.length kc, .slice la l.length lc] := o3.of (f4.2 _ o3.lt (by have := o3.lt; have := x2.1; have := z1; omega))
  clear o3 o4 of
  have x04 := x1.trans (x2.trans x24)
  have g4 := g.ext x04
  simp only [mayT]
  cases hf : formOf k l.length with
  | none =>
    ((conv=>whnf);repeat((first|(with_reducible first|refine Z1 ?_|refine Z2 ?_|refine Z3 ?_|refine Z4 ?_|refine Z5 ?_|refine Z9 (by assumption) rfl ?_|refine ZA (by assumption) rfl ?_|refine ZB (by assumption) rfl ?_|refine Z6 ?_|refine Z7 ?_|refine Z8 ?_)|((with_reducible refine ZM ?_ ?_);(focus rfl)));(conv=>whnf)))
    exact ⟨rfl, x04⟩
  | some f =>
  obtain rfl := hv f hf
  dsimp only
  unfold Form.cells at of4
  have fs := form_small hf
  have q0 : (!(some f).isSome) = false := rfl
  ((conv=>whnf);repeat((first|(with_reducible first|refine Z2 ?_|refine Z3 ?_|refine Z4 ?_|refine Z5 ?_|refine Z9 (by assumption) rfl ?_|refine ZA (by assumption) rfl ?_|refine ZB (by assumption) rfl ?_|refine Z6 ?_|refine Z7 ?_|refine Z8 ?_)|((with_reducible refine ZM ?_ ?_);(focus rfl)));(conv=>whnf)))
  refine cut_rule [] (fun vs h' => vs = [] ∧ headOk f nm n t ns l = true ∧ Ext h4 h') rfl ?_ ?_
  · unfold headOk
    ((conv=>whnf);repeat((first|(with_reducible first|refine Z1 ?_|refine Z2 ?_|refine Z3 ?_|refine Z4 ?_|refine Z5 ?_|refine Z9 (by assumption) rfl ?_|refine ZA (by assumption) rfl ?_|refine ZB (by assumption) rfl ?_|refine Z6 ?_|refine Z7 ?_|refine Z8 ?_)|((with_reducible refine ZM ?_ ?_);(focus rfl)));(conv=>whnf)))
    refine HCall.mk ((named_spec (d := .mk k nm n t ns l) g4 (TRep.ext x04 (by simp only [TRep]; exact r0)) f.name (by omega)).mono ?_)
    rintro e h5 ⟨rfl, x5⟩
    have o5 := o34.ext x5
    have f5 := of4.ext x5
    rw [show NT.name (.mk k nm n t ns l) = nm from rfl, show NT.l (.mk k nm n t ns l) = l from rfl]
    cases q1 : namedB nm f.name l
    · ((conv=>whnf);repeat((first|(with_reducible first|refine Z1 ?_|refine Z2 ?_|refine Z3 ?_|refine Z4 ?_|refine Z5 ?_|refine Z9 (by assumption) rfl ?_|refine ZA (by assumption) rfl ?_|refine ZB (by assumption) rfl ?_|refine Z6 ?_|refine Z7 ?_|refine Z8 ?_)|((with_reducible refine ZM ?_ ?_);(focus rfl)));(conv=>whnf)))
      exact ⟨rfl, x04.trans x5⟩
    cases q2 : decide (n < 0)
    rotate_left
    · ((conv=>whnf);repeat((first|(with_reducible first|refine Z1 ?_|refine Z2 ?_|refine Z3 ?_|refine Z4 ?_|refine Z5 ?_|refine Z9 (by assumption) rfl ?_|refine ZA (by assumption) rfl ?_|refine ZB (by assumption) rfl ?_|refine Z6 ?_|refine Z7 ?_|refine Z8 ?_)|((with_reducible refine ZM ?_ ?_);(focus rfl)));(conv=>whnf)))
      exact ⟨rfl, x04.trans x5⟩
    cases q3 : decide (n > f.num)
    rotate_left
    · ((conv=>whnf);repeat((first|(with_reducible first|refine Z1 ?_|refine Z2 ?_|refine Z3 ?_|refine Z4 ?_|refine Z5 ?_|refine Z9 (by assumption) rfl ?_|refine ZA (by assumption) rfl ?_|refine ZB (by assumption) rfl ?_|refine Z6 ?_|refine Z7 ?_|refine Z8 ?_)|((with_reducible refine ZM ?_ ?_);(focus rfl)));(conv=>whnf)))
      exact ⟨rfl, x04.trans x5⟩
    ((conv=>whnf);repeat((first|(with_reducible first|refine Z1 ?_|refine Z2 ?_|refine Z3 ?_|refine Z4 ?_|refine Z5 ?_|refine Z9 (by assumption) rfl ?_|refine ZA (by assumption) rfl ?_|refine ZB (by assumption) rfl ?_|refine Z6 ?_|refine Z7 ?_|refine Z8 ?_)|((with_reducible refine ZM ?_ ?_);(focus rfl)));(conv=>whnf)))
    refine HCall.mk ((even_spec t h5).mono ?_)
    rintro e h6 ⟨rfl, rfl⟩
    cases q4 : evenB t
    · ((conv=>whnf);repeat((first|(with_reducible first|refine Z1 ?_|refine Z2 ?_|refine Z3 ?_|refine Z4 ?_|refine Z5 ?_|refine Z9 (by assumption) rfl ?_|refine ZA (by assumption) rfl ?_|refine ZB (by assumption) rfl ?_|refine Z6 ?_|refine Z7 ?_|refine Z8 ?_)|((with_reducible refine ZM ?_ ?_);(focus rfl)));(conv=>whnf)))
      exact ⟨rfl, x04.trans x5⟩
    cases q5 : (!strEq t ⟨#[]⟩)
    · skip
      cases q7 : decide ((ns.length : Int) > 0)
      · ((conv=>whnf);repeat((first|(with_reducible first|refine Z1 ?_|refine Z2 ?_|refine Z3 ?_|refine Z4 ?_|refine Z5 ?_|refine Z9 (by assumption) rfl ?_|refine ZA (by assumption) rfl ?_|refine ZB (by assumption) rfl ?_|refine Z6 ?_|refine Z7 ?_|refine Z8 ?_)|((with_reducible refine ZM ?_ ?_);(focus rfl)));(conv=>whnf)))
        exact ⟨rfl, rfl, x5⟩
      · cases q8 : f.names
        · have q8' : (!f.names) = true := by rw [q8]; rfl
          ((conv=>whnf);repeat((first|(with_reducible first|refine Z1 ?_|refine Z2 ?_|refine Z3 ?_|refine Z4 ?_|refine Z5 ?_|refine Z9 (by assumption) rfl ?_|refine ZA (by assumption) rfl ?_|refine ZB (by assumption) rfl ?_|refine Z6 ?_|refine Z7 ?_|refine Z8 ?_)|((with_reducible refine ZM ?_ ?_);(focus rfl)));(conv=>whnf)))
          exact ⟨rfl, x04.trans x5⟩
        · have q8' : (!f.names) = false := by rw [q8]; rfl
          ((conv=>whnf);repeat((first|(with_reducible first|refine Z1 ?_|refine Z2 ?_|refine Z3 ?_|refine Z4 ?_|refine Z5 ?_|refine Z9 (by assumption) rfl ?_|refine ZA (by assumption) rfl ?_|refine ZB (by assumption) rfl ?_|refine Z6 ?_|refine Z7 ?_|refine Z8 ?_)|((with_reducible refine ZM ?_ ?_);(focus rfl)));(conv=>whnf)))
          exact ⟨rfl, rfl, x5⟩
    · cases q6 : f.text
      · have q6' : (!f.text) = true := by rw [q6]; rfl
        ((conv=>whnf);repeat((first|(with_reducible first|refine Z1 ?_|refine Z2 ?_|refine Z3 ?_|refine Z4 ?_|refine Z5 ?_|refine Z9 (by assumption) rfl ?_|refine ZA (by assumption) rfl ?_|refine ZB (by assumption) rfl ?_|refine Z6 ?_|refine Z7 ?_|refine Z8 ?_)|((with_reducible refine ZM ?_ ?_);(focus rfl)));(conv=>whnf)))
        exact ⟨rfl, x04.trans x5⟩
      · have q6' : (!f.text) = false := by rw [q6]; rfl
        cases q7 : decide ((ns.length : Int) > 0)
        · ((conv=>whnf);repeat((first|(with_reducible first|refine Z1 ?_|refine Z2 ?_|refine Z3 ?_|refine Z4 ?_|refine Z5 ?_|refine Z9 (by assumption) rfl ?_|refine ZA (by assumption) rfl ?_|refine ZB (by assumption) rfl ?_|refine Z6 ?_|refine Z7 ?_|refine Z8 ?_)|((with_reducible refine ZM ?_ ?_);(focus rfl)));(conv=>whnf)))
          exact ⟨rfl, rfl, x5⟩
        · cases q8 : f.names
          · have q8' : (!f.names) = true := by rw [q8]; rfl
            ((conv=>whnf);repeat((first|(with_reducible first|refine Z1 ?_|refine Z2 ?_|refine Z3 ?_|refine Z4 ?_|refine Z5 ?_|refine Z9 (by assumption) rfl ?_|refine ZA (by assumption) rfl ?_|refine ZB (by assumption) rfl ?_|refine Z6 ?_|refine Z7 ?_|refine Z8 ?_)|((with_reducible refine ZM ?_ ?_);(focus rfl)));(conv=>whnf)))
            exact ⟨rfl, x04.trans x5⟩
          · have q8' : (!f.names) = false := by rw [q8]; rfl
            ((conv=>whnf);repeat((first|(with_reducible first|refine Z1 ?_|refine Z2 ?_|refine Z3 ?_|refine Z4 ?_|refine Z5 ?_|refine Z9 (by assumption) rfl ?_|refine ZA (by assumption) rfl ?_|refine ZB (by assumption) rfl ?_|refine Z6 ?_|refine Z7 ?_|refine Z8 ?_)|((with_reducible refine ZM ?_ ?_);(focus rfl)));(conv=>whnf)))
            exact ⟨rfl, rfl, x5⟩
  · intro u5 h5
    rintro ⟨-, hho, x5⟩
    rw [hho]
    have x05 := x04.trans x5
    have o5 := o34.ext x5
    have f5 := of4.ext x5
    have g5 := g4.ext x5
    clear o34 of4
    ((conv=>whnf);repeat((first|(with_reducible first|refine Z1 ?_|refine Z2 ?_|refine Z3 ?_|refine Z4 ?_|refine Z5 ?_|refine Z9 (by assumption) rfl ?_|refine ZA (by assumption) rfl ?_|refine ZB (by assumption) rfl ?_|refine Z6 ?_|refine Z7 ?_|refine Z8 ?_)|((with_reducible refine ZM ?_ ?_);(focus rfl)));(conv=>whnf)))
    refine HCall.mk ((containsFunc_spec (q := fun s => !isNameB s) (by kernel_rfl) (fun s hs => noName_spec g5 s (b7 s hs)) (s1.ext x05) b5).mono ?_)
    rintro e h6 ⟨rfl, rfl⟩
    cases q9 : ns.any fun s => !isNameB s
    rotate_left
    · ((conv=>whnf);repeat((first|(with_reducible first|refine Z1 ?_|refine Z2 ?_|refine Z3 ?_|refine Z4 ?_|refine Z5 ?_|refine Z9 (by assumption) rfl ?_|refine ZA (by assumption) rfl ?_|refine ZB (by assumption) rfl ?_|refine Z6 ?_|refine Z7 ?_|refine Z8 ?_)|((with_reducible refine ZM ?_ ?_);(focus rfl)));(conv=>whnf)))
      exact ⟨rfl, x05⟩
    ((conv=>whnf);repeat((first|(with_reducible first|refine Z1 ?_|refine Z2 ?_|refine Z3 ?_|refine Z4 ?_|refine Z5 ?_|refine Z9 (by assumption) rfl ?_|refine ZA (by assumption) rfl ?_|refine ZB (by assumption) rfl ?_|refine Z6 ?_|refine Z7 ?_|refine Z8 ?_)|((with_reducible refine ZM ?_ ?_);(focus rfl)));(conv=>whnf)))
    refine HCall.mk ((cut_spec g5 f.l ⟨#[42]⟩ (by omega)).mono ?_)
    rintro e h7 ⟨rfl, rfl⟩
    have ec : Lib.cut f.l.data.toList (⟨#[42]⟩ : ByteArray).data.toList = cutF f.l := rfl
    rw [ec]
    have hoft := often_some hf
    obtain ⟨fx, fo, fm, efc⟩ : ∃ fx fo fm, cutF f.l = (fx, fo, fm) := ⟨_, _, _, rfl⟩
    have elt : letters f.l = fx ++ fo := by unfold letters; rw [efc]
    rw [efc] at hoft ⊢
    dsimp only at hoft ⊢
    have sz : (⟨fx.toArray⟩ : ByteArray).size = fx.length := rfl
    have elo : lenOk f l.length = (!decide ((l.length : Int) < ((⟨fx.toArray⟩ : ByteArray).size : Int)) && !(!fm && decide ((l.length : Int) > ((⟨fx.toArray⟩ : ByteArray).size : Int)))) := by unfold lenOk; rw [efc]; rfl
    cases q10 : decide ((l.length : Int) < ((⟨fx.toArray⟩ : ByteArray).size : Int))
    rotate_left
    · have el : lenOk f l.length = false := by rw [elo, q10]; rfl
      rw [el]
      ((conv=>whnf);repeat((first|(with_reducible first|refine Z1 ?_|refine Z2 ?_|refine Z3 ?_|refine Z4 ?_|refine Z5 ?_|refine Z9 (by assumption) rfl ?_|refine ZA (by assumption) rfl ?_|refine ZB (by assumption) rfl ?_|refine Z6 ?_|refine Z7 ?_|refine Z8 ?_)|((with_reducible refine ZM ?_ ?_);(focus rfl)));(conv=>whnf)))
      exact ⟨rfl, x05⟩
    ((conv=>whnf);repeat((first|(with_reducible first|refine Z2 ?_|refine Z3 ?_|refine Z4 ?_|refine Z5 ?_|refine Z9 (by assumption) rfl ?_|refine ZA (by assumption) rfl ?_|refine ZB (by assumption) rfl ?_|refine Z6 ?_|refine Z7 ?_|refine Z8 ?_)|((with_reducible refine ZM ?_ ?_);(focus rfl)));(conv=>whnf)))
    refine cut_rule [] (fun vs h' => vs = [] ∧ lenOk f l.length = true ∧ h' = h7) rfl ?_ ?_
    · cases fm
      · cases q11 : decide ((l.length : Int) > ((⟨fx.toArray⟩ : ByteArray).size : Int))
        · have el : lenOk f l.length = true := by rw [elo, q10, q11]; rfl
          ((conv=>whnf);repeat((first|(with_reducible first|refine Z1 ?_|refine Z2 ?_|refine Z3 ?_|refine Z4 ?_|refine Z5 ?_|refine Z9 (by assumption) rfl ?_|refine ZA (by assumption) rfl ?_|refine ZB (by assumption) rfl ?_|refine Z6 ?_|refine Z7 ?_|refine Z8 ?_)|((with_reducible refine ZM ?_ ?_);(focus rfl)));(conv=>whnf)))
          exact ⟨rfl, el, rfl⟩
        · have el : lenOk f l.length = false := by rw [elo, q10, q11]; rfl
          rw [el]
          ((conv=>whnf);repeat((first|(with_reducible first|refine Z1 ?_|refine Z2 ?_|refine Z3 ?_|refine Z4 ?_|refine Z5 ?_|refine Z9 (by assumption) rfl ?_|refine ZA (by assumption) rfl ?_|refine ZB (by assumption) rfl ?_|refine Z6 ?_|refine Z7 ?_|refine Z8 ?_)|((with_reducible refine ZM ?_ ?_);(focus rfl)));(conv=>whnf)))
          exact ⟨rfl, x05⟩
      · have el : lenOk f l.length = true := by rw [elo, q10]; rfl
        ((conv=>whnf);repeat((first|(with_reducible first|refine Z1 ?_|refine Z2 ?_|refine Z3 ?_|refine Z4 ?_|refine Z5 ?_|refine Z9 (by assumption) rfl ?_|refine ZA (by assumption) rfl ?_|refine ZB (by assumption) rfl ?_|refine Z6 ?_|refine Z7 ?_|refine Z8 ?_)|((with_reducible refine ZM ?_ ?_);(focus rfl)));(conv=>whnf)))
        exact ⟨rfl, el, rfl⟩
    intro u8 h8
    rintro ⟨-, hlo, rfl⟩
    rw [hlo]
    obtain ⟨cl1, cl2⟩ := cut_len efc
    have ecat : (⟨fx.toArray⟩ ++ ⟨fo.toArray⟩ : ByteArray) = ⟨(letters f.l).toArray⟩ := by rw [elt]; apply ByteArray.ext; simp
    have hne : ∀ i, i < l.length → 0 < (letters f.l).length := by
      intro i hi
      rw [elt, List.length_append]
      cases hfm : fm
      · rw [elo, hfm] at hlo
        simp only [Bool.not_false, Bool.true_and, Bool.and_eq_true, Bool.not_eq_true', decide_eq_false_iff_not] at hlo
        have := hlo.2
        rw [sz] at this
        omega
      · have := List.length_pos_iff.2 (hoft hfm)
        omega
    ((conv=>whnf);repeat((first|(with_reducible first|refine Z1 ?_|refine Z2 ?_|refine Z3 ?_|refine Z4 ?_|refine Z5 ?_|refine Z9 (by assumption) rfl ?_|refine ZA (by assumption) rfl ?_|refine ZB (by assumption) rfl ?_|refine Z6 ?_|refine Z7 ?_|refine Z8 ?_)|((with_reducible refine ZM ?_ ?_);(focus rfl)));(conv=>whnf)))
    refine loop_rule [8, 96] (fun vs h' => ∃ (i : Nat), vs = [.int .i64 (empties k (l.take i)), .int .i64 i] ∧ i ≤ l.length ∧ kidsB (letters f.l) (l.take i) 0 = true ∧ Ext h8 h')
      (fun vs _ => match vs with | [_, .int _ i] => l.length - i.toNat | _ => 0) rfl ?_ ?_
    · exact ⟨0, rfl, by omega, rfl, Ext.refl _⟩
    intro u9 h9 v8 v96
    rintro ⟨i, e, hi, hkb, x9⟩
    cases e
    ((conv=>whnf);repeat((first|(with_reducible first|refine Z1 ?_|refine Z2 ?_|refine Z3 ?_|refine Z4 ?_|refine Z5 ?_|refine Z9 (by assumption) rfl ?_|refine ZA (by assumption) rfl ?_|refine ZB (by assumption) rfl ?_|refine Z6 ?_|refine Z7 ?_|refine Z8 ?_)|((with_reducible refine ZM ?_ ?_);(focus rfl)));(conv=>whnf)))
    refine HIf.mk (fun hlt => ?_) (fun hlt => ?_)
    · have hi1 : i < l.length := by have := of_decide_eq_true hlt; omega
      have hmu : l.length - ((i : Int) + 1).toNat < l.length - ((i : Int)).toNat := by omega
      have kt := kidsB_take (letters f.l) l i hi1
      have et := empties_take k l i hi1
      have hcg := cnts_get l i hi1
      have hln := hne i hi1
      simp only [cnt] at hm hc
      ((conv=>whnf);repeat((first|(with_reducible first|refine Z1 ?_|refine Z2 ?_|refine Z3 ?_|refine Z4 ?_|refine Z5 ?_|refine Z9 (by assumption) rfl ?_|refine ZA (by assumption) rfl ?_|refine ZB (by assumption) rfl ?_|refine Z6 ?_|refine Z7 ?_|refine Z8 ?_)|((with_reducible refine ZM ?_ ?_);(focus rfl)));(conv=>whnf)))
      refine HIdx.mk i rfl hi1 ?_
      refine sl_some s2 hi1 fun p ep => ?_
      ((conv=>whnf);repeat((first|(with_reducible first|refine Z1 ?_|refine Z2 ?_|refine Z3 ?_|refine Z4 ?_|refine Z5 ?_|refine Z9 (by assumption) rfl ?_|refine ZA (by assumption) rfl ?_|refine ZB (by assumption) rfl ?_|refine Z6 ?_|refine Z7 ?_|refine Z8 ?_)|((with_reducible refine ZM ?_ ?_);(focus rfl)));(conv=>whnf)))
      refine tload' s2 s3 (x05.trans x9) ep hi1 fun cs rt => ?_
      ((conv=>whnf);repeat((first|(with_reducible first|refine Z1 ?_|refine Z2 ?_|refine Z3 ?_|refine Z4 ?_|refine Z5 ?_|refine Z9 (by assumption) rfl ?_|refine ZA (by assumption) rfl ?_|refine ZB (by assumption) rfl ?_|refine Z6 ?_|refine Z7 ?_|refine Z8 ?_)|((with_reducible refine ZM ?_ ?_);(focus rfl)));(conv=>whnf)))
      refine new_var (e := 26) zeroT rfl ?_
      intro h10 bk ok x10 z10 hbk
      ((conv=>whnf);repeat((first|(with_reducible first|refine Z1 ?_|refine Z2 ?_|refine Z3 ?_|refine Z4 ?_|refine Z5 ?_|refine Z9 (by assumption) rfl ?_|refine ZA (by assumption) rfl ?_|refine ZB (by assumption) rfl ?_|refine Z6 ?_|refine Z7 ?_|refine Z8 ?_)|((with_reducible refine ZM ?_ ?_);(focus rfl)));(conv=>whnf)))
      have hcl := rt.len
      refine HMust.mk (by simpa using hcl) ?_
      refine store_blk ok (by simp [hcl]) (by simpa using rt.one) ?_
      intro h11 f11 z11 o11
      have ok' : BlkW h11 bk 26 cs := by
        have e : (zeroT : List Value).drop (0 + cs.toArray.toList.length) = [] := by simp [hcl]
        rw [e] at o11
        simpa using o11
      have x911 : Ext h9 h11 := x10.offNew f11 (by omega)
      clear ok o11
      ((conv=>whnf);repeat((first|(with_reducible first|refine Z1 ?_|refine Z2 ?_|refine Z3 ?_|refine Z4 ?_|refine Z5 ?_|refine Z9 (by assumption) rfl ?_|refine ZA (by assumption) rfl ?_|refine ZB (by assumption) rfl ?_|refine Z6 ?_|refine Z7 ?_|refine Z8 ?_)|((with_reducible refine ZM ?_ ?_);(focus rfl)));(conv=>whnf)))
      refine HMust.mk (show fx.length + fo.length ≤ 9223372036854775807 by omega) ?_
      ((conv=>whnf);repeat((first|(with_reducible first|refine Z1 ?_|refine Z2 ?_|refine Z3 ?_|refine Z4 ?_|refine Z5 ?_|refine Z9 (by assumption) rfl ?_|refine ZA (by assumption) rfl ?_|refine ZB (by assumption) rfl ?_|refine Z6 ?_|refine Z7 ?_|refine Z8 ?_)|((with_reducible refine ZM ?_ ?_);(focus rfl)));(conv=>whnf)))
      refine HMust.mk (show fx.length + fo.length ≤ 9223372036854775807 by omega) ?_
      rw [ecat]
      have zl : (⟨(letters f.l).toArray⟩ : ByteArray).size = (letters f.l).length := rfl
      have hll : (letters f.l).length ≤ 20 := by rw [elt, List.length_append]; omega
      generalize hLS : letters f.l = ls at *
      ((conv=>whnf);repeat((first|(with_reducible first|refine Z1 ?_|refine Z2 ?_|refine Z3 ?_|refine Z4 ?_|refine Z5 ?_|refine Z9 (by assumption) rfl ?_|refine ZA (by assumption) rfl ?_|refine ZB (by assumption) rfl ?_|refine Z6 ?_|refine Z7 ?_|refine Z8 ?_)|((with_reducible refine ZM ?_ ?_);(focus rfl)));(conv=>whnf)))
      have hmi : min i (ls.length - 1) < ls.length := by omega
      refine HIdx.mk (min i (ls.length - 1)) (by show (if (ls.length : Int) - 1 < (i : Int) then (ls.length : Int) - 1 else (i : Int)) = _; split <;> omega) hmi ?_
      rw [at_l hmi]
      have ela : letterAt ls i = ls[min i (ls.length - 1)] := by unfold letterAt; rw [List.getElem?_eq_getElem hmi]; rfl
      have kl1 : cnt l[i] < m := by omega
      ((conv=>whnf);repeat((first|(with_reducible first|refine Z1 ?_|refine Z2 ?_|refine Z3 ?_|refine Z4 ?_|refine Z5 ?_|refine Z9 (by assumption) rfl ?_|refine ZA (by assumption) rfl ?_|refine ZB (by assumption) rfl ?_|refine Z6 ?_|refine Z7 ?_|refine Z8 ?_)|((with_reducible refine ZM ?_ ?_);(focus rfl)));(conv=>whnf)))
      refine blk_ldN ok' hcl ?_
      ((conv=>whnf);repeat((first|(with_reducible first|refine Z1 ?_|refine Z2 ?_|refine Z3 ?_|refine Z4 ?_|refine Z5 ?_|refine Z9 (by assumption) rfl ?_|refine ZA (by assumption) rfl ?_|refine ZB (by assumption) rfl ?_|refine Z6 ?_|refine Z7 ?_|refine Z8 ?_)|((with_reducible refine ZM ?_ ?_);(focus rfl)));(conv=>whnf)))
      refine HCall.to #[.agg cs.toArray, byteV ls[min i (ls.length - 1)]] rfl ((fits_spec (mb := mayT l[i]) (rt.ext (x05.trans (x9.trans x911))) ls[min i (ls.length - 1)] (fun h' e' => ih (cnt l[i]) kl1 l[i] rfl h' cs (rt.ext (x05.trans (x9.trans (x911.trans e')))) (g5.ext (x9.trans (x911.trans e'))) (by omega))).mono ?_)
      rintro e h12 ⟨rfl, x12⟩
      rw [← ela]
      have ok2 := ok'.ext x12
      cases hb : (shapeB (exprB l[i].kind) l[i].kind l[i].l (letterAt ls i).toNat && mayT l[i])
      · have e0 : kidsB ls l 0 = false := kidsB_no (i := i + 1) (by rw [kt, hb, Bool.and_false])
        rw [e0]
        ((conv=>whnf);repeat((first|(with_reducible first|refine Z1 ?_|refine Z2 ?_|refine Z3 ?_|refine Z4 ?_|refine Z5 ?_|refine Z9 (by assumption) rfl ?_|refine ZA (by assumption) rfl ?_|refine ZB (by assumption) rfl ?_|refine Z6 ?_|refine Z7 ?_|refine Z8 ?_)|((with_reducible refine ZM ?_ ?_);(focus rfl)));(conv=>whnf)))
        exact ⟨rfl, x05.trans (x9.trans (x911.trans x12))⟩
      have o12 := o5.ext (x9.trans (x911.trans x12))
      have kt' : kidsB ls (l.take (i + 1)) 0 = true := by rw [kt, hkb, hb]; rfl
      have xx : Ext h8 h12 := x9.trans (x911.trans x12)
      have rt0 := rt.ext (x05.trans xx)
      rw [Bool.and_eq_true] at hb
      have hkid : l[i].kind = 37 → 0 < l[i].l.length := case_len l[i] hb.2
      cases hd : l[i] with
      | mk kk knm kn ktx kns kl =>
      rw [hd] at rt rt0 et hkid
      simp only [TRep] at rt0
      obtain ⟨_, _, _, _, _, _, _, ka', kc', la', lc', ys', rfl, t1, t2, t3⟩ := rt0
      simp only [NT.kind, NT.l] at hkid
      have hem : empties k (l.take i) ≤ 4194304 := by
        unfold empties
        have := List.length_filter_le (emptyKid k) (l.take i)
        rw [List.length_take] at this
        omega
      have em : emptyKid k (.mk kk knm kn ktx kns kl) = ((k == 35 && kk == 42) || (k == 36 && kk == 37 && kidKind kl 0 == 42)) := rfl
      rw [em] at et
      cases e1 : (k == 35)
      · cases e2 : (k == 36)
        · rw [e1, e2] at et
          ((conv=>whnf);repeat((first|(with_reducible first|refine Z1 ?_|refine Z2 ?_|refine Z3 ?_|refine Z4 ?_|refine Z5 ?_|refine Z9 (by assumption) rfl ?_|refine ZA (by assumption) rfl ?_|refine ZB (by assumption) rfl ?_|refine Z6 ?_|refine Z7 ?_|refine Z8 ?_)|((with_reducible refine ZM ?_ ?_);(focus rfl)));(conv=>whnf)))
          exact ⟨⟨i + 1, by rw [et]; rfl, by omega, kt', xx⟩, hmu⟩
        · cases e3 : (kk == 37)
          · rw [e1, e2, e3] at et
            ((conv=>whnf);repeat((first|(with_reducible first|refine Z1 ?_|refine Z2 ?_|refine Z3 ?_|refine Z4 ?_|refine Z5 ?_|refine Z9 (by assumption) rfl ?_|refine ZA (by assumption) rfl ?_|refine ZB (by assumption) rfl ?_|refine Z6 ?_|refine Z7 ?_|refine Z8 ?_)|((with_reducible refine ZM ?_ ?_);(focus rfl)));(conv=>whnf)))
            exact ⟨⟨i + 1, by rw [et]; rfl, by omega, kt', xx⟩, hmu⟩
          · have hl0 : 0 < kl.length := hkid (by simpa using e3)
            cases e4 : (kidKind kl 0 == 42)
            · rw [e1, e2, e3, e4] at et
              rw [kidKind_in hl0] at e4
              ((conv=>whnf);repeat((first|(with_reducible first|refine Z1 ?_|refine Z2 ?_|refine Z3 ?_|refine Z4 ?_|refine Z5 ?_|refine Z9 (by assumption) rfl ?_|refine ZA (by assumption) rfl ?_|refine ZB (by assumption) rfl ?_|refine Z6 ?_|refine Z7 ?_|refine Z8 ?_)|((with_reducible refine ZM ?_ ?_);(focus rfl)));(conv=>whnf)))
              refine HIdx.mk 0 rfl hl0 ?_
              refine sl_some t2 hl0 fun p' ep' => ?_
              ((conv=>whnf);repeat((first|(with_reducible first|refine Z1 ?_|refine Z2 ?_|refine Z3 ?_|refine Z4 ?_|refine Z5 ?_|refine Z9 (by assumption) rfl ?_|refine ZA (by assumption) rfl ?_|refine ZB (by assumption) rfl ?_|refine Z6 ?_|refine Z7 ?_|refine Z8 ?_)|((with_reducible refine ZM ?_ ?_);(focus rfl)));(conv=>whnf)))
              refine tkind t2 t3 ep' hl0 ?_
              ((conv=>whnf);repeat((first|(with_reducible first|refine Z1 ?_|refine Z2 ?_|refine Z3 ?_|refine Z4 ?_|refine Z5 ?_|refine Z9 (by assumption) rfl ?_|refine ZA (by assumption) rfl ?_|refine ZB (by assumption) rfl ?_|refine Z6 ?_|refine Z7 ?_|refine Z8 ?_)|((with_reducible refine ZM ?_ ?_);(focus rfl)));(conv=>whnf)))
              exact ⟨⟨i + 1, by rw [et]; rfl, by omega, kt', xx⟩, hmu⟩
            · rw [e1, e2, e3, e4] at et
              rw [kidKind_in hl0] at e4
              ((conv=>whnf);repeat((first|(with_reducible first|refine Z1 ?_|refine Z2 ?_|refine Z3 ?_|refine Z4 ?_|refine Z5 ?_|refine Z9 (by assumption) rfl ?_|refine ZA (by assumption) rfl ?_|refine ZB (by assumption) rfl ?_|refine Z6 ?_|refine Z7 ?_|refine Z8 ?_)|((with_reducible refine ZM ?_ ?_);(focus rfl)));(conv=>whnf)))
              refine HIdx.mk 0 rfl hl0 ?_
              refine sl_some t2 hl0 fun p' ep' => ?_
              ((conv=>whnf);repeat((first|(with_reducible first|refine Z1 ?_|refine Z2 ?_|refine Z3 ?_|refine Z4 ?_|refine Z5 ?_|refine Z9 (by assumption) rfl ?_|refine ZA (by assumption) rfl ?_|refine ZB (by assumption) rfl ?_|refine Z6 ?_|refine Z7 ?_|refine Z8 ?_)|((with_reducible refine ZM ?_ ?_);(focus rfl)));(conv=>whnf)))
              refine tkind t2 t3 ep' hl0 ?_
              ((conv=>whnf);repeat((first|(with_reducible first|refine Z1 ?_|refine Z2 ?_|refine Z3 ?_|refine Z4 ?_|refine Z5 ?_|refine Z9 (by assumption) rfl ?_|refine ZA (by assumption) rfl ?_|refine ZB (by assumption) rfl ?_|refine Z6 ?_|refine Z7 ?_|refine Z8 ?_)|((with_reducible refine ZM ?_ ?_);(focus rfl)));(conv=>whnf)))
              exact ⟨⟨i + 1, by rw [et]; rfl, by omega, kt', xx⟩, hmu⟩
      · have e2 : (k == 36) = false := by rw [beq_iff_eq] at e1; rw [beq_eq_false_iff_ne]; omega
        cases e3 : (kk == 42)
        · rw [e1, e2, e3] at et
          ((conv=>whnf);repeat((first|(with_reducible first|refine Z1 ?_|refine Z2 ?_|refine Z3 ?_|refine Z4 ?_|refine Z5 ?_|refine Z9 (by assumption) rfl ?_|refine ZA (by assumption) rfl ?_|refine ZB (by assumption) rfl ?_|refine Z6 ?_|refine Z7 ?_|refine Z8 ?_)|((with_reducible refine ZM ?_ ?_);(focus rfl)));(conv=>whnf)))
          exact ⟨⟨i + 1, by rw [et]; rfl, by omega, kt', xx⟩, hmu⟩
        · rw [e1, e2, e3] at et
          ((conv=>whnf);repeat((first|(with_reducible first|refine Z1 ?_|refine Z2 ?_|refine Z3 ?_|refine Z4 ?_|refine Z5 ?_|refine Z9 (by assumption) rfl ?_|refine ZA (by assumption) rfl ?_|refine ZB (by assumption) rfl ?_|refine Z6 ?_|refine Z7 ?_|refine Z8 ?_)|((with_reducible refine ZM ?_ ?_);(focus rfl)));(conv=>whnf)))
          exact ⟨⟨i + 1, by rw [et]; rfl, by omega, kt', xx⟩, hmu⟩
    · have hge := of_decide_eq_false hlt
      obtain rfl : i = l.length := by omega
      rw [List.take_length] at hkb ⊢
      rw [hkb]
      ((conv=>whnf);repeat((first|(with_reducible first|refine Z1 ?_|refine Z2 ?_|refine Z3 ?_|refine Z4 ?_|refine Z5 ?_|refine Z9 (by assumption) rfl ?_|refine ZA (by assumption) rfl ?_|refine ZB (by assumption) rfl ?_|refine Z6 ?_|refine Z7 ?_|refine Z8 ?_)|((with_reducible refine ZM ?_ ?_);(focus rfl)));(conv=>whnf)))
      exact ⟨rfl, x05.trans x9⟩
end Go.Proofs.Ytlogpojkkbcpjaa.Hc
