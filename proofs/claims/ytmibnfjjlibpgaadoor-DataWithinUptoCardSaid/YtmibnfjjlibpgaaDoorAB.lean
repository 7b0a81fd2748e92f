import Derived.Test.YtmibnfjjlibpgaaDoorA0
import Derived.Test.YtmibnfjjlibpgaaDoorHL
set_option linter.unusedVariables false
set_option linter.unusedSimpArgs false
namespace Go.Proofs.YtmibnfjjlibpgaaDoor.Hc
open Go Go.H Go.Proofs
set_option maxRecDepth 100000

abbrev zeroD : List Value := [.int .i64 0, .int .i64 0, .string ⟨#[]⟩, .slice none 0 0, .slice none 0 0]
/-- Five cells hold a tree that is all new from B on. -/
def RepN (h : Heap) (B : Nat) (d : DT) (cs : List Value) : Prop := Fr (fun b => B ≤ b ∧ b < h.size) (fun h => Rep h d cs) h
theorem RepN.ext {h h' : Heap} {B : Nat} {d : DT} {cs : List Value} (x : RepN h B d cs) (k : Ext h h') : RepN h' B d cs :=
  (x.frame (k.agree fun _ hb => hb.2)).mono fun b hb => ⟨hb.1, Nat.lt_of_lt_of_le hb.2 k.1⟩
theorem RepN.offk {h h' : Heap} {B k : Nat} {d : DT} {cs : List Value} (x : RepN h B d cs) (o : Off k h h') (hk : k < B) : RepN h' B d cs :=
  (x.frame (o.agree fun _ hb => ⟨hb.2, by omega⟩)).mono fun b hb => ⟨hb.1, Nat.lt_of_lt_of_le hb.2 o.1⟩
theorem RepN.lower {h : Heap} {B B' : Nat} {d : DT} {cs : List Value} (x : RepN h B d cs) (hb : B' ≤ B) : RepN h B' d cs := x.mono fun b h => ⟨by omega, h.2⟩
theorem strsV_one {l : List ByteArray} : ∀ v ∈ l.map Value.string, isOne v = true := by simp [isOne]

theorem rcopy_spec : ∀ (a : DT) (h : Heap) (cs : List Value), Rep h a cs → vol a ≤ 1073741824 →
    HCalls Tryd.prog 28 #[.agg cs.toArray] h fun e h' => ∃ ds : List Value, e = .returned (.agg ds.toArray) ∧ Ext h h' ∧ RepN h' h.size a ds := by
  intro a
  induction a using (measure (fun d : DT => SizeOf.sizeOf d)).wf.induction with
  | _ a ih =>
  intro h cs ra hvol
  obtain ⟨k1, n1, s1, ks1, l1⟩ := a
  have ra0 := ra
  simp only [Rep] at ra
  obtain ⟨a1, a2, a3, a4, a5, a6, ka, kc, la, lc, xs, rfl, a7, a8, a9⟩ := ra
  have hkl := kvol_len ks1
  have hvl := vols_len l1
  simp only [vol] at hvol
  refine c28 (by simp) ?_
  (conv => whnf)
  refine new_var (e := 25) [.int .i64 k1, .int .i64 n1, .string s1, .slice ka ks1.length kc, .slice la l1.length lc] rfl ?_
  intro h1 bx ox x1 z1 hbx
  (conv => whnf)
  refine new_var (e := 25) zeroD rfl ?_
  intro h2 b2 o2 x2 z2 hb2
  ((repeat (rename BlkW h1 _ _ _ => upq; have upr := BlkW.ext upq x2; clear upq)))
  have x12 := x1.trans x2
  (conv => whnf)
  refine cut_rule [3] (fun vs h' => ∃ b3 ka' kc', vs = [.pointer (some ⟨b3, 0, none⟩)] ∧ Ext h2 h' ∧ h2.size ≤ b3 ∧ b3 < h'.size ∧ (∀ p, ka' = some p → h2.size ≤ p.block ∧ p.block < h'.size ∧ p.block ≠ b3) ∧ Sl h' 1 ka' ks1.length kc' (ks1.map .string) ∧
      BlkW h' b3 25 [.int .i64 k1, .int .i64 n1, .string s1, .slice ka' ks1.length kc', .slice none 0 0]) rfl ?_ ?_
  · ((conv=>whnf);repeat((first|(with_reducible first|refine Z1 ?_|refine Z2 ?_|refine Z3 ?_|refine Z4 ?_|refine Z5 ?_|refine Z9 (by assumption) rfl ?_|refine ZA (by assumption) rfl ?_|refine ZB (by assumption) rfl ?_|refine Z6 ?_|refine Z7 ?_|refine Z8 ?_)|((with_reducible refine ZM ?_ ?_);(focus rfl)));(conv=>whnf)))
    refine HAlt.mk ?_ ?_
    · ((conv=>whnf);repeat((first|(with_reducible first|refine Z1 ?_|refine Z2 ?_|refine Z3 ?_|refine Z4 ?_|refine Z5 ?_|refine Z9 (by assumption) rfl ?_|refine ZA (by assumption) rfl ?_|refine ZB (by assumption) rfl ?_|refine Z6 ?_|refine Z7 ?_|refine Z8 ?_)|((with_reducible refine ZM ?_ ?_);(focus rfl)));(conv=>whnf)))
      refine (a7.ext x12).cells ?_
      refine (Own.nil h2 h2.size 9 1).append (m := ks1.length) (Nat.le_refl _) rfl (by simp) strsV_one (by omega) ?_
      intro h3 a3 c3 o3 k3 _ _
      have x3 : Ext h2 h3 := k3
      rw [Nat.zero_add, List.nil_append] at o3
      rw [Nat.zero_add]
      ((repeat (rename BlkW h2 _ _ _ => upq; have upr := BlkW.ext upq x3; clear upq)))
      ((conv=>whnf);repeat((first|(with_reducible first|refine Z1 ?_|refine Z2 ?_|refine Z3 ?_|refine Z4 ?_|refine Z5 ?_|refine Z9 (by assumption) rfl ?_|refine ZA (by assumption) rfl ?_|refine ZB (by assumption) rfl ?_|refine Z6 ?_|refine Z7 ?_|refine Z8 ?_)|((with_reducible refine ZM ?_ ?_);(focus rfl)));(conv=>whnf)))
      refine new_var (e := 25) zeroD rfl ?_
      intro h4 b4 o4 x4 z4 hb4
      ((repeat (rename BlkW h3 _ _ _ => upq; have upr := BlkW.ext upq x4; clear upq)))
      ((conv=>whnf);repeat((first|(with_reducible first|refine Z1 ?_|refine Z2 ?_|refine Z3 ?_|refine Z4 ?_|refine Z5 ?_|refine Z9 (by assumption) rfl ?_|refine ZA (by assumption) rfl ?_|refine ZB (by assumption) rfl ?_|refine Z6 ?_|refine Z7 ?_|refine Z8 ?_)|((with_reducible refine ZM ?_ ?_);(focus rfl)));(conv=>whnf)))
      refine store_new o4 (by rfl) (by simp [isOne]) ?_
      intro h5 f5 z5 o5
      have hlt := Own.lt (by assumption)
      ((conv=>whnf);repeat((first|(with_reducible first|refine Z1 ?_|refine Z2 ?_|refine Z3 ?_|refine Z4 ?_|refine Z5 ?_|refine Z9 (by assumption) rfl ?_|refine ZA (by assumption) rfl ?_|refine ZB (by assumption) rfl ?_|refine Z6 ?_|refine Z7 ?_|refine Z8 ?_)|((with_reducible refine ZM ?_ ?_);(focus rfl)));(conv=>whnf)))
      refine ⟨b4, a3, c3, rfl, (x3.trans x4).offNew f5 (by have := x3.1; omega), by have := x3.1; omega, by omega, fun p ep => ?_, ?_, o5⟩
      · have := hlt p ep; have := o3.lt p ep; have := x4.1; omega
      · have := (o3.ext x4).off f5 (fun p ep => by have := o3.lt p ep; omega)
        exact this.sl
    · ((conv=>whnf);repeat((first|(with_reducible first|refine Z1 ?_|refine Z2 ?_|refine Z3 ?_|refine Z4 ?_|refine Z5 ?_|refine Z9 (by assumption) rfl ?_|refine ZA (by assumption) rfl ?_|refine ZB (by assumption) rfl ?_|refine Z6 ?_|refine Z7 ?_|refine Z8 ?_)|((with_reducible refine ZM ?_ ?_);(focus rfl)));(conv=>whnf)))
      refine new_var (e := 25) zeroD rfl ?_
      intro h4 b4 o4 x4 z4 hb4
      ((repeat (rename BlkW h2 _ _ _ => upq; have upr := BlkW.ext upq x4; clear upq)))
      ((conv=>whnf);repeat((first|(with_reducible first|refine Z1 ?_|refine Z2 ?_|refine Z3 ?_|refine Z4 ?_|refine Z5 ?_|refine Z9 (by assumption) rfl ?_|refine ZA (by assumption) rfl ?_|refine ZB (by assumption) rfl ?_|refine Z6 ?_|refine Z7 ?_|refine Z8 ?_)|((with_reducible refine ZM ?_ ?_);(focus rfl)));(conv=>whnf)))
      refine (a7.ext (x12.trans x4)).cells ?_
      refine (Own.nil h4 h4.size 9 1).append (m := ks1.length) (Nat.le_refl _) rfl (by simp) strsV_one (by omega) ?_
      intro h3 a3 c3 o3 k3 _ _
      have x3 : Ext h4 h3 := k3
      rw [Nat.zero_add, List.nil_append] at o3
      rw [Nat.zero_add]
      have o4' := o4.ext x3
      ((conv=>whnf);repeat((first|(with_reducible first|refine Z1 ?_|refine Z2 ?_|refine Z3 ?_|refine Z4 ?_|refine Z5 ?_|refine Z9 (by assumption) rfl ?_|refine ZA (by assumption) rfl ?_|refine ZB (by assumption) rfl ?_|refine Z6 ?_|refine Z7 ?_|refine Z8 ?_)|((with_reducible refine ZM ?_ ?_);(focus rfl)));(conv=>whnf)))
      refine store_new o4' (by rfl) (by simp [isOne]) ?_
      intro h5 f5 z5 o5
      ((conv=>whnf);repeat((first|(with_reducible first|refine Z1 ?_|refine Z2 ?_|refine Z3 ?_|refine Z4 ?_|refine Z5 ?_|refine Z9 (by assumption) rfl ?_|refine ZA (by assumption) rfl ?_|refine ZB (by assumption) rfl ?_|refine Z6 ?_|refine Z7 ?_|refine Z8 ?_)|((with_reducible refine ZM ?_ ?_);(focus rfl)));(conv=>whnf)))
      refine ⟨b4, a3, c3, rfl, (x4.trans x3).offNew f5 (by omega), by omega, by have := x3.1; omega, fun p ep => ?_, ?_, o5⟩
      · have := o3.lt p ep; omega
      · have := o3.off f5 (fun p ep => by have := o3.lt p ep; omega)
        exact this.sl
  · intro u h3 v3
    rintro ⟨b3, ka', kc', e, x3, hb3, hb3', hka, sk, o3⟩
    cases e
    ((repeat (rename BlkW h2 _ _ _ => upq; have upr := BlkW.ext upq x3; clear upq)))
    have x13 := x12.trans x3
    ((conv=>whnf);repeat((first|(with_reducible first|refine Z1 ?_|refine Z2 ?_|refine Z3 ?_|refine Z4 ?_|refine Z5 ?_|refine Z9 (by assumption) rfl ?_|refine ZA (by assumption) rfl ?_|refine ZB (by assumption) rfl ?_|refine Z6 ?_|refine Z7 ?_|refine Z8 ?_)|((with_reducible refine ZM ?_ ?_);(focus rfl)));(conv=>whnf)))
    refine loop_rule [19] (fun vs h' => ∃ (i : Nat) (la' : Option Addr) (lc' : Nat), vs = [.int .i64 i] ∧ i ≤ l1.length ∧ Ext h h' ∧ h3.size ≤ h'.size ∧ (∀ b, b < h3.size → b ≠ b3 → h'[b]? = h3[b]?) ∧
        BlkW h' b3 25 [.int .i64 k1, .int .i64 n1, .string s1, .slice ka' ks1.length kc', .slice la' i lc'] ∧ OwnL Rep h' h3.size 25 5 la' i lc' (l1.take i))
      (fun vs _ => match vs with | [.int _ i] => l1.length - i.toNat | _ => 0) rfl ?_ ?_
    · exact ⟨0, none, 0, rfl, by omega, x13, Nat.le_refl _, fun _ _ _ => rfl, o3, OwnL.nil _ _ _ _ _⟩
    · intro u h4 v19
      rintro ⟨i, la', lc', e, hi, x4, hs4, ag4, o3', own⟩
      cases e
      ((conv=>whnf);repeat((first|(with_reducible first|refine Z1 ?_|refine Z2 ?_|refine Z3 ?_|refine Z4 ?_|refine Z5 ?_|refine Z9 (by assumption) rfl ?_|refine ZA (by assumption) rfl ?_|refine ZB (by assumption) rfl ?_|refine Z6 ?_|refine Z7 ?_|refine Z8 ?_)|((with_reducible refine ZM ?_ ?_);(focus rfl)));(conv=>whnf)))
      refine HIf.mk (fun hb => ?_) (fun hb => ?_)
      · have hi1 : i < l1.length := by have := of_decide_eq_true hb; omega
        have hvi := vols_mem l1 l1[i] (List.getElem_mem hi1)
        ((conv=>whnf);repeat((first|(with_reducible first|refine Z1 ?_|refine Z2 ?_|refine Z3 ?_|refine Z4 ?_|refine Z5 ?_|refine Z9 (by assumption) rfl ?_|refine ZA (by assumption) rfl ?_|refine ZB (by assumption) rfl ?_|refine Z6 ?_|refine Z7 ?_|refine Z8 ?_)|((with_reducible refine ZM ?_ ?_);(focus rfl)));(conv=>whnf)))
        refine HIdx.mk i rfl hi1 ?_
        refine sl_some a8 hi1 fun p ep => ?_
        ((conv=>whnf);repeat((first|(with_reducible first|refine Z1 ?_|refine Z2 ?_|refine Z3 ?_|refine Z4 ?_|refine Z5 ?_|refine Z9 (by assumption) rfl ?_|refine ZA (by assumption) rfl ?_|refine ZB (by assumption) rfl ?_|refine Z6 ?_|refine Z7 ?_|refine Z8 ?_)|((with_reducible refine ZM ?_ ?_);(focus rfl)));(conv=>whnf)))
        refine (a8.ext x4).loadRep (Reps.ext x4 _ _ a9) ep hi1 fun as' ra1 => ?_
        ((conv=>whnf);repeat((first|(with_reducible first|refine Z1 ?_|refine Z2 ?_|refine Z3 ?_|refine Z4 ?_|refine Z5 ?_|refine Z9 (by assumption) rfl ?_|refine ZA (by assumption) rfl ?_|refine ZB (by assumption) rfl ?_|refine Z6 ?_|refine Z7 ?_|refine Z8 ?_)|((with_reducible refine ZM ?_ ?_);(focus rfl)));(conv=>whnf)))
        refine new_var (e := 25) zeroD rfl ?_
        intro h5 b5 o5 x5 z5 hb5
        ((conv=>whnf);repeat((first|(with_reducible first|refine Z1 ?_|refine Z2 ?_|refine Z3 ?_|refine Z4 ?_|refine Z5 ?_|refine Z9 (by assumption) rfl ?_|refine ZA (by assumption) rfl ?_|refine ZB (by assumption) rfl ?_|refine Z6 ?_|refine Z7 ?_|refine Z8 ?_)|((with_reducible refine ZM ?_ ?_);(focus rfl)));(conv=>whnf)))
        have hal := ra1.len
        refine HMust.mk (by simpa using hal) ?_
        refine store_new o5 (by simp [hal]) (by simpa using ra1.one) ?_
        intro h6 f6 z6 o6
        have x46 : Ext h4 h6 := x5.offNew f6 (by omega)
        have o3'' := o3'.ext x46
        have own6 := own.ext x46
        have hown := own.lt
        ((conv=>whnf);repeat((first|(with_reducible first|refine Z1 ?_|refine Z2 ?_|refine Z3 ?_|refine Z4 ?_|refine Z5 ?_));(conv=>whnf)))
        refine blk_ldN o6 (by simpa using hal) ?_
        ((conv=>whnf);repeat((first|(with_reducible first|refine Z1 ?_|refine Z2 ?_|refine Z3 ?_|refine Z4 ?_|refine Z5 ?_));(conv=>whnf)))
        refine HAlt.mk ?_ ?_
        · ((conv=>whnf);repeat((first|(with_reducible first|refine Z1 ?_|refine Z2 ?_|refine Z3 ?_|refine Z4 ?_|refine Z5 ?_|refine Z9 (by assumption) rfl ?_|refine ZA (by assumption) rfl ?_|refine ZB (by assumption) rfl ?_|refine Z6 ?_|refine Z7 ?_|refine Z8 ?_)|((with_reducible refine ZM ?_ ?_);(focus rfl)));(conv=>whnf)))
          refine HCall.mk ((ih l1[i] (dt_lt hi1) h6 as' (Rep.ext x46 _ _ ra1) (by omega)).mono ?_)
          rintro e h7 ⟨ds, rfl, x7, rn⟩
          have rd := rn.get
          have hdl := rd.len
          ((repeat (rename BlkW h6 _ _ _ => upq; have upr := BlkW.ext upq x7; clear upq)))
          ((conv=>whnf);repeat((first|(with_reducible first|refine Z1 ?_|refine Z2 ?_|refine Z3 ?_|refine Z4 ?_|refine Z5 ?_|refine Z9 (by assumption) rfl ?_|refine ZA (by assumption) rfl ?_|refine ZB (by assumption) rfl ?_|refine Z6 ?_|refine Z7 ?_|refine Z8 ?_)|((with_reducible refine ZM ?_ ?_);(focus rfl)));(conv=>whnf)))
          refine splN_all rfl (by simpa using hdl) ?_
          ((conv=>whnf);repeat((first|(with_reducible first|refine Z1 ?_|refine Z2 ?_|refine Z3 ?_|refine Z4 ?_|refine Z5 ?_|refine Z9 (by assumption) rfl ?_|refine ZA (by assumption) rfl ?_|refine ZB (by assumption) rfl ?_|refine Z6 ?_|refine Z7 ?_|refine Z8 ?_)|((with_reducible refine ZM ?_ ?_);(focus rfl)));(conv=>whnf)))
          refine new_own (e := 25) 5 1 ds rfl (by simpa using hdl) ?_
          intro h8 b8 o8 x8 z8 hb8
          ((repeat (rename BlkW h7 _ _ _ => upq; have upr := BlkW.ext upq x8; clear upq)))
          ((conv=>whnf);repeat((first|(with_reducible first|refine Z1 ?_|refine Z2 ?_|refine Z3 ?_|refine Z4 ?_|refine Z5 ?_|refine Z9 (by assumption) rfl ?_|refine ZA (by assumption) rfl ?_|refine ZB (by assumption) rfl ?_|refine Z6 ?_|refine Z7 ?_|refine Z8 ?_)|((with_reducible refine ZM ?_ ?_);(focus rfl)));(conv=>whnf)))
          refine o8.sl.cells ?_
          have x68 := x7.trans x8
          have x48 := x46.trans x68
          have hs8 := x48.1
          refine (own6.ext x68).push (s := h6.size) (by omega) rfl hdl (by simpa using rd.one) (by omega) (rn.ext x8) (by omega) (fun p ep => by have := hown p ep; have := x46.1; omega) ?_
          intro h9 a9 c9 o9 k9
          have o3x : BlkW h9 b3 25 _ := (‹BlkW h8 b3 25 _›).of (k9.2 _ (by omega))
          ((conv=>whnf);repeat((first|(with_reducible first|refine Z1 ?_|refine Z2 ?_|refine Z3 ?_|refine Z4 ?_|refine Z5 ?_|refine Z9 (by assumption) rfl ?_|refine ZA (by assumption) rfl ?_|refine ZB (by assumption) rfl ?_|refine Z6 ?_|refine Z7 ?_|refine Z8 ?_)|((with_reducible refine ZM ?_ ?_);(focus rfl)));(conv=>whnf)))
          refine store1_blk o3x (by simp) rfl ?_
          intro h10 f10 z10 o10
          have hs9 := k9.1
          have hs10 := f10.1
          ((conv=>whnf);repeat((first|(with_reducible first|refine Z1 ?_|refine Z2 ?_|refine Z3 ?_|refine Z4 ?_|refine Z5 ?_|refine Z9 (by assumption) rfl ?_|refine ZA (by assumption) rfl ?_|refine ZB (by assumption) rfl ?_|refine Z6 ?_|refine Z7 ?_|refine Z8 ?_)|((with_reducible refine ZM ?_ ?_);(focus rfl)));(conv=>whnf)))
          refine ⟨⟨i + 1, a9, c9, rfl, by omega, ?_, ?_, ?_, o10, ?_⟩, ?_⟩
          · have e1 : Ext h h9 := (x4.trans x48).keep (k9.mono (by have := x13.1; omega))
            refine ⟨by have := e1.1; omega, fun b hb => ?_⟩
            rw [f10.2 b (by have := e1.1; omega) (show b ≠ b3 by have := x12.1; omega), e1.2 b hb]
          · have := k9.1; omega
          · intro b hb hne
            rw [f10.2 b (by have := k9.1; omega) hne, k9.2 b hb, x48.2 b (by omega), ag4 b hb hne]
          · rw [take_succ' hi1]; exact o9.off f10 (by omega)
          · show l1.length - (((i : Int) + 1)).toNat < l1.length - ((i : Int)).toNat
            omega
        · ((conv=>whnf);repeat((first|(with_reducible first|refine Z1 ?_|refine Z2 ?_|refine Z3 ?_|refine Z4 ?_|refine Z5 ?_|refine Z9 (by assumption) rfl ?_|refine ZA (by assumption) rfl ?_|refine ZB (by assumption) rfl ?_|refine Z6 ?_|refine Z7 ?_|refine Z8 ?_)|((with_reducible refine ZM ?_ ?_);(focus rfl)));(conv=>whnf)))
          refine HCall.mk ((ih l1[i] (dt_lt hi1) h6 as' (Rep.ext x46 _ _ ra1) (by omega)).mono ?_)
          rintro e h7 ⟨ds, rfl, x7, rn⟩
          have rd := rn.get
          have hdl := rd.len
          ((repeat (rename BlkW h6 _ _ _ => upq; have upr := BlkW.ext upq x7; clear upq)))
          ((conv=>whnf);repeat((first|(with_reducible first|refine Z1 ?_|refine Z2 ?_|refine Z3 ?_|refine Z4 ?_|refine Z5 ?_|refine Z9 (by assumption) rfl ?_|refine ZA (by assumption) rfl ?_|refine ZB (by assumption) rfl ?_|refine Z6 ?_|refine Z7 ?_|refine Z8 ?_)|((with_reducible refine ZM ?_ ?_);(focus rfl)));(conv=>whnf)))
          refine splN_all rfl (by simpa using hdl) ?_
          ((conv=>whnf);repeat((first|(with_reducible first|refine Z1 ?_|refine Z2 ?_|refine Z3 ?_|refine Z4 ?_|refine Z5 ?_|refine Z9 (by assumption) rfl ?_|refine ZA (by assumption) rfl ?_|refine ZB (by assumption) rfl ?_|refine Z6 ?_|refine Z7 ?_|refine Z8 ?_)|((with_reducible refine ZM ?_ ?_);(focus rfl)));(conv=>whnf)))
          refine new_own (e := 25) 5 1 ds rfl (by simpa using hdl) ?_
          intro h8 b8 o8 x8 z8 hb8
          ((repeat (rename BlkW h7 _ _ _ => upq; have upr := BlkW.ext upq x8; clear upq)))
          ((conv=>whnf);repeat((first|(with_reducible first|refine Z1 ?_|refine Z2 ?_|refine Z3 ?_|refine Z4 ?_|refine Z5 ?_|refine Z9 (by assumption) rfl ?_|refine ZA (by assumption) rfl ?_|refine ZB (by assumption) rfl ?_|refine Z6 ?_|refine Z7 ?_|refine Z8 ?_)|((with_reducible refine ZM ?_ ?_);(focus rfl)));(conv=>whnf)))
          refine o8.sl.cells ?_
          have x68 := x7.trans x8
          have x48 := x46.trans x68
          have hs8 := x48.1
          refine (own6.ext x68).push (s := h6.size) (by omega) rfl hdl (by simpa using rd.one) (by omega) (rn.ext x8) (by omega) (fun p ep => by have := hown p ep; have := x46.1; omega) ?_
          intro h9 a9 c9 o9 k9
          have o3x : BlkW h9 b3 25 _ := (‹BlkW h8 b3 25 _›).of (k9.2 _ (by omega))
          ((conv=>whnf);repeat((first|(with_reducible first|refine Z1 ?_|refine Z2 ?_|refine Z3 ?_|refine Z4 ?_|refine Z5 ?_|refine Z9 (by assumption) rfl ?_|refine ZA (by assumption) rfl ?_|refine ZB (by assumption) rfl ?_|refine Z6 ?_|refine Z7 ?_|refine Z8 ?_)|((with_reducible refine ZM ?_ ?_);(focus rfl)));(conv=>whnf)))
          refine store1_blk o3x (by simp) rfl ?_
          intro h10 f10 z10 o10
          have hs9 := k9.1
          have hs10 := f10.1
          ((conv=>whnf);repeat((first|(with_reducible first|refine Z1 ?_|refine Z2 ?_|refine Z3 ?_|refine Z4 ?_|refine Z5 ?_|refine Z9 (by assumption) rfl ?_|refine ZA (by assumption) rfl ?_|refine ZB (by assumption) rfl ?_|refine Z6 ?_|refine Z7 ?_|refine Z8 ?_)|((with_reducible refine ZM ?_ ?_);(focus rfl)));(conv=>whnf)))
          refine ⟨⟨i + 1, a9, c9, rfl, by omega, ?_, ?_, ?_, o10, ?_⟩, ?_⟩
          · have e1 : Ext h h9 := (x4.trans x48).keep (k9.mono (by have := x13.1; omega))
            refine ⟨by have := e1.1; omega, fun b hb => ?_⟩
            rw [f10.2 b (by have := e1.1; omega) (show b ≠ b3 by have := x12.1; omega), e1.2 b hb]
          · have := k9.1; omega
          · intro b hb hne
            rw [f10.2 b (by have := k9.1; omega) hne, k9.2 b hb, x48.2 b (by omega), ag4 b hb hne]
          · rw [take_succ' hi1]; exact o9.off f10 (by omega)
          · show l1.length - (((i : Int) + 1)).toNat < l1.length - ((i : Int)).toNat
            omega
      · have hge := of_decide_eq_false hb
        obtain rfl : i = l1.length := by omega
        rw [List.take_length] at own
        have o2' : BlkW h4 b2 25 zeroD := (‹BlkW h3 b2 25 _›).of (ag4 _ (by have := x3.1; omega) (by omega))
        ((conv=>whnf);repeat((first|(with_reducible first|refine Z1 ?_|refine Z2 ?_|refine Z3 ?_|refine Z4 ?_|refine Z5 ?_|refine Z9 (by assumption) rfl ?_|refine ZA (by assumption) rfl ?_|refine ZB (by assumption) rfl ?_|refine Z6 ?_|refine Z7 ?_|refine Z8 ?_)|((with_reducible refine ZM ?_ ?_);(focus rfl)));(conv=>whnf)))
        refine store_new o2' rfl (by simp [isOne]) ?_
        intro h5 f5 z5 o5
        ((conv=>whnf);repeat((first|(with_reducible first|refine Z1 ?_|refine Z2 ?_|refine Z3 ?_|refine Z4 ?_|refine Z5 ?_|refine Z9 (by assumption) rfl ?_|refine ZA (by assumption) rfl ?_|refine ZB (by assumption) rfl ?_|refine Z6 ?_|refine Z7 ?_|refine Z8 ?_)|((with_reducible refine ZM ?_ ?_);(focus rfl)));(conv=>whnf)))
        refine ⟨_, rfl, ?_, ?_⟩
        · refine ⟨by have := x4.1; omega, fun b hb => ?_⟩
          rw [f5.2 b (by have := x4.1; omega) (by have := x1.1; omega), x4.2 b hb]
        · have own5 := own.off f5 (by have := x3.1; omega)
          have sk4 : Sl h4 1 ka' ks1.length kc' (ks1.map .string) := (sk.fr (S := fun b => b < h3.size ∧ b ≠ b3) fun p ep => by have := hka p ep; omega).get.fr (S := fun b => b < h3.size ∧ b ≠ b3) (fun p ep => by have := hka p ep; omega) h4 (fun b hb => ag4 b hb.1 hb.2)
          have sk5 := sk4.fr (S := fun b => b < h4.size ∧ b ≠ b2) (fun p ep => by have := hka p ep; omega) h5 (fun b hb => f5.2 b hb.1 hb.2)
          have sf := sk5.fr (S := fun b => h.size ≤ b ∧ b < h5.size) (fun p ep => by have := hka p ep; have := x12.1; have := f5.1; omega)
          refine (sf.and own5.fr (U := fun b => h.size ≤ b ∧ b < h5.size) (fun _ hb => hb) (fun b hb => ⟨by have := x13.1; omega, hb.2⟩)).map ?_
          rintro hh ⟨q1, xs', q2, q3⟩
          exact Rep.mk' a1 a2 a3 a4 a5 a6 q1 q2 (Reps_iff.2 q3)

end Go.Proofs.YtmibnfjjlibpgaaDoor.Hc
