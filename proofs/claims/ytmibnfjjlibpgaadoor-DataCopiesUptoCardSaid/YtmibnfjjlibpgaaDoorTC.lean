/- spoil; the law Copies. -/
import Derived.Test.YtmibnfjjlibpgaaDoorTB
set_option linter.unusedVariables false
set_option linter.unusedSimpArgs false
namespace Go.Proofs.YtmibnfjjlibpgaaDoor.Hc
open Go Go.H Go.Proofs
set_option maxRecDepth 100000
set_option maxHeartbeats 8000000

theorem spoil_spec : ∀ (d : DT) (h : Heap) (lo hi : Nat) (cs : List Value), OT h lo hi d cs → hi ≤ h.size →
    HCalls Tryd.prog 22 #[.agg cs.toArray] h fun e h' => e = .returned (.tuple #[]) ∧ h.size ≤ h'.size ∧ ∀ b, b < h.size → ¬ (lo ≤ b ∧ b < hi) → h'[b]? = h[b]? := by
  intro d
  induction d using (measure (fun d : DT => SizeOf.sizeOf d)).wf.induction with
  | _ d ih =>
  intro h lo hi cs r hh
  obtain ⟨k1, n1, s1, ks1, l1⟩ := d
  simp only [OT] at r
  obtain ⟨a1, a2, a3, a4, a5, a6, ka, kc, la, lc, xs, mid, rfl, w1, w2, hkm, hlm, hlo, hmi, ots⟩ := r
  have w1lt := w1.lt
  have w2lt := w2.lt
  refine c22 (by simp) ?_
  ((conv=>whnf);repeat((first|(with_reducible first|refine Z1 ?_|refine Z2 ?_|refine Z3 ?_|refine Z4 ?_|refine Z5 ?_|refine Z9 (by assumption) rfl ?_|refine ZA (by assumption) rfl ?_|refine ZB (by assumption) rfl ?_|refine Z6 ?_|refine Z7 ?_|refine Z8 ?_)|((with_reducible refine ZM ?_ ?_);(focus rfl)));(conv=>whnf)))
  refine new_var (e := 25) [.int .i64 k1, .int .i64 n1, .string s1, .slice ka ks1.length kc, .slice la l1.length lc] rfl ?_
  intro h1 bx ox x1 z1 hbx
  ((conv=>whnf);repeat((first|(with_reducible first|refine Z2 ?_|refine Z3 ?_|refine Z4 ?_|refine Z5 ?_|refine Z9 (by assumption) rfl ?_|refine ZA (by assumption) rfl ?_|refine ZB (by assumption) rfl ?_|refine Z6 ?_|refine Z7 ?_|refine Z8 ?_)|((with_reducible refine ZM ?_ ?_);(focus rfl)));(conv=>whnf)))
  refine cut_rule [] (fun vs h' => vs = [] ∧ h'.size = h1.size ∧ ∀ b, b < h1.size → (∀ p, ka = some p → p.block ≠ b) → h'[b]? = h1[b]?) rfl ?_ ?_
  · ((conv=>whnf);repeat((first|(with_reducible first|refine Z1 ?_|refine Z2 ?_|refine Z3 ?_|refine Z4 ?_|refine Z5 ?_|refine Z9 (by assumption) rfl ?_|refine ZA (by assumption) rfl ?_|refine ZB (by assumption) rfl ?_|refine Z6 ?_|refine Z7 ?_|refine Z8 ?_)|((with_reducible refine ZM ?_ ?_);(focus rfl)));(conv=>whnf)))
    refine loop_rule [7] (fun vs h' => ∃ (i : Nat) (ys : List Value), vs = [.int .i64 i] ∧ i ≤ ks1.length ∧ Own h' lo 9 1 ka ks1.length kc ys ∧ h'.size = h1.size ∧ ∀ b, b < h1.size → (∀ p, ka = some p → p.block ≠ b) → h'[b]? = h1[b]?)
      (fun vs _ => match vs with | [.int _ i] => ks1.length - i.toNat | _ => 0) rfl ?_ ?_
    · exact ⟨0, _, rfl, by omega, w1.ext x1, rfl, fun _ _ _ => rfl⟩
    intro u h2 v7
    rintro ⟨i, ys, e, hi1, w, hs2, ag⟩
    cases e
    have ox2 : BlkW h2 bx 25 _ := ox.of (ag _ ox.lt (fun p ep => by have := w1lt p ep; omega))
    ((conv=>whnf);repeat((first|(with_reducible first|refine Z1 ?_|refine Z2 ?_|refine Z3 ?_|refine Z4 ?_|refine Z5 ?_|refine Z9 (by assumption) rfl ?_|refine ZA (by assumption) rfl ?_|refine ZB (by assumption) rfl ?_|refine Z6 ?_|refine Z7 ?_|refine Z8 ?_)|((with_reducible refine ZM ?_ ?_);(focus rfl)));(conv=>whnf)))
    refine HIf.mk (fun hlt => ?_) (fun hlt => ?_)
    · have hi2 : i < ks1.length := by have := of_decide_eq_true hlt; omega
      have hmu : ks1.length - ((i : Int) + 1).toNat < ks1.length - ((i : Int)).toNat := by omega
      ((conv=>whnf);repeat((first|(with_reducible first|refine Z1 ?_|refine Z2 ?_|refine Z3 ?_|refine Z4 ?_|refine Z5 ?_|refine Z9 (by assumption) rfl ?_|refine ZA (by assumption) rfl ?_|refine ZB (by assumption) rfl ?_|refine Z6 ?_|refine Z7 ?_|refine Z8 ?_)|((with_reducible refine ZM ?_ ?_);(focus rfl)));(conv=>whnf)))
      refine HIdx.mk i rfl hi2 ?_
      refine sl_some w.sl hi2 fun p ep => ?_
      ((conv=>whnf);repeat((first|(with_reducible first|refine Z1 ?_|refine Z2 ?_|refine Z3 ?_|refine Z4 ?_|refine Z5 ?_|refine Z9 (by assumption) rfl ?_|refine ZA (by assumption) rfl ?_|refine ZB (by assumption) rfl ?_|refine Z6 ?_|refine Z7 ?_|refine Z8 ?_)|((with_reducible refine ZM ?_ ?_);(focus rfl)));(conv=>whnf)))
      refine Own.store w ep hi2 rfl ?_
      intro h3 f3 hge z3 w3
      ((conv=>whnf);repeat((first|(with_reducible first|refine Z1 ?_|refine Z2 ?_|refine Z3 ?_|refine Z4 ?_|refine Z5 ?_|refine Z9 (by assumption) rfl ?_|refine ZA (by assumption) rfl ?_|refine ZB (by assumption) rfl ?_|refine Z6 ?_|refine Z7 ?_|refine Z8 ?_)|((with_reducible refine ZM ?_ ?_);(focus rfl)));(conv=>whnf)))
      refine ⟨⟨i + 1, _, rfl, by omega, w3, by omega, ?_⟩, hmu⟩
      intro b hb hn
      rw [f3.2 b (by omega) (fun e => hn p ep e.symm), ag b hb hn]
    · ((conv=>whnf);repeat((first|(with_reducible first|refine Z1 ?_|refine Z2 ?_|refine Z3 ?_|refine Z4 ?_|refine Z5 ?_|refine Z9 (by assumption) rfl ?_|refine ZA (by assumption) rfl ?_|refine ZB (by assumption) rfl ?_|refine Z6 ?_|refine Z7 ?_|refine Z8 ?_)|((with_reducible refine ZM ?_ ?_);(focus rfl)));(conv=>whnf)))
      exact ⟨rfl, hs2, ag⟩
  intro u h2
  rintro ⟨e, hs2, ag2⟩
  cases e
  have ox2 : BlkW h2 bx 25 _ := ox.of (ag2 _ ox.lt (fun p ep => by have := w1lt p ep; omega))
  have agm : Agree (fun b => mid ≤ b ∧ b < hi) h1 h2 := fun b hb => ag2 b (by have := x1.1; omega) (fun p ep => by have := hkm p ep; omega)
  have ots2 := OTs.agree _ _ _ _ (OTs.agree _ _ _ _ ots (x1.agree fun b hb => by omega)) agm
  have w22 : Own h2 lo 25 5 la l1.length lc xs := (w2.ext x1).agree (S := fun b => b < h1.size ∧ ∀ p, ka = some p → p.block ≠ b) (fun b hb => ag2 b hb.1 hb.2) (fun q eq => ⟨by have := w2lt q eq; have := x1.1; omega, (hlm q eq).2⟩)
  have hs1 := x1.1
  have out2 : ∀ b, b < h.size → ¬ (lo ≤ b ∧ b < hi) → h2[b]? = h[b]? := fun b hb hn => by
    rw [ag2 b (by omega) (fun p ep => by have := w1lt p ep; have := hkm p ep; omega), x1.2 b hb]
  ((conv=>whnf);repeat((first|(with_reducible first|refine Z1 ?_|refine Z2 ?_|refine Z3 ?_|refine Z4 ?_|refine Z5 ?_|refine Z9 (by assumption) rfl ?_|refine ZA (by assumption) rfl ?_|refine ZB (by assumption) rfl ?_|refine Z6 ?_|refine Z7 ?_|refine Z8 ?_)|((with_reducible refine ZM ?_ ?_);(focus rfl)));(conv=>whnf)))
  refine loop_rule [18] (fun vs h' => ∃ (i m : Nat) (zs : List Value), vs = [.int .i64 i] ∧ i ≤ l1.length ∧ Own h' lo 25 5 la l1.length lc (zs ++ xs.drop (i * 5)) ∧ zs.length = i * 5 ∧ mid ≤ m ∧ m ≤ hi ∧ OTs h' m hi (l1.drop i) (xs.drop (i * 5)) ∧ h2.size ≤ h'.size ∧ ∀ b, b < h2.size → ¬ (lo ≤ b ∧ b < hi) → h'[b]? = h2[b]?)
    (fun vs _ => match vs with | [.int _ i] => l1.length - i.toNat | _ => 0) rfl ?_ ?_
  · exact ⟨0, mid, [], rfl, by omega, by simpa using w22, rfl, Nat.le_refl _, hmi, by simpa using ots2, Nat.le_refl _, fun _ _ _ => rfl⟩
  intro u h3 v18
  rintro ⟨i, m, zs, e, hi1, w3, hz, hm1, hm2, ots3, hs3, ag3⟩
  cases e
  have ox3 : BlkW h3 bx 25 _ := ox2.of (ag3 _ ox2.lt (by omega))
  clear ox2 ox
  ((conv=>whnf);repeat((first|(with_reducible first|refine Z1 ?_|refine Z2 ?_|refine Z3 ?_|refine Z4 ?_|refine Z5 ?_|refine Z9 (by assumption) rfl ?_|refine ZA (by assumption) rfl ?_|refine ZB (by assumption) rfl ?_|refine Z6 ?_|refine Z7 ?_|refine Z8 ?_)|((with_reducible refine ZM ?_ ?_);(focus rfl)));(conv=>whnf)))
  refine HIf.mk (fun hlt => ?_) (fun hlt => ?_)
  · have hi2 : i < l1.length := by have := of_decide_eq_true hlt; omega
    have hmu : l1.length - ((i : Int) + 1).toNat < l1.length - ((i : Int)).toNat := by omega
    rw [List.drop_eq_getElem_cons hi2] at ots3
    simp only [OTs] at ots3
    obtain ⟨m', a, b, hmm, hmh, hab, ot, otr⟩ := ots3
    have hal := (OT.rep _ _ _ _ ot).len
    have hb : b = xs.drop ((i + 1) * 5) := by
      have e1 : xs.drop ((i + 1) * 5) = (xs.drop (i * 5)).drop 5 := by rw [List.drop_drop]; congr 1; omega
      rw [e1, hab, ← hal, List.drop_left]
    ((conv=>whnf);repeat((first|(with_reducible first|refine Z1 ?_|refine Z2 ?_|refine Z3 ?_|refine Z4 ?_|refine Z5 ?_|refine Z9 (by assumption) rfl ?_|refine ZA (by assumption) rfl ?_|refine ZB (by assumption) rfl ?_|refine Z6 ?_|refine Z7 ?_|refine Z8 ?_)|((with_reducible refine ZM ?_ ?_);(focus rfl)));(conv=>whnf)))
    refine HIdx.mk i rfl hi2 ?_
    refine sl_some w3.sl hi2 fun p ep => ?_
    ((conv=>whnf);repeat((first|(with_reducible first|refine Z1 ?_|refine Z2 ?_|refine Z3 ?_|refine Z4 ?_|refine Z5 ?_|refine Z9 (by assumption) rfl ?_|refine ZA (by assumption) rfl ?_|refine ZB (by assumption) rfl ?_|refine Z6 ?_|refine Z7 ?_|refine Z8 ?_)|((with_reducible refine ZM ?_ ?_);(focus rfl)));(conv=>whnf)))
    refine Sl.loadAt w3.sl ep (pre := zs) (cs := a) (post := b) (by rw [hab]) hz hal ?_
    ((conv=>whnf);repeat((first|(with_reducible first|refine Z1 ?_|refine Z2 ?_|refine Z3 ?_|refine Z4 ?_|refine Z5 ?_|refine Z9 (by assumption) rfl ?_|refine ZA (by assumption) rfl ?_|refine ZB (by assumption) rfl ?_|refine Z6 ?_|refine Z7 ?_|refine Z8 ?_)|((with_reducible refine ZM ?_ ?_);(focus rfl)));(conv=>whnf)))
    refine HCall.mk ((ih l1[i] (dt_lt hi2) h3 m m' a ot (by omega)).mono ?_)
    rintro e h4 ⟨rfl, hs4, ag4⟩
    have hpl := hlm p ep
    have hpw := w2lt p ep
    have ox4 : BlkW h4 bx 25 _ := ox3.of (ag4 _ ox3.lt (by omega))
    have w4 : Own h4 lo 25 5 la l1.length lc (zs ++ xs.drop (i * 5)) := w3.agree (S := fun b => b < h3.size ∧ ¬ (m ≤ b ∧ b < m')) (fun b hb => ag4 b hb.1 hb.2) (fun q eq => by rw [ep] at eq; cases eq; exact ⟨by omega, by omega⟩)
    have otr4 := OTs.agree _ _ _ _ otr (fun b hb => ag4 b (by omega) (by omega))
    clear ox3
    ((conv=>whnf);repeat((first|(with_reducible first|refine Z1 ?_|refine Z2 ?_|refine Z3 ?_|refine Z4 ?_|refine Z5 ?_|refine Z9 (by assumption) rfl ?_|refine ZA (by assumption) rfl ?_|refine ZB (by assumption) rfl ?_|refine Z6 ?_|refine Z7 ?_|refine Z8 ?_)|((with_reducible refine ZM ?_ ?_);(focus rfl)));(conv=>whnf)))
    refine HIdx.mk i rfl hi2 ?_
    refine sl_some w4.sl hi2 fun p' ep' => ?_
    rw [ep] at ep'
    cases ep'
    ((conv=>whnf);repeat((first|(with_reducible first|refine Z1 ?_|refine Z2 ?_|refine Z3 ?_|refine Z4 ?_|refine Z5 ?_|refine Z9 (by assumption) rfl ?_|refine ZA (by assumption) rfl ?_|refine ZB (by assumption) rfl ?_|refine Z6 ?_|refine Z7 ?_|refine Z8 ?_)|((with_reducible refine ZM ?_ ?_);(focus rfl)));(conv=>whnf)))
    refine Own.storeN w4 ep hi2 rfl (by simp [isOne]) ?_
    intro h5 f5 z5 w5
    have e5 : ∀ v : List Value, (zs ++ xs.drop (i * 5)).take (i * 5) ++ (v ++ (zs ++ xs.drop (i * 5)).drop (i * 5 + 5)) = (zs ++ v) ++ xs.drop ((i + 1) * 5) := by
      intro v
      rw [← hz, List.take_left, ← List.drop_drop, List.drop_left, hz, hab, hb, ← hal, List.drop_left]
      simp
    rw [e5] at w5
    ((conv=>whnf);repeat((first|(with_reducible first|refine Z1 ?_|refine Z2 ?_|refine Z3 ?_|refine Z4 ?_|refine Z5 ?_|refine Z9 (by assumption) rfl ?_|refine ZA (by assumption) rfl ?_|refine ZB (by assumption) rfl ?_|refine Z6 ?_|refine Z7 ?_|refine Z8 ?_)|((with_reducible refine ZM ?_ ?_);(focus rfl)));(conv=>whnf)))
    refine ⟨⟨i + 1, m', _, rfl, by omega, w5, by simp [hz]; omega, by omega, hmh, ?_, by omega, ?_⟩, hmu⟩
    · rw [← hb]
      exact OTs.agree _ _ _ _ otr4 (f5.agree fun b hb => ⟨by omega, by omega⟩)
    · intro b hb hn
      rw [f5.2 b (by omega) (by omega), ag4 b (by omega) (by omega), ag3 b hb hn]
  · ((conv=>whnf);repeat((first|(with_reducible first|refine Z1 ?_|refine Z2 ?_|refine Z3 ?_|refine Z4 ?_|refine Z5 ?_|refine Z9 (by assumption) rfl ?_|refine ZA (by assumption) rfl ?_|refine ZB (by assumption) rfl ?_|refine Z6 ?_|refine Z7 ?_|refine Z8 ?_)|((with_reducible refine ZM ?_ ?_);(focus rfl)));(conv=>whnf)))
    refine ⟨rfl, by omega, fun b hb hn => ?_⟩
    rw [ag3 b (by omega) hn, out2 b hb hn]

theorem dataCopies_spec {t : DT} {h : Heap} {cs : List Value} (ra : Rep h t cs) (hv : vol t ≤ 1048576) (gl : Glob h) :
    HCalls Tryd.prog 6 #[.agg cs.toArray] h fun e h' => e = .returned (.bool true) ∧ Ext h h' := by
  have hcl := ra.len
  refine c6 (by simp) ?_
  ((conv=>whnf);repeat((first|(with_reducible first|refine Z1 ?_|refine Z2 ?_|refine Z3 ?_|refine Z4 ?_|refine Z5 ?_|refine Z9 (by assumption) rfl ?_|refine ZA (by assumption) rfl ?_|refine ZB (by assumption) rfl ?_|refine Z6 ?_|refine Z7 ?_|refine Z8 ?_)|((with_reducible refine ZM ?_ ?_);(focus rfl)));(conv=>whnf)))
  refine new_var (e := 25) cs rfl ?_
  intro h1 b1 o1 x1 z1 hb1
  ((conv=>whnf);repeat((first|(with_reducible first|refine Z1 ?_|refine Z2 ?_|refine Z3 ?_|refine Z4 ?_|refine Z5 ?_|refine Z9 (by assumption) rfl ?_|refine ZA (by assumption) rfl ?_|refine ZB (by assumption) rfl ?_|refine Z6 ?_|refine Z7 ?_|refine Z8 ?_)|((with_reducible refine ZM ?_ ?_);(focus rfl)));(conv=>whnf)))
  refine HCall.mk ((live_spec h1 (gl.ext x1)).mono ?_)
  rintro e h2 ⟨rfl, x2⟩
  have o2 := o1.ext x2
  have x12 := x1.trans x2
  clear o1
  have b1lt := o2.lt
  ((conv=>whnf);repeat((first|(with_reducible first|refine Z1 ?_|refine Z2 ?_|refine Z3 ?_|refine Z4 ?_|refine Z5 ?_|refine Z9 (by assumption) rfl ?_|refine ZA (by assumption) rfl ?_|refine ZB (by assumption) rfl ?_|refine Z6 ?_|refine Z7 ?_|refine Z8 ?_|refine ZB (by assumption) (by assumption) ?_)|((with_reducible refine ZM ?_ ?_);(focus rfl)));(conv=>whnf)))
  refine HCall.mk ((copy_spec t h2 cs (Rep.ext x12 _ _ ra) (by omega)).mono ?_)
  rintro e h3 ⟨ds, rfl, x3, ot⟩
  have rd := OT.rep _ _ _ _ ot
  have hdl := rd.len
  have o3 := o2.ext x3
  clear o2
  ((conv=>whnf);repeat((first|(with_reducible first|refine Z1 ?_|refine Z2 ?_|refine Z3 ?_|refine Z4 ?_|refine Z5 ?_|refine Z9 (by assumption) rfl ?_|refine ZA (by assumption) rfl ?_|refine ZB (by assumption) rfl ?_|refine Z6 ?_|refine Z7 ?_|refine Z8 ?_|refine ZB (by assumption) (by assumption) ?_)|((with_reducible refine ZM ?_ ?_);(focus rfl)));(conv=>whnf)))
  refine new_var (e := 25) zeroD rfl ?_
  intro h4 b4 o4 x4 z4 hb4
  ((conv=>whnf);repeat((first|(with_reducible first|refine Z1 ?_|refine Z2 ?_|refine Z3 ?_|refine Z4 ?_|refine Z5 ?_|refine Z9 (by assumption) rfl ?_|refine ZA (by assumption) rfl ?_|refine ZB (by assumption) rfl ?_|refine Z6 ?_|refine Z7 ?_|refine Z8 ?_)|((with_reducible refine ZM ?_ ?_);(focus rfl)));(conv=>whnf)))
  refine HMust.mk (by simpa using hdl) ?_
  refine store_new o4 (by simpa using hdl) (by simpa using rd.one) ?_
  intro h5 f5 z5 o5
  have x35 : Ext h3 h5 := x4.offNew f5 (by omega)
  have o35 := o3.ext x35
  clear o3 o4
  have b4lt := o5.lt
  have x05 := x12.trans (x3.trans x35)
  ((conv=>whnf);repeat((first|(with_reducible first|refine Z1 ?_|refine Z2 ?_|refine Z3 ?_|refine Z4 ?_|refine Z5 ?_|refine Z9 (by assumption) rfl ?_|refine ZA (by assumption) rfl ?_|refine ZB (by assumption) rfl ?_|refine Z6 ?_|refine Z7 ?_|refine Z8 ?_)|((with_reducible refine ZM ?_ ?_);(focus rfl)));(conv=>whnf)))
  refine blk_ldN o35 hcl ?_
  ((conv=>whnf);repeat((first|(with_reducible first|refine Z1 ?_|refine Z2 ?_|refine Z3 ?_|refine Z4 ?_|refine Z5 ?_|refine Z9 (by assumption) rfl ?_|refine ZA (by assumption) rfl ?_|refine ZB (by assumption) rfl ?_|refine Z6 ?_|refine Z7 ?_|refine Z8 ?_)|((with_reducible refine ZM ?_ ?_);(focus rfl)));(conv=>whnf)))
  refine HCall.mk ((copy_spec t h5 cs (Rep.ext x05 _ _ ra) (by omega)).mono ?_)
  rintro e h6 ⟨es, rfl, x6, ot6⟩
  have re := OT.rep _ _ _ _ ot6
  have hel := re.len
  have o36 := o35.ext x6
  have o56 := o5.ext x6
  clear o35 o5
  ((conv=>whnf);repeat((first|(with_reducible first|refine Z1 ?_|refine Z2 ?_|refine Z3 ?_|refine Z4 ?_|refine Z5 ?_|refine Z9 (by assumption) rfl ?_|refine ZA (by assumption) rfl ?_|refine ZB (by assumption) rfl ?_|refine Z6 ?_|refine Z7 ?_|refine Z8 ?_|refine ZB (by assumption) (by assumption) ?_)|((with_reducible refine ZM ?_ ?_);(focus rfl)));(conv=>whnf)))
  refine new_var (e := 25) zeroD rfl ?_
  intro h7 b7 o7 x7 z7 hb7
  ((conv=>whnf);repeat((first|(with_reducible first|refine Z1 ?_|refine Z2 ?_|refine Z3 ?_|refine Z4 ?_|refine Z5 ?_|refine Z9 (by assumption) rfl ?_|refine ZA (by assumption) rfl ?_|refine ZB (by assumption) rfl ?_|refine Z6 ?_|refine Z7 ?_|refine Z8 ?_)|((with_reducible refine ZM ?_ ?_);(focus rfl)));(conv=>whnf)))
  refine HMust.mk (by simpa using hel) ?_
  refine store_new o7 (by simpa using hel) (by simpa using re.one) ?_
  intro h8 f8 z8 o8
  have x68 : Ext h6 h8 := x7.offNew f8 (by omega)
  have o38 := o36.ext x68
  have o58 := o56.ext x68
  clear o36 o56 o7
  have x08 := x05.trans (x6.trans x68)
  have rd8 := Rep.ext (x35.trans (x6.trans x68)) _ _ rd
  have el5 : es.toArray.toList.length = 5 := by simpa using hel
  have dl5 : ds.toArray.toList.length = 5 := by simpa using hdl
  ((conv=>whnf);repeat((first|(with_reducible first|refine Z1 ?_|refine Z2 ?_|refine Z3 ?_|refine Z4 ?_|refine Z5 ?_|refine Z9 (by assumption) rfl ?_|refine ZA (by assumption) rfl ?_|refine ZB (by assumption) rfl ?_|refine Z6 ?_|refine Z7 ?_|refine Z8 ?_)|((with_reducible refine ZM ?_ ?_);(focus rfl)));(conv=>whnf)))
  refine blk_ldN o58 dl5 ?_
  ((conv=>whnf);repeat((first|(with_reducible first|refine Z1 ?_|refine Z2 ?_|refine Z3 ?_|refine Z4 ?_|refine Z5 ?_|refine Z9 (by assumption) rfl ?_|refine ZA (by assumption) rfl ?_|refine ZB (by assumption) rfl ?_|refine Z6 ?_|refine Z7 ?_|refine Z8 ?_)|((with_reducible refine ZM ?_ ?_);(focus rfl)));(conv=>whnf)))
  refine blk_ldN o38 hcl ?_
  ((conv=>whnf);repeat((first|(with_reducible first|refine Z1 ?_|refine Z2 ?_|refine Z3 ?_|refine Z4 ?_|refine Z5 ?_|refine Z9 (by assumption) rfl ?_|refine ZA (by assumption) rfl ?_|refine ZB (by assumption) rfl ?_|refine Z6 ?_|refine Z7 ?_|refine Z8 ?_)|((with_reducible refine ZM ?_ ?_);(focus rfl)));(conv=>whnf)))
  refine HCall.mk ((rsame_spec t t h8 ds.toArray.toList cs (by simpa using rd8) (Rep.ext x08 _ _ ra)).mono ?_)
  rintro e h9 ⟨r, rfl, hr, x9⟩
  obtain rfl : r = true := hr.2 rfl
  have o39 := o38.ext x9
  have o59 := o58.ext x9
  have o89 := o8.ext x9
  clear o38 o58 o8
  have x39 := x35.trans (x6.trans (x68.trans x9))
  have ot9 := OT.agree _ _ _ _ ot (x39.agree fun b hb => hb.2)
  have ot69 := OT.agree _ _ _ _ ot6 ((x68.trans x9).agree fun b hb => hb.2)
  have b8lt := o89.lt
  ((conv=>whnf);repeat((first|(with_reducible first|refine Z1 ?_|refine Z2 ?_|refine Z3 ?_|refine Z4 ?_|refine Z5 ?_|refine Z9 (by assumption) rfl ?_|refine ZA (by assumption) rfl ?_|refine ZB (by assumption) rfl ?_|refine Z6 ?_|refine Z7 ?_|refine Z8 ?_)|((with_reducible refine ZM ?_ ?_);(focus rfl)));(conv=>whnf)))
  refine blk_ldN o59 dl5 ?_
  ((conv=>whnf);repeat((first|(with_reducible first|refine Z1 ?_|refine Z2 ?_|refine Z3 ?_|refine Z4 ?_|refine Z5 ?_|refine Z9 (by assumption) rfl ?_|refine ZA (by assumption) rfl ?_|refine ZB (by assumption) rfl ?_|refine Z6 ?_|refine Z7 ?_|refine Z8 ?_)|((with_reducible refine ZM ?_ ?_);(focus rfl)));(conv=>whnf)))
  refine HCall.mk ((spoil_spec t h9 h2.size h3.size ds.toArray.toList (by simpa using ot9) x39.1).mono ?_)
  rintro e h10 ⟨rfl, hs10, ag⟩
  have hs3 := x3.1
  have hs35 := x35.1
  have hs6 := x6.1
  have hs68 := x68.1
  have hs9 := x9.1
  have hs12 := x12.1
  have p1 : BlkW h10 b1 25 cs := o39.of (ag _ o39.lt (by omega))
  have p7 : BlkW h10 b7 25 es.toArray.toList := o89.of (ag _ o89.lt (by omega))
  have x010 : Ext h h10 := ⟨by omega, fun b hb => by rw [ag b (by omega) (by omega), (x08.trans x9).2 b hb]⟩
  have r10 : Rep h10 t es.toArray.toList := by simpa using OT.rep _ _ _ _ (OT.agree _ _ _ _ ot69 (fun b hb => ag b (by omega) (by omega)))
  clear o39 o59 o89
  ((conv=>whnf);repeat((first|(with_reducible first|refine Z1 ?_|refine Z2 ?_|refine Z3 ?_|refine Z4 ?_|refine Z5 ?_|refine Z9 (by assumption) rfl ?_|refine ZA (by assumption) rfl ?_|refine ZB (by assumption) rfl ?_|refine Z6 ?_|refine Z7 ?_|refine Z8 ?_)|((with_reducible refine ZM ?_ ?_);(focus rfl)));(conv=>whnf)))
  refine blk_ldN p7 el5 ?_
  ((conv=>whnf);repeat((first|(with_reducible first|refine Z1 ?_|refine Z2 ?_|refine Z3 ?_|refine Z4 ?_|refine Z5 ?_|refine Z9 (by assumption) rfl ?_|refine ZA (by assumption) rfl ?_|refine ZB (by assumption) rfl ?_|refine Z6 ?_|refine Z7 ?_|refine Z8 ?_)|((with_reducible refine ZM ?_ ?_);(focus rfl)));(conv=>whnf)))
  refine blk_ldN p1 hcl ?_
  ((conv=>whnf);repeat((first|(with_reducible first|refine Z1 ?_|refine Z2 ?_|refine Z3 ?_|refine Z4 ?_|refine Z5 ?_|refine Z9 (by assumption) rfl ?_|refine ZA (by assumption) rfl ?_|refine ZB (by assumption) rfl ?_|refine Z6 ?_|refine Z7 ?_|refine Z8 ?_)|((with_reducible refine ZM ?_ ?_);(focus rfl)));(conv=>whnf)))
  refine HCall.mk ((rsame_spec t t h10 es.toArray.toList cs r10 (Rep.ext x010 _ _ ra)).mono ?_)
  rintro e h11 ⟨r, rfl, hr, x11⟩
  obtain rfl : r = true := hr.2 rfl
  have q1 := p1.ext x11
  have q7 := p7.ext x11
  clear p1 p7
  ((conv=>whnf);repeat((first|(with_reducible first|refine Z1 ?_|refine Z2 ?_|refine Z3 ?_|refine Z4 ?_|refine Z5 ?_|refine Z9 (by assumption) rfl ?_|refine ZA (by assumption) rfl ?_|refine ZB (by assumption) rfl ?_|refine Z6 ?_|refine Z7 ?_|refine Z8 ?_)|((with_reducible refine ZM ?_ ?_);(focus rfl)));(conv=>whnf)))
  refine blk_ldN q7 el5 ?_
  ((conv=>whnf);repeat((first|(with_reducible first|refine Z1 ?_|refine Z2 ?_|refine Z3 ?_|refine Z4 ?_|refine Z5 ?_|refine Z9 (by assumption) rfl ?_|refine ZA (by assumption) rfl ?_|refine ZB (by assumption) rfl ?_|refine Z6 ?_|refine Z7 ?_|refine Z8 ?_)|((with_reducible refine ZM ?_ ?_);(focus rfl)));(conv=>whnf)))
  refine blk_ldN q1 hcl ?_
  ((conv=>whnf);repeat((first|(with_reducible first|refine Z1 ?_|refine Z2 ?_|refine Z3 ?_|refine Z4 ?_|refine Z5 ?_|refine Z9 (by assumption) rfl ?_|refine ZA (by assumption) rfl ?_|refine ZB (by assumption) rfl ?_|refine Z6 ?_|refine Z7 ?_|refine Z8 ?_)|((with_reducible refine ZM ?_ ?_);(focus rfl)));(conv=>whnf)))
  refine HCall.mk ((same15_spec t t h11 es.toArray.toList cs (Rep.ext x11 _ _ r10) (Rep.ext (x010.trans x11) _ _ ra)).mono ?_)
  rintro e h12 ⟨r, rfl, hr, x12'⟩
  obtain rfl : r = true := hr.2 rfl
  ((conv=>whnf);repeat((first|(with_reducible first|refine Z1 ?_|refine Z2 ?_|refine Z3 ?_|refine Z4 ?_|refine Z5 ?_|refine Z9 (by assumption) rfl ?_|refine ZA (by assumption) rfl ?_|refine ZB (by assumption) rfl ?_|refine Z6 ?_|refine Z7 ?_|refine Z8 ?_)|((with_reducible refine ZM ?_ ?_);(focus rfl)));(conv=>whnf)))
  exact ⟨rfl, x010.trans (x11.trans x12')⟩

end Go.Proofs.YtmibnfjjlibpgaaDoor.Hc
