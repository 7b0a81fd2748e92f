/- Proof texts, laid together. -/
import Derived.Test.YtljindmibfkhfaaPa
import Derived.Test.YtljindmibfkhfaaHW
import Derived.ChangeArms
/- btree.walker.falling: the walk. -/
set_option linter.unusedVariables false
set_option linter.unusedSimpArgs false
namespace Go.Proofs.Ytljindmibfkhfaa.Hc
open Go Go.H Go.Proofs
set_option maxRecDepth 100000
set_option maxHeartbeats 40000000
theorem lt_of_at {h : Heap} {k : Nat} {o : Obj} (x : h[k]? = some o) : k < h.size := pl_lt x
theorem Pass.at {C : List Nat} {a b : Option Nat} {h h' : Heap} {k : Nat} {o : Obj} (x : Pass C a b h h') (e : h[k]? = some o) (hc : k ∉ C) (ha : a ≠ some k) : h'[k]? = some o := by rw [x.2.1 k (pl_lt e) hc ha]; exact e
theorem toLs_drop {kids : List BT} {i : Nat} (hi : i < kids.length) : toLs (kids.drop i) = toL kids[i] ++ toLs (kids.drop (i + 1)) := by
  rw [List.drop_eq_getElem_cons hi]; rfl
theorem idsL_drop {kids : List BT} {i : Nat} (hi : i < kids.length) : (idsL (kids.drop i)).length = (idsT kids[i]).length + (idsL (kids.drop (i + 1))).length := by
  rw [List.drop_eq_getElem_cons hi]; simp [idsL]
section
variable {S : List Nat} {h0 : Heap} {t r : Nat} {s : TS} {bo bw : Nat} {CB : List Nat} {fn : FuncId} {caps : List Value} {step : Pr → List Pr → List Pr × Bool} {Q : Heap → Prop}
theorem falling_spec (Tl : Teller h0.size bo bw CB fn caps step Q) (x0 : TRp S h0 t r s) : ∀ (n : Nat) (T : BT) (lo hi : Option ByteArray), (idsT T).length ≤ n → Ord lo hi T → Hold s.l T → ∀ (h : Heap) (ab : Option Nat) (o : List Pr) (left : Nat),
    Going S h0 t r s bo bw CB fn caps Q h ab o left → (idsT T).length ≤ left → left ≤ 1073741824 → o.length + (toL T).length ≤ 4194304 →
    HCalls Try.prog 17 #[.pointer (some ⟨bw, 0, none⟩), .int .i64 T.id] h fun e h' => Walked S h0 t r s bo bw CB fn caps Q h h' ab left (idsT T).length e (run step (toL T).reverse o) := by
  intro n
  induction n with
  | zero => intro T lo hi hn; have := idsT_len T; omega
  | succ n ih =>
  intro T lo hi hn hord hhold h ab o left g hl hl2 ho
  cases T with
  | mk id ks vs kids =>
  simp only [Hold] at hhold
  obtain ⟨hd, hhk⟩ := hhold
  have hids : (idsT (.mk id ks vs kids)).length = (idsL kids).length + 1 := by simp [idsT]
  rw [hids] at hn hl
  have nB := Tl.hB
  have ol := g.out.lt
  have wl := g.wk.lt
  have q : ((left : Int) == 0) = false := beq_eq_false_iff_ne.2 (by omega)
  have tT : toL (.mk id ks vs kids) = toLs kids ++ ks.zip vs := by simp only [toL]
  have hvk : vs ≠ [] → vs.length = ks.length ∧ kids = [] := by
    intro hv
    cases kids with
    | nil => simp only [Ord] at hord; exact ⟨hord.2.2, rfl⟩
    | cons a b => simp only [Ord] at hord; exact absurd hord.1 hv
  have rT : (toL (.mk id ks vs kids)).reverse = (toLs kids).reverse ++ (ks.zip vs).reverse := by
    rw [tT, List.reverse_append]
    by_cases hv : vs = []
    · rw [hv]; simp
    · rw [(hvk hv).2]; simp [toLs]
  rw [tT, List.length_append] at ho
  rw [rT, hids]
  clear rT tT
  refine c17 (by simp) ?_
  refine gA ?_
  refine new_var (e := 53) [.pointer (some ⟨bw, 0, none⟩)] rfl ?_
  intro ha b2 o2 xa za hb2
  refine gA ?_
  refine new_var (e := 4) [.bool false] rfl ?_
  intro hb b4 o4 xb zb hb4
  have o2 := o2.ext xb
  have gb := (g.grow Tl xa).grow Tl xb
  have wk := gb.wk
  have hxa := xa.1
  have hxb := xb.1
  refine gA ?_
  refine blk_st (o := 1) (v := .int .i64 ((left : Int) - 1)) wk (by simp) rfl ?_
  intro h1 f1 z1 o1
  have el : (left : Int) - 1 = ((left - 1 : Nat) : Int) := by omega
  rw [el] at o1
  have g1 : Going S h0 t r s bo bw CB fn caps Q h1 ab o (left - 1) :=
    ⟨gb.ext.offNew f1 nB.2.1, gb.out.offk f1 nB.2.2 g.nw, o1, Tl.stay _ _ gb.q fun j hj => f1.2 j (Tl.lt _ gb.q j hj) (Tl.off j hj).2, g.nw, g.nc⟩
  have o2 := o2.offk f1 (by omega)
  have o4 := o4.offk f1 (by omega)
  have y1 : Pass [bo, bw] ab ab h h1 := (Pass.of_ext (xa.trans xb)).trans (Pass.of_off f1 (.inl (by simp)))
  have wk := g1.wk
  have ot := (x0.ext g1.ext).o
  refine gA ?_
  refine x0.look0 g1.ext id fun es clock f cs fx hf => ?_
  generalize hdd : nodeOf s.l id = d at hd fx
  obtain ⟨_, _, _, _, _, _, ka, kc, va, vc, ia, ic, rfl, _⟩ := fx.rep
  rw [hf]
  refine gA ?_
  refine new_var (e := 41) [.slice none 0 0, .slice none 0 0, .slice none 0 0] rfl ?_
  intro h1' bn on x2' z2 hbn
  refine gA ?_
  refine store_blk on (by simp) (by simp [isOne]) ?_
  intro h2 f3 z3 o3
  have on : BlkW h2 bn 41 (cells3 d ka kc va vc ia ic) := by simpa using o3
  have x2 : Ext h1 h2 := x2'.offNew f3 (by omega)
  have hbn : h1.size ≤ bn := by omega
  clear o3
  have g2 := g1.grow Tl x2
  have y2 : Pass [bo, bw] ab ab h h2 := y1.trans (.of_ext x2)
  have o2 := o2.ext x2
  have o4 := o4.ext x2
  have sm := fx.rep.small
  have skl := sm.k
  have svl := sm.v
  have sil := sm.i
  have ek : d.keys = ks := by rw [hd]
  have ev : d.vals = vs := by rw [hd]
  have ei : d.kids = kids.map BT.id := by rw [hd]
  have eil : d.kids.length = kids.length := by rw [ei, List.length_map]
  have wn := on.lt
  refine gA ?_
  refine HCall.mk ((backI_spec ia d.kids.length ic h2).mono ?_)
  rintro e h3 ⟨bk, rfl, ok3, x3, hbk⟩
  have g3 := g2.grow Tl x3
  have y3 : Pass [bo, bw] ab ab h h3 := y2.trans (.of_ext x3)
  have o2 := o2.ext x3
  have o4 := o4.ext x3
  have on := on.ext x3
  have hx2 := x2.1
  have hx3 := x3.1
  have hz1 := f1.1
  have hgl := g.out.lt.2
  refine gA ?_
  refine HRange.mk 44 #[.pointer (some ⟨bk, 0, none⟩)] rfl (by kernel_rfl) fun rec yl => ?_
  show HCalls Try.prog 44 #[.func (.yield (h3.size + 1)) #[] #[], .pointer (some ⟨bk, 0, none⟩)] ((h3.push (.deferred (some []))).push (.loop (rec .ready none))) _
  have eX : Ext h3 ((h3.push (.deferred (some []))).push (.loop (rec .ready none))) := (Ext.push h3 (.deferred (some []))).trans (Ext.push _ (.loop (rec .ready none)))
  have dX : ((h3.push (.deferred (some []))).push (.loop (rec .ready none)))[h3.size]? = some (.deferred (some [])) := by
    rw [Array.getElem?_push, if_neg (by simp), Array.getElem?_push, if_pos rfl]
  have rX : ((h3.push (.deferred (some []))).push (.loop (rec .ready none)))[h3.size + 1]? = some (.loop (rec .ready none)) := by
    rw [Array.getElem?_push, if_pos (by simp)]
  generalize ((h3.push (.deferred (some []))).push (.loop (rec .ready none))) = hX at eX dX rX ⊢
  have gX := g3.grow Tl eX
  have yX : Pass [bo, bw] ab ab h hX := y3.trans (.of_ext eX)
  have o2 := o2.ext eX
  have o4 := o4.ext eX
  have on := on.ext eX
  have ok3 := ok3.ext eX
  have hXl := lt_of_at rX
  have l2 := o2.lt
  have l4 := o4.lt
  have hzX := eX.1
  have nab : ∀ {C : List Nat} {h' : Heap} {ab' : Option Nat}, Pass C ab ab' hX h' → ∀ k, h.size ≤ k → k < hX.size → ab' ≠ some k := by
    intro C h' ab' y k k1 k2 e
    rcases y.2.2 k e with e | hl
    · have := (hgl k e).2; omega
    · omega
  have nCB : ∀ k, h.size ≤ k → k ∉ CB := fun k hk hm => by have := Tl.lt _ g.q k hm; omega
  have hat : ∀ (i : Nat) (hi' : i < kids.length), (∃ lo hi, Ord lo hi kids[i]) ∧ Hold s.l kids[i] := by
    intro i hi'
    refine ⟨?_, hold_at hhk hi'⟩
    cases kids with
    | nil => simp at hi'
    | cons a b => simp only [Ord] at hord; exact ord_at hord.2 hi'
  have hg0 := g.ext.1
  have nbk : bk ∉ [bo, bw, h3.size + 1] := by simp; omega
  have nb2 : b2 ∉ [bo, bw, h3.size + 1] := by simp; omega
  have nb4 : b4 ∉ [bo, bw, h3.size + 1] := by simp; omega
  have nbn : bn ∉ [bo, bw, h3.size + 1] := by simp; omega
  have nD : h3.size ∉ [bo, bw, h3.size + 1] := by simp; omega
  refine (backI1_spec (P := fun m h' => ∃ (ab' : Option Nat) (left' : Nat), Going S h0 t r s bo bw CB fn caps Q h' ab' (run step (toLs (kids.drop m)).reverse o).1 left' ∧ Pass [bo, bw, h3.size + 1] ab ab' hX h' ∧ (run step (toLs (kids.drop m)).reverse o).2 = true ∧ left ≤ left' + ((idsL (kids.drop m)).length + 1) ∧ left' ≤ left ∧ h'[h3.size + 1]? = some (.loop (rec .ready none)))
    (Fin := fun h' => ∃ (ab' : Option Nat) (left' : Nat) (o' : List Pr), Going S h0 t r s bo bw CB fn caps Q h' ab' o' left' ∧ Pass [bo, bw, h3.size + 1, b4] ab ab' hX h' ∧ run step ((toLs kids).reverse ++ (ks.zip vs).reverse) o = (o', false) ∧ left' ≤ left ∧ BlkW h' b4 4 [.bool false] ∧ h'[h3.size + 1]? = some (.loop (rec .done (some .ret))))
    (ks := d.kids) (by omega) (fun i h' p => by obtain ⟨ab', left', g', y', _⟩ := p; exact y'.blk ok3 nbk (nab (.refl [] ab hX) bk (by omega) (by have := ok3.lt; omega)))
    (fun i h' p => by obtain ⟨ab', left', g', y', _⟩ := p; exact (fx.sls (.of_ext g'.ext)).2.2) ?_ ?_).mono ?_
  · rintro m hm h4 ⟨ab4, left4, g4, y4, rt4, hl4, hl5, r4⟩
    have hm' : m < kids.length := by omega
    obtain ⟨⟨lo', hi', hordk⟩, hholdk⟩ := hat m hm'
    have ekm : d.kids[m] = kids[m].id := by simp only [ei, List.getElem_map]
    rw [ekm]
    refine yl [.int .i64 m, .int .i64 kids[m].id] h4 _ rfl r4 ?_
    have f5 := off_set h4 (h3.size + 1) (.loop (rec .busy none))
    have r5 := set_same (o := .loop (rec .busy none)) r4
    have g5 := g4.offk Tl f5 (by omega) (by omega) (by omega) (nab y4 _ (by omega) (by omega)) (nCB _ (by omega))
    have y5 : Pass [bo, bw, h3.size + 1] ab ab4 hX (h4.setIfInBounds (h3.size + 1) (.loop (rec .busy none))) := y4.trans (Pass.of_off f5 (.inl (by simp)))
    have p2 := y5.blk o2 nb2 (nab (.refl [] ab hX) b2 (by omega) l2)
    refine gA ?_
    refine ⟨r4, ?_⟩
    generalize h4.setIfInBounds (h3.size + 1) (.loop (rec .busy none)) = h5 at f5 r5 g5 y5 p2
    refine gA ?_
    have hi2 := idsL_drop hm'
    have hi3 := idsL_drop_le kids m
    have ht2 := congrArg List.length (toLs_drop hm')
    rw [List.length_append] at ht2
    have ht3 : (toLs (kids.drop m)).length ≤ (toLs kids).length := by
      have := congrArg (fun l => (toLs l).length) (List.take_append_drop m kids)
      simp only [toLs_append, List.length_append] at this
      omega
    have hrl := run_len Tl.one (toLs (kids.drop (m + 1))).reverse o
    rw [List.length_reverse] at hrl
    have hih := ih kids[m] lo' hi' (by omega) hordk hholdk h5 ab4 (run step (toLs (kids.drop (m + 1))).reverse o).1 left4 g5 (by omega) (by omega) (by omega)
    have e1 : run step (toLs (kids.drop m)).reverse o = run step (toL kids[m]).reverse (run step (toLs (kids.drop (m + 1))).reverse o).1 := by rw [toLs_drop hm', List.reverse_append, run_on rt4]
    refine HCall.mk (hih.mono ?_)
    rintro e h6 ⟨ab6, left6, rfl, g6, y6, hb6, hb7⟩
    have r6 := y6.at r5 (by simp; omega) (nab y5 _ (by omega) (by omega))
    have y6' : Pass [bo, bw, h3.size + 1] ab ab6 hX h6 := y5.trans (y6.mono (by simp))
    have p4 := y6'.blk o4 nb4 (nab (.refl [] ab hX) b4 (by omega) l4)
    have hs6 := y6'.1
    cases hbb : (run step (toL kids[m]).reverse (run step (toLs (kids.drop (m + 1))).reverse o).1).2
    · have q5 : (!false) = true := rfl
      refine gA ?_
      refine store1_blk p4 (by simp) rfl ?_
      intro h7 f7 z7 o7
      have o7 : BlkW h7 b4 4 [.bool false] := o7
      have r7 : h7[h3.size + 1]? = some (.loop (rec .busy none)) := by rw [f7.2 _ (lt_of_at r6) (by omega)]; exact r6
      have g7 := g6.offk Tl f7 (by omega) (by omega) (by omega) (nab y6' _ (by omega) (by omega)) (nCB _ (by omega))
      refine gA ?_
      have f8 := off_set h7 (h3.size + 1) (.loop (rec .done (some .ret)))
      have y7 : Pass [bo, bw, h3.size + 1, b4] ab ab6 hX h7 := (y6'.mono (by simp)).trans (Pass.of_off f7 (.inl (by simp)))
      refine ⟨⟨_, _, r7⟩, .inr ⟨rfl, ab6, left6, _, g7.offk Tl f8 (by omega) (by omega) (by omega) (nab y6' _ (by omega) (by omega)) (nCB _ (by omega)), y7.trans (Pass.of_off f8 (.inl (by simp))), ?_, by omega, o7.offk f8 (by omega), set_same r7⟩⟩
      have e2 : (toLs kids).reverse = (toLs (kids.drop m)).reverse ++ (toLs (kids.take m)).reverse := by rw [← List.reverse_append, ← toLs_append, List.take_append_drop]
      rw [e2, List.append_assoc, run_stop (by rw [e1]; exact hbb), e1]
    · have q5 : (!true) = false := rfl
      have hb6 := hb6 hbb
      refine gA ?_
      have f8 := off_set h6 (h3.size + 1) (.loop (rec .ready none))
      refine ⟨⟨_, _, r6⟩, .inl ⟨rfl, ab6, left6, ?_, y6'.trans (Pass.of_off f8 (.inl (by simp))), by rw [e1]; exact hbb, by omega, by omega, set_same r6⟩⟩
      rw [e1]
      exact g6.offk Tl f8 (by omega) (by omega) (by omega) (nab y6' _ (by omega) (by omega)) (nCB _ (by omega))
  · refine ⟨ab, left - 1, ?_, .refl _ _ _, ?_, ?_, by omega, rX⟩
    · rw [List.drop_eq_nil_of_le (by omega)]; exact gX
    · rw [List.drop_eq_nil_of_le (by omega)]; rfl
    · rw [List.drop_eq_nil_of_le (by omega)]; simp only [idsL, List.length_nil]; omega
  rintro e h4 ⟨rfl, ⟨ab4, left4, g4, y4, rt4, hl4, hl5, r4⟩ | ⟨ab4, left4, o', g4, y4, rt4, hl5, p4, r4⟩⟩
  · refine ⟨.ready, none, r4, ⟨(fun e => LoopState.noConfusion e), ?_⟩⟩
    have f5 := off_set h4 (h3.size + 1) (.loop (rec .exhausted none))
    have g5 := g4.offk Tl f5 (by omega) (by omega) (by omega) (nab y4 _ (by omega) (by omega)) (nCB _ (by omega))
    have y5 : Pass [bo, bw, h3.size + 1] ab ab4 hX (h4.setIfInBounds (h3.size + 1) (.loop (rec .exhausted none))) := y4.trans (Pass.of_off f5 (.inl (by simp)))
    generalize h4.setIfInBounds (h3.size + 1) (.loop (rec .exhausted none)) = h5 at f5 g5 y5
    have nab0 := fun k k1 k2 => nab (.refl [] ab hX) k k1 k2
    have p2 := y5.blk o2 nb2 (nab0 b2 (by omega) l2)
    have p4 := y5.blk o4 nb4 (nab0 b4 (by omega) l4)
    have pn := y5.blk on nbn (nab0 bn (by omega) (by have := on.lt; omega))
    have d5 := y5.at dX nD (nab0 _ (by omega) (by omega))
    rw [List.drop_zero] at g5 rt4 hl4
    have hs5 := y5.1
    refine gA ?_
    refine HCall.mk ((backS_spec va d.vals.length vc h5).mono ?_)
    rintro e h6 ⟨bl, rfl, ol6, x6, hbl⟩
    have g6 := g5.grow Tl x6
    have y6 : Pass [bo, bw, h3.size + 1] ab ab4 hX h6 := y5.trans (.of_ext x6)
    have p2 := p2.ext x6
    have p4 := p4.ext x6
    have pn := pn.ext x6
    have d6 : h6[h3.size]? = some (.deferred (some [])) := by rw [x6.2 _ (lt_of_at d5)]; exact d5
    have hx6 := x6.1
    have lab := g5.out.lt.2
    have lbl := ol6.lt
    refine gA ?_
    refine HRange.mk 45 #[.pointer (some ⟨bl, 0, none⟩)] rfl (by kernel_rfl) fun rec2 yl2 => ?_
    show HCalls Try.prog 45 #[.func (.yield (h6.size + 1)) #[] #[], .pointer (some ⟨bl, 0, none⟩)] ((h6.push (.deferred (some []))).push (.loop (rec2 .ready none))) _
    have eY : Ext h6 ((h6.push (.deferred (some []))).push (.loop (rec2 .ready none))) := (Ext.push h6 (.deferred (some []))).trans (Ext.push _ (.loop (rec2 .ready none)))
    have dY : ((h6.push (.deferred (some []))).push (.loop (rec2 .ready none)))[h6.size]? = some (.deferred (some [])) := by
      rw [Array.getElem?_push, if_neg (by simp), Array.getElem?_push, if_pos rfl]
    have rY : ((h6.push (.deferred (some []))).push (.loop (rec2 .ready none)))[h6.size + 1]? = some (.loop (rec2 .ready none)) := by
      rw [Array.getElem?_push, if_pos (by simp)]
    generalize ((h6.push (.deferred (some []))).push (.loop (rec2 .ready none))) = hY at eY dY rY ⊢
    have gY := g6.grow Tl eY
    have yY : Pass [bo, bw, h3.size + 1] ab ab4 hX hY := y6.trans (.of_ext eY)
    have p2 := p2.ext eY
    have p4 := p4.ext eY
    have pn := pn.ext eY
    have ol7 := ol6.ext eY
    have d6 : hY[h3.size]? = some (.deferred (some [])) := by rw [eY.2 _ (lt_of_at d6)]; exact d6
    have hYl := lt_of_at rY
    have hzY := eY.1
    have nab4 : ∀ {C : List Nat} {h' : Heap} {ab' : Option Nat}, Pass C ab4 ab' hY h' → ∀ k, h.size ≤ k → k < hX.size ∨ h5.size ≤ k → k < hY.size → ab' ≠ some k := by
      intro C h' ab' y k k1 k3 k2 e
      rcases y.2.2 k e with e | hl
      · rcases k3 with k3 | k3
        · exact nab y5 k k1 k3 e
        · have := (lab k e).2; omega
      · omega
    have nbl' : bl ∉ [bo, bw, h6.size + 1] := by simp; omega
    have nb2' : b2 ∉ [bo, bw, h6.size + 1] := by simp; omega
    have nb4' : b4 ∉ [bo, bw, h6.size + 1] := by simp; omega
    have nbn' : bn ∉ [bo, bw, h6.size + 1] := by simp; omega
    have nD' : h3.size ∉ [bo, bw, h6.size + 1] := by simp; omega
    have nD2' : h6.size ∉ [bo, bw, h6.size + 1] := by simp; omega
    have nb40 := fun k k1 k3 k2 => nab4 (.refl [] ab4 hY) k k1 k3 k2
    have hbnl := on.lt
    have evl : d.vals.length = vs.length := by rw [ev]
    have ekl : d.keys.length = ks.length := by rw [ek]
    have goes := Tl.goes
    have hzl : (ks.zip vs).length = vs.length := by
      rw [List.length_zip]
      by_cases hv : vs = []
      · rw [hv]; simp
      · rw [(hvk hv).1, Nat.min_self]
    refine (backS1_spec (P := fun m h' => ∃ (ab' : Option Nat), Going S h0 t r s bo bw CB fn caps Q h' ab' (run step ((toLs kids).reverse ++ ((ks.zip vs).drop m).reverse) o).1 left4 ∧ Pass [bo, bw, h6.size + 1] ab4 ab' hY h' ∧ (run step ((toLs kids).reverse ++ ((ks.zip vs).drop m).reverse) o).2 = true ∧ h'[h6.size + 1]? = some (.loop (rec2 .ready none)))
      (Fin := fun h' => ∃ (ab' : Option Nat) (o' : List Pr), Going S h0 t r s bo bw CB fn caps Q h' ab' o' left4 ∧ Pass [bo, bw, h6.size + 1, b4] ab4 ab' hY h' ∧ run step ((toLs kids).reverse ++ (ks.zip vs).reverse) o = (o', false) ∧ BlkW h' b4 4 [.bool false] ∧ h'[h6.size + 1]? = some (.loop (rec2 .done (some .ret))))
      (ks := d.vals) (by omega) (fun i h' p => by obtain ⟨ab', g', y', _⟩ := p; exact y'.blk ol7 nbl' (nb40 bl (by omega) (by omega) (by omega)))
      (fun i h' p => by obtain ⟨ab', g', y', _⟩ := p; exact (fx.sls (.of_ext g'.ext)).2.1) ?_ ?_).mono ?_
    · rintro m hm h7 ⟨ab7, g7, y7, rt7, r7⟩
      have hmz : m < (ks.zip vs).length := by omega
      have hvn : vs ≠ [] := by intro hv; have hv1 := congrArg List.length hv; simp only [List.length_nil] at hv1; omega
      have hvl := (hvk hvn).1
      have evm : d.vals[m] = vs[m]'(by omega) := by simp only [ev]
      have ekm : d.keys[m]'(by omega) = ks[m]'(by omega) := by simp only [ek]
      have ezm : (ks.zip vs)[m] = (ks[m]'(by omega), vs[m]'(by omega)) := List.getElem_zip
      rw [evm]
      refine yl2 [.int .i64 m, .string (vs[m]'(by omega))] h7 _ rfl r7 ?_
      have f8 := off_set h7 (h6.size + 1) (.loop (rec2 .busy none))
      have r8 := set_same (o := .loop (rec2 .busy none)) r7
      have g8 := g7.offk Tl f8 (by omega) (by omega) (by omega) (nab4 y7 _ (by omega) (by omega) (by omega)) (nCB _ (by omega))
      have y8 : Pass [bo, bw, h6.size + 1] ab4 ab7 hY (h7.setIfInBounds (h6.size + 1) (.loop (rec2 .busy none))) := y7.trans (Pass.of_off f8 (.inl (by simp)))
      have q2 := y8.blk p2 nb2' (nb40 b2 (by omega) (by omega) (by omega))
      have qn := y8.blk pn nbn' (nb40 bn (by omega) (by omega) (by omega))
      refine gA ?_
      refine ⟨r7, ?_⟩
      generalize h7.setIfInBounds (h6.size + 1) (.loop (rec2 .busy none)) = h8 at f8 r8 g8 y8 q2 qn
      have wk8 := g8.wk
      have hsl := fx.sls (.of_ext g8.ext)
      refine gA ?_
      refine HIdx.mk m rfl (by omega) ?_
      refine sl_some hsl.1 (show m < d.keys.length by omega) fun p ep => ?_
      refine gA ?_
      refine Sl.load hsl.1 ep (by simp; omega) ?_
      rw [List.getElem_map, ekm]
      refine gA ?_
      refine HMust.mk goes ?_
      refine gA ?_
      have hrun := run_len Tl.one ((toLs kids).reverse ++ ((ks.zip vs).drop (m + 1)).reverse) o
      rw [List.length_append, List.length_reverse, List.length_reverse, List.length_drop] at hrun
      have e1 : run step ((toLs kids).reverse ++ ((ks.zip vs).drop m).reverse) o = run step [(ks[m]'(by omega), vs[m]'(by omega))] (run step ((toLs kids).reverse ++ ((ks.zip vs).drop (m + 1)).reverse) o).1 := by
        rw [List.drop_eq_getElem_cons hmz, List.reverse_cons, ← List.append_assoc, run_on rt7, ezm]
      refine HCall.mk ((g8.tell Tl (ks[m]'(by omega), vs[m]'(by omega)) (by omega)).mono ?_)
      rintro e h9 ⟨ab9, rfl, g9, y9⟩
      have r9 := y9.at r8 (by simp; omega) (nab4 y8 _ (by omega) (by omega) (by omega))
      have y9' : Pass [bo, bw, h6.size + 1] ab4 ab9 hY h9 := y8.trans (y9.mono (by simp))
      have q4 := y9'.blk p4 nb4' (nb40 b4 (by omega) (by omega) (by omega))
      have hs9 := y9'.1
      cases hbb : (step (ks[m]'(by omega), vs[m]'(by omega)) (run step ((toLs kids).reverse ++ ((ks.zip vs).drop (m + 1)).reverse) o).1).2
      · have q5 : (!false) = true := rfl
        have e3 : run step ((toLs kids).reverse ++ ((ks.zip vs).drop m).reverse) o = ((step (ks[m]'(by omega), vs[m]'(by omega)) (run step ((toLs kids).reverse ++ ((ks.zip vs).drop (m + 1)).reverse) o).1).1, false) := by
          rw [e1]; simp only [run]; rw [if_neg (by rw [hbb]; simp)]
        refine gA ?_
        refine store1_blk q4 (by simp) rfl ?_
        intro h10 f10 z10 o10
        have o10 : BlkW h10 b4 4 [.bool false] := o10
        have r10 : h10[h6.size + 1]? = some (.loop (rec2 .busy none)) := by rw [f10.2 _ (lt_of_at r9) (by omega)]; exact r9
        have g10 := g9.offk Tl f10 (by omega) (by omega) (by omega) (nab4 y9' _ (by omega) (by omega) (by omega)) (nCB _ (by omega))
        refine gA ?_
        have f11 := off_set h10 (h6.size + 1) (.loop (rec2 .done (some .ret)))
        have y10 : Pass [bo, bw, h6.size + 1, b4] ab4 ab9 hY h10 := (y9'.mono (by simp)).trans (Pass.of_off f10 (.inl (by simp)))
        refine ⟨⟨_, _, r10⟩, .inr ⟨rfl, ab9, _, g10.offk Tl f11 (by omega) (by omega) (by omega) (nab4 y9' _ (by omega) (by omega) (by omega)) (nCB _ (by omega)), y10.trans (Pass.of_off f11 (.inl (by simp))), ?_, o10.offk f11 (by omega), set_same r10⟩⟩
        have e2 : (ks.zip vs).reverse = ((ks.zip vs).drop m).reverse ++ ((ks.zip vs).take m).reverse := by rw [← List.reverse_append, List.take_append_drop]
        rw [e2, ← List.append_assoc, run_stop (by rw [e3]), e3]
      · have q5 : (!true) = false := rfl
        have e3 : run step ((toLs kids).reverse ++ ((ks.zip vs).drop m).reverse) o = ((step (ks[m]'(by omega), vs[m]'(by omega)) (run step ((toLs kids).reverse ++ ((ks.zip vs).drop (m + 1)).reverse) o).1).1, true) := by
          rw [e1]; simp only [run]; rw [if_pos hbb]
        refine gA ?_
        have f11 := off_set h9 (h6.size + 1) (.loop (rec2 .ready none))
        refine ⟨⟨_, _, r9⟩, .inl ⟨rfl, ab9, ?_, y9'.trans (Pass.of_off f11 (.inl (by simp))), by rw [e3], set_same r9⟩⟩
        rw [e3]
        exact g9.offk Tl f11 (by omega) (by omega) (by omega) (nab4 y9' _ (by omega) (by omega) (by omega)) (nCB _ (by omega))
    · refine ⟨ab4, ?_, .refl _ _ _, ?_, rY⟩
      · rw [List.drop_eq_nil_of_le (by omega), List.reverse_nil, List.append_nil]; exact gY
      · rw [List.drop_eq_nil_of_le (by omega), List.reverse_nil, List.append_nil]; exact rt4
    rintro e h7 ⟨rfl, ⟨ab7, g7, y7, rt7, r7⟩ | ⟨ab7, o', g7, y7, rt7, q4, r7⟩⟩
    · rw [List.drop_zero] at g7 rt7
      refine ⟨.ready, none, r7, ⟨(fun e => LoopState.noConfusion e), ?_⟩⟩
      have f8 := off_set h7 (h6.size + 1) (.loop (rec2 .exhausted none))
      have g8 := g7.offk Tl f8 (by omega) (by omega) (by omega) (nab4 y7 _ (by omega) (by omega) (by omega)) (nCB _ (by omega))
      have y8 : Pass [bo, bw, h6.size + 1] ab4 ab7 hY (h7.setIfInBounds (h6.size + 1) (.loop (rec2 .exhausted none))) := y7.trans (Pass.of_off f8 (.inl (by simp)))
      generalize h7.setIfInBounds (h6.size + 1) (.loop (rec2 .exhausted none)) = h8 at f8 g8 y8
      have q4 := y8.blk p4 nb4' (nb40 b4 (by omega) (by omega) (by omega))
      have q6 := y8.at d6 nD' (nb40 _ (by omega) (by omega) (by omega))
      have q7 := y8.at dY nD2' (nb40 _ (by omega) (by omega) (by omega))
      have hs8 := y8.1
      refine gA ?_
      refine store1_blk q4 (by simp) rfl ?_
      intro h9 f9 z9 o9
      have o9 : BlkW h9 b4 4 [.bool true] := o9
      have g9 := g8.offk Tl f9 (by omega) (by omega) (by omega) (nab4 y8 _ (by omega) (by omega) (by omega)) (nCB _ (by omega))
      have q6 : h9[h3.size]? = some (.deferred (some [])) := by rw [f9.2 _ (lt_of_at q6) (by omega)]; exact q6
      have q7 : h9[h6.size]? = some (.deferred (some [])) := by rw [f9.2 _ (lt_of_at q7) (by omega)]; exact q7
      have y9 : Pass [bo, bw, h6.size + 1, b4] ab4 ab7 hY h9 := (y8.mono (by simp)).trans (Pass.of_off f9 (.inl (by simp)))
      refine gA ?_
      refine HMark.mk q7 ?_
      have f10 := off_set h9 h6.size (.deferred none)
      have o10 := o9.offk f10 (by omega)
      have g10 := g9.offk Tl f10 (by omega) (by omega) (by omega) (nab4 y9 _ (by omega) (by omega) (by omega)) (nCB _ (by omega))
      have y10 : Pass [bo, bw, h6.size + 1, b4, h6.size] ab4 ab7 hY (h9.setIfInBounds h6.size (.deferred none)) := (y9.mono (by simp)).trans (Pass.of_off f10 (.inl (by simp)))
      have q6 : (h9.setIfInBounds h6.size (.deferred none))[h3.size]? = some (.deferred (some [])) := by rw [f10.2 _ (lt_of_at q6) (by omega)]; exact q6
      generalize h9.setIfInBounds h6.size (.deferred none) = h10 at f10 o10 g10 y10 q6
      refine gA ?_
      refine HMark.mk q6 ?_
      have f11 := off_set h10 h3.size (.deferred none)
      have o11 := o10.offk f11 (by omega)
      have g11 := g10.offk Tl f11 (by omega) (by omega) (by omega) (nab4 y10 _ (by omega) (by omega) (by omega)) (nCB _ (by omega))
      have y11 : Pass [bo, bw, h6.size + 1, b4, h6.size, h3.size] ab4 ab7 hY (h10.setIfInBounds h3.size (.deferred none)) := (y10.mono (by simp)).trans (Pass.of_off f11 (.inl (by simp)))
      generalize h10.setIfInBounds h3.size (.deferred none) = h11 at f11 o11 g11 y11
      refine gA ?_
      have yall : Pass [bo, bw] ab ab7 h h11 := ((yX.mono (D := [bo, bw, h3.size + 1, h6.size + 1, b4, h6.size, h3.size]) (by simp)).trans ((yY.mono (by simp)).trans (y11.mono (by simp)))).of_set (by simp; omega)
      exact ⟨ab7, left4, by rw [rt7]; rfl, g11, yall, (fun _ => by omega), by omega⟩
    · refine ⟨.done, some .ret, r7, ⟨(fun e => LoopState.noConfusion e), ?_⟩⟩
      have f8 := off_set h7 (h6.size + 1) (.loop (rec2 .exhausted (some .ret)))
      have g8 := g7.offk Tl f8 (by omega) (by omega) (by omega) (nab4 y7 _ (by omega) (by omega) (by omega)) (nCB _ (by omega))
      have y8 : Pass [bo, bw, h6.size + 1, b4] ab4 ab7 hY (h7.setIfInBounds (h6.size + 1) (.loop (rec2 .exhausted (some .ret)))) := y7.trans (Pass.of_off f8 (.inl (by simp)))
      have q4 := q4.offk f8 (by omega)
      generalize h7.setIfInBounds (h6.size + 1) (.loop (rec2 .exhausted (some .ret))) = h8 at f8 g8 y8 q4
      have q6 := y8.at d6 (by simp; omega) (nb40 _ (by omega) (by omega) (by omega))
      have q7 := y8.at dY (by simp; omega) (nb40 _ (by omega) (by omega) (by omega))
      refine gA ?_
      refine HMark.mk q7 ?_
      have f10 := off_set h8 h6.size (.deferred none)
      have o10 := q4.offk f10 (by omega)
      have g10 := g8.offk Tl f10 (by omega) (by omega) (by omega) (nab4 y8 _ (by omega) (by omega) (by omega)) (nCB _ (by omega))
      have y10 : Pass [bo, bw, h6.size + 1, b4, h6.size] ab4 ab7 hY (h8.setIfInBounds h6.size (.deferred none)) := (y8.mono (by simp)).trans (Pass.of_off f10 (.inl (by simp)))
      have q6 : (h8.setIfInBounds h6.size (.deferred none))[h3.size]? = some (.deferred (some [])) := by rw [f10.2 _ (lt_of_at q6) (by omega)]; exact q6
      generalize h8.setIfInBounds h6.size (.deferred none) = h10 at f10 o10 g10 y10 q6
      refine gA ?_
      refine HMark.mk q6 ?_
      have f11 := off_set h10 h3.size (.deferred none)
      have o11 := o10.offk f11 (by omega)
      have g11 := g10.offk Tl f11 (by omega) (by omega) (by omega) (nab4 y10 _ (by omega) (by omega) (by omega)) (nCB _ (by omega))
      have y11 : Pass [bo, bw, h6.size + 1, b4, h6.size, h3.size] ab4 ab7 hY (h10.setIfInBounds h3.size (.deferred none)) := (y10.mono (by simp)).trans (Pass.of_off f11 (.inl (by simp)))
      generalize h10.setIfInBounds h3.size (.deferred none) = h11 at f11 o11 g11 y11
      refine gA ?_
      have yall : Pass [bo, bw] ab ab7 h h11 := ((yX.mono (D := [bo, bw, h3.size + 1, h6.size + 1, b4, h6.size, h3.size]) (by simp)).trans ((yY.mono (by simp)).trans (y11.mono (by simp)))).of_set (by simp; omega)
      rw [rt7]
      exact ⟨ab7, left4, rfl, g11, yall, (fun c => nomatch c), by omega⟩
  · refine ⟨.done, some .ret, r4, ⟨(fun e => LoopState.noConfusion e), ?_⟩⟩
    have f5 := off_set h4 (h3.size + 1) (.loop (rec .exhausted (some .ret)))
    have g5 := g4.offk Tl f5 (by omega) (by omega) (by omega) (nab y4 _ (by omega) (by omega)) (nCB _ (by omega))
    have y5 : Pass [bo, bw, h3.size + 1, b4] ab ab4 hX (h4.setIfInBounds (h3.size + 1) (.loop (rec .exhausted (some .ret)))) := y4.trans (Pass.of_off f5 (.inl (by simp)))
    have p4 := p4.offk f5 (by omega)
    generalize h4.setIfInBounds (h3.size + 1) (.loop (rec .exhausted (some .ret))) = h5 at f5 g5 y5 p4
    have d5 := y5.at dX (by simp; omega) (nab (.refl [] ab hX) _ (by omega) (by omega))
    refine gA ?_
    refine HMark.mk d5 ?_
    have f6 := off_set h5 h3.size (.deferred none)
    have p4 := p4.offk f6 (by omega)
    have g6 := g5.offk Tl f6 (by omega) (by omega) (by omega) (nab y5 _ (by omega) (by omega)) (nCB _ (by omega))
    have y6 : Pass [bo, bw, h3.size + 1, b4, h3.size] ab ab4 hX (h5.setIfInBounds h3.size (.deferred none)) := (y5.mono (by simp)).trans (Pass.of_off f6 (.inl (by simp)))
    generalize h5.setIfInBounds h3.size (.deferred none) = h6 at f6 p4 g6 y6
    refine gA ?_
    rw [rt4]
    exact ⟨ab4, left4, rfl, g6, ((yX.mono (by simp)).trans y6).of_set (by simp; omega), (fun c => nomatch c), by omega⟩
end
end Go.Proofs.Ytljindmibfkhfaa.Hc
/- btree.Scan. -/
set_option linter.unusedVariables false
set_option linter.unusedSimpArgs false
namespace Go.Proofs.Ytljindmibfkhfaa.Hc
open Go Go.H Go.Proofs
set_option maxRecDepth 100000
set_option maxHeartbeats 8000000
theorem stepR_one (op : Bool) (to : ByteArray) (most : Int) (p : Pr) (o : List Pr) : (stepR op to most p o).1.length ≤ o.length + 1 := by
  unfold stepR; split <;> simp
theorem stepB_one (fr : ByteArray) (op : Bool) (to : ByteArray) (most : Int) (p : Pr) (o : List Pr) : (stepB fr op to most p o).1.length ≤ o.length + 1 := by
  unfold stepB; split
  · simp
  · split <;> simp
theorem teller2 {B bo bw b1 b2 b3 : Nat} {op : Bool} {to : ByteArray} {most : Int} (n1 : b1 ≠ bo ∧ b1 ≠ bw) (n2 : b2 ≠ bo ∧ b2 ≠ bw) (n3 : b3 ≠ bo ∧ b3 ≠ bw) (hB : B ≤ bo ∧ B ≤ bw ∧ bo ≠ bw) :
    Teller B bo bw [b1, b2, b3] 18 [.pointer (some ⟨b1, 0, none⟩), .pointer (some ⟨b2, 0, none⟩), .pointer (some ⟨bo, 0, none⟩), .pointer (some ⟨b3, 0, none⟩)] (stepR op to most)
      (fun h => BlkW h b1 4 [.bool op] ∧ BlkW h b2 9 [.string to] ∧ BlkW h b3 3 [.int .i64 most]) where
  tells := fun h o ab p q x ol nc => scan2_spec hB.1 x ol q.1 q.2.1 q.2.2 n1.1 n2.1 n3.1 (nc _ (by simp)) (nc _ (by simp)) (nc _ (by simp))
  stay := fun h h' q k => ⟨q.1.of (k _ (by simp)), q.2.1.of (k _ (by simp)), q.2.2.of (k _ (by simp))⟩
  lt := fun h q k hk => by
    simp only [List.mem_cons, List.not_mem_nil, or_false] at hk
    rcases hk with rfl | rfl | rfl
    · exact q.1.lt
    · exact q.2.1.lt
    · exact q.2.2.lt
  off := fun k hk => by
    simp only [List.mem_cons, List.not_mem_nil, or_false] at hk
    rcases hk with rfl | rfl | rfl
    · exact n1
    · exact n2
    · exact n3
  goes := by kernel_rfl
  one := stepR_one op to most
  hB := hB
theorem teller1 {B bo bw b0 b1 b2 b3 : Nat} {fr : ByteArray} {op : Bool} {to : ByteArray} {most : Int} (n0 : b0 ≠ bo ∧ b0 ≠ bw) (n1 : b1 ≠ bo ∧ b1 ≠ bw) (n2 : b2 ≠ bo ∧ b2 ≠ bw) (n3 : b3 ≠ bo ∧ b3 ≠ bw) (hB : B ≤ bo ∧ B ≤ bw ∧ bo ≠ bw) :
    Teller B bo bw [b0, b1, b2, b3] 16 [.pointer (some ⟨b0, 0, none⟩), .pointer (some ⟨b1, 0, none⟩), .pointer (some ⟨b2, 0, none⟩), .pointer (some ⟨bo, 0, none⟩), .pointer (some ⟨b3, 0, none⟩)] (stepB fr op to most)
      (fun h => BlkW h b0 9 [.string fr] ∧ BlkW h b1 4 [.bool op] ∧ BlkW h b2 9 [.string to] ∧ BlkW h b3 3 [.int .i64 most]) where
  tells := fun h o ab p q x ol nc => scan1_spec hB.1 x ol q.1 q.2.1 q.2.2.1 q.2.2.2 n1.1 n2.1 n3.1 (nc _ (by simp)) (nc _ (by simp)) (nc _ (by simp))
  stay := fun h h' q k => ⟨q.1.of (k _ (by simp)), q.2.1.of (k _ (by simp)), q.2.2.1.of (k _ (by simp)), q.2.2.2.of (k _ (by simp))⟩
  lt := fun h q k hk => by
    simp only [List.mem_cons, List.not_mem_nil, or_false] at hk
    rcases hk with rfl | rfl | rfl | rfl
    · exact q.1.lt
    · exact q.2.1.lt
    · exact q.2.2.1.lt
    · exact q.2.2.2.lt
  off := fun k hk => by
    simp only [List.mem_cons, List.not_mem_nil, or_false] at hk
    rcases hk with rfl | rfl | rfl | rfl
    · exact n0
    · exact n1
    · exact n2
    · exact n3
  goes := by kernel_rfl
  one := stepB_one fr op to most
  hB := hB
section
variable {S : List Nat} {h0 : Heap} {t r : Nat} {s : TS} {bo bw : Nat} {CB : List Nat} {fn : FuncId} {caps : List Value} {step : Pr → List Pr → List Pr × Bool} {Q : Heap → Prop}
theorem rising_zero (Tl : Teller h0.size bo bw CB fn caps step Q) {id : Int} {key : ByteArray} {h : Heap} {ab : Option Nat} {o : List Pr} (g : Going S h0 t r s bo bw CB fn caps Q h ab o 0) :
    HCalls Try.prog 19 #[.pointer (some ⟨bw, 0, none⟩), .int .i64 id, .string key] h fun e h' => e = .returned (.bool false) ∧ h' = h := by
  have wk := g.wk
  refine c19 (by simp) ?_
  refine gA ?_
  exact ⟨rfl, rfl⟩
theorem falling_zero (Tl : Teller h0.size bo bw CB fn caps step Q) {id : Int} {h : Heap} {ab : Option Nat} {o : List Pr} (g : Going S h0 t r s bo bw CB fn caps Q h ab o 0) :
    HCalls Try.prog 17 #[.pointer (some ⟨bw, 0, none⟩), .int .i64 id] h fun e h' => e = .returned (.bool false) ∧ Going S h0 t r s bo bw CB fn caps Q h' ab o 0 := by
  refine c17 (by simp) ?_
  refine gA ?_
  refine new_var (e := 53) [.pointer (some ⟨bw, 0, none⟩)] rfl ?_
  intro ha b2 o2 xa za hb2
  refine gA ?_
  refine new_var (e := 4) [.bool false] rfl ?_
  intro hb b4 o4 xb zb hb4
  have o2 := o2.ext xb
  have gb := (g.grow Tl xa).grow Tl xb
  have wk := gb.wk
  have hxa := xa.1
  have hxb := xb.1
  have wl := g.wk.lt
  have ol := g.out.lt
  have hg := g.ext.1
  refine gA ?_
  refine store1_blk o4 (by simp) rfl ?_
  intro h1 f1 z1 o1
  have o1 : BlkW h1 b4 4 [.bool false] := o1
  have g1 := gb.offk Tl f1 (by omega) (by omega) (by omega) (fun e => by have := (ol.2 _ e).2; omega) (fun hm => by have := Tl.lt _ g.q _ hm; omega)
  refine gA ?_
  exact ⟨rfl, g1⟩
end
end Go.Proofs.Ytljindmibfkhfaa.Hc
/- btree.Scan: the function. -/
set_option linter.unusedVariables false
set_option linter.unusedSimpArgs false
namespace Go.Proofs.Ytljindmibfkhfaa.Hc
open Go Go.H Go.Proofs
set_option maxRecDepth 100000
set_option maxHeartbeats 8000000
def scanF (T : BT) (fr to : ByteArray) (op back : Bool) (most : Int) : List Pr :=
  if most < 1 then [] else if back = true then (run (stepB fr op to most) (toL T).reverse []).1 else (run (stepR op to most) (riseT fr T) []).1
structure ScanOk (s : TS) (T : BT) : Prop where
  ord : Ord none none T
  hold : Hold s.l T
  ids : (idsT T).length ≤ s.l.length ∨ (s.l.length = 0 ∧ toL T = [])
  few : (toL T).length ≤ 4194304
  len : s.l.length ≤ 1073741824
theorem out_new {B : Nat} {h : Heap} {bo : Nat} (o : BlkW h bo 31 [.slice none 0 0]) : OutR B h bo none [] :=
  ⟨none, 0, o, Own.nil _ _ _ _, rfl, fun e => nomatch e⟩
theorem scan_spec {S : List Nat} {h : Heap} {t r : Nat} {s : TS} {T : BT} {fr to : ByteArray} {op back : Bool} {most : Int} (x : TRp S h t r s) (k : ScanOk s T) (hm : i64 most) :
    HCalls Try.prog 8 #[.pointer (some ⟨t, 0, none⟩), .int .i64 T.id, .string fr, .string to, .bool op, .bool back, .int .i64 most] h fun e h' =>
      ∃ a c, e = .returned (.slice a (scanF T fr to op back most).length c) ∧ Own h' h.size 34 2 a (scanF T fr to op back most).length c (cellsP (scanF T fr to op back most)) ∧ Ext h h' := by
  refine c8 (by simp) ?_
  refine gA ?_
  refine new_var (e := 9) [.string fr] rfl ?_
  intro h1 b9 o9 x1 z1 hb9
  refine gA ?_
  refine new_var (e := 9) [.string to] rfl ?_
  intro h2 b10 o10 x2 z2 hb10
  have o9 := o9.ext x2
  refine gA ?_
  refine new_var (e := 4) [.bool op] rfl ?_
  intro h3 b11 o11 x3 z3 hb11
  have o9 := o9.ext x3
  have o10 := o10.ext x3
  refine gA ?_
  refine new_var (e := 3) [.int .i64 most] rfl ?_
  intro h4 b13 o13 x4 z4 hb13
  have o9 := o9.ext x4
  have o10 := o10.ext x4
  have o11 := o11.ext x4
  refine gA ?_
  refine new_var (e := 31) [.slice none 0 0] rfl ?_
  intro h5 b14 o14 x5 z5 hb14
  have o9 := o9.ext x5
  have o10 := o10.ext x5
  have o11 := o11.ext x5
  have o13 := o13.ext x5
  have X5 : Ext h h5 := (((x1.trans x2).trans x3).trans x4).trans x5
  have hx1 := x1.1
  have hx2 := x2.1
  have hx3 := x3.1
  have hx4 := x4.1
  have hx5 := x5.1
  by_cases hmo : most < 1
  · have q : decide (most < 1) = true := decide_eq_true hmo
    have e : scanF T fr to op back most = [] := by unfold scanF; rw [if_pos hmo]
    rw [e]
    refine gA ?_
    refine store1_blk o14 (by simp) rfl ?_
    intro h6 f6 z6 o6
    have o6 : BlkW h6 b14 31 [.slice none 0 0] := o6
    refine gA ?_
    exact ⟨none, 0, rfl, Own.nil _ _ _ _, X5.offNew f6 (by omega)⟩
  · have q : decide (most < 1) = false := decide_eq_false hmo
    have xt := x.ext X5
    have ot := xt.o
    refine gA ?_
    obtain ⟨L, mL, eL, _⟩ := xt.m
    refine mL.count ?_
    rw [← pureL_len, eL]
    refine gA ?_
    refine new_var (e := 56) [.pointer (some ⟨t, 0, none⟩), .int .i64 (s.l.length : Nat), .nilFunc] rfl ?_
    intro h6 bw ow x6 z6 hbw
    have o9 := o9.ext x6
    have o10 := o10.ext x6
    have o11 := o11.ext x6
    have o13 := o13.ext x6
    have o14 := o14.ext x6
    have X6 := X5.trans x6
    have hx6 := x6.1
    cases back
    · have e : scanF T fr to op false most = (run (stepR op to most) (riseT fr T) []).1 := by unfold scanF; rw [if_neg hmo, if_neg (by simp)]
      rw [e]
      refine gA ?_
      refine blk_st (o := 2) (v := .func (.func 18) #[] #[.pointer (some ⟨b11, 0, none⟩), .pointer (some ⟨b10, 0, none⟩), .pointer (some ⟨b14, 0, none⟩), .pointer (some ⟨b13, 0, none⟩)]) ow (by simp) rfl ?_
      intro h7 f7 z7 o7
      have o9 := o9.offk f7 (by omega)
      have o10 := o10.offk f7 (by omega)
      have o11 := o11.offk f7 (by omega)
      have o13 := o13.offk f7 (by omega)
      have o14 := o14.offk f7 (by omega)
      have X7 := X6.offNew f7 (by omega)
      have Tl := teller2 (B := h.size) (bo := b14) (bw := bw) (b1 := b11) (b2 := b10) (b3 := b13) (op := op) (to := to) (most := most) ⟨by omega, by omega⟩ ⟨by omega, by omega⟩ ⟨by omega, by omega⟩ ⟨by omega, by omega, by omega⟩
      have g7 : Going S h t r s b14 bw [b11, b10, b13] 18 [.pointer (some ⟨b11, 0, none⟩), .pointer (some ⟨b10, 0, none⟩), .pointer (some ⟨b14, 0, none⟩), .pointer (some ⟨b13, 0, none⟩)]
          (fun h => BlkW h b11 4 [.bool op] ∧ BlkW h b10 9 [.string to] ∧ BlkW h b13 3 [.int .i64 most]) h7 none [] s.l.length :=
        ⟨X7, out_new o14, o7, ⟨o11, o10, o13⟩, (fun e => nomatch e), (fun _ _ e => nomatch e)⟩
      refine gA ?_
      rcases k.ids with hi | ⟨hi, hT⟩
      · refine HCall.mk ((rising_spec Tl x _ T none none (Nat.le_refl _) k.ord k.hold fr h7 none [] s.l.length g7 hi k.len (by simpa using k.few)).mono ?_)
        rintro e h8 ⟨ab8, left8, rfl, g8, y8, _⟩
        obtain ⟨a8, c8, oo8, w8, ea8, na8⟩ := g8.out
        generalize (run (stepR op to most) (riseT fr T) []).1 = res at oo8 w8 ⊢
        refine gA ?_
        refine store1_blk oo8 (by simp) rfl ?_
        intro h9 f9 z9 o9'
        have o9' : BlkW h9 b14 31 [.slice a8 res.length c8] := o9'
        have w9 := w8.off f9 (fun p ep e => na8 (by rw [ea8, ep, ← e]; rfl))
        refine gA ?_
        exact ⟨a8, c8, rfl, w9, g8.ext.offNew f9 (by omega)⟩
      · rw [hi] at g7
        have er : riseT fr T = [] := by rw [rise_law T k.ord, hT]; rfl
        rw [er]
        refine HCall.mk ((rising_zero Tl g7).mono ?_)
        rintro e h8 ⟨rfl, rfl⟩
        refine gA ?_
        refine store1_blk o14 (by simp) rfl ?_
        intro h9 f9 z9 o9'
        have o9' : BlkW h9 b14 31 [.slice none 0 0] := o9'
        refine gA ?_
        exact ⟨none, 0, rfl, Own.nil _ _ _ _, X7.offNew f9 (by omega)⟩
    · have e : scanF T fr to op true most = (run (stepB fr op to most) (toL T).reverse []).1 := by unfold scanF; rw [if_neg hmo, if_pos rfl]
      rw [e]
      refine gA ?_
      refine blk_st (o := 2) (v := .func (.func 16) #[] #[.pointer (some ⟨b9, 0, none⟩), .pointer (some ⟨b11, 0, none⟩), .pointer (some ⟨b10, 0, none⟩), .pointer (some ⟨b14, 0, none⟩), .pointer (some ⟨b13, 0, none⟩)]) ow (by simp) rfl ?_
      intro h7 f7 z7 o7
      have o9 := o9.offk f7 (by omega)
      have o10 := o10.offk f7 (by omega)
      have o11 := o11.offk f7 (by omega)
      have o13 := o13.offk f7 (by omega)
      have o14 := o14.offk f7 (by omega)
      have X7 := X6.offNew f7 (by omega)
      have Tl := teller1 (B := h.size) (bo := b14) (bw := bw) (b0 := b9) (b1 := b11) (b2 := b10) (b3 := b13) (fr := fr) (op := op) (to := to) (most := most) ⟨by omega, by omega⟩ ⟨by omega, by omega⟩ ⟨by omega, by omega⟩ ⟨by omega, by omega⟩ ⟨by omega, by omega, by omega⟩
      have g7 : Going S h t r s b14 bw [b9, b11, b10, b13] 16 [.pointer (some ⟨b9, 0, none⟩), .pointer (some ⟨b11, 0, none⟩), .pointer (some ⟨b10, 0, none⟩), .pointer (some ⟨b14, 0, none⟩), .pointer (some ⟨b13, 0, none⟩)]
          (fun h => BlkW h b9 9 [.string fr] ∧ BlkW h b11 4 [.bool op] ∧ BlkW h b10 9 [.string to] ∧ BlkW h b13 3 [.int .i64 most]) h7 none [] s.l.length :=
        ⟨X7, out_new o14, o7, ⟨o9, o11, o10, o13⟩, (fun e => nomatch e), (fun _ _ e => nomatch e)⟩
      refine gA ?_
      rcases k.ids with hi | ⟨hi, hT⟩
      · refine HCall.mk ((falling_spec Tl x _ T none none (Nat.le_refl _) k.ord k.hold h7 none [] s.l.length g7 hi k.len (by simpa using k.few)).mono ?_)
        rintro e h8 ⟨ab8, left8, rfl, g8, y8, _⟩
        obtain ⟨a8, c8, oo8, w8, ea8, na8⟩ := g8.out
        generalize (run (stepB fr op to most) (toL T).reverse []).1 = res at oo8 w8 ⊢
        refine gA ?_
        refine store1_blk oo8 (by simp) rfl ?_
        intro h9 f9 z9 o9'
        have o9' : BlkW h9 b14 31 [.slice a8 res.length c8] := o9'
        have w9 := w8.off f9 (fun p ep e => na8 (by rw [ea8, ep, ← e]; rfl))
        refine gA ?_
        exact ⟨a8, c8, rfl, w9, g8.ext.offNew f9 (by omega)⟩
      · rw [hi] at g7
        rw [hT]
        refine HCall.mk ((falling_zero Tl g7).mono ?_)
        rintro e h8 ⟨rfl, g8⟩
        obtain ⟨a8, c8, oo8, w8, ea8, na8⟩ := g8.out
        refine gA ?_
        refine store1_blk oo8 (by simp) rfl ?_
        intro h9 f9 z9 o9'
        have o9' : BlkW h9 b14 31 [.slice a8 0 c8] := o9'
        have w9 := w8.off f9 (fun p ep e => na8 (by rw [ea8, ep, ← e]; rfl))
        refine gA ?_
        exact ⟨a8, c8, rfl, w9, g8.ext.offNew f9 (by omega)⟩
end Go.Proofs.Ytljindmibfkhfaa.Hc
/- r18.Same and Put. -/
set_option linter.unusedVariables false
set_option linter.unusedSimpArgs false
namespace Go.Proofs.Ytljindmibfkhfaa.Hc
open Go Go.H Go.Proofs
set_option maxRecDepth 100000
set_option maxHeartbeats 8000000
theorem elsP (h : Heap) : ∀ l : List Pr, Els (fun _ (p : Pr) cs => cs = [Value.string p.1, .string p.2]) h l (cellsP l)
  | [] => rfl
  | p :: r => ⟨[.string p.1, .string p.2], cellsP r, rfl, rfl, elsP h r⟩
theorem Sl.loadP {h : Heap} {a : Option Addr} {c : Nat} {l : List Pr} {p : Addr} {i : Nat} {K : Value → Prop} (x : Sl h 2 a l.length c (cellsP l)) (ep : a = some p) (hi : i < l.length)
    (k : K (.agg #[.string l[i].1, .string l[i].2])) : HLoadN h (p.add (i * 2)) 2 K :=
  Sl.loadEl (R := fun _ (p : Pr) cs => cs = [Value.string p.1, .string p.2]) (by rintro d cs rfl; rfl) x (elsP h l) ep hi (by rintro cs rfl; exact k)
theorem strEq_dec (a b : ByteArray) : strEq a b = decide (a = b) := by
  cases hs : strEq a b
  · exact (decide_eq_false ((strEq_no _ _).1 hs)).symm
  · exact (decide_eq_true ((strEq_iff _ _).1 hs)).symm
theorem same_spec {h : Heap} {a b : Option Addr} {ca cb : Nat} {la lb : List Pr} (x : Sl h 2 a la.length ca (cellsP la)) (y : Sl h 2 b lb.length cb (cellsP lb)) (hl : la.length ≤ 4194304) (hl2 : lb.length ≤ 4194304) :
    HCalls Try.prog 9 #[.slice a la.length ca, .slice b lb.length cb] h fun e h' => e = .returned (.bool (decide (la = lb))) ∧ h' = h := by
  refine c9 (by simp) ?_
  by_cases hn : la.length = lb.length
  · have q : ((la.length : Int) != (lb.length : Int)) = false := by rw [hn]; simp
    refine gA ?_
    refine loop_rule [13] (fun vs h' => ∃ i : Nat, vs = [.int .i64 i] ∧ i ≤ la.length ∧ la.take i = lb.take i ∧ h' = h) (fun vs _ => match vs with | [.int _ i] => la.length - i.toNat | _ => 0) rfl ?_ ?_
    · exact ⟨0, rfl, by omega, by simp, rfl⟩
    intro u h1 v13
    rintro ⟨i, e, hi, ht, rfl⟩
    cases e
    refine gA ?_
    refine HIf.mk (fun hlt => ?_) (fun hlt => ?_)
    · have hi1 : i < la.length := by have := of_decide_eq_true hlt; omega
      have hi2 : i < lb.length := by omega
      have hmu : la.length - ((i : Int) + 1).toNat < la.length - ((i : Int)).toNat := by omega
      refine gA ?_
      refine HIdx.mk i rfl hi1 ?_
      refine sl_some x hi1 fun p ep => ?_
      refine gA ?_
      refine Sl.loadP x ep hi1 ?_
      refine gA ?_
      refine HIdx.mk i rfl hi2 ?_
      refine sl_some y hi2 fun p2 ep2 => ?_
      refine gA ?_
      refine Sl.loadP y ep2 hi2 ?_
      refine gA ?_
      refine raw_neqP rfl rfl rfl Try.underlying34 (by kernel_rfl) (by decide) (by decide) Try.underlying9 Try.underlying9 (by kernel_rfl) (by kernel_rfl) rfl rfl (by kernel_rfl) ?_
      rw [strEq_dec, strEq_dec]
      by_cases he : la[i] = lb[i]
      · have e1 : decide (la[i].1 = lb[i].1) = true := decide_eq_true (by rw [he])
        have e2 : decide (la[i].2 = lb[i].2) = true := decide_eq_true (by rw [he])
        rw [e1, e2]
        have q5 : (!(true && true)) = false := rfl
        refine gA ?_
        exact ⟨⟨i + 1, rfl, by omega, by rw [List.take_add_one, List.take_add_one, ht, List.getElem?_eq_getElem hi1, List.getElem?_eq_getElem hi2, he], rfl⟩, hmu⟩
      · have e3 : (!(decide (la[i].1 = lb[i].1) && decide (la[i].2 = lb[i].2))) = true := by
          by_cases h1 : la[i].1 = lb[i].1
          · by_cases h2 : la[i].2 = lb[i].2
            · exact absurd (Prod.ext h1 h2) he
            · simp [h2]
          · simp [h1]
        have e4 : decide (la = lb) = false := decide_eq_false (by intro c; subst c; exact he rfl)
        rw [e4]
        generalize (!(decide (la[i].1 = lb[i].1) && decide (la[i].2 = lb[i].2))) = z at e3 ⊢
        subst e3
        refine gA ?_
        exact ⟨rfl, rfl⟩
    · have hge := of_decide_eq_false hlt
      obtain rfl : i = la.length := by omega
      have e4 : decide (la = lb) = true := decide_eq_true (by rw [List.take_length, hn, List.take_length] at ht; exact ht)
      rw [e4]
      refine gA ?_
      exact ⟨rfl, rfl⟩
  · have q : ((la.length : Int) != (lb.length : Int)) = true := by simp; omega
    have e4 : decide (la = lb) = false := decide_eq_false (by intro c; exact hn (by rw [c]))
    rw [e4]
    refine gA ?_
    exact ⟨rfl, rfl⟩
theorem gtr_eq (a b : ByteArray) : (!(strLt a b || strEq a b)) = strLt b a := by
  rcases strLt_tri a b with h | rfl | h
  · rw [h, strLt_asymm h]; rfl
  · rw [(strEq_iff a a).2 rfl]
    cases hs : strLt a a
    · rfl
    · have := strLt_asymm hs; rw [hs] at this; cases this
  · rw [h, strLt_asymm h]
    cases he : strEq a b
    · rfl
    · have := (strEq_iff _ _).1 he; subst this; have := strLt_asymm h; rw [h] at this; cases this
theorem rput_spec {h : Heap} {a : Option Addr} {c : Nat} {l : List Pr} {key val : ByteArray} (x : Sl h 2 a l.length c (cellsP l)) (hl : l.length ≤ 1000000) :
    HCalls Try.prog 10 #[.slice a l.length c, .string key, .string val] h fun e h' => ∃ a' c', e = .returned (.slice a' (insP l key val).length c') ∧ Own h' h.size 34 2 a' (insP l key val).length c' (cellsP (insP l key val)) ∧ Ext h h' := by
  refine c10 (by simp) ?_
  refine gB ?_
  refine cut_rule [7] (fun vs h' => ∃ (a' : Option Addr) (c' : Nat), vs = [.slice a' (l.filter (fun p => strLt p.1 key)).length c'] ∧ Own h' h.size 34 2 a' (l.filter (fun p => strLt p.1 key)).length c' (cellsP (l.filter (fun p => strLt p.1 key))) ∧ Ext h h') rfl ?_ ?_
  · refine gA ?_
    refine loop_rule [14, 7] (fun vs h' => ∃ (i : Nat) (a' : Option Addr) (c' : Nat), vs = [.int .i64 i, .slice a' (((l.take i).filter (fun p => strLt p.1 key))).length c'] ∧ i ≤ l.length ∧ Own h' h.size 34 2 a' (((l.take i).filter (fun p => strLt p.1 key))).length c' (cellsP (((l.take i).filter (fun p => strLt p.1 key)))) ∧ Ext h h')
      (fun vs _ => match vs with | [.int _ i, _] => l.length - i.toNat | _ => 0) rfl ?_ ?_
    · exact ⟨0, none, 0, rfl, by omega, Own.nil _ _ _ _, Ext.refl h⟩
    intro u h1 vi v7
    rintro ⟨i, a1, c1, e, hi, w1, X1⟩
    cases e
    refine gA ?_
    refine HIf.mk (fun hlt => ?_) (fun hlt => ?_)
    · have hi1 : i < l.length := by have := of_decide_eq_true hlt; omega
      have hmu : l.length - ((i : Int) + 1).toNat < l.length - ((i : Int)).toNat := by omega
      have hft : (l.take (i + 1)).filter (fun p => strLt p.1 key) = (l.take i).filter (fun p => strLt p.1 key) ++ (if strLt l[i].1 key = true then [l[i]] else []) := by
        rw [List.take_add_one, List.getElem?_eq_getElem hi1, Option.toList_some, List.filter_append, List.filter_cons, List.filter_nil]
      have hfl : ((l.take i).filter (fun p => strLt p.1 key)).length ≤ i := Nat.le_trans (List.length_filter_le _ _) (by rw [List.length_take]; omega)
      refine gA ?_
      refine HIdx.mk i rfl hi1 ?_
      refine sl_some (x.ext X1) hi1 fun p ep => ?_
      refine gA ?_
      refine Sl.loadP (x.ext X1) ep hi1 ?_
      refine gA ?_
      refine new_var (e := 34) [.string ⟨#[]⟩, .string ⟨#[]⟩] rfl ?_
      intro h2 b2 o2 x2 z2 hb2
      refine gA ?_
      refine store_blk o2 (by simp) (by simp [isOne]) ?_
      intro h3 f3 z3 o3
      have o3 : BlkW h3 b2 34 [.string l[i].1, .string l[i].2] := by simpa using o3
      have l1 := w1.lt
      have w3 := (w1.ext x2).off f3 (fun p ep => by have := l1 p ep; omega)
      have X3 : Ext h h3 := (X1.trans x2).offNew f3 (by have := X1.1; omega)
      have hX3 := X3.1
      refine gA ?_
      cases hs : strLt l[i].1 key
      · have q5 : strLt l[i].1 key = false := hs
        rw [hs, if_neg (by simp), List.append_nil] at hft
        refine gA ?_
        exact ⟨⟨i + 1, a1, c1, by rw [hft]; rfl, by omega, by rw [hft]; exact w3, X3⟩, hmu⟩
      · have q5 : strLt l[i].1 key = true := hs
        rw [hs, if_pos rfl] at hft
        refine gA ?_
        refine new_own (e := 34) 2 1 [.string l[i].1, .string l[i].2] rfl rfl ?_
        intro h4 b4 w4 x4 z4 hb4
        refine gA ?_
        refine w4.sl.cells ?_
        refine Own.append (w3.ext x4) (m := 1) (by omega) rfl rfl (by intro v hv; simp only [List.mem_cons, List.not_mem_nil, or_false] at hv; rcases hv with rfl | rfl <;> rfl) (by omega) ?_
        intro h5 a5 c5 w5 k5 _ _
        refine gA ?_
        have el : (((l.take i).filter (fun p => strLt p.1 key))).length + 1 = (((l.take (i + 1)).filter (fun p => strLt p.1 key))).length := by rw [hft]; simp only [List.length_append, List.length_cons, List.length_nil] <;> omega
        have ec : cellsP (((l.take i).filter (fun p => strLt p.1 key))) ++ [.string l[i].1, .string l[i].2] = cellsP (((l.take (i + 1)).filter (fun p => strLt p.1 key))) := by rw [hft]; simp only [cellsP_append] <;> simp [cellsP]
        rw [el, ec] at w5
        exact ⟨⟨i + 1, a5, c5, by rw [← el]; rfl, by omega, w5, (X3.trans x4).keep k5⟩, hmu⟩
    · have hge := of_decide_eq_false hlt
      obtain rfl : i = l.length := by omega
      rw [List.take_length] at w1
      rw [List.take_length]
      refine gA ?_
      exact ⟨a1, c1, rfl, w1, X1⟩
  intro u h2 v7
  rintro ⟨a2, c2, e, w2, X2⟩
  cases e
  have hf1 : (l.filter (fun p => strLt p.1 key)).length ≤ l.length := List.length_filter_le _ _
  have hX2 := X2.1
  refine gA ?_
  refine new_own (e := 34) 2 1 [.string key, .string val] rfl rfl ?_
  intro h4 b4 w4 x4 z4 hb4
  refine gA ?_
  refine w4.sl.cells ?_
  refine Own.append (w2.ext x4) (m := 1) (by omega) rfl rfl (by intro v hv; simp only [List.mem_cons, List.not_mem_nil, or_false] at hv; rcases hv with rfl | rfl <;> rfl) (by omega) ?_
  intro h5 a5 c5 w5 k5 _ _
  have X5 := (X2.trans x4).keep k5
  have el : (l.filter (fun p => strLt p.1 key)).length + 1 = (l.filter (fun p => strLt p.1 key) ++ [(key, val)]).length := by simp
  have ec : cellsP (l.filter (fun p => strLt p.1 key)) ++ [.string key, .string val] = cellsP (l.filter (fun p => strLt p.1 key) ++ [(key, val)]) := by rw [cellsP_append]; simp [cellsP]
  rw [el, ec] at w5
  generalize hP : l.filter (fun p => strLt p.1 key) ++ [(key, val)] = P at el w5
  have eI : insP l key val = P ++ l.filter (fun p => strLt key p.1) := by rw [← hP]; simp [insP]
  have hPl : P.length ≤ l.length + 1 := by omega
  rw [eI, el]
  refine gA ?_
  refine loop_rule [35, 7] (fun vs h' => ∃ (i : Nat) (a' : Option Addr) (c' : Nat), vs = [.int .i64 i, .slice a' (P ++ ((l.take i).filter (fun p => strLt key p.1))).length c'] ∧ i ≤ l.length ∧ Own h' h.size 34 2 a' (P ++ ((l.take i).filter (fun p => strLt key p.1))).length c' (cellsP (P ++ ((l.take i).filter (fun p => strLt key p.1)))) ∧ Ext h h')
    (fun vs _ => match vs with | [.int _ i, _] => l.length - i.toNat | _ => 0) rfl ?_ ?_
  · exact ⟨0, a5, c5, by rw [List.take_zero, List.filter_nil, List.append_nil]; rfl, by omega, by rw [List.take_zero, List.filter_nil, List.append_nil]; exact w5, X5⟩
  intro u h1 vi v7
  rintro ⟨i, a1, c1, e, hi, w1, X1⟩
  cases e
  refine gA ?_
  refine HIf.mk (fun hlt => ?_) (fun hlt => ?_)
  · have hi1 : i < l.length := by have := of_decide_eq_true hlt; omega
    have hmu : l.length - ((i : Int) + 1).toNat < l.length - ((i : Int)).toNat := by omega
    have hft : (l.take (i + 1)).filter (fun p => strLt key p.1) = (l.take i).filter (fun p => strLt key p.1) ++ (if strLt key l[i].1 = true then [l[i]] else []) := by
      rw [List.take_add_one, List.getElem?_eq_getElem hi1, Option.toList_some, List.filter_append, List.filter_cons, List.filter_nil]
    have hfl : ((l.take i).filter (fun p => strLt key p.1)).length ≤ i := Nat.le_trans (List.length_filter_le _ _) (by rw [List.length_take]; omega)
    refine gA ?_
    refine HIdx.mk i rfl hi1 ?_
    refine sl_some (x.ext X1) hi1 fun p ep => ?_
    refine gA ?_
    refine Sl.loadP (x.ext X1) ep hi1 ?_
    refine gA ?_
    refine new_var (e := 34) [.string ⟨#[]⟩, .string ⟨#[]⟩] rfl ?_
    intro h2 b2 o2 x2 z2 hb2
    refine gA ?_
    refine store_blk o2 (by simp) (by simp [isOne]) ?_
    intro h3 f3 z3 o3
    have o3 : BlkW h3 b2 34 [.string l[i].1, .string l[i].2] := by simpa using o3
    have l1 := w1.lt
    have w3 := (w1.ext x2).off f3 (fun p ep => by have := l1 p ep; omega)
    have X3 : Ext h h3 := (X1.trans x2).offNew f3 (by have := X1.1; omega)
    have hX3 := X3.1
    refine gA ?_
    cases hs : strLt key l[i].1
    · have q5 : (!(strLt l[i].1 key || strEq l[i].1 key)) = false := by rw [gtr_eq]; exact hs
      rw [hs, if_neg (by simp), List.append_nil] at hft
      refine gA ?_
      exact ⟨⟨i + 1, a1, c1, by rw [hft]; rfl, by omega, by rw [hft]; exact w3, X3⟩, hmu⟩
    · have q5 : (!(strLt l[i].1 key || strEq l[i].1 key)) = true := by rw [gtr_eq]; exact hs
      rw [hs, if_pos rfl] at hft
      refine gA ?_
      refine new_own (e := 34) 2 1 [.string l[i].1, .string l[i].2] rfl rfl ?_
      intro h4 b4 w4 x4 z4 hb4
      refine gA ?_
      refine w4.sl.cells ?_
      refine Own.append (w3.ext x4) (m := 1) (by omega) rfl rfl (by intro v hv; simp only [List.mem_cons, List.not_mem_nil, or_false] at hv; rcases hv with rfl | rfl <;> rfl) (by rw [List.length_append]; omega) ?_
      intro h6 a5 c5 w5 k5 _ _
      refine gA ?_
      have el2 : (P ++ ((l.take i).filter (fun p => strLt key p.1))).length + 1 = (P ++ ((l.take (i + 1)).filter (fun p => strLt key p.1))).length := by rw [hft]; simp only [List.length_append, List.length_cons, List.length_nil] <;> omega
      have ec2 : cellsP (P ++ ((l.take i).filter (fun p => strLt key p.1))) ++ [.string l[i].1, .string l[i].2] = cellsP (P ++ ((l.take (i + 1)).filter (fun p => strLt key p.1))) := by rw [hft]; simp only [cellsP_append] <;> simp [cellsP]
      rw [el2, ec2] at w5
      exact ⟨⟨i + 1, a5, c5, by rw [← el2]; rfl, by omega, w5, (X3.trans x4).keep k5⟩, hmu⟩
  · have hge := of_decide_eq_false hlt
    obtain rfl : i = l.length := by omega
    rw [List.take_length] at w1
    rw [List.take_length]
    refine gA ?_
    exact ⟨a1, c1, rfl, w1, X1⟩
end Go.Proofs.Ytljindmibfkhfaa.Hc
/- btree.Tree.under and Keep where a root is a leaf. -/
set_option linter.unusedVariables false
set_option linter.unusedSimpArgs false
namespace Go.Proofs.Ytljindmibfkhfaa.Hc
open Go Go.H Go.Proofs
set_option maxRecDepth 100000
set_option maxHeartbeats 8000000
def KeepC (h h' : Heap) : Prop := h.size ≤ h'.size ∧ ∀ (k : Nat) (c : Array Value) (e : TypeId) (f : Nat × Nat), h[k]? = some (Obj.cells c e f) → h'[k]? = some (Obj.cells c e f)
theorem under_spec {t : Nat} {id : Int} {h : Heap} : HCalls Try.prog 22 #[.pointer (some ⟨t, 0, none⟩), .int .i64 id] h fun e h' =>
    ∃ b3 b2, e = .returned (.func (.func 33) #[] #[.pointer (some ⟨b3, 0, none⟩), .pointer (some ⟨b2, 0, none⟩)]) ∧ BlkW h' b3 3 [.int .i64 id] ∧ BlkW h' b2 24 [.pointer (some ⟨t, 0, none⟩)] ∧ Ext h h' := by
  refine c22 (by simp) ?_
  refine gA ?_
  refine new_var (e := 24) [.pointer (some ⟨t, 0, none⟩)] rfl ?_
  intro h1 b2 o2 x1 z1 hb2
  refine gA ?_
  refine new_var (e := 3) [.int .i64 id] rfl ?_
  intro h2 b3 o3 x2 z2 hb3
  refine gA ?_
  exact ⟨b3, b2, rfl, o3, o2.ext x2, x1.trans x2⟩
theorem under1_spec {S : List Nat} {t r : Nat} {s : TS} {P0 P1 : Heap → Prop} {B l b2 b3 : Nat} {id : Int} {d : ND} {h : Heap} (st0 : ∀ h h', P0 h → B ≤ h.size → Kept B h h' → P0 h') (st1 : ∀ h h', P1 h → B ≤ h.size → Kept B h h' → P1 h') (sz : ∀ h, P1 h → B ≤ h.size)
    (tr : ∀ h, P0 h → TRp S h t r s) (hd : getA id s.l = some d) (hk : d.kids = []) (o3 : ∀ h, P0 h → BlkW h b3 3 [.int .i64 id]) (o2 : ∀ h, P0 h → BlkW h b2 24 [.pointer (some ⟨t, 0, none⟩)])
    (hy : ∀ h', P0 h' → B ≤ h'.size → HYield Try.prog l #[.int .i64 id] h' fun e h'' => e = .returned (.bool true) ∧ P1 h'' ∧ KeepC h' h'') (start : P0 h) (hB : B ≤ h.size) :
    HCalls Try.prog 33 #[.func (.yield l) #[] #[], .pointer (some ⟨b3, 0, none⟩), .pointer (some ⟨b2, 0, none⟩)] h fun e h' => e = .returned (.tuple #[]) ∧ P1 h' := by
  refine c33 (by simp) ?_
  refine gA ?_
  refine HNew.mk ?_
  have x1 := Ext.push h (.map #[] 0)
  have m1 := MapR.new h (Value.int .i64 : Int → Value) (Value.int .i64 : Int → Value)
  generalize h.push (.map #[] 0) = h1 at x1 m1
  have p1 := st0 _ _ start hB (x1.kept hB)
  have q3 := o3 _ p1
  have hx1 := x1.1
  refine gA ?_
  refine new_own (e := 3) 1 1 [.int .i64 id] rfl rfl ?_
  intro h2 bw w2 x2 z2 hbw
  have p2 := st0 _ _ p1 (by omega) (x2.kept (by omega))
  have m2 := m1.ext x2
  refine gA ?_
  refine loop_rule [5] (fun vs h' => (vs = [.slice (some ⟨bw, 0, none⟩) 1 1] ∧ h' = h2) ∨ (∃ a c, vs = [.slice a 0 c] ∧ P1 h')) (fun vs _ => match vs with | [.slice _ n _] => n | _ => 0) rfl ?_ ?_
  · exact .inl ⟨rfl, rfl⟩
  intro u h3 v5
  rintro (⟨e, rfl⟩ | ⟨a, c, e, hp1⟩)
  · cases e
    refine gA ?_
    refine HIdx.mk 0 (by decide) (by decide) ?_
    refine ⟨⟨bw, 0, none⟩, rfl, ?_⟩
    refine gA ?_
    refine Sl.load w2.sl rfl (by simp) ?_
    refine gA ?_
    refine HBound.mk 0 (by decide) (by decide) ?_
    have xt := tr _ p2
    have ot := xt.o
    have q2 := o2 _ p2
    refine gA ?_
    refine xt.look id (fun hn => by rw [hn] at hd; cases hd) fun d' cs hd' fx es clock j => ?_
    obtain rfl : d' = d := by rw [hd] at hd'; cases hd'; rfl
    obtain ⟨_, _, _, _, _, _, ka, kc, va, vc, ia, ic, rfl, _⟩ := fx.rep
    refine gA ?_
    refine new_var (e := 41) [.slice none 0 0, .slice none 0 0, .slice none 0 0] rfl ?_
    intro h4 b7 o7 x4 z4 hb7
    refine gA ?_
    refine store_blk o7 (by simp) (by simp [isOne]) ?_
    intro h5 f5 z5 o5
    have o5 : BlkW h5 b7 41 (cells3 d' ka kc va vc ia ic) := by simpa using o5
    have X5 : Ext h3 h5 := x4.offNew f5 (by omega)
    have p5 := st0 _ _ p2 (by have := x2.1; omega) (X5.kept (by have := x2.1; omega))
    have m5 := m2.ext X5
    have hX5 := X5.1
    have hx2 := x2.1
    refine gA ?_
    refine m5.look keyOk_int id (fun _ es clock => ?_) (fun v hv => by cases hv)
    refine gA ?_
    refine m5.set keyOk_int id (1 : Int) fun h6 f6 z6 m6 => ?_
    have lm := m5.lt
    have p6 := st0 _ _ p5 (by omega) (f6.kept (by omega) (by omega))
    have o6 := o5.offk f6 (by omega)
    refine gA ?_
    refine yield_call (hy h6 p6 (by omega)) ?_
    rintro e h7 ⟨rfl, p7, k7⟩
    have o7' : BlkW h7 b7 41 (cells3 d' ka kc va vc ia ic) := by
      obtain ⟨fz, e1, e2⟩ := o6
      exact ⟨fz, k7.2 _ _ _ _ e1, e2⟩
    have hkl : d'.kids.length = 0 := by rw [hk]; rfl
    have s3 := (fx.sls (.refl _ _)).2.2
    have s4 : Sl h7 1 ia d'.kids.length ic (d'.kids.map (.int .i64)) := ⟨s3.1, s3.2.1, s3.2.2.1, fun p ep i hi => by omega⟩
    refine gA ?_
    refine s4.cells ?_
    refine H.HAppend.fits (by omega) (movedTo ⟨bw, 0, none⟩ 1 0 1) rfl (by intro v hv; rw [hk] at hv; cases hv) (by intro i hi; rw [hk] at hi; simp at hi) ?_
    have ekm : d'.kids.map (Value.int .i64) = [] := by rw [hk]; rfl
    rw [ekm, hkl]
    refine gA ?_
    refine ⟨.inr ⟨_, _, rfl, p7⟩, ?_⟩
    show 0 < 1
    omega
  · cases e
    refine gA ?_
    exact ⟨rfl, hp1⟩
end Go.Proofs.Ytljindmibfkhfaa.Hc
/- btree.Keep of one root that is a leaf. -/
set_option linter.unusedVariables false
set_option linter.unusedSimpArgs false
namespace Go.Proofs.Ytljindmibfkhfaa.Hc
open Go Go.H Go.Proofs
set_option maxRecDepth 100000
set_option maxHeartbeats 8000000
theorem keep1_spec {t r : Nat} {s : TS} {id : Int} {d : ND} {h : Heap} {a : Option Addr} (x : TRp [t, r] h t r s) (hd : getA id s.l = some d) (hk : d.kids = []) (hl : s.l.length ≤ 1073741824) (sl : Sl h 1 a 1 1 [.int .i64 id]) :
    HCalls Try.prog 13 #[.pointer (some ⟨t, 0, none⟩), .slice a 1 1] h fun e h' => e = .returned (.int .i64 ((s.l.length : Int) - 1)) ∧ Off t h h' := by
  refine c13 (by simp) ?_
  have tl := x.o.lt
  have rl := x.rlt
  refine gA ?_
  refine new_var (e := 24) [.pointer (some ⟨t, 0, none⟩)] rfl ?_
  intro h1 b2 o2 x1 z1 hb2
  refine gA ?_
  refine HNew.mk ?_
  have x2 := Ext.push h1 (.map #[] 0)
  have m2 := MapR.new h1 (Value.int .i64 : Int → Value) veN
  have z2 : (h1.push (.map #[] 0)).size = h1.size + 1 := by simp
  generalize h1.push (.map #[] 0) = h2 at x2 m2 z2
  have o2 := o2.ext x2
  refine gA ?_
  refine new_var (e := 47) [.map none] rfl ?_
  intro h3 b5 o3 x3 z3 hb5
  have o2 := o2.ext x3
  have m3 := m2.ext x3
  refine gA ?_
  refine store1_blk o3 (by simp) rfl ?_
  intro h4 f4 z4 o4
  have o4 : BlkW h4 b5 47 [.map (some h1.size)] := o4
  have o2 := o2.offk f4 (by omega)
  have m4 := m3.offk f4 (by omega)
  have X4 : Ext h h4 := ((x1.trans x2).trans x3).offNew f4 (by omega)
  have hX4 := X4.1
  have hf4 := f4.1
  refine gA ?_
  refine loop_times 2 ?_
  show aexec Try.prog _ (thenA _ _) _ _
  refine gA ?_
  refine HIdx.mk 0 rfl (by decide) ?_
  refine sl_some (sl.ext X4) (i := 0) (by decide) fun p ep => ?_
  refine gA ?_
  refine Sl.load (sl.ext X4) ep (by simp) ?_
  show _
  refine gA ?_
  refine HCall.mk (under_spec.mono ?_)
  rintro e h5 ⟨b3, b6, rfl, ob3, ob6, x5⟩
  have X5 := X4.trans x5
  have o2 := o2.ext x5
  have o4 := o4.ext x5
  have m5 := m4.ext x5
  have hx5 := x5.1
  refine gA ?_
  refine HRange.mk 33 #[.pointer (some ⟨b3, 0, none⟩), .pointer (some ⟨b6, 0, none⟩)] rfl (by kernel_rfl) fun rec yl => ?_
  show HCalls Try.prog 33 #[.func (.yield (h5.size + 1)) #[] #[], .pointer (some ⟨b3, 0, none⟩), .pointer (some ⟨b6, 0, none⟩)] ((h5.push (.deferred (some []))).push (.loop (rec .ready none))) _
  have eX : Ext h5 ((h5.push (.deferred (some []))).push (.loop (rec .ready none))) := (Ext.push h5 (.deferred (some []))).trans (Ext.push _ (.loop (rec .ready none)))
  have dX : ((h5.push (.deferred (some []))).push (.loop (rec .ready none)))[h5.size]? = some (.deferred (some [])) := by
    rw [Array.getElem?_push, if_neg (by simp), Array.getElem?_push, if_pos rfl]
  have rX : ((h5.push (.deferred (some []))).push (.loop (rec .ready none)))[h5.size + 1]? = some (.loop (rec .ready none)) := by
    rw [Array.getElem?_push, if_pos (by simp)]
  generalize ((h5.push (.deferred (some []))).push (.loop (rec .ready none))) = hX at eX dX rX ⊢
  have XX := X5.trans eX
  have o2 := o2.ext eX
  have o4 := o4.ext eX
  have mX := m5.ext eX
  have ob3 := ob3.ext eX
  have ob6 := ob6.ext eX
  have hzX := eX.1
  have hlX := lt_of_at rX
  have l2 := o2.lt
  have l4 := o4.lt
  have lm := mX.lt
  refine (under1_spec (P0 := fun h' => Ext hX h') (P1 := fun h' => OffS [h1.size] hX h' ∧ ∃ v : NV, MapR h' h1.size (Value.int .i64 : Int → Value) veN [(id, v)]) (B := hX.size) (fun h h' p _ k => p.keep k)
    (fun h h' p _ k => ⟨⟨Nat.le_trans p.1.1 k.1, fun b hb hn => (k.2 b hb).trans (p.1.2 b hb hn)⟩, let ⟨v, m⟩ := p.2; ⟨v, m.of (k.2 _ lm)⟩⟩) (fun h p => p.1.1) (fun h' p => x.ext (XX.trans p)) hd hk (fun h' p => ob3.ext p) (fun h' p => ob6.ext p) ?_ (Ext.refl hX) (Nat.le_refl _)).mono ?_
  · intro h6 p6 hB6
    have r6 : h6[h5.size + 1]? = some (.loop (rec .ready none)) := by rw [p6.2 _ hlX]; exact rX
    refine yl [.int .i64 id] h6 _ rfl r6 ?_
    have f7 := off_set h6 (h5.size + 1) (.loop (rec .busy none))
    have r7 := set_same (o := .loop (rec .busy none)) r6
    have X7 : Ext h (h6.setIfInBounds (h5.size + 1) (.loop (rec .busy none))) := (XX.trans p6).offNew f7 (by omega)
    have q2 := (o2.ext p6).offk f7 (by omega)
    have q4 := (o4.ext p6).offk f7 (by omega)
    have m7 := (mX.ext p6).offk f7 (by omega)
    refine gA ?_
    refine ⟨r6, ?_⟩
    generalize hh7 : h6.setIfInBounds (h5.size + 1) (.loop (rec .busy none)) = h7 at f7 r7 X7 q2 q4 m7
    have xt := x.ext X7
    have ot := xt.o
    refine gA ?_
    repeat' ((with_reducible refine HAlt.mk ?_ ?_) <;> refine gA ?_)
    all_goals
      refine xt.look id (fun hn => by rw [hn] at hd; cases hd) fun d' cs hd' fx es clock j => ?_
      refine gA ?_
      refine m7.set keyOk_int id (d', cs) fun h8 f8 z8 m8 => ?_
      have r8 : h8[h5.size + 1]? = some (.loop (rec .busy none)) := by rw [f8.2 _ (lt_of_at r7) (by omega)]; exact r7
      refine gA ?_
      have f9 := off_set h8 (h5.size + 1) (.loop (rec .ready none))
      refine ⟨⟨_, _, r8⟩, rfl, ⟨⟨by have := p6.1; have := f7.1; have := f8.1; have := f9.1; omega, fun b hb hn => ?_⟩, _, m8.offk f9 (by omega)⟩, ?_⟩
      · have hbn : b ≠ h1.size := by simpa using hn
        have hs7 := f7.1
        have hs8 := f8.1
        by_cases hb5 : b = h5.size + 1
        · subst hb5; rw [set_same r8]; exact rX.symm
        · rw [f9.2 b (by omega) hb5, f8.2 b (by omega) hbn, f7.2 b (by omega) hb5, p6.2 b hb]
      · refine ⟨by have := f7.1; have := f8.1; have := f9.1; omega, fun k c e f hc => ?_⟩
        have hkl := lt_of_at hc
        have hk5 : k ≠ h5.size + 1 := by rintro rfl; rw [r6] at hc; cases hc
        have hk1 : k ≠ h1.size := by
          rintro rfl
          obtain ⟨es', cl', em, _⟩ := mX.ext p6
          rw [em] at hc; cases hc
        have hs7 := f7.1
        have hs8 := f8.1
        rw [f9.2 k (by omega) hk5, f8.2 k (by omega) hk1, f7.2 k hkl hk5]; exact hc
  rintro e h6 ⟨rfl, O6, v, m6⟩
  have r6 : h6[h5.size + 1]? = some (.loop (rec .ready none)) := by rw [O6.2 _ hlX (by simp; omega)]; exact rX
  refine ⟨.ready, none, r6, ⟨(fun e => LoopState.noConfusion e), ?_⟩⟩
  have f7 := off_set h6 (h5.size + 1) (.loop (rec .exhausted none))
  have q2 := (BlkW.offS o2 O6 (by simp; omega)).offk f7 (by omega)
  have q4 := (BlkW.offS o4 O6 (by simp; omega)).offk f7 (by omega)
  have q5 : (h6.setIfInBounds (h5.size + 1) (.loop (rec .exhausted none)))[h5.size]? = some (.deferred (some [])) := by
    rw [f7.2 _ (by have := O6.1; omega) (by omega), O6.2 _ (by omega) (by simp; omega)]; exact dX
  have m7 := m6.offk f7 (by omega)
  have X7 : Ext h (h6.setIfInBounds (h5.size + 1) (.loop (rec .exhausted none))) := ⟨by have := XX.1; have := O6.1; have := f7.1; omega, fun b hb => by
    rw [f7.2 b (by have := XX.1; have := O6.1; omega) (by omega), O6.2 b (by have := XX.1; omega) (by simp; omega), XX.2 b hb]⟩
  generalize h6.setIfInBounds (h5.size + 1) (.loop (rec .exhausted none)) = h7 at f7 q2 q4 q5 m7 X7
  have xt := x.ext X7
  have ot := xt.o
  obtain ⟨L, mL, eL, _⟩ := xt.m
  have hLl : L.length = s.l.length := by rw [← pureL_len, eL]
  have hx7 := X7.1
  refine gA ?_
  repeat' (first
    | ((with_reducible refine HAlt.mk ?_ ?_) <;> refine gA ?_)
    | (refine mL.count ?_; rw [hLl]; refine gA ?_)
    | (refine m7.count ?_; rw [show [(id, v)].length = 1 from rfl]; refine gA ?_)
    | (refine blk_st (o := 0) (v := .map (some h1.size)) ot (by simp) rfl ?_; intro h8 f8 z8 o8; have q2 := q2.offk f8 (by omega); have q5 : h8[h5.size]? = some (.deferred (some [])) := (by rw [f8.2 _ (lt_of_at q5) (by omega)]; exact q5); refine gA ?_)
    | (refine blk_st (o := 1) (v := .int .i64 1) o8 (by simp) rfl ?_; intro h9 f9 z9 o9; have q5 : h9[h5.size]? = some (.deferred (some [])) := (by rw [f9.2 _ (lt_of_at q5) (by omega)]; exact q5); refine gA ?_))
  all_goals
    refine HMark.mk q5 ?_
    have f10 := off_set h9 h5.size (.deferred none)
    refine gA ?_
    exact ⟨rfl, ⟨by have := f8.1; have := f9.1; have := f10.1; omega, fun b hb hn => by
      have hs8 := f8.1
      have hs9 := f9.1
      rw [f10.2 b (by omega) (by omega), f9.2 b (by omega) hn, f8.2 b (by omega) hn, X7.2 b hb]⟩⟩
end Go.Proofs.Ytljindmibfkhfaa.Hc
/- btree.Place. -/
set_option linter.unusedVariables false
set_option linter.unusedSimpArgs false
namespace Go.Proofs.Ytljindmibfkhfaa.Hc
open Go Go.H Go.Proofs
set_option maxRecDepth 100000
set_option maxHeartbeats 8000000
theorem place_spec {S : List Nat} {h : Heap} {t r : Nat} {s : TS} {id : Int} {d : ND} {ka va ia : Option Addr} {kc vc ic : Nat} (x : TRp S h t r s) (hS : ∀ b ∈ S, b < h.size) (hn : getA id s.l = none) (h1 : 1 ≤ id) (h2 : id ≤ 2147483647) (rn : NRep h d (cells3 d ka kc va vc ia ic)) (ok : NMay d) :
    HCalls Try.prog 12 #[.pointer (some ⟨t, 0, none⟩), .int .i64 id, .agg (cells3 d ka kc va vc ia ic).toArray] h fun e h' =>
      e = .returned (.int .i64 0) ∧ TRp S h' t r ⟨putA id d s.l, s.nx⟩ ∧ OffS [t, r] h h' := by
  refine c12 (by simp) ?_
  have sm := rn.small
  have tl := x.o.lt
  have rl := x.rlt
  refine gA ?_
  refine new_var (e := 41) (cells3 d ka kc va vc ia ic) rfl ?_
  intro h1 bn on x1 z1 hbn
  have xt := x.ext x1
  have ot := xt.o
  refine gA ?_
  refine xt.look id (fun _ es clock => ?_) (fun d' cs hd' => by rw [hn] at hd'; cases hd')
  refine gA ?_
  refine new_var (e := 41) [.slice none 0 0, .slice none 0 0, .slice none 0 0] rfl ?_
  intro h2' b7 o7 x2 z2 hb7
  have on := on.ext x2
  refine gA ?_
  refine store_blk o7 (by simp) (by simp [isOne]) ?_
  intro h3 f3 z3 o3
  have X3 : Ext h h3 := (x1.trans x2).offNew f3 (by have := x1.1; omega)
  have hx1 := x1.1
  have hx2 := x2.1
  have on := on.offk f3 (by omega)
  have rn3 := rn.ext X3
  have q1 : decide (id < 1) = false := decide_eq_false (by omega)
  have q2 : decide (id > 2147483647) = false := decide_eq_false (by omega)
  refine gN ?_
  refine HCall.mk ((checkN_spec rn3).mono ?_)
  rintro e h4 ⟨rb, rfl, hrb, x4⟩
  obtain rfl := hrb.2 ok
  have X4 := X3.trans x4
  have on := on.ext x4
  have xt := x.ext X4
  have ot := xt.o
  have rn4 := rn.ext X4
  have q3 : (errN true != 0) = false := rfl
  refine gN ?_
  repeat' ((with_reducible refine HAlt.mk ?_ ?_) <;> refine gN ?_)
  all_goals
    refine HCall.mk ((own_spec rn4).mono ?_)
    rintro e h5 ⟨ka', kc', va', vc', ia', ic', rfl, w, x5⟩
    have X5 := X4.trans x5
    have xt := x.ext X5
    have ot := xt.o
    have hx5 := X4.1
    have fx : NFix h5 S d (cells3 d ka' kc' va' vc' ia' ic') := w.fix sm (fun b hb => by have := hS b hb; omega)
    refine gA ?_
    refine xt.set id fx fun h6 f6 x6 => ?_
    refine gA ?_
    exact ⟨rfl, x6, (OffS.of_ext X5).trans (.of_off f6 (by simp))⟩
end Go.Proofs.Ytljindmibfkhfaa.Hc
/- Plain laws of whole trees: a put keeps a tree whole; what a scan tells. No program in sight. -/
set_option linter.unusedVariables false
set_option linter.unusedSimpArgs false
namespace Go.Proofs.Ytljindmibfkhfaa.Hc
open Go Go.H Go.Proofs
set_option maxRecDepth 100000
set_option maxHeartbeats 4000000
theorem ordL_rising : ∀ {lo hi : Option ByteArray} {ks : List ByteArray} (l : List BT), OrdL lo hi ks l → Rising ks
  | lo, hi, _, [], h => by simp [OrdL] at h
  | lo, hi, [], t :: r, h => List.Pairwise.nil
  | lo, hi, k :: ks, t :: r, h => by
    simp only [OrdL] at h
    exact List.pairwise_cons.2 ⟨fun x hx => (ordL_keys r h.2.2.2 x hx).1, ordL_rising r h.2.2.2⟩
theorem uni_at {n b e : Nat} {i : Int} {ks vs : List ByteArray} {kids : List BT} (h : UniT (n + 1) b e (.mk i ks vs kids)) : b ≤ kids.length ∧ kids.length ≤ 12 ∧ ∀ t ∈ kids, UniT n 6 1 t := h
theorem path_ok (key : ByteArray) : ∀ (n f : Nat), n < f → ∀ (s : TS) (T : BT) (lo hi : Option ByteArray) (b e : Nat), 1 ≤ b → Hold s.l T → UniT n b e T → Ord lo hi T → PathOk f s.l T.id key
  | 0, f + 1, _, s, .mk i ks vs kids, lo, hi, b, e, hb, hh, hu, ho => by
    simp only [Hold] at hh
    obtain ⟨hd, hk⟩ := hh
    obtain ⟨rfl, u1, u2⟩ := hu
    simp only [Ord] at ho
    show PathOk (f + 1) s.l i key
    unfold PathOk
    rw [hd]
    exact ⟨ho.1, by show ks.length ≤ 1000; omega, by simp, fun _ => ho.2.2, fun c => absurd rfl c⟩
  | n + 1, f + 1, hf, s, .mk i ks vs [], lo, hi, b, e, hb, hh, hu, ho => by
    have := (uni_at hu).1
    simp at this; omega
  | n + 1, f + 1, hf, s, .mk i ks vs (t :: r), lo, hi, b, e, hb, hh, hu, ho => by
    simp only [Hold] at hh
    obtain ⟨hd, hk⟩ := hh
    obtain ⟨u1, u2, u3⟩ := uni_at hu
    simp only [Ord] at ho
    obtain ⟨rfl, ho⟩ := ho
    have hl := ordL_len _ ho
    have hc := childN_le ks key
    have hj : childN ks key < (t :: r).length := by omega
    show PathOk (f + 1) s.l i key
    unfold PathOk
    rw [hd]
    refine ⟨ordL_rising _ ho, by show ks.length ≤ 1000; omega, by show ((t :: r).map BT.id).length ≤ 1000; rw [List.length_map]; omega, fun c => by simp at c, fun _ => ⟨by show ks.length + 1 = ((t :: r).map BT.id).length; rw [List.length_map]; omega, ?_⟩⟩
    show PathOk f s.l (((t :: r).map BT.id).getD (childN ks key) 0) key
    obtain ⟨lo', hi', oj⟩ := ord_at ho hj
    rw [getD_of (by rw [List.length_map]; exact hj), List.getElem_map]
    exact path_ok key n f (by omega) s _ lo' hi' 6 1 (by omega) (hold_at hk hj) (u3 _ (List.getElem_mem hj)) oj
theorem insP_len (l : List Pr) (key val : ByteArray) : (insP l key val).length ≤ l.length + 1 := by
  have h : ∀ l : List Pr, (l.filter fun p => strLt p.1 key).length + (l.filter fun p => strLt key p.1).length ≤ l.length := by
    intro l
    induction l with
    | nil => simp
    | cons p r ih =>
      simp only [List.filter_cons, List.length_cons]
      cases h1 : strLt p.1 key
      · cases h2 : strLt key p.1 <;> simp <;> omega
      · rw [strLt_asymm h1]; simp; omega
  have e : (insP l key val).length = (l.filter fun p => strLt p.1 key).length + ((l.filter fun p => strLt key p.1).length + 1) := by unfold insP; rw [List.length_append, List.length_cons]
  have := h l
  omega
/-- A whole tree (or none yet). -/
structure Inv (s : TS) (T : BT) : Prop where
  hold : Hold s.l T
  ord : Ord none none T
  uni : ∃ n, UniT n 2 0 T
  nd : (idsT T).Nodup
  under : Under s.l T
  here : (∀ i ∈ idsT T, getA i s.l ≠ none) ∨ (s.l = [] ∧ T = .mk 0 [] [] [])
theorem uni_weak {n b e : Nat} : ∀ {T : BT}, UniT n b e T → UniT n b 0 T
  | .mk i ks vs kids, h => by
    cases n with
    | zero => exact ⟨h.1, Nat.zero_le _, h.2.2⟩
    | succ n => exact h
theorem uni_depth {T : BT} {n : Nat} (o : Ord none none T) (u : UniT n 2 0 T) (hl : (toL T).length ≤ 1000) : n ≤ 5 := by
  cases n with
  | zero => omega
  | succ n =>
    cases T with
    | mk i ks vs kids =>
      obtain ⟨u1, u2, u3⟩ := uni_at u
      cases kids with
      | nil => simp at u1
      | cons t r =>
        simp only [Ord] at o
        obtain ⟨lo', hi', oj⟩ := ord_at o.2 (i := 0) (by simp)
        have := uni_many n t lo' hi' oj (u3 t (by simp))
        have h2 : (toL t).length ≤ (toL (.mk i ks vs (t :: r))).length := by simp only [toL, toLs, List.length_append]; omega
        rcases Nat.lt_or_ge n 4 with h4 | h4
        · omega
        · have := Nat.pow_le_pow_right (n := 6) (by omega) h4
          omega
theorem holdL_one {l : Nodes} {t : BT} : HoldL l [t] ↔ Hold l t := by simp [HoldL]
theorem putT_law {s : TS} {T : BT} (I : Inv s T) (hl : (toL T).length ≤ 1000) (key val : ByteArray) :
    ∃ T', T'.id = (putT s T.id key val).2 ∧ Inv (putT s T.id key val).1 T' ∧ toL T' = insP (toL T) key val ∧ Keeps s.l (putT s T.id key val).1.l ∧ ∀ i ∈ idsT T', getA i (putT s T.id key val).1.l ≠ none := by
  obtain ⟨n, u⟩ := I.uni
  have hn := uni_depth I.ord u hl
  obtain ⟨ts, e, D⟩ := putF_law n 41 (by omega) s T key val none none 2 0 (by omega) (by omega) I.hold I.under u I.ord trivial trivial I.nd
  unfold putT
  generalize putF 41 s T.id key val = p at e D ⊢
  obtain ⟨s', ids, bt⟩ := p
  dsimp only at e D ⊢
  have hlen : ids.length = ts.length := by rw [e, List.length_map]
  rcases D.many with ⟨h1, u1⟩ | ⟨h2, u2⟩
  · obtain ⟨T', rfl⟩ : ∃ t, ts = [t] := List.length_eq_one_iff.1 h1
    rw [if_neg (by omega)]
    have ho := D.ord
    simp only [List.length_cons, List.length_nil, Nat.lt_irrefl, if_false, OrdL] at ho
    have hi : ∀ i ∈ idsT T', getA i s'.l ≠ none := fun i hi => (D.ids i (by simpa [idsL] using hi)).2
    refine ⟨T', by rw [e]; rfl, ⟨holdL_one.1 D.hold, ho.2, ⟨n, uni_weak (u1 T' (by simp))⟩, by simpa [idsL] using D.nd, idsT_kids hi, .inl hi⟩, by simpa [toLs] using D.pairs, D.keeps, hi⟩
  · obtain ⟨A, B, rfl⟩ : ∃ a b, ts = [a, b] := by
      match ts, h2 with
      | [a, b], _ => exact ⟨a, b, rfl⟩
    rw [if_pos (by omega)]
    have ho := D.ord
    have hp := D.pairs
    have hi : ∀ i ∈ idsL [A, B], getA i s'.l ≠ none := fun i hi => (D.ids i hi).2
    have kk := mkF_keeps s' ⟨[bt], [], ids⟩
    have hfree := (mkF_free s' ⟨[bt], [], ids⟩).1
    have hall : ∀ i ∈ idsT (.mk (mkF s' ⟨[bt], [], ids⟩).2 [bt] [] [A, B]), getA i (mkF s' ⟨[bt], [], ids⟩).1.l ≠ none := by
      intro i hi'
      simp only [idsT, List.mem_cons] at hi'
      rcases hi' with rfl | hi'
      · exact here_of_node
      · exact kk.here (hi i hi')
    refine ⟨.mk (mkF s' ⟨[bt], [], ids⟩).2 [bt] [] [A, B], rfl, ⟨?_, ?_, ⟨n + 1, by simp, by simp, fun t ht => u2 t ht⟩, ?_, idsT_kids hall, .inl hall⟩, ?_, D.keeps.trans kk, hall⟩
    · simp only [Hold]
      refine ⟨?_, holdL_keeps kk _ hi D.hold⟩
      rw [mkF_node, e]
    · simp only [Ord]
      refine ⟨trivial, ?_⟩
      simpa using ho
    · simp only [idsT, List.nodup_cons]
      exact ⟨fun hm => hi _ hm hfree, D.nd⟩
    · simp only [toL, List.zip_nil_right, List.append_nil]; exact hp
end Go.Proofs.Ytljindmibfkhfaa.Hc
/- What scans tell. No program in sight. -/
set_option linter.unusedVariables false
set_option linter.unusedSimpArgs false
namespace Go.Proofs.Ytljindmibfkhfaa.Hc
open Go Go.H Go.Proofs
set_option maxRecDepth 100000
set_option maxHeartbeats 4000000
theorem nodup_le : ∀ {l m : List Int}, l.Nodup → (∀ x ∈ l, x ∈ m) → l.length ≤ m.length
  | [], m, _, _ => Nat.zero_le _
  | x :: l, m, hn, hs => by
    obtain ⟨h1, h2⟩ := List.nodup_cons.1 hn
    have hx : x ∈ m := hs x (by simp)
    have := nodup_le (l := l) (m := m.erase x) h2 fun y hy => (List.mem_erase_of_ne (by rintro rfl; exact h1 hy)).2 (hs y (by simp [hy]))
    rw [List.length_erase_of_mem hx] at this
    have hp := List.length_pos_of_mem hx
    simp only [List.length_cons]; omega
theorem Inv.scan {s : TS} {T : BT} (I : Inv s T) (hl : (toL T).length ≤ 1000) (hs : s.l.length ≤ 1073741824) : ScanOk s T :=
  ⟨I.ord, I.hold, by
    rcases I.here with h | ⟨h1, h2⟩
    · have := nodup_le (m := s.l.map (·.1)) I.nd fun x hx => by
        cases hg : getA x s.l with
        | none => exact absurd hg (h x hx)
        | some v => exact List.mem_map.2 ⟨_, getA_mem hg, rfl⟩
      rw [List.length_map] at this
      exact .inl this
    · exact .inr ⟨by rw [h1]; rfl, by rw [h2]; simp [toL, toLs]⟩, by omega, hs⟩
theorem lt_noT (a : ByteArray) : strLt a noT = false := by
  have := noT_le a
  unfold strLe at this
  simpa using this
theorem run_all {step : Pr → List Pr → List Pr × Bool} {most : Int} (hs : ∀ p o, step p o = (o ++ [p], decide ((o.length : Int) + 1 < most))) : ∀ (l o : List Pr), (o.length : Int) < most → (run step l o).1 = o ++ l.take (most.toNat - o.length)
  | [], o, h => by simp [run]
  | p :: r, o, h => by
    obtain ⟨k, hk⟩ : ∃ k, most.toNat - o.length = k + 1 := ⟨most.toNat - o.length - 1, by omega⟩
    simp only [run]
    rw [hs]
    dsimp only
    by_cases hc : (o.length : Int) + 1 < most
    · rw [if_pos (decide_eq_true hc), run_all hs r (o ++ [p]) (by simp; omega), hk, List.take_succ_cons]
      have e : most.toNat - (o ++ [p]).length = k := by simp; omega
      rw [e]; simp
    · rw [if_neg (by simpa using hc), hk, List.take_succ_cons]
      have e : k = 0 := by omega
      rw [e]; simp
theorem run_lt {key : ByteArray} {most : Int} : ∀ (l o : List Pr), (o.length : Int) + l.length < most → (run (stepR false key most) l o).1 = o ++ l.takeWhile (fun p => strLt p.1 key)
  | [], o, h => by simp [run]
  | p :: r, o, h => by
    simp only [run]
    simp only [List.length_cons] at h
    cases hk : strLt p.1 key
    · have e : stepR false key most p o = (o, false) := by unfold stepR; rw [if_pos ⟨rfl, hk⟩]
      rw [e, List.takeWhile_cons_of_neg (by simp [hk])]
      simp
    · have e : stepR false key most p o = (o ++ [p], decide ((o.length : Int) + 1 < most)) := by unfold stepR; rw [if_neg (by simp [hk])]
      rw [e]
      dsimp only
      rw [if_pos (decide_eq_true (by omega)), run_lt r (o ++ [p]) (by simp; omega), List.takeWhile_cons_of_pos (by simp [hk])]
      simp
theorem lt_split {key : ByteArray} : ∀ {l : List Pr}, (l.Pairwise fun p q => strLt p.1 q.1 = true) → l.takeWhile (fun p => strLt p.1 key) ++ fromP key l = l
  | [], _ => rfl
  | p :: r, h => by
    obtain ⟨h1, h2⟩ := List.pairwise_cons.1 h
    cases hk : strLt p.1 key
    · have hle : strLe key p.1 = true := by unfold strLe; rw [hk]; rfl
      rw [List.takeWhile_cons_of_neg (by simp [hk]), List.nil_append]
      refine fromP_ge fun q hq => ?_
      rcases List.mem_cons.1 hq with rfl | hq
      · exact hle
      · exact strLe_trans hle (strLe_of_lt (h1 q hq))
    · have hf : fromP key (p :: r) = fromP key r := by unfold fromP; rw [List.filter_cons_of_neg (by unfold strLe; rw [hk]; simp)]
      rw [List.takeWhile_cons_of_pos (by simp [hk]), hf, List.cons_append, lt_split h2]
theorem stepR_open (to : ByteArray) (most : Int) (p : Pr) (o : List Pr) : stepR true to most p o = (o ++ [p], decide ((o.length : Int) + 1 < most)) := by unfold stepR; rw [if_neg (by simp)]
theorem stepB_open (to : ByteArray) (most : Int) (p : Pr) (o : List Pr) : stepB noT true to most p o = (o ++ [p], decide ((o.length : Int) + 1 < most)) := by
  unfold stepB; rw [if_neg (by rw [lt_noT]; simp), if_pos (.inl rfl)]
theorem scan_most {T : BT} (o : Ord none none T) (most : Int) : scanF T noT noT true false most = (toL T).take most.toNat := by
  unfold scanF
  by_cases h : most < 1
  · rw [if_pos h]
    have : most.toNat = 0 := by omega
    rw [this, List.take_zero]
  · rw [if_neg h, if_neg (by simp), run_all (stepR_open noT most) _ [] (by simp; omega), rise_none o]
    simp
theorem scan_all {T : BT} (o : Ord none none T) (hl : (toL T).length ≤ 1000) : scanF T noT noT true false 1000 = toL T := by
  rw [scan_most o, List.take_of_length_le]
  show _ ≤ 1000
  exact hl
theorem scan_back {T : BT} (hl : (toL T).length ≤ 1000) : scanF T noT noT true true 1000 = (toL T).reverse := by
  unfold scanF
  rw [if_neg (by omega), if_pos rfl, run_all (stepB_open noT 1000) _ [] (by simp), List.nil_append, List.take_of_length_le]
  rw [List.length_reverse]
  show _ ≤ 1000
  exact hl
theorem scan_lt {T : BT} (o : Ord none none T) (hl : (toL T).length < 1000) (key : ByteArray) : scanF T noT key false false 1000 = (toL T).takeWhile (fun p => strLt p.1 key) := by
  unfold scanF
  rw [if_neg (by omega), if_neg (by simp), run_lt _ [] (by rw [rise_none o]; simp; omega), rise_none o]
  rfl
theorem scan_from {T : BT} (o : Ord none none T) (hl : (toL T).length ≤ 1000) (key : ByteArray) : scanF T key noT true false 1000 = fromP key (toL T) := by
  unfold scanF
  rw [if_neg (by omega), if_neg (by simp), run_all (stepR_open noT 1000) _ [] (by simp), List.nil_append, rise_law T o, List.take_of_length_le]
  have := fromP_len key (toL T)
  show _ ≤ 1000
  omega
end Go.Proofs.Ytljindmibfkhfaa.Hc
/- The law's live. -/
set_option linter.unusedVariables false
set_option linter.unusedSimpArgs false
namespace Go.Proofs.Ytljindmibfkhfaa.Hc
open Go Go.H Go.Proofs
set_option maxRecDepth 100000
set_option maxHeartbeats 8000000
abbrev T0 : BT := .mk 0 [] [] []
theorem inv0 : Inv ⟨[], 1⟩ T0 :=
  ⟨by simp only [Hold, HoldL]; exact ⟨rfl, trivial⟩, by simp only [Ord]; exact ⟨List.Pairwise.nil, by simp, trivial⟩, ⟨0, rfl, Nat.le_refl _, by simp⟩, by simp [idsT, idsL], by intro i hi; simp [idsL] at hi, .inr ⟨rfl, rfl⟩⟩
theorem tok0 : TOk ⟨[], 1⟩ 0 := ⟨by show (1 : Int) ≤ 1; omega, fun k h1 h2 => by have : k < 1 := h2; omega, by simp⟩
theorem putT_ok {s : TS} {id : Int} {key val : ByteArray} {m : Nat} (ok : TOk s m) : TOk (putT s id key val).1 (m + 83) ∧ 1 ≤ (putT s id key val).2 ∧ (putT s id key val).2 ≤ ((m + 85 : Nat) : Int) := by
  obtain ⟨ok1, ⟨hl1, hl2⟩, hids⟩ := putF_ok 41 s id key val m ok
  unfold putT
  generalize putF 41 s id key val = p at ok1 hl1 hl2 hids ⊢
  obtain ⟨s', ids, bt⟩ := p
  dsimp only at ok1 hl1 hl2 hids ⊢
  by_cases h : 1 < ids.length
  · rw [if_pos h]
    have hf := mkF_free s' ⟨[bt], [], ids⟩
    have hm := (ok1.make ⟨[bt], [], ids⟩)
    have hr := hm.room
    rw [hf.2.2.1] at hr
    have := ok1.1
    exact ⟨hm.mono (by omega), by omega, by omega⟩
  · rw [if_neg h]
    obtain ⟨i, rfl⟩ : ∃ i, ids = [i] := by
      match ids, hl1, h with
      | [i], _, _ => exact ⟨i, rfl⟩
      | [], h1, _ => simp at h1
      | _ :: _ :: _, _, h2 => simp at h2
    have := hids i (by simp)
    exact ⟨ok1.mono (by omega), by show 1 ≤ i; omega, by show i ≤ _; omega⟩
theorem Inv.path {s : TS} {T : BT} (I : Inv s T) (hl : (toL T).length ≤ 1000) (key : ByteArray) : PathOk 41 s.l T.id key := by
  obtain ⟨n, u⟩ := I.uni
  have hn := uni_depth I.ord u hl
  exact path_ok key n 41 (by omega) s T none none 2 0 (by omega) I.hold u I.ord
abbrev ka : ByteArray := ⟨#[97]⟩
abbrev kb : ByteArray := ⟨#[98]⟩
abbrev va : ByteArray := ⟨#[49]⟩
abbrev vb : ByteArray := ⟨#[50]⟩
theorem put1 : putT ⟨[], 1⟩ 0 ka va = (⟨[(1, ⟨[ka], [va], []⟩)], 1⟩, 1) := by kernel_rfl
theorem put2 : putT ⟨[(1, ⟨[ka], [va], []⟩)], 1⟩ 1 kb vb = (⟨[(1, ⟨[ka], [va], []⟩), (2, ⟨[ka, kb], [va, vb], []⟩)], 2⟩, 2) := by kernel_rfl
theorem lt_ab : strLt ka kb = true := by kernel_rfl
abbrev T1 : BT := .mk 1 [ka] [va] []
abbrev T2 : BT := .mk 2 [ka, kb] [va, vb] []
abbrev s1 : TS := ⟨[(1, ⟨[ka], [va], []⟩)], 1⟩
abbrev s2 : TS := ⟨[(1, ⟨[ka], [va], []⟩), (2, ⟨[ka, kb], [va, vb], []⟩)], 2⟩
theorem inv1 : Inv s1 T1 :=
  ⟨by simp only [Hold, HoldL]; exact ⟨rfl, trivial⟩, by simp only [Ord]; exact ⟨List.pairwise_singleton _ _, fun _ _ => ⟨trivial, trivial⟩, rfl⟩, ⟨0, rfl, by simp, by simp⟩, by simp [idsT, idsL], by intro i hi; simp [idsL] at hi, .inl fun i hi => by simp [idsT, idsL] at hi; subst hi; simp [getA]⟩
theorem inv21 : Inv s2 T1 :=
  ⟨by simp only [Hold, HoldL]; exact ⟨rfl, trivial⟩, inv1.ord, inv1.uni, inv1.nd, by intro i hi; simp [idsL] at hi, .inl fun i hi => by simp [idsT, idsL] at hi; subst hi; simp [getA]⟩
theorem inv22 : Inv s2 T2 :=
  ⟨by simp only [Hold, HoldL]; exact ⟨rfl, trivial⟩, by simp only [Ord]; exact ⟨List.pairwise_cons.2 ⟨by intro x hx; simp at hx; subst hx; exact lt_ab, List.pairwise_singleton _ _⟩, fun _ _ => ⟨trivial, trivial⟩, rfl⟩, ⟨0, rfl, by simp, by simp⟩, by simp [idsT, idsL], by intro i hi; simp [idsL] at hi, .inl fun i hi => by simp [idsT, idsL] at hi; subst hi; simp [getA]⟩
theorem live_spec (h : Heap) : HCalls Try.prog 5 #[] h fun e h' => e = .returned (.bool true) ∧ Ext h h' := by
  refine c5 (by simp) ?_
  refine gA ?_
  refine HCall.mk ((new_spec h).mono ?_)
  rintro e h1 ⟨t, r, rfl, x1, ht, hr, X1⟩
  have hS1 : ∀ b ∈ [t, r], b < h1.size := by
    have := x1.o.lt; have := x1.rlt
    simp; omega
  refine gA ?_
  refine HIf.no rfl ?_
  refine gA ?_
  refine HCall.mk ((Put_spec (key := ka) (val := va) (m := 0) (root := 0) x1 hS1 tok0 (by omega) (by unfold i64; omega) (by decide) (by decide) (inv0.path (by simp [toL, toLs]) ka)).mono ?_)
  rw [put1]
  rintro e h2 ⟨rfl, x2, y2⟩
  have hS2 : ∀ b ∈ [t, r], b < h2.size := fun b hb => Nat.lt_of_lt_of_le (hS1 b hb) y2.1
  have ok1 := (putT_ok (id := 0) (key := ka) (val := va) tok0).1
  rw [put1] at ok1
  refine gA ?_
  refine HCall.mk ((Put_spec (key := kb) (val := vb) (m := 83) (root := 1) x2 hS2 ok1 (by omega) (by unfold i64; omega) (by decide) (by decide) (inv1.path (by simp [toL, toLs]) kb)).mono ?_)
  rw [put2]
  rintro e h3 ⟨rfl, x3, y3⟩
  have X3 : Ext h h3 := ⟨by have := X1.1; have := y2.1; have := y3.1; omega, fun b hb => by
    have hx1 := X1.1
    have hy2 := y2.1
    rw [y3.2 b (by omega) (by simp; omega), y2.2 b (by omega) (by simp; omega), X1.2 b hb]⟩
  refine gA ?_
  refine HCall.mk ((scan_spec (T := T1) (fr := noT) (to := noT) (op := true) (back := false) (most := 9) x3 (inv21.scan (by simp [toL, toLs]) (by simp)) (by unfold i64; omega)).mono ?_)
  have e1 : scanF T1 noT noT true false 9 = [(ka, va)] := by rw [scan_most inv21.ord]; rfl
  rw [e1]
  rintro e h4 ⟨a4, c4, rfl, w4, x4⟩
  have x3' := x3.ext x4
  refine gA ?_
  refine HCall.mk ((scan_spec (T := T2) (fr := noT) (to := noT) (op := true) (back := false) (most := 9) x3' (inv22.scan (by simp [toL, toLs]) (by simp)) (by unfold i64; omega)).mono ?_)
  have e2 : scanF T2 noT noT true false 9 = [(ka, va), (kb, vb)] := by rw [scan_most inv22.ord]; rfl
  rw [e2]
  rintro e h5 ⟨a5, c5, rfl, w5, x5⟩
  have x5' := x3'.ext x5
  have w4 := w4.ext x5
  refine gA ?_
  refine new_own (e := 34) 2 1 [.string ka, .string va] rfl rfl ?_
  intro h6 b6 w6 x6 z6 hb6
  have w4 := w4.ext x6
  have w5 := w5.ext x6
  refine gA ?_
  refine HCall.mk ((same_spec (la := [(ka, va)]) (lb := [(ka, va)]) w4.sl w6.sl (by simp) (by simp)).mono ?_)
  rw [decide_eq_true (rfl : [(ka, va)] = [(ka, va)])]
  rintro e h7 ⟨rfl, rfl⟩
  refine gA ?_
  refine new_own (e := 34) 2 2 [.string ka, .string va, .string kb, .string vb] rfl rfl ?_
  intro h8 b8 w8 x8 z8 hb8
  have w5 := w5.ext x8
  refine gA ?_
  refine HCall.mk ((same_spec (la := [(ka, va), (kb, vb)]) (lb := [(ka, va), (kb, vb)]) w5.sl w8.sl (by simp) (by simp)).mono ?_)
  rw [decide_eq_true (rfl : [(ka, va), (kb, vb)] = [(ka, va), (kb, vb)])]
  rintro e h9 ⟨rfl, rfl⟩
  refine gA ?_
  refine new_own (e := 3) 1 1 [.int .i64 2] rfl rfl ?_
  intro h10 b10 w10 x10 z10 hb10
  have xx := ((x5'.ext x6).ext x8).ext x10
  refine gA ?_
  refine HCall.mk ((keep1_spec (id := 2) (d := ⟨[ka, kb], [va, vb], []⟩) xx (by simp [getA]) rfl (by simp) w10.sl).mono ?_)
  rintro e h11 ⟨rfl, f11⟩
  have X10 : Ext h h10 := ((((X3.trans x4).trans x5).trans x6).trans x8).trans x10
  refine gA ?_
  exact ⟨rfl, X10.offNew f11 ht⟩
end Go.Proofs.Ytljindmibfkhfaa.Hc
/- The law BtreeScans. -/
set_option linter.unusedVariables false
set_option linter.unusedSimpArgs false
namespace Go.Proofs.Ytljindmibfkhfaa.Hc
open Go Go.H Go.Proofs
set_option maxRecDepth 100000
set_option maxHeartbeats 16000000
structure OpD where
  act : Int
  root : Int
  n : Int
  k : ByteArray
  v : ByteArray
  op : Bool
  bk : Bool
abbrev cellsO (o : OpD) : List Value := [.int .i64 o.act, .int .i64 o.root, .int .i64 o.n, .string o.k, .string o.v, .bool o.op, .bool o.bk]
def OpR (h : Heap) (o : OpD) (cs : List Value) : Prop := o.k.size ≤ 1048576 ∧ o.v.size ≤ 1048576 ∧ cs = cellsO o
/-- A tree that was put together. -/
structure Grown (h : Heap) (t r : Nat) (T : BT) (i : Nat) (s : TS) : Prop where
  x : TRp [t, r] h t r s
  ok : TOk s (83 * i)
  inv : Inv s T
  few : (toL T).length ≤ i
  id0 : 0 ≤ T.id
  id1 : T.id ≤ ((83 * i + 85 : Nat) : Int)
theorem Grown.ext {h h' : Heap} {t r i : Nat} {T : BT} {s : TS} (g : Grown h t r T i s) (k : Ext h h') : Grown h' t r T i s := ⟨g.x.ext k, g.ok, g.inv, g.few, g.id0, g.id1⟩
theorem Grown.more {h : Heap} {t r i : Nat} {T : BT} {s : TS} (g : Grown h t r T i s) : Grown h t r T (i + 1) s := ⟨g.x, g.ok.mono (by omega), g.inv, by have := g.few; omega, g.id0, by have := g.id1; omega⟩
theorem Grown.scan {h : Heap} {t r i : Nat} {T : BT} {s : TS} (g : Grown h t r T i s) (hi : i ≤ 100) : ScanOk s T := g.inv.scan (by have := g.few; omega) (by have := g.ok.2.2; omega)
/-- One pair more. -/
theorem Grown.put {h h0 : Heap} {t r i : Nat} {T : BT} {s : TS} (g : Grown h t r T i s) (hi : i ≤ 100) (X : Ext h0 h) (ht : h0.size ≤ t) (hr : h0.size ≤ r) (key val : ByteArray) (hk : key.size ≤ 1048576) (hv : val.size ≤ 1048576) :
    HCalls Try.prog 7 #[.pointer (some ⟨t, 0, none⟩), .int .i64 T.id, .string key, .string val] h fun e h' =>
      ((256 < key.size ∨ 1024 < val.size) ∧ e = .returned (.tuple #[.int .i64 0, .int .i64 190]) ∧ h' = h) ∨
      (key.size ≤ 256 ∧ val.size ≤ 1024 ∧ ∃ T' s', e = .returned (.tuple #[.int .i64 T'.id, .int .i64 0]) ∧ Grown h' t r T' (i + 1) s' ∧ toL T' = insP (toL T) key val ∧ Ext h0 h' ∧ OffS [t, r] h h' ∧ s' = (putT s T.id key val).1) := by
  by_cases hc : 256 < key.size ∨ 1024 < val.size
  · refine (Put_big hk hv hc).mono ?_
    rintro e h' ⟨rfl, rfl⟩
    exact .inl ⟨hc, rfl, rfl⟩
  · have h1 : key.size ≤ 256 := by omega
    have h2 : val.size ≤ 1024 := by omega
    have hS : ∀ b ∈ [t, r], b < h.size := by
      have := g.x.o.lt; have := g.x.rlt
      simp; omega
    have hf := g.few
    have h3 := g.id0
    have h4 := g.id1
    obtain ⟨T', e1, I', e2, _, _⟩ := putT_law g.inv (by omega) key val
    obtain ⟨ok', b1, b2⟩ := putT_ok (id := T.id) (key := key) (val := val) g.ok
    refine (Put_spec g.x hS g.ok (by omega) (by unfold i64; omega) h1 h2 (g.inv.path (by omega) key)).mono ?_
    rintro e h' ⟨rfl, x', y'⟩
    refine .inr ⟨h1, h2, T', _, by rw [e1], ⟨x', ok'.mono (by omega), I', by rw [e2]; have := insP_len (toL T) key val; omega, by omega, by omega⟩, e2, ⟨Nat.le_trans X.1 y'.1, fun b hb => by
      rw [y'.2 b (Nat.lt_of_lt_of_le hb X.1) (by simp; omega), X.2 b hb]⟩, y', rfl⟩
theorem els_any {α : Type} {R : Heap → α → List Value → Prop} (hR : ∀ h h' d cs, R h d cs → R h' d cs) {h h' : Heap} {l : List α} {xs : List Value} (x : Els R h l xs) : Els R h' l xs := x.map fun d cs r => hR _ _ _ _ r
theorem opR_any (h h' : Heap) (d : OpD) (cs : List Value) (r : OpR h d cs) : OpR h' d cs := r
theorem opR_len (h : Heap) (d : OpD) (cs : List Value) (r : OpR h d cs) : cs.length = 7 := by rw [r.2.2]; rfl
theorem btreeScans_spec {h : Heap} {a : Option Addr} {c : Nat} {l : List OpD} {xs : List Value} (x : Sl h 7 a l.length c xs) (es : Els OpR h l xs) (hl : l.length ≤ 1048576) (key : ByteArray) (hkey : key.size ≤ 1048576) (most : Int) (wm : (Lit.int .i64 most).wf = true) :
    HCalls Try.prog 3 #[.slice a l.length c, .string key, .int .i64 most] h fun e h' => e = .returned (.bool true) ∧ Ext h h' := by
  have hmost : i64 most := by unfold i64; simpa [Lit.wf, IntKind.min, IntKind.max, IntKind.signed, IntKind.bits] using wm
  refine c3 (by simp) ?_
  refine gA ?_
  refine HCall.mk ((live_spec h).mono ?_)
  rintro e h1 ⟨rfl, X1⟩
  refine gA ?_
  refine HCall.mk ((new_spec h1).mono ?_)
  rintro e h2 ⟨t, r, rfl, x2, ht, hr, X2⟩
  have X02 := X1.trans X2
  have hX1 := X1.1
  have qn : (bif false then !(some (⟨t, 0, none⟩ : Addr)).isNone else (some (⟨t, 0, none⟩ : Addr)).isNone) = false := rfl
  have qy : (bif true then !(some (⟨t, 0, none⟩ : Addr)).isNone else (some (⟨t, 0, none⟩ : Addr)).isNone) = true := rfl
  by_cases hbig : 100 < l.length
  · have q : decide ((l.length : Int) > 100) = true := decide_eq_true (by omega)
    refine gA ?_
    exact ⟨rfl, X02⟩
  have q : decide ((l.length : Int) > 100) = false := decide_eq_false (by omega)
  refine gB ?_
  (refine HSeq.go ?_; conv => whnf)
  refine gB ?_
  refine cut_rule [9] (fun us h' => ∃ (T : BT) (s : TS), us = [.int .i64 T.id] ∧ Grown h' t r T l.length s ∧ Ext h1 h') rfl ?_ ?_
  · refine gA ?_
    refine loop_rule [36, 9] (fun us h' => ∃ (i : Nat) (T : BT) (s : TS), us = [.int .i64 i, .int .i64 T.id] ∧ i ≤ l.length ∧ Grown h' t r T i s ∧ Ext h1 h') (fun us _ => match us with | [.int _ i, _] => l.length - i.toNat | _ => 0) rfl ?_ ?_
    · exact ⟨0, T0, ⟨[], 1⟩, rfl, by omega, ⟨x2, tok0, inv0, by simp [toL, toLs], by show (0 : Int) ≤ 0; omega, by show (0 : Int) ≤ _; omega⟩, X2⟩
    intro u h3 v36 v9
    rintro ⟨i, T, s, e, hi, g, X3⟩
    cases e
    refine gA ?_
    refine HIf.mk (fun hlt => ?_) (fun hlt => ?_)
    · have hi1 : i < l.length := by have := of_decide_eq_true hlt; omega
      have hmu : l.length - ((i : Int) + 1).toNat < l.length - ((i : Int)).toNat := by omega
      refine gA ?_
      refine HIdx.mk i rfl hi1 ?_
      refine sl_some (x.ext (X1.trans X3)) hi1 fun p ep => ?_
      refine gA ?_
      refine Sl.loadEl (opR_len h3) (x.ext (X1.trans X3)) (els_any opR_any (h' := h3) es) ep hi1 ?_
      rintro cs ⟨hk1, hk2, rfl⟩
      refine gA ?_
      refine new_var (e := 27) [.int .i64 0, .int .i64 0, .int .i64 0, .string ⟨#[]⟩, .string ⟨#[]⟩, .bool false, .bool false] rfl ?_
      intro h4 b4 o4 x4 z4 hb4
      refine gA ?_
      refine store_blk o4 (by simp) (by simp [isOne]) ?_
      intro h5 f5 z5 o5
      replace o5 : BlkW h5 b4 27 (cellsO l[i]) := by simpa using o5
      have X5 : Ext h3 h5 := x4.offNew f5 (by omega)
      refine gA ?_
      refine HCall.mk (((g.ext X5).put (by omega) (X3.trans X5) ht hr l[i].k ⟨#[118]⟩ hk1 (by decide)).mono ?_)
      rintro e h6 (⟨_, rfl, rfl⟩ | ⟨_, _, T', s', rfl, g6, _, X6, _⟩)
      · refine gA ?_
        exact ⟨⟨i + 1, T, s, rfl, by omega, (g.ext X5).more, X3.trans X5⟩, hmu⟩
      · refine gA ?_
        exact ⟨⟨i + 1, T', s', rfl, by omega, g6, X6⟩, hmu⟩
    · have hge := of_decide_eq_false hlt
      obtain rfl : i = l.length := by omega
      refine gA ?_
      exact ⟨T, s, rfl, g, X3⟩
  intro u h3 v9
  rintro ⟨T, s, e, g, X3⟩
  cases e
  have sc := g.scan (by omega)
  have hfew := g.few
  have ord := g.inv.ord
  refine gA ?_
  refine HCall.mk ((scan_spec (T := T) (fr := noT) (to := noT) (op := true) (back := false) (most := 1000) g.x sc (by unfold i64; omega)).mono ?_)
  rw [scan_all ord (by omega)]
  rintro e h4 ⟨a4, c4, rfl, w4, x4⟩
  have g4 := g.ext x4
  refine gA ?_
  refine HCall.mk ((scan_spec (T := T) (fr := noT) (to := noT) (op := true) (back := true) (most := 1000) g4.x sc (by unfold i64; omega)).mono ?_)
  rw [scan_back (by omega)]
  rintro e h5 ⟨a5, c5, rfl, w5, x5⟩
  have g5 := g4.ext x5
  have w4 := w4.ext x5
  have srt := toL_rising T ord
  generalize hL : toL T = L at *
  have hrl : L.reverse.length = L.length := List.length_reverse
  have q1 : ((L.length : Int) != (L.reverse.length : Int)) = false := by rw [hrl]; simp
  refine gA ?_
  refine loop_rule [65] (fun us h' => ∃ i : Nat, us = [.int .i64 i] ∧ i ≤ L.length ∧ h' = h5) (fun us _ => match us with | [.int _ i] => L.length - i.toNat | _ => 0) rfl ?_ ?_
  · exact ⟨0, rfl, by omega, rfl⟩
  intro u h6 v65
  rintro ⟨i, e, hi, rfl⟩
  cases e
  refine gA ?_
  refine HIf.mk (fun hlt => ?_) (fun hlt => ?_)
  · have hi1 : i < L.length := by have := of_decide_eq_true hlt; omega
    have hj1 : L.length - 1 - i < L.reverse.length := by omega
    have hmu : L.length - ((i : Int) + 1).toNat < L.length - ((i : Int)).toNat := by omega
    refine gA ?_
    refine HIdx.mk i rfl hi1 ?_
    refine sl_some w4.sl hi1 fun p ep => ?_
    refine gA ?_
    refine Sl.loadP w4.sl ep hi1 ?_
    refine gA ?_
    refine HIdx.mk (L.length - 1 - i) (by omega) hj1 ?_
    refine sl_some w5.sl hj1 fun p2 ep2 => ?_
    refine gA ?_
    refine Sl.loadP w5.sl ep2 hj1 ?_
    have er : L.reverse[L.length - 1 - i] = L[i] := by rw [List.getElem_reverse]; congr 1; omega
    rw [er]
    refine gA ?_
    refine raw_neqP rfl rfl rfl Try.underlying34 (by kernel_rfl) (by decide) (by decide) Try.underlying9 Try.underlying9 (by kernel_rfl) (by kernel_rfl) rfl rfl (by kernel_rfl) ?_
    rw [(strEq_iff _ _).2 rfl, (strEq_iff _ _).2 rfl]
    have q5 : (!(true && true)) = false := rfl
    refine gA ?_
    exact ⟨⟨i + 1, rfl, by omega, rfl⟩, hmu⟩
  have hge := of_decide_eq_false hlt
  refine gA ?_
  refine HCall.mk ((scan_spec (T := T) (fr := noT) (to := key) (op := false) (back := false) (most := 1000) g5.x sc (by unfold i64; omega)).mono ?_)
  rw [scan_lt ord (by rw [hL]; omega), hL]
  rintro e h7 ⟨a7, c7, rfl, w7, x7⟩
  have g7 := g5.ext x7
  have w4 := w4.ext x7
  refine gA ?_
  refine HCall.mk ((scan_spec (T := T) (fr := key) (to := noT) (op := true) (back := false) (most := 1000) g7.x sc (by unfold i64; omega)).mono ?_)
  rw [scan_from ord (by rw [hL]; omega), hL]
  rintro e h8 ⟨a8, c8, rfl, w8, x8⟩
  have g8 := g7.ext x8
  have w4 := w4.ext x8
  have w7 := w7.ext x8
  refine gA ?_
  refine HCall.mk ((scan_spec (T := T) (fr := noT) (to := noT) (op := true) (back := false) (most := most) g8.x sc hmost).mono ?_)
  rw [scan_most ord, hL]
  rintro e h9 ⟨a9, c9, rfl, w9, x9⟩
  have w4 := w4.ext x9
  have w7 := w7.ext x9
  have w8 := w8.ext x9
  have spl := lt_split (key := key) srt
  have X9 : Ext h h9 := (X1.trans X3).trans ((((x4.trans x5).trans x7).trans x8).trans x9)
  generalize L.takeWhile (fun p => strLt p.1 key) = A at w7 spl ⊢
  generalize fromP key L = B at w8 spl ⊢
  have hAB : A.length + B.length = L.length := by rw [← spl, List.length_append]
  refine gA ?_
  refine w7.sl.cells ?_
  refine Own.append (Own.nil h9 h9.size 34 2) (m := A.length) (Nat.le_refl _) rfl (cellsP_len A) (cellsP_one A) (by omega) ?_
  intro h10 a10 c10 w10 k10 _ _
  have kk : Ext h9 h10 := k10
  rw [Nat.zero_add, List.nil_append] at w10
  rw [Nat.zero_add]
  have w8 := w8.ext kk
  refine gA ?_
  refine w8.sl.cells ?_
  refine Own.append w10 (m := B.length) kk.1 rfl (cellsP_len B) (cellsP_one B) (by omega) ?_
  intro h11 a11 c11 w11 k11 o11 _
  have kk2 : Ext h9 h11 := kk.keep k11
  have X11 := X9.trans kk2
  have w4 := w4.ext kk2
  have w9 := w9.ext kk2
  rw [← cellsP_append, spl, hAB] at w11
  rw [hAB]
  refine gA ?_
  refine HCall.mk ((same_spec (la := L) (lb := L) w11.sl w4.sl (by omega) (by omega)).mono ?_)
  rw [decide_eq_true (rfl : L = L)]
  rintro e h12 ⟨rfl, rfl⟩
  refine gA ?_
  have htl : (L.take most.toNat).length = min most.toNat L.length := List.length_take
  refine HBound.mk (L.take most.toNat).length ?_ ?_ ?_
  · rw [htl]
    show (if (L.length : Int) < (if (0 : Int) > most then 0 else most) then (L.length : Int) else (if (0 : Int) > most then 0 else most)) = ((min most.toNat L.length : Nat) : Int)
    split <;> split <;> omega
  · have := w4.2.1; omega
  have s4 := w4.sl.slice (i := 0) (j := (L.take most.toNat).length) (by omega) (by omega)
  have e4 : ((cellsP L).take ((L.take most.toNat).length * 2)).drop (0 * 2) = cellsP (L.take most.toNat) := by
    have e : cellsP L = cellsP (L.take most.toNat) ++ cellsP (L.drop most.toNat) := by rw [← cellsP_append, List.take_append_drop]
    rw [Nat.zero_mul, List.drop_zero, e, List.take_left' (cellsP_len _)]
  rw [e4] at s4
  refine gA ?_
  refine HCall.mk ((same_spec (la := L.take most.toNat) (lb := L.take most.toNat) w9.sl s4 (by omega) (by omega)).mono ?_)
  rw [decide_eq_true (rfl : L.take most.toNat = L.take most.toNat)]
  rintro e h13 ⟨rfl, rfl⟩
  refine gA ?_
  exact ⟨rfl, X11⟩
end Go.Proofs.Ytljindmibfkhfaa.Hc
/- The law BtreeKeeps: what it needs beside. -/
set_option linter.unusedVariables false
set_option linter.unusedSimpArgs false
namespace Go.Proofs.Ytljindmibfkhfaa.Hc
open Go Go.H Go.Proofs
set_option maxRecDepth 100000
set_option maxHeartbeats 16000000
theorem Own.offS2 {h h' : Heap} {B e size n c : Nat} {a : Option Addr} {xs : List Value} {S : List Nat} (x : Own h B e size a n c xs) (o : OffS S h h') (hk : ∀ p, a = some p → p.block ∉ S) : Own h' B e size a n c xs := Own.offS x o hk
/-- No number is great. -/
def Bd (s : TS) (m : Nat) : Prop := ∀ k : Int, getA k s.l ≠ none → k ≤ ((m + 1 : Nat) : Int)
theorem Bd.mono {s : TS} {m m' : Nat} (b : Bd s m) (h : m ≤ m') : Bd s m' := fun k hk => by have := b k hk; omega
theorem Bd.make {s : TS} {m : Nat} (b : Bd s m) (ok : TOk s m) (n : ND) : Bd (mkF s n).1 (m + 1) := fun k hk => by
  rw [mkF_has] at hk
  by_cases e : (mkF s n).2 = k
  · have hr := (ok.make n).room
    rw [(mkF_free s n).2.2.1] at hr
    omega
  · rw [if_neg e] at hk
    have := b k hk; omega
theorem mks_bd : ∀ (l : List ND) (s : TS) (m : Nat), TOk s m → Bd s m → Bd (mksF s l).1 (m + l.length)
  | [], s, m, ok, b => b
  | n :: l, s, m, ok, b => (mks_bd l (mkF s n).1 (m + 1) (ok.make n) (b.make ok n)).mono (by simp only [List.length_cons]; omega)
theorem putF_bd : ∀ (f : Nat) (s : TS) (id : Int) (key val : ByteArray) (m : Nat), TOk s m → Bd s m → Bd (putF f s id key val).1 (m + 2 * f)
  | 0, s, id, key, val, m, ok, b => b
  | f + 1, s, id, key, val, m, ok, b => by
    unfold putF
    by_cases hk : (nodeOf s.l id).kids = []
    · simp only [if_pos hk]
      have hl := halvesF_len (insLeaf (nodeOf s.l id) key val)
      exact (mks_bd _ s m ok b).mono (by omega)
    · simp only [if_neg hk]
      have ok1 := (putF_ok f s ((nodeOf s.l id).kids.getD (childN (nodeOf s.l id).keys key) 0) key val m ok).1
      have b1 := putF_bd f s ((nodeOf s.l id).kids.getD (childN (nodeOf s.l id).keys key) 0) key val m ok b
      generalize putF f s ((nodeOf s.l id).kids.getD (childN (nodeOf s.l id).keys key) 0) key val = p at ok1 b1 ⊢
      generalize (⟨if 1 < p.2.1.length then insAt (nodeOf s.l id).keys (childN (nodeOf s.l id).keys key) p.2.2 else (nodeOf s.l id).keys, (nodeOf s.l id).vals, (nodeOf s.l id).kids.take (childN (nodeOf s.l id).keys key) ++ p.2.1 ++ (nodeOf s.l id).kids.drop (childN (nodeOf s.l id).keys key + 1)⟩ : ND) = d
      have hl := halvesF_len d
      exact (mks_bd _ p.1 (m + 2 * f) ok1 b1).mono (by omega)
theorem putT_bd {s : TS} {id : Int} {key val : ByteArray} {m : Nat} (ok : TOk s m) (b : Bd s m) : Bd (putT s id key val).1 (m + 83) := by
  have ok1 := (putF_ok 41 s id key val m ok).1
  have b1 := putF_bd 41 s id key val m ok b
  unfold putT
  split
  · exact (b1.make ok1 _).mono (by omega)
  · exact b1.mono (by omega)
theorem Making.setK {h0 h : Heap} {bn kc vc ic j : Nat} {ks vs : List ByteArray} {is : List Int} {cs : List Value} {ka va ia : Option Addr} {p : Addr} {key : ByteArray} {K : Heap → Prop} (x : Making h0 h bn ks vs is cs ka kc va vc ia ic) (ep : ka = some p) (hj : j < ks.length)
    (k : ∀ h', Off p.block h h' → h0.size ≤ p.block → h'.size = h.size → Making h0 h' bn (ks.set j key) vs is cs ka kc va vc ia ic → K h') : HStore h (p.add (j * 1)) [.string key] K :=
  Own.store x.k ep hj rfl fun h' f hb z w => k h' f hb z ⟨x.on.offk f (Ne.symm (x.nk p ep)), by rw [List.length_set, List.map_set]; exact w, x.v.off f fun q eq => (Apart.symm x.kv) q p eq ep, x.i.off f fun q eq => (Apart.symm x.ki) q p eq ep, x.kv, x.ki, x.vi, x.nk, x.nv, x.ni, x.hb⟩
theorem Making.setI {h0 h : Heap} {bn kc vc ic j : Nat} {ks vs : List ByteArray} {is : List Int} {cs : List Value} {ka va ia : Option Addr} {p : Addr} {n : Int} {K : Heap → Prop} (x : Making h0 h bn ks vs is cs ka kc va vc ia ic) (ep : ia = some p) (hj : j < is.length)
    (k : ∀ h', Off p.block h h' → h0.size ≤ p.block → h'.size = h.size → Making h0 h' bn ks vs (is.set j n) cs ka kc va vc ia ic → K h') : HStore h (p.add (j * 1)) [.int .i64 n] K :=
  Own.store x.i ep hj rfl fun h' f hb z w => k h' f hb z ⟨x.on.offk f (Ne.symm (x.ni p ep)), x.k.off f fun q eq => x.ki q p eq ep, x.v.off f fun q eq => x.vi q p eq ep, by rw [List.length_set, List.map_set]; exact w, x.kv, x.ki, x.vi, x.nk, x.nv, x.ni, x.hb⟩
/-- A node that was told, in a variable. -/
theorem NOwn.making {h0 h1 h2 h3 : Heap} {bn : Nat} {d : ND} {ka va ia : Option Addr} {kc vc ic : Nat} (w : NOwn h1 h0.size d ka kc va vc ia ic) (x : Ext h1 h2) (hb : bn = h1.size) (f : Off bn h2 h3) (h01 : h0.size ≤ h1.size) (o : BlkW h3 bn 41 (cells3 d ka kc va vc ia ic)) :
    Making h0 h3 bn d.keys d.vals d.kids (cells3 d ka kc va vc ia ic) ka kc va vc ia ic := by
  have bk := Own.below w.k
  have bv := Own.below w.v
  have bi := Own.below w.i
  exact ⟨o, (w.k.ext x).off f (fun p ep => by have := bk p ep; omega), (w.v.ext x).off f (fun p ep => by have := bv p ep; omega), (w.i.ext x).off f (fun p ep => by have := bi p ep; omega), w.kv, w.ki, w.vi,
    fun p ep => by have := bk p ep; omega, fun p ep => by have := bv p ep; omega, fun p ep => by have := bi p ep; omega, by omega⟩
abbrev mineD : ND := ⟨[⟨#[107]⟩], [⟨#[118]⟩], []⟩
theorem mine_may : NMay mineD :=
  ⟨.inl ⟨rfl, by simp, rfl⟩, fun j hj h2 => by
    have e : j = 0 := by simp at hj; omega
    subst e
    exact ⟨by show (⟨#[107]⟩ : ByteArray).size ≤ 256; decide, fun h => absurd h (by omega)⟩, by intro v hv; simp at hv; subst hv; decide, by intro k hk; simp at hk⟩
theorem mine_small : NSmall mineD :=
  ⟨by simp, by simp, by simp, by intro x hx; simp at hx; subst hx; decide, by intro x hx; simp at hx; subst hx; decide, by intro x hx; simp at hx⟩
end Go.Proofs.Ytljindmibfkhfaa.Hc
/- The law BtreeKeeps. -/
set_option linter.unusedVariables false
set_option linter.unusedSimpArgs false
namespace Go.Proofs.Ytljindmibfkhfaa.Hc
open Go Go.H Go.Proofs
set_option maxRecDepth 100000
set_option maxHeartbeats 40000000
theorem btreeKeeps_spec {h : Heap} {a : Option Addr} {c : Nat} {l : List OpD} {xs : List Value} (x : Sl h 7 a l.length c xs) (es : Els OpR h l xs) (hl : l.length ≤ 1048576) :
    HCalls Try.prog 4 #[.slice a l.length c] h fun e h' => e = .returned (.bool true) ∧ Ext h h' := by
  refine c4 (by simp) ?_
  refine gA ?_
  refine HCall.mk ((live_spec h).mono ?_)
  rintro e h1 ⟨rfl, X1⟩
  refine gA ?_
  refine HCall.mk ((new_spec h1).mono ?_)
  rintro e h2 ⟨t, r, rfl, x2, ht, hr, X2⟩
  have X02 := X1.trans X2
  have hX1 := X1.1
  have htl := x2.o.lt
  have hrl := x2.rlt
  have qn : (bif false then !(some (⟨t, 0, none⟩ : Addr)).isNone else (some (⟨t, 0, none⟩ : Addr)).isNone) = false := rfl
  have qy : (bif true then !(some (⟨t, 0, none⟩ : Addr)).isNone else (some (⟨t, 0, none⟩ : Addr)).isNone) = true := rfl
  by_cases hbig : 100 < l.length
  · have q : decide ((l.length : Int) > 100) = true := decide_eq_true (by omega)
    refine gA ?_
    exact ⟨rfl, X02⟩
  have q : decide ((l.length : Int) > 100) = false := decide_eq_false (by omega)
  refine gB ?_
  (refine HSeq.go ?_; conv => whnf)
  refine gB ?_
  refine cut_rule [5, 6] (fun us h' => ∃ (T : BT) (s : TS) (aw : Option Addr) (cw : Nat), us = [.int .i64 T.id, .slice aw (toL T).length cw] ∧ Grown h' t r T l.length s ∧ Bd s (83 * l.length) ∧ Own h' h2.size 34 2 aw (toL T).length cw (cellsP (toL T)) ∧ Ext h1 h' ∧ h2.size ≤ h'.size) rfl ?_ ?_
  · refine gA ?_
    refine loop_rule [36, 5, 6] (fun us h' => ∃ (i : Nat) (T : BT) (s : TS) (aw : Option Addr) (cw : Nat), us = [.int .i64 i, .int .i64 T.id, .slice aw (toL T).length cw] ∧ i ≤ l.length ∧ Grown h' t r T i s ∧ Bd s (83 * i) ∧ Own h' h2.size 34 2 aw (toL T).length cw (cellsP (toL T)) ∧ Ext h1 h' ∧ h2.size ≤ h'.size) (fun us _ => match us with | [.int _ i, _, _] => l.length - i.toNat | _ => 0) rfl ?_ ?_
    · exact ⟨0, T0, ⟨[], 1⟩, none, 0, rfl, by omega, ⟨x2, tok0, inv0, by simp [toL, toLs], by show (0 : Int) ≤ 0; omega, by show (0 : Int) ≤ _; omega⟩, fun k hk => absurd rfl hk, Own.nil _ _ _ _, X2, Nat.le_refl _⟩
    intro u h3 v36 v5 v6
    rintro ⟨i, T, s, aw, cw, e, hi, g, bd, ww, X3, h23⟩
    cases e
    refine gA ?_
    refine HIf.mk (fun hlt => ?_) (fun hlt => ?_)
    · have hi1 : i < l.length := by have := of_decide_eq_true hlt; omega
      have hmu : l.length - ((i : Int) + 1).toNat < l.length - ((i : Int)).toNat := by omega
      have hf := g.few
      refine gA ?_
      refine HIdx.mk i rfl hi1 ?_
      refine sl_some (x.ext (X1.trans X3)) hi1 fun p ep => ?_
      refine gA ?_
      refine Sl.loadEl (opR_len h3) (x.ext (X1.trans X3)) (els_any opR_any (h' := h3) es) ep hi1 ?_
      rintro cs ⟨hk1, hk2, rfl⟩
      refine gA ?_
      refine new_var (e := 27) [.int .i64 0, .int .i64 0, .int .i64 0, .string ⟨#[]⟩, .string ⟨#[]⟩, .bool false, .bool false] rfl ?_
      intro h4 b4 o4 x4 z4 hb4
      refine gA ?_
      refine store_blk o4 (by simp) (by simp [isOne]) ?_
      intro h5 f5 z5 o5
      replace o5 : BlkW h5 b4 27 (cellsO l[i]) := by simpa using o5
      have X5 : Ext h3 h5 := x4.offNew f5 (by omega)
      have ww5 := ww.ext X5
      have hX5 := X5.1
      refine gB ?_
      refine cut_rule [5, 6] (fun us h' => ∃ (T : BT) (s : TS) (aw : Option Addr) (cw : Nat), us = [.int .i64 T.id, .slice aw (toL T).length cw] ∧ Grown h' t r T (i + 1) s ∧ Bd s (83 * (i + 1)) ∧ Own h' h2.size 34 2 aw (toL T).length cw (cellsP (toL T)) ∧ Ext h1 h' ∧ h2.size ≤ h'.size) rfl ?_ ?_
      · refine gA ?_
        refine HCall.mk (((g.ext X5).put (by omega) (X3.trans X5) ht hr l[i].k l[i].v hk1 hk2).mono ?_)
        rintro e h6 (⟨_, rfl, rfl⟩ | ⟨_, _, T', s', rfl, g6, eT, X6, y6, es'⟩)
        · refine gA ?_
          exact ⟨T, s, aw, cw, rfl, (g.ext X5).more, bd.mono (by omega), ww5, X3.trans X5, by omega⟩
        · have hy6 := y6.1
          have ww6 : Own h6 h2.size 34 2 aw (toL T).length cw (cellsP (toL T)) := Own.offS2 ww5 y6 (fun p ep => by have := ww5.lt p ep; simp; omega)
          have o6 := BlkW.offS o5 y6 (by simp; omega)
          refine gA ?_
          refine HCall.mk ((rput_spec (key := l[i].k) (val := l[i].v) ww6.sl (by omega)).mono ?_)
          rintro e h7 ⟨a7, c7, rfl, w7, x7⟩
          rw [← eT] at w7 ⊢
          have hx7 := x7.1
          refine gA ?_
          exact ⟨T', s', a7, c7, rfl, g6.ext x7, by rw [es']; exact putT_bd g.ok bd, w7.lower (by omega), X6.trans x7, by omega⟩
      intro u h8 v5 v6
      rintro ⟨T8, s8, aw8, cw8, e, g8, bd8, ww8, X8, h28⟩
      cases e
      refine gA ?_
      refine HCall.mk ((node_spec g8.x T8.id).mono ?_)
      rintro e h9 ⟨ka, kc, va, vc, ia, ic, rfl, w9, x9⟩
      have sm := g8.x.small T8.id
      generalize nodeOf s8.l T8.id = d at w9 sm ⊢
      have smk := sm.k
      have smv := sm.v
      have smi := sm.i
      refine gA ?_
      refine new_var (e := 41) [.slice none 0 0, .slice none 0 0, .slice none 0 0] rfl ?_
      intro h10 bn o10 x10 z10 hbn
      refine gA ?_
      refine store_blk o10 (by simp) (by simp [isOne]) ?_
      intro h11 f11 z11 o11
      replace o11 : BlkW h11 bn 41 (cells3 d ka kc va vc ia ic) := by simpa using o11
      have M := w9.making x10 hbn f11 x9.1 o11
      have X11 : Ext h8 h11 := (x9.trans x10).offNew f11 (by have := x9.1; omega)
      have on := M.on
      refine gA ?_
      refine loop_rule [68] (fun us h' => ∃ (j : Nat) (w' : List ByteArray), us = [.int .i64 j] ∧ j ≤ d.keys.length ∧ w'.length = d.keys.length ∧ Making h8 h' bn w' d.vals d.kids (cells3 d ka kc va vc ia ic) ka kc va vc ia ic ∧ Ext h8 h') (fun us _ => match us with | [.int _ j] => d.keys.length - j.toNat | _ => 0) rfl ?_ ?_
      · exact ⟨0, _, rfl, by omega, rfl, M, X11⟩
      intro u hq vq
      rintro ⟨j, w', e, hj, hwl, M, X11⟩
      cases e
      have on := M.on
      refine gA ?_
      refine HIf.mk (fun hlt2 => ?_) (fun hlt2 => ?_)
      · have hj1 : j < d.keys.length := by have := of_decide_eq_true hlt2; omega
        have hmu2 : d.keys.length - ((j : Int) + 1).toNat < d.keys.length - ((j : Int)).toNat := by omega
        refine gA ?_
        refine HIdx.mk j rfl hj1 ?_
        refine sl_some M.k.sl (show j < w'.length by omega) fun p ep => ?_
        refine gA ?_
        refine M.setK (j := j) ep (by omega) fun hn fn hbn2 zn Mn => ?_
        refine gA ?_
        exact ⟨⟨j + 1, _, rfl, by omega, by rw [List.length_set]; exact hwl, Mn, X11.offNew fn hbn2⟩, hmu2⟩
      refine gA ?_
      obtain ⟨w0, hw0⟩ : ∃ w0, w0 = w' := ⟨_, rfl⟩
      rw [← hw0] at M
      refine loop_rule [79] (fun us h' => ∃ (j : Nat) (w' : List ByteArray), us = [.int .i64 j] ∧ j ≤ d.vals.length ∧ w'.length = d.vals.length ∧ Making h8 h' bn w0 w' d.kids (cells3 d ka kc va vc ia ic) ka kc va vc ia ic ∧ Ext h8 h') (fun us _ => match us with | [.int _ j] => d.vals.length - j.toNat | _ => 0) rfl ?_ ?_
      · exact ⟨0, _, rfl, by omega, rfl, M, X11⟩
      intro u hq vq
      rintro ⟨j, w', e, hj, hwl, M, X11⟩
      cases e
      have on := M.on
      refine gA ?_
      refine HIf.mk (fun hlt2 => ?_) (fun hlt2 => ?_)
      · have hj1 : j < d.vals.length := by have := of_decide_eq_true hlt2; omega
        have hmu2 : d.vals.length - ((j : Int) + 1).toNat < d.vals.length - ((j : Int)).toNat := by omega
        refine gA ?_
        refine HIdx.mk j rfl hj1 ?_
        refine sl_some M.v.sl (show j < w'.length by omega) fun p ep => ?_
        refine gA ?_
        refine M.setV (j := j) ep (by omega) fun hn fn hbn2 zn Mn => ?_
        refine gA ?_
        exact ⟨⟨j + 1, _, rfl, by omega, by rw [List.length_set]; exact hwl, Mn, X11.offNew fn hbn2⟩, hmu2⟩
      refine gA ?_
      obtain ⟨w1, hw1⟩ : ∃ w1, w1 = w' := ⟨_, rfl⟩
      rw [← hw1] at M
      refine loop_rule [90] (fun us h' => ∃ (j : Nat) (w' : List Int), us = [.int .i64 j] ∧ j ≤ d.kids.length ∧ w'.length = d.kids.length ∧ Making h8 h' bn w0 w1 w' (cells3 d ka kc va vc ia ic) ka kc va vc ia ic ∧ Ext h8 h') (fun us _ => match us with | [.int _ j] => d.kids.length - j.toNat | _ => 0) rfl ?_ ?_
      · exact ⟨0, _, rfl, by omega, rfl, M, X11⟩
      intro u hq vq
      rintro ⟨j, w', e, hj, hwl, M, X11⟩
      cases e
      have on := M.on
      refine gA ?_
      refine HIf.mk (fun hlt2 => ?_) (fun hlt2 => ?_)
      · have hj1 : j < d.kids.length := by have := of_decide_eq_true hlt2; omega
        have hmu2 : d.kids.length - ((j : Int) + 1).toNat < d.kids.length - ((j : Int)).toNat := by omega
        refine gA ?_
        refine HIdx.mk j rfl hj1 ?_
        refine sl_some M.i.sl (show j < w'.length by omega) fun p ep => ?_
        refine gA ?_
        refine M.setI (j := j) ep (by omega) fun hn fn hbn2 zn Mn => ?_
        refine gA ?_
        exact ⟨⟨j + 1, _, rfl, by omega, by rw [List.length_set]; exact hwl, Mn, X11.offNew fn hbn2⟩, hmu2⟩
      refine gA ?_
      have hX11 := X11.1
      exact ⟨⟨i + 1, T8, s8, aw8, cw8, rfl, by omega, g8.ext X11, bd8, ww8.ext X11, X8.trans X11, by omega⟩, hmu⟩
    · have hge := of_decide_eq_false hlt
      obtain rfl : i = l.length := by omega
      refine gA ?_
      exact ⟨T, s, aw, cw, rfl, g, bd, ww, X3, h23⟩
  intro u h3 v5 v6
  rintro ⟨T, s, aw, cw, e, g, bd, ww, X3, h23⟩
  cases e
  have hX3 := X3.1
  have hfew := g.few
  have ord := g.inv.ord
  have hn : getA 2000000000 s.l = none := by
    cases hg : getA 2000000000 s.l with
    | none => rfl
    | some v => have := bd 2000000000 (by rw [hg]; simp); omega
  refine gA ?_
  refine new_plain [.string ⟨#[107]⟩] rfl ?_
  intro h4 kb pk x4 z4 hkb
  refine gA ?_
  refine new_plain [.string ⟨#[118]⟩] rfl ?_
  intro h5 vb pv x5 z5 hvb
  have pk := pl_ext pk x5
  refine gA ?_
  refine new_var (e := 41) [.slice none 0 0, .slice none 0 0, .slice none 0 0] rfl ?_
  intro h6 bn o6 x6 z6 hbn
  have pk := pl_ext pk x6
  have pv := pl_ext pv x6
  refine gA ?_
  refine store_blk o6 (by simp) (by simp [isOne]) ?_
  intro h7 f7 z7 o7
  replace o7 : BlkW h7 bn 41 (cells3 mineD (some ⟨kb, 0, none⟩) 1 (some ⟨vb, 0, none⟩) 1 none 0) := by
    have q7 : BlkW h7 bn 41 [.slice (some ⟨kb, 0, none⟩) 1 1, .slice (some ⟨vb, 0, none⟩) 1 1, .slice none 0 0] := by simpa using o7
    exact q7
  have pk : h7[kb]? = some (.cells #[.string ⟨#[107]⟩] 9 (0, 0)) := by rw [f7.2 _ (pl_lt pk) (by omega)]; exact pk
  have pv : h7[vb]? = some (.cells #[.string ⟨#[118]⟩] 9 (0, 0)) := by rw [f7.2 _ (pl_lt pv) (by omega)]; exact pv
  have X37 : Ext h3 h7 := ((x4.trans x5).trans x6).offNew f7 (by have := x4.1; have := x5.1; omega)
  have hX37 := X37.1
  have lk := pl_lt pk
  have xS := g.x.more (N := [kb]) X37 (by simp; omega)
  have rn : NRep h7 mineD (cells3 mineD (some ⟨kb, 0, none⟩) 1 (some ⟨vb, 0, none⟩) 1 none 0) := (NFix.of (S := []) (B := 0) mine_small (pl_own pk (Nat.zero_le _) rfl) (pl_own pv (Nat.zero_le _) rfl) (Own.nil _ _ _ _) (by simp)).rep
  refine gN ?_
  refine HCall.mk ((place_spec (id := 2000000000) xS (by simp; omega) hn (by omega) (by omega) rn mine_may).mono ?_)
  rintro e h8 ⟨rfl, x8, y8⟩
  have hy8 := y8.1
  have o8 := BlkW.offS o7 y8 (by simp; omega)
  have pk8 := pl_off pk y8 (by simp; omega)
  have ww8 := Own.offS2 (ww.ext X37) y8 (fun p ep => by have := ww.lt p ep; simp; omega)
  refine gA ?_
  refine HIdx.mk 0 rfl (by decide) ?_
  refine ⟨⟨kb, 0, none⟩, rfl, ?_⟩
  refine gA ?_
  refine Own.store (v := .string ⟨#[120]⟩) (pl_own (B := 0) pk8 (Nat.zero_le _) rfl) rfl (by decide) rfl fun h9 f9 _ z9 w9 => ?_
  have hf9 := f9.1
  have kbS : kb ∈ [t, r] ++ [kb] := by simp
  have x9 := x8.offN (.of_off f9 kbS) (f9.2 t x8.o.lt (by show t ≠ kb; omega)) (f9.2 r x8.rlt (by show r ≠ kb; omega))
  have ww9 := ww8.off f9 (fun p ep => by have := ww.lt p ep; show p.block ≠ kb; omega)
  have X19 : Ext h1 h9 := ⟨by omega, fun b hb => by
    rw [f9.2 b (by omega) (by show b ≠ kb; omega), y8.2 b (by omega) (by simp; omega), X37.2 b (by omega), X3.2 b hb]⟩
  have eg : getA 2000000000 (putA 2000000000 mineD s.l) = some mineD := by rw [getA_put, if_pos rfl]
  have en : nodeOf (putA 2000000000 mineD s.l) 2000000000 = mineD := by unfold nodeOf; rw [eg]; rfl
  refine gA ?_
  refine HCall.mk ((node_spec x9 2000000000).mono ?_)
  show ∀ (e : Ending) (h' : Heap), (∃ ka kc va vc ia ic, e = Ending.returned (.tuple #[.agg (cells3 (nodeOf (putA 2000000000 mineD s.l) 2000000000) ka kc va vc ia ic).toArray, .bool (getA 2000000000 (putA 2000000000 mineD s.l)).isSome]) ∧ NOwn h' h9.size (nodeOf (putA 2000000000 mineD s.l) 2000000000) ka kc va vc ia ic ∧ Ext h9 h') → _
  rw [eg, en]
  rintro e h10 ⟨ka, kc, va, vc, ia, ic, rfl, w10, x10⟩
  have qs : (some mineD).isSome = true := rfl
  refine gA ?_
  refine new_var (e := 41) [.slice none 0 0, .slice none 0 0, .slice none 0 0] rfl ?_
  intro h11 b18 o11 x11 z11 hb18
  refine gA ?_
  refine store_blk o11 (by simp) (by simp [isOne]) ?_
  intro h12 f12 z12 o12
  replace o12 : BlkW h12 b18 41 (cells3 mineD ka kc va vc ia ic) := by simpa using o12
  have M := w10.making x11 hb18 f12 x10.1 o12
  have X12 : Ext h9 h12 := (x10.trans x11).offNew f12 (by have := x10.1; omega)
  have qe : ((0 : Int) == 0) = true := rfl
  have ql : ((mineD.keys.length : Int) == 1) = true := rfl
  refine gA ?_
  refine HIdx.mk 0 rfl (by decide) ?_
  refine sl_some M.k.sl (i := 0) (by decide) fun p ep => ?_
  refine gA ?_
  refine Sl.load (i := 0) M.k.sl ep (by simp) ?_
  have qk : strEq ⟨#[107]⟩ ⟨#[107]⟩ = true := (strEq_iff _ _).2 rfl
  show _
  refine gA ?_
  have x12 := x9.ext X12
  have kp : Keeps s.l (putA 2000000000 mineD s.l) := fun k hk => by
    rw [getA_put, if_neg]
    rintro rfl
    exact hk hn
  have ll : (putA 2000000000 mineD s.l).length = s.l.length + 1 := putA_len_none hn
  have sc : ScanOk ⟨putA 2000000000 mineD s.l, s.nx⟩ T := by
    have sc0 := g.scan (by omega)
    refine ⟨ord, ?_, ?_, sc0.few, by show (putA 2000000000 mineD s.l).length ≤ _; have := sc0.len; have := g.ok.2.2; omega⟩
    · rcases g.inv.here with h1 | ⟨h1, h2⟩
      · exact hold_keeps kp T h1 g.inv.hold
      · rw [h2, h1]
        simp only [Hold, HoldL]
        exact ⟨rfl, trivial⟩
    · refine .inl ?_
      show (idsT T).length ≤ (putA 2000000000 mineD s.l).length
      rcases g.inv.here with h1 | ⟨h1, h2⟩
      · rcases sc0.ids with h3 | ⟨h3, _⟩
        · omega
        · have h4 := List.length_eq_zero_iff.1 h3
          have h5 := h1 T.id (by cases T; simp [idsT, BT.id])
          rw [h4] at h5
          exact absurd rfl h5
      · rw [h2]; simp only [idsT, idsL, List.length_cons, List.length_nil]; omega
  refine HCall.mk ((scan_spec (T := T) (fr := noT) (to := noT) (op := true) (back := false) (most := 1000) x12 sc (by unfold i64; omega)).mono ?_)
  rw [scan_all ord (by omega)]
  rintro e h13 ⟨a13, c13, rfl, w13, x13⟩
  have ww13 := (ww9.ext X12).ext x13
  refine gA ?_
  refine HCall.mk ((same_spec (la := toL T) (lb := toL T) w13.sl ww13.sl (by omega) (by omega)).mono ?_)
  rw [decide_eq_true (rfl : toL T = toL T)]
  rintro e h14 ⟨rfl, rfl⟩
  refine gA ?_
  exact ⟨rfl, ((X1.trans X19).trans X12).trans x13⟩
end Go.Proofs.Ytljindmibfkhfaa.Hc
/- Operations on trees that came in. -/
set_option linter.unusedVariables false
set_option linter.unusedSimpArgs false
namespace Go.Proofs.Ytljindmibfkhfaa.RU
open Go Go.H Go.Proofs Go.ChangeShapes Go.WideShapes Go.RowKit
set_option maxRecDepth 100000
theorem list_ex {α β : Type} : ∀ (l : List α) (R : Nat → α → β → Prop) (_ : ∀ i (hi : i < l.length), ∃ b, R i l[i] b), ∃ bs : List β, bs.length = l.length ∧ ∀ i (hi : i < l.length) (hb : i < bs.length), R i l[i] bs[i]
  | [], R, h => ⟨[], rfl, fun i hi => by simp at hi⟩
  | a :: l, R, h => by
    obtain ⟨b, hb⟩ := h 0 (by simp)
    obtain ⟨bs, h1, h2⟩ := list_ex l (fun i => R (i + 1)) fun i hi => h (i + 1) (by simpa using hi)
    refine ⟨b :: bs, by simp [h1], fun i hi hj => ?_⟩
    cases i with
    | zero => exact hb
    | succ i => exact h2 i (by simpa using hi) (by simpa using hj)
theorem bulk_mem {H : Type} : ∀ (l : List (DataW H)) (d : DataW H), d ∈ l → Rows.uptoBulk d + l.length ≤ Rows.uptoBulkAll l + 1
  | [], d, h => by cases h
  | e :: r, d, h => by
    simp only [Rows.uptoBulkAll, List.length_cons]
    have h1 := one_le e
    rcases List.mem_cons.1 h with rfl | h
    · have := length_le r; omega
    · have := bulk_mem r d h; omega
theorem flat_get {α : Type} {n : Nat} : ∀ (l : List (List α)) (_ : ∀ x ∈ l, x.length = n) (i j : Nat) (hi : i < l.length) (_ : j < n), l.flatten[i * n + j]? = l[i][j]?
  | [], _, i, _, hi, _ => by simp at hi
  | a :: l, h, i, j, hi, hj => by
    have ha := h a (by simp)
    cases i with
    | zero => rw [List.flatten_cons, Nat.zero_mul, Nat.zero_add, List.getElem?_append_left (by omega)]; rfl
    | succ i =>
      rw [List.flatten_cons, List.getElem?_append_right (by rw [ha, Nat.add_mul]; omega), List.getElem_cons_succ, ← flat_get l (fun x hx => h x (by simp [hx])) i j (by simpa using hi) hj]
      congr 1; rw [ha, Nat.add_mul]; omega
theorem flat_len {α : Type} {n : Nat} : ∀ (l : List (List α)) (_ : ∀ x ∈ l, x.length = n), l.flatten.length = l.length * n
  | [], _ => by simp
  | a :: l, h => by rw [List.flatten_cons, List.length_append, h a (by simp), flat_len l (fun x hx => h x (by simp [hx])), List.length_cons, Nat.add_mul]; omega
theorem els_flat {α : Type} {R : Heap → α → List Value → Prop} {h : Heap} : ∀ (l : List α) (cs : List (List Value)), cs.length = l.length → (∀ i (hi : i < l.length) (hc : i < cs.length), R h l[i] cs[i]) → Els R h l cs.flatten
  | [], [], _, _ => by simp [Els]
  | d :: l, c :: cs, hl, hr => ⟨c, cs.flatten, by simp, hr 0 (by simp) (by simp), els_flat l cs (by simpa using hl) fun i hi hc => hr (i + 1) (by simpa using hi) (by simpa using hc)⟩
  | [], _ :: _, h, _ => by simp at h
  | _ :: _, [], h, _ => by simp at h
section
variable {H : Type} {enc : TypeId × Value → H} {P : Program} {W : World} {base : Nat} {spare : Nat → Bool} {held : Bool}
/-- Some things that came in. -/
theorem open_els {α : Type} {R : Heap → α → List Value → Prop} {t e : TypeId} {m : Nat} (hu : P.underlying t = some (.slice e)) (hc : P.cellsOf e = m) (hm0 : 0 < m) (hn : ∀ d cs, R W.heap d cs → cs.length = m)
    (one : ∀ fuel cs x, DataW.trod enc P W base spare held fuel e cs = some x → Rows.uptoBulk x.1 ≤ 1048576 → ∃ d, R W.heap d cs) {fuel : Nat} {cs : List Value} {x : DataW H × List MemPlace} (h : DataW.trod enc P W base spare held fuel t cs = some x) (hbk : Rows.uptoBulk x.1 ≤ 1048576) :
    ∃ (a : Option Addr) (l : List α) (xs : List Value) (c : Nat), cs = [.slice a l.length c] ∧ Sl W.heap m a l.length c xs ∧ Els R W.heap l xs ∧ l.length ≤ 1048576 := by
  rcases DataW.trod_slice hu h with ⟨rfl, rfl⟩ | ⟨a, len, cap, elems, rest, n, _, rfl, rfl, hb, hl, hm, hlen, hel, _, _⟩
  · exact ⟨none, [], [], 0, rfl, Sl.nil _ _, by simp [Els], by simp⟩
  rw [hc] at hel
  simp only [Rows.uptoBulk] at hbk
  have hle := length_le (elems.map (·.1))
  rw [List.length_map] at hle
  have each : ∀ i (hi : i < elems.length), ∃ y : α × List Value, R W.heap y.1 y.2 ∧ (∀ j, j < m → hcell W.heap ((a.add (i * m)).add j) = y.2[j]?) := by
    intro i hi
    have h1 := hel i (by omega)
    rw [List.getElem?_eq_getElem hi, Option.bind_eq_some_iff] at h1
    obtain ⟨cs, h2, h3⟩ := h1
    have hbi : Rows.uptoBulk elems[i].1 ≤ 1048576 := by
      have := bulk_mem (elems.map (·.1)) elems[i].1 (List.mem_map.2 ⟨_, List.getElem_mem hi, rfl⟩)
      rw [List.length_map] at this
      omega
    obtain ⟨d, r⟩ := one _ cs _ h3 hbi
    have h4 := World.cells?_some h2
    refine ⟨(d, cs), r, fun j hj => ?_⟩
    have := h4.2.2 j hj
    rw [cell_eq] at this
    rw [this]
  obtain ⟨ys, k1, k2⟩ := list_ex elems (fun i y (z : α × List Value) => R W.heap z.1 z.2 ∧ (∀ j, j < m → hcell W.heap ((a.add (i * m)).add j) = z.2[j]?)) each
  have hall : ∀ x ∈ ys.map (·.2), x.length = m := by
    intro x hx
    obtain ⟨z, hz, rfl⟩ := List.mem_map.1 hx
    obtain ⟨i, hi, rfl⟩ := List.getElem_of_mem hz
    exact hn _ _ (k2 i (by omega) hi).1
  have hyl : (ys.map (·.1)).length = len := by rw [List.length_map]; omega
  refine ⟨some a, ys.map (·.1), (ys.map (·.2)).flatten, cap, by rw [hyl], ⟨by rw [flat_len _ hall]; simp, by omega, fun e => (by cases e), ?_⟩, els_flat _ _ (by simp) ?_, by omega⟩
  · intro p ep i hi
    cases ep
    rw [hyl] at hi
    have hq : i / m < ys.length := by
      have : i / m < len := Nat.div_lt_of_lt_mul (by rw [Nat.mul_comm]; exact hi)
      omega
    have h5 := (k2 (i / m) (by omega) hq).2 (i % m) (Nat.mod_lt _ hm0)
    have e1 : i / m * m + i % m = i := by rw [Nat.mul_comm]; exact Nat.div_add_mod i m
    rw [add_add, e1] at h5
    have h6 := flat_get (ys.map (·.2)) hall (i / m) (i % m) (by simpa using hq) (Nat.mod_lt _ hm0)
    rw [e1, List.getElem_map] at h6
    rw [h5, h6]
  · intro i hi hc'
    rw [List.getElem_map, List.getElem_map]
    exact (k2 i (by simpa [k1] using hi) (by simpa using hi)).1
end
end Go.Proofs.Ytljindmibfkhfaa.RU
namespace Go.Proofs.Ytljindmibfkhfaa.Hc
open Go Go.H Go.Proofs Go.ChangeShapes Go.WideShapes Go.RowKit
set_option maxRecDepth 100000
section
variable {H : Type} {enc : TypeId × Value → H} {W : World} {base : Nat} {spare : Nat → Bool} {held : Bool}
theorem open_op (fuel : Nat) {cs : List Value} {x : DataW H × List MemPlace} (h : DataW.trod enc Try.prog W base spare held fuel 27 cs = some x) (hbk : Rows.uptoBulk x.1 ≤ 1048576) : ∃ t : OpD, OpR W.heap t cs := by
  obtain ⟨xs, n, rfl, rfl, hl, hx, hf⟩ := DataW.trod_struct Try.underlying27 h
  have hc : Try.prog.cellsOf 27 = 7 := by kernel_rfl
  have c1 : Try.prog.cellsOf 3 = 1 := by kernel_rfl
  have c2 : Try.prog.cellsOf 9 = 1 := by kernel_rfl
  have c3 : Try.prog.cellsOf 4 = 1 := by kernel_rfl
  rw [hc] at hl
  have f0 := hf 0 _ rfl
  have f1 := hf 1 _ rfl
  have f2 := hf 2 _ rfl
  have f3 := hf 3 _ rfl
  have f4 := hf 4 _ rfl
  have f5 := hf 5 _ rfl
  have f6 := hf 6 _ rfl
  match cs, hl with
  | [v0, v1, v2, v3, v4, v5, v6], _ =>
  match xs, hx with
  | [x0, x1, x2, x3, x4, x5, x6], _ =>
  simp only [c1, c2, c3, List.drop_zero, List.drop_succ_cons, List.take_succ_cons, List.take_zero, List.getElem?_cons_zero, List.getElem?_cons_succ] at f0 f1 f2 f3 f4 f5 f6
  obtain ⟨k, e0, d0, w0⟩ := DataW.trod_int Try.underlying3 f0
  obtain ⟨m, e1, d1, w1⟩ := DataW.trod_int Try.underlying3 f1
  obtain ⟨s, e2, d2, w2⟩ := DataW.trod_int Try.underlying3 f2
  obtain ⟨a, e3, d3, w3⟩ := DataW.trod_string Try.underlying9 f3
  obtain ⟨b, e4, d4, w4⟩ := DataW.trod_string Try.underlying9 f4
  obtain ⟨p, e5, d5⟩ := DataW.trod_bool Try.underlying4 f5
  obtain ⟨q, e6, d6⟩ := DataW.trod_bool Try.underlying4 f6
  cases e0; cases e1; cases e2; cases e3; cases e4; cases e5; cases e6
  have l3 : a.size + 1 ≤ Rows.uptoBulk x3.1 := by rw [d3]; simp only [Rows.uptoBulk]; exact Nat.le_refl _
  have l4 : b.size + 1 ≤ Rows.uptoBulk x4.1 := by rw [d4]; simp only [Rows.uptoBulk]; exact Nat.le_refl _
  simp only [Rows.uptoBulk, List.map_cons, List.map_nil, Rows.uptoBulkAll] at hbk
  exact ⟨⟨k, m, s, a, b, p, q⟩, by show a.size ≤ _; omega, by show b.size ≤ _; omega, rfl⟩
/-- Some operations. -/
theorem open_ops {a : Option Addr} {len cap : Nat} {d : DataW H} {ps : List MemPlace} (h : DataW.Trod enc Try.prog W base spare held 22 (.slice a len cap) d ps) (hbk : Rows.uptoBulk d ≤ 1048576) :
    ∃ (l : List OpD) (xs : List Value), len = l.length ∧ Sl W.heap 7 a l.length cap xs ∧ Els OpR W.heap l xs ∧ l.length ≤ 1048576 := by
  obtain ⟨fuel, hf⟩ := h
  obtain ⟨a', l, xs, c, e, s, es, hl⟩ := RU.open_els Try.underlying22 (show Try.prog.cellsOf 27 = 7 by kernel_rfl) (by decide) (R := OpR) (fun o cs r => opR_len _ o cs r) (fun fuel cs x hx hb => open_op fuel hx hb) hf hbk
  simp only [Value.cells] at e
  cases e
  exact ⟨l, xs, rfl, s, es, hl⟩
end
end Go.Proofs.Ytljindmibfkhfaa.Hc
