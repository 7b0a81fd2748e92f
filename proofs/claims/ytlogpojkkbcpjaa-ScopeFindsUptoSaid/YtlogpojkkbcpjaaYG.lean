/- scope.all, scope.Check. -/
import Derived.Test.YtlogpojkkbcpjaaYF
set_option linter.unusedVariables false
set_option linter.unusedSimpArgs false
namespace Go.Proofs.Ytlogpojkkbcpjaa.Hc
open Go Go.H Go.Proofs
set_option maxRecDepth 100000
set_option maxHeartbeats 8000000
abbrev env0 : Env := ⟨[], false, false, false⟩
theorem all1_spec {q : NT → Env → Bool} {lp B : Nat} {Inv Fin : Heap → Prop} (S : Seen q lp B Inv Fin) {d : NT} {h : Heap} {b : Nat} {cs : List Value} (hI : Inv h) (hB : B ≤ h.size) (o : BlkW h b 26 cs) (r : TRep h d cs) (hk : okT d = true) :
    HCalls Try.prog 33 #[.func (.yield lp) #[] #[], .pointer (some ⟨b, 0, none⟩)] h fun e h' => e = .returned (.tuple #[]) ∧ ((anyT q d env0 = false ∧ Inv h') ∨ (anyT q d env0 = true ∧ Fin h')) := by
  have rt := r
  cases d with
  | mk k nm n t ns l =>
  simp only [TRep] at r
  obtain ⟨b1, b2, b3, b4, b5, b6, b7, ka, kc, la, lc, ys, rfl, s1, s2, s3⟩ := r
  refine c33 (by simp) ?_
  ((conv=>whnf);repeat((first|(with_reducible first|refine Z1 ?_|refine Z2 ?_|refine Z3 ?_|refine Z4 ?_|refine Z5 ?_|refine Z9 (by assumption) rfl ?_|refine ZA (by assumption) rfl ?_|refine ZB (by assumption) rfl ?_|refine Z6 ?_|refine Z7 ?_|refine Z8 ?_|refine ZB (by assumption) (by assumption) ?_)|((with_reducible refine ZM ?_ ?_);(focus rfl)));(conv=>whnf)))
  refine HCall.mk ((walk_spec S _ _ rfl h env0 _ hI hB ⟨_, none, rfl, rt, rfl⟩ hk).mono ?_)
  rintro e h1 (⟨q1, rfl, i1, _⟩ | ⟨q1, rfl, i1⟩)
  · ((conv=>whnf);repeat((first|(with_reducible first|refine Z1 ?_|refine Z2 ?_|refine Z3 ?_|refine Z4 ?_|refine Z5 ?_|refine Z9 (by assumption) rfl ?_|refine ZA (by assumption) rfl ?_|refine ZB (by assumption) rfl ?_|refine Z6 ?_|refine Z7 ?_|refine Z8 ?_)|((with_reducible refine ZM ?_ ?_);(focus rfl)));(conv=>whnf)))
    exact ⟨rfl, .inl ⟨q1, i1⟩⟩
  · ((conv=>whnf);repeat((first|(with_reducible first|refine Z1 ?_|refine Z2 ?_|refine Z3 ?_|refine Z4 ?_|refine Z5 ?_|refine Z9 (by assumption) rfl ?_|refine ZA (by assumption) rfl ?_|refine ZB (by assumption) rfl ?_|refine Z6 ?_|refine Z7 ?_|refine Z8 ?_)|((with_reducible refine ZM ?_ ?_);(focus rfl)));(conv=>whnf)))
    exact ⟨rfl, .inr ⟨q1, i1⟩⟩
theorem all_spec {d : NT} {h : Heap} {cs : List Value} (r : TRep h d cs) : HCalls Try.prog 23 #[.agg cs.toArray] h fun e h' => ∃ b, e = .returned (.func (.func 33) #[] #[.pointer (some ⟨b, 0, none⟩)]) ∧ BlkW h' b 26 cs ∧ Ext h h' := by
  have rt := r
  cases d with
  | mk k nm n t ns l =>
  simp only [TRep] at r
  obtain ⟨b1, b2, b3, b4, b5, b6, b7, ka, kc, la, lc, ys, rfl, s1, s2, s3⟩ := r
  refine c23 (by simp) ?_
  ((conv=>whnf);repeat((first|(with_reducible first|refine Z1 ?_|refine Z2 ?_|refine Z3 ?_|refine Z4 ?_|refine Z5 ?_|refine Z9 (by assumption) rfl ?_|refine ZA (by assumption) rfl ?_|refine ZB (by assumption) rfl ?_|refine Z6 ?_|refine Z7 ?_|refine Z8 ?_)|((with_reducible refine ZM ?_ ?_);(focus rfl)));(conv=>whnf)))
  refine new_var (e := 26) [.int .i64 k, .string nm, .int .i64 n, .string t, .slice ka ns.length kc, .slice la l.length lc] rfl ?_
  intro h1 b o1 x1 z1 hb
  ((conv=>whnf);repeat((first|(with_reducible first|refine Z1 ?_|refine Z2 ?_|refine Z3 ?_|refine Z4 ?_|refine Z5 ?_|refine Z9 (by assumption) rfl ?_|refine ZA (by assumption) rfl ?_|refine ZB (by assumption) rfl ?_|refine Z6 ?_|refine Z7 ?_|refine Z8 ?_)|((with_reducible refine ZM ?_ ?_);(focus rfl)));(conv=>whnf)))
  exact ⟨b, rfl, o1, x1⟩
theorem keepC_set {h : Heap} {k : Nat} {o : Obj} {r : Loop} (x : h[k]? = some (.loop r)) : KeepC h (h.setIfInBounds k o) :=
  ⟨by simp, fun i c e f z => by
    have hne : k ≠ i := by rintro rfl; rw [x] at z; cases z
    rw [Array.getElem?_setIfInBounds, if_neg hne]; exact z⟩
theorem lt_of_at {h : Heap} {k : Nat} {o : Obj} (x : h[k]? = some o) : k < h.size := by
  rcases Nat.lt_or_ge k h.size with hl | hl
  · exact hl
  · rw [Array.getElem?_eq_none hl] at x; cases x
/-- A range over a tree's places, as it stands. -/
structure Going (h0 : Heap) (D b2 : Nat) (z : Int) (o : Obj) (h : Heap) : Prop where
  kept : Kept h0.size h0 h
  dfr : h[D]? = some (.deferred (some []))
  rdy : h[D + 1]? = some o
  out : BlkW h b2 28 [.int .i64 z]
theorem Going.keep {h0 h h' : Heap} {D b2 : Nat} {z : Int} {o : Obj} (g : Going h0 D b2 z o h) (hB : h0.size ≤ D) (hb : b2 < D) (k : Kept (D + 2) h h') : Going h0 D b2 z o h' :=
  ⟨g.kept.trans (k.mono (by omega)), by rw [k.2 _ (by omega)]; exact g.dfr, by rw [k.2 _ (by omega)]; exact g.rdy, g.out.of (k.2 _ (by omega))⟩
def checkS (d : NT) : Int := if tcheck d ≠ 0 then tcheck d else if anyT earlyB d env0 = true then 90 else 0
theorem check_spec {d : NT} {h : Heap} {cs : List Value} (r : TRep h d cs) (g : Glb h) (hc : cnt d ≤ 4194304) : HCalls Try.prog 13 #[.agg cs.toArray] h fun e h' => e = .returned (.int .i64 (checkS d)) ∧ Ext h h' := by
  have rt := r
  cases d with
  | mk k nm n t ns l =>
  simp only [TRep] at r
  obtain ⟨b1, b2, b3, b4, b5, b6, b7, ka, kc, la, lc, ys, rfl, s1, s2, s3⟩ := r
  refine c13 (by simp) ?_
  ((conv=>whnf);repeat((first|(with_reducible first|refine Z1 ?_|refine Z2 ?_|refine Z3 ?_|refine Z4 ?_|refine Z5 ?_|refine Z9 (by assumption) rfl ?_|refine ZA (by assumption) rfl ?_|refine ZB (by assumption) rfl ?_|refine Z6 ?_|refine Z7 ?_|refine Z8 ?_)|((with_reducible refine ZM ?_ ?_);(focus rfl)));(conv=>whnf)))
  refine new_var (e := 26) [.int .i64 k, .string nm, .int .i64 n, .string t, .slice ka ns.length kc, .slice la l.length lc] rfl ?_
  intro h1 bn o1 x1 z1 hbn
  ((conv=>whnf);repeat((first|(with_reducible first|refine Z1 ?_|refine Z2 ?_|refine Z3 ?_|refine Z4 ?_|refine Z5 ?_|refine Z9 (by assumption) rfl ?_|refine ZA (by assumption) rfl ?_|refine ZB (by assumption) rfl ?_|refine Z6 ?_|refine Z7 ?_|refine Z8 ?_)|((with_reducible refine ZM ?_ ?_);(focus rfl)));(conv=>whnf)))
  refine new_var (e := 28) [.int .i64 0] rfl ?_
  intro h2 b2' o2 x2 z2 hb2
  have o1 := o1.ext x2
  have x02 := x1.trans x2
  have rt2 := rt.ext x02
  ((conv=>whnf);repeat((first|(with_reducible first|refine Z1 ?_|refine Z2 ?_|refine Z3 ?_|refine Z4 ?_|refine Z5 ?_|refine Z9 (by assumption) rfl ?_|refine ZA (by assumption) rfl ?_|refine ZB (by assumption) rfl ?_|refine Z6 ?_|refine Z7 ?_|refine Z8 ?_|refine ZB (by assumption) (by assumption) ?_)|((with_reducible refine ZM ?_ ?_);(focus rfl)));(conv=>whnf)))
  refine HCall.mk ((tcheck_spec rt2 (g.ext x02) hc).mono ?_)
  rintro e h3 ⟨rfl, x3⟩
  have o1 := o1.ext x3
  have o2 := o2.ext x3
  have x03 := x02.trans x3
  have hx1 := x1.1
  have hx2 := x2.1
  have hx3 := x3.1
  by_cases ht : tcheck (.mk k nm n t ns l) = 0
  · have q : (tcheck (.mk k nm n t ns l) != 0) = false := by rw [ht]; rfl
    have hz : checkS (.mk k nm n t ns l) = if anyT earlyB (.mk k nm n t ns l) env0 = true then 90 else 0 := by unfold checkS; rw [ht, if_neg (by simp)]
    generalize checkS (.mk k nm n t ns l) = z at hz
    have hk : okT (.mk k nm n t ns l) = true := by
      refine mayT_ok _ ?_
      unfold tcheck at ht
      cases hm : mayT (.mk k nm n t ns l)
      · rw [if_pos (.inr hm)] at ht; cases ht
      · rfl
    ((conv=>whnf);repeat((first|(with_reducible first|refine Z1 ?_|refine Z2 ?_|refine Z3 ?_|refine Z4 ?_|refine Z5 ?_|refine Z9 (by assumption) rfl ?_|refine ZA (by assumption) rfl ?_|refine ZB (by assumption) rfl ?_|refine Z6 ?_|refine Z7 ?_|refine Z8 ?_|refine ZB (by assumption) (by assumption) ?_)|((with_reducible refine ZM ?_ ?_);(focus rfl)));(conv=>whnf)))
    refine HCall.mk ((all_spec (rt.ext x03)).mono ?_)
    rintro e h4 ⟨bc, rfl, o4, x4⟩
    have o2 := o2.ext x4
    have x04 := x03.trans x4
    have hx4 := x4.1
    ((conv=>whnf);repeat((first|(with_reducible first|refine Z1 ?_|refine Z2 ?_|refine Z3 ?_|refine Z4 ?_|refine Z5 ?_|refine Z9 (by assumption) rfl ?_|refine ZA (by assumption) rfl ?_|refine ZB (by assumption) rfl ?_|refine Z6 ?_|refine Z7 ?_|refine Z8 ?_)|((with_reducible refine ZM ?_ ?_);(focus rfl)));(conv=>whnf)))
    refine HRange.mk 33 #[.pointer (some ⟨bc, 0, none⟩)] rfl (by kernel_rfl) fun rec yl => ?_
    have e1 := (Ext.push h4 (.deferred (some []))).trans (Ext.push _ (.loop (rec .ready none)))
    have ob2 := o2.lt
    have S : Seen earlyB (h4.size + 1) (h4.size + 2) (Going h h4.size b2' 0 (.loop (rec .ready none))) (Going h h4.size b2' 90 (.loop (rec .done (some .ret)))) := by
      refine ⟨fun h5 h6 i k => i.keep (by omega) (by omega) k, ?_⟩
      intro h5 d v cs i5 hB hk5 r5
      refine yl [.agg cs.toArray] h5 _ rfl i5.rdy ?_
      obtain ⟨ncs, lb, rfl, rt5, rl5⟩ := r5
      have hlen : (ncs ++ [Value.pointer lb, .bool v.breaks, .bool v.goes, .bool v.inside]).length = 10 := by simp [rt5.len]
      have hone : ∀ x ∈ ncs ++ [Value.pointer lb, .bool v.breaks, .bool v.goes, .bool v.inside], isOne x = true := by
        intro x hx
        rcases List.mem_append.1 hx with hx | hx
        · exact rt5.one x hx
        · simp only [List.mem_cons, List.not_mem_nil, or_false] at hx
          rcases hx with rfl | rfl | rfl | rfl <;> rfl
      have pr5 : PRep h5 d v (ncs ++ [.pointer lb, .bool v.breaks, .bool v.goes, .bool v.inside]) := ⟨ncs, lb, rfl, rt5, rl5⟩
      generalize ncs ++ [Value.pointer lb, .bool v.breaks, .bool v.goes, .bool v.inside] = cs at hlen hone pr5
      have hsz5 := lt_of_at i5.rdy
      ((conv=>whnf);repeat((first|(with_reducible first|refine Z1 ?_|refine Z2 ?_|refine Z3 ?_|refine Z4 ?_|refine Z5 ?_|refine Z9 (by assumption) rfl ?_|refine ZA (by assumption) rfl ?_|refine ZB (by assumption) rfl ?_|refine Z6 ?_|refine Z7 ?_|refine Z8 ?_)|((with_reducible refine ZM ?_ ?_);(focus rfl)));(conv=>whnf)))
      refine new_var (e := 45) zeroP rfl ?_
      intro h6 b6' o6 x6 z6 hb6
      have i6 := i5.keep (by omega) (by omega) (x6.kept hB)
      ((conv=>whnf);repeat((first|(with_reducible first|refine Z1 ?_|refine Z2 ?_|refine Z3 ?_|refine Z4 ?_|refine Z5 ?_|refine Z9 (by assumption) rfl ?_|refine ZA (by assumption) rfl ?_|refine ZB (by assumption) rfl ?_|refine Z6 ?_|refine Z7 ?_|refine Z8 ?_)|((with_reducible refine ZM ?_ ?_);(focus rfl)));(conv=>whnf)))
      refine HMust.mk (by simpa using hlen) ?_
      refine store_blk o6 (by simp [hlen]) (by simpa using hone) ?_
      intro h7 f7 z7 o7
      have o7' : BlkW h7 b6' 45 cs := by simpa [hlen] using o7
      have hx6 := x6.1
      have i7 := i6.keep (by omega) (by omega) (f7.kept (by omega) (by omega))
      have x57 : Ext h5 h7 := x6.offNew f7 (by omega)
      clear o6 o7
      have k8 := keepC_set (o := .loop (rec .busy none)) i7.rdy
      have f8 := off_set h7 (h4.size + 1) (.loop (rec .busy none))
      have r8 := set_same (o := .loop (rec .busy none)) i7.rdy
      have o8 := o7'.keepC k8
      have d8 : (h7.setIfInBounds (h4.size + 1) (.loop (rec .busy none)))[h4.size]? = some (.deferred (some [])) := by rw [f8.2 _ (by have := lt_of_at i7.dfr; omega) (by omega)]; exact i7.dfr
      have out8 := i7.out.keepC k8
      have kp8 : Kept h.size h (h7.setIfInBounds (h4.size + 1) (.loop (rec .busy none))) := i7.kept.trans (f8.kept (by omega) (by have := lt_of_at i7.rdy; omega))
      have k58 := (KeepC.of_ext x57).trans k8
      ((conv=>whnf);repeat((first|(with_reducible first|refine Z1 ?_|refine Z2 ?_|refine Z3 ?_|refine Z4 ?_|refine Z5 ?_|refine Z9 (by assumption) rfl ?_|refine ZA (by assumption) rfl ?_|refine ZB (by assumption) rfl ?_|refine Z6 ?_|refine Z7 ?_|refine Z8 ?_)|((with_reducible refine ZM ?_ ?_);(focus rfl)));(conv=>whnf)))
      refine ⟨i7.rdy, ?_⟩
      generalize h7.setIfInBounds (h4.size + 1) (.loop (rec .busy none)) = h8 at k8 f8 r8 o8 d8 out8 kp8 k58
      ((conv=>whnf);repeat((first|(with_reducible first|refine Z1 ?_|refine Z2 ?_|refine Z3 ?_|refine Z4 ?_|refine Z5 ?_|refine Z9 (by assumption) rfl ?_|refine ZA (by assumption) rfl ?_|refine ZB (by assumption) rfl ?_|refine Z6 ?_|refine Z7 ?_|refine Z8 ?_)|((with_reducible refine ZM ?_ ?_);(focus rfl)));(conv=>whnf)))
      refine blk_ldN o8 hlen ?_
      obtain ⟨ncs, lb, rfl, rt5, rl5⟩ := pr5
      ((conv=>whnf);repeat((first|(with_reducible first|refine Z1 ?_|refine Z2 ?_|refine Z3 ?_|refine Z4 ?_|refine Z5 ?_|refine Z9 (by assumption) rfl ?_|refine ZA (by assumption) rfl ?_|refine ZB (by assumption) rfl ?_|refine Z6 ?_|refine Z7 ?_|refine Z8 ?_)|((with_reducible refine ZM ?_ ?_);(focus rfl)));(conv=>whnf)))
      refine HCall.mk ((early_spec ⟨ncs, lb, rfl, TRep.keepC k58 _ _ rt5, rl5.keepC k58⟩ hk5).mono ?_)
      rintro e h9 ⟨rfl, x9⟩
      have r9 : h9[h4.size + 1]? = some (.loop (rec .busy none)) := by rw [x9.2 _ (lt_of_at r8)]; exact r8
      have d9 : h9[h4.size]? = some (.deferred (some [])) := by rw [x9.2 _ (lt_of_at d8)]; exact d8
      have out9 := out8.ext x9
      have kp9 : Kept h.size h h9 := kp8.trans (x9.kept (by have := lt_of_at r8; omega))
      have k59 := k58.ext x9
      have hsz9 := lt_of_at r9
      cases qe : earlyB d v
      · ((conv=>whnf);repeat((first|(with_reducible first|refine Z1 ?_|refine Z2 ?_|refine Z3 ?_|refine Z4 ?_|refine Z5 ?_|refine Z9 (by assumption) rfl ?_|refine ZA (by assumption) rfl ?_|refine ZB (by assumption) rfl ?_|refine Z6 ?_|refine Z7 ?_|refine Z8 ?_)|((with_reducible refine ZM ?_ ?_);(focus rfl)));(conv=>whnf)))
        refine ⟨⟨_, _, r9⟩, .inl ⟨rfl, rfl, ⟨kp9.trans ((off_set _ _ _).kept (by omega) (by omega)), ?_, set_same r9, out9.keepC (keepC_set r9)⟩, k59.trans (keepC_set r9)⟩⟩
        rw [(off_set h9 (h4.size + 1) _).2 _ (by omega) (by omega)]; exact d9
      · ((conv=>whnf);repeat((first|(with_reducible first|refine Z1 ?_|refine Z2 ?_|refine Z3 ?_|refine Z4 ?_|refine Z5 ?_|refine Z9 (by assumption) rfl ?_|refine ZA (by assumption) rfl ?_|refine ZB (by assumption) rfl ?_|refine Z6 ?_|refine Z7 ?_|refine Z8 ?_)|((with_reducible refine ZM ?_ ?_);(focus rfl)));(conv=>whnf)))
        refine store1_blk out9 (by simp) rfl ?_
        intro h10 f10 z10 o10
        have o10 : BlkW h10 b2' 28 [.int .i64 90] := o10
        have r10 : h10[h4.size + 1]? = some (.loop (rec .busy none)) := by rw [f10.2 _ (by omega) (by omega)]; exact r9
        have d10 : h10[h4.size]? = some (.deferred (some [])) := by rw [f10.2 _ (by omega) (by omega)]; exact d9
        have hsz10 := lt_of_at r10
        ((conv=>whnf);repeat((first|(with_reducible first|refine Z1 ?_|refine Z2 ?_|refine Z3 ?_|refine Z4 ?_|refine Z5 ?_|refine Z9 (by assumption) rfl ?_|refine ZA (by assumption) rfl ?_|refine ZB (by assumption) rfl ?_|refine Z6 ?_|refine Z7 ?_|refine Z8 ?_)|((with_reducible refine ZM ?_ ?_);(focus rfl)));(conv=>whnf)))
        refine ⟨⟨_, _, r10⟩, .inr ⟨rfl, rfl, ⟨(kp9.trans (f10.kept (by omega) (by omega))).trans ((off_set _ _ _).kept (by omega) (by omega)), ?_, set_same r10, o10.keepC (keepC_set r10)⟩⟩⟩
        rw [(off_set h10 (h4.size + 1) _).2 _ (by omega) (by omega)]; exact d10
    show HCalls Try.prog 33 #[.func (.yield (h4.size + 1)) #[] #[], .pointer (some ⟨bc, 0, none⟩)] _ _
    refine (all1_spec S (d := .mk k nm n t ns l) ⟨(x04.trans e1).kept (Nat.le_refl _), ?_, ?_, o2.ext e1⟩ (by simp) (o4.ext e1) (rt.ext (x04.trans e1)) hk).mono ?_
    · rw [Array.getElem?_push, if_neg (by simp), Array.getElem?_push, if_pos rfl]
    · rw [Array.getElem?_push, if_pos (by simp)]
    rintro e h5 ⟨rfl, ⟨qa, g5⟩ | ⟨qa, g5⟩⟩
    · rw [qa, if_neg (by simp)] at hz
      subst hz
      refine ⟨.ready, none, g5.rdy, ⟨(fun e => LoopState.noConfusion e), ?_⟩⟩
      have f6 := off_set h5 (h4.size + 1) (.loop (rec .exhausted none))
      have hsz5 := lt_of_at g5.rdy
      have d6 : (h5.setIfInBounds (h4.size + 1) (.loop (rec .exhausted none)))[h4.size]? = some (.deferred (some [])) := by rw [f6.2 _ (by omega) (by omega)]; exact g5.dfr
      have o6 := g5.out.offk f6 (by omega)
      have kp6 : Kept h.size h (h5.setIfInBounds (h4.size + 1) (.loop (rec .exhausted none))) := g5.kept.trans (f6.kept (by omega) (by omega))
      generalize h5.setIfInBounds (h4.size + 1) (.loop (rec .exhausted none)) = h6 at f6 d6 o6 kp6
      have hs6 := f6.1
      ((conv=>whnf);repeat((first|(with_reducible first|refine Z1 ?_|refine Z2 ?_|refine Z3 ?_|refine Z4 ?_|refine Z5 ?_|refine Z9 (by assumption) rfl ?_|refine ZA (by assumption) rfl ?_|refine ZB (by assumption) rfl ?_|refine Z6 ?_|refine Z7 ?_|refine Z8 ?_)|((with_reducible refine ZM ?_ ?_);(focus rfl)));(conv=>whnf)))
      refine store1_blk o6 (by simp) rfl ?_
      intro h7 f7 z7 o7
      have o7 : BlkW h7 b2' 28 [.int .i64 0] := o7
      have d7 : h7[h4.size]? = some (.deferred (some [])) := by rw [f7.2 _ (by omega) (by omega)]; exact d6
      have f8 := off_set h7 h4.size (.deferred none)
      have o8 := o7.offk f8 (by omega)
      ((conv=>whnf);repeat((first|(with_reducible first|refine Z1 ?_|refine Z2 ?_|refine Z3 ?_|refine Z4 ?_|refine Z5 ?_|refine Z9 (by assumption) rfl ?_|refine ZA (by assumption) rfl ?_|refine ZB (by assumption) rfl ?_|refine Z6 ?_|refine Z7 ?_|refine Z8 ?_)|((with_reducible refine ZM ?_ ?_);(focus rfl)));(conv=>whnf)))
      refine HMark.mk d7 ?_
      ((conv=>whnf);repeat((first|(with_reducible first|refine Z1 ?_|refine Z2 ?_|refine Z3 ?_|refine Z4 ?_|refine Z5 ?_|refine Z9 (by assumption) rfl ?_|refine ZA (by assumption) rfl ?_|refine ZB (by assumption) rfl ?_|refine Z6 ?_|refine Z7 ?_|refine Z8 ?_)|((with_reducible refine ZM ?_ ?_);(focus rfl)));(conv=>whnf)))
      exact ⟨rfl, (kp6.trans (f7.kept (by omega) (by omega))).trans (f8.kept (by omega) (by omega))⟩
    · rw [qa, if_pos rfl] at hz
      subst hz
      refine ⟨.done, some .ret, g5.rdy, ⟨(fun e => LoopState.noConfusion e), ?_⟩⟩
      have f6 := off_set h5 (h4.size + 1) (.loop (rec .exhausted (some .ret)))
      have hsz5 := lt_of_at g5.rdy
      have d6 : (h5.setIfInBounds (h4.size + 1) (.loop (rec .exhausted (some .ret))))[h4.size]? = some (.deferred (some [])) := by rw [f6.2 _ (by omega) (by omega)]; exact g5.dfr
      have o6 := g5.out.offk f6 (by omega)
      have kp6 : Kept h.size h (h5.setIfInBounds (h4.size + 1) (.loop (rec .exhausted (some .ret)))) := g5.kept.trans (f6.kept (by omega) (by omega))
      generalize h5.setIfInBounds (h4.size + 1) (.loop (rec .exhausted (some .ret))) = h6 at f6 d6 o6 kp6
      have hs6 := f6.1
      have f8 := off_set h6 h4.size (.deferred none)
      have o8 := o6.offk f8 (by omega)
      ((conv=>whnf);repeat((first|(with_reducible first|refine Z1 ?_|refine Z2 ?_|refine Z3 ?_|refine Z4 ?_|refine Z5 ?_|refine Z9 (by assumption) rfl ?_|refine ZA (by assumption) rfl ?_|refine ZB (by assumption) rfl ?_|refine Z6 ?_|refine Z7 ?_|refine Z8 ?_)|((with_reducible refine ZM ?_ ?_);(focus rfl)));(conv=>whnf)))
      refine HMark.mk d6 ?_
      ((conv=>whnf);repeat((first|(with_reducible first|refine Z1 ?_|refine Z2 ?_|refine Z3 ?_|refine Z4 ?_|refine Z5 ?_|refine Z9 (by assumption) rfl ?_|refine ZA (by assumption) rfl ?_|refine ZB (by assumption) rfl ?_|refine Z6 ?_|refine Z7 ?_|refine Z8 ?_)|((with_reducible refine ZM ?_ ?_);(focus rfl)));(conv=>whnf)))
      exact ⟨rfl, kp6.trans (f8.kept (by omega) (by omega))⟩
  · have q : (tcheck (.mk k nm n t ns l) != 0) = true := bne_iff_ne.2 ht
    have hz : checkS (.mk k nm n t ns l) = tcheck (.mk k nm n t ns l) := by unfold checkS; rw [if_pos ht]
    rw [hz]
    ((conv=>whnf);repeat((first|(with_reducible first|refine Z1 ?_|refine Z2 ?_|refine Z3 ?_|refine Z4 ?_|refine Z5 ?_|refine Z9 (by assumption) rfl ?_|refine ZA (by assumption) rfl ?_|refine ZB (by assumption) rfl ?_|refine Z6 ?_|refine Z7 ?_|refine Z8 ?_)|((with_reducible refine ZM ?_ ?_);(focus rfl)));(conv=>whnf)))
    refine store1_blk o2 (by simp) rfl ?_
    intro h4 f4 z4 o4
    have o4 : BlkW h4 b2' 28 [.int .i64 (tcheck (.mk k nm n t ns l))] := o4
    ((conv=>whnf);repeat((first|(with_reducible first|refine Z1 ?_|refine Z2 ?_|refine Z3 ?_|refine Z4 ?_|refine Z5 ?_|refine Z9 (by assumption) rfl ?_|refine ZA (by assumption) rfl ?_|refine ZB (by assumption) rfl ?_|refine Z6 ?_|refine Z7 ?_|refine Z8 ?_)|((with_reducible refine ZM ?_ ?_);(focus rfl)));(conv=>whnf)))
    exact ⟨rfl, x03.offNew f4 (by omega)⟩
end Go.Proofs.Ytlogpojkkbcpjaa.Hc
