/- Yields of a slice's texts; what is collected from them. -/
import Derived.Test.YtlogpojkkbcpjaaYB
import Derived.Test.YtlogpojkkbcpjaaHR
set_option linter.unusedVariables false
set_option linter.unusedSimpArgs false
namespace Go.Proofs.Ytlogpojkkbcpjaa.Hc
open Go Go.H Go.Proofs
set_option maxRecDepth 100000
set_option maxHeartbeats 4000000
theorem values_spec (a : Option Addr) (n c : Nat) (h : Heap) : HCalls Try.prog 54 #[.slice a n c] h fun e h' => ∃ b, e = .returned (.func (.func 74) #[] #[.pointer (some ⟨b, 0, none⟩)]) ∧ BlkW h' b 23 [.slice a n c] ∧ Ext h h' := by
  refine c54 (by simp) ?_
  ((conv=>whnf);repeat((first|(with_reducible first|refine Z1 ?_|refine Z2 ?_|refine Z3 ?_|refine Z4 ?_|refine Z5 ?_|refine Z9 (by assumption) rfl ?_|refine ZA (by assumption) rfl ?_|refine ZB (by assumption) rfl ?_|refine Z6 ?_|refine Z7 ?_|refine Z8 ?_)|((with_reducible refine ZM ?_ ?_);(focus rfl)));(conv=>whnf)))
  refine new_var (e := 23) [.slice a n c] rfl ?_
  intro h1 b o1 x1 z1 hb
  ((conv=>whnf);repeat((first|(with_reducible first|refine Z1 ?_|refine Z2 ?_|refine Z3 ?_|refine Z4 ?_|refine Z5 ?_|refine Z9 (by assumption) rfl ?_|refine ZA (by assumption) rfl ?_|refine ZB (by assumption) rfl ?_|refine Z6 ?_|refine Z7 ?_|refine Z8 ?_)|((with_reducible refine ZM ?_ ?_);(focus rfl)));(conv=>whnf)))
  exact ⟨b, rfl, o1, x1⟩
theorem values1_spec {P : Nat → Heap → Prop} {l b : Nat} {ks : List ByteArray} {a : Option Addr} {c : Nat} {h : Heap} (hn : ks.length ≤ 4194304) (o : BlkW h b 23 [.slice a ks.length c]) (hs : ∀ i h', P i h' → Sl h' 1 a ks.length c (ks.map .string))
    (hy : ∀ (i : Nat) (hi : i < ks.length) h', P i h' → HYield Try.prog l #[.string ks[i]] h' fun e h'' => e = .returned (.bool true) ∧ P (i + 1) h'') (start : P 0 h) :
    HCalls Try.prog 74 #[.func (.yield l) #[] #[], .pointer (some ⟨b, 0, none⟩)] h fun e h' => e = .returned (.tuple #[]) ∧ P ks.length h' := by
  refine c74 (by simp) ?_
  ((conv=>whnf);repeat((first|(with_reducible first|refine Z1 ?_|refine Z2 ?_|refine Z3 ?_|refine Z4 ?_|refine Z5 ?_|refine Z9 (by assumption) rfl ?_|refine ZA (by assumption) rfl ?_|refine ZB (by assumption) rfl ?_|refine Z6 ?_|refine Z7 ?_|refine Z8 ?_)|((with_reducible refine ZM ?_ ?_);(focus rfl)));(conv=>whnf)))
  refine loop_rule [7] (fun vs h' => ∃ (i : Nat), vs = [.int .i64 i] ∧ i ≤ ks.length ∧ P i h')
    (fun vs _ => match vs with | [.int _ i] => ks.length - i.toNat | _ => 0) rfl ?_ ?_
  · exact ⟨0, rfl, by omega, start⟩
  intro u h1 v7
  rintro ⟨i, e, hi, hp⟩
  cases e
  ((conv=>whnf);repeat((first|(with_reducible first|refine Z1 ?_|refine Z2 ?_|refine Z3 ?_|refine Z4 ?_|refine Z5 ?_|refine Z9 (by assumption) rfl ?_|refine ZA (by assumption) rfl ?_|refine ZB (by assumption) rfl ?_|refine Z6 ?_|refine Z7 ?_|refine Z8 ?_)|((with_reducible refine ZM ?_ ?_);(focus rfl)));(conv=>whnf)))
  refine HIf.mk (fun hlt => ?_) (fun hlt => ?_)
  · have hi1 : i < ks.length := by have := of_decide_eq_true hlt; omega
    have hmu : ks.length - ((i : Int) + 1).toNat < ks.length - ((i : Int)).toNat := by omega
    ((conv=>whnf);repeat((first|(with_reducible first|refine Z1 ?_|refine Z2 ?_|refine Z3 ?_|refine Z4 ?_|refine Z5 ?_|refine Z9 (by assumption) rfl ?_|refine ZA (by assumption) rfl ?_|refine ZB (by assumption) rfl ?_|refine Z6 ?_|refine Z7 ?_|refine Z8 ?_)|((with_reducible refine ZM ?_ ?_);(focus rfl)));(conv=>whnf)))
    refine HIdx.mk i rfl hi1 ?_
    refine sl_some (hs i h1 hp) hi1 fun p ep => ?_
    ((conv=>whnf);repeat((first|(with_reducible first|refine Z1 ?_|refine Z2 ?_|refine Z3 ?_|refine Z4 ?_|refine Z5 ?_|refine Z9 (by assumption) rfl ?_|refine ZA (by assumption) rfl ?_|refine ZB (by assumption) rfl ?_|refine Z6 ?_|refine Z7 ?_|refine Z8 ?_)|((with_reducible refine ZM ?_ ?_);(focus rfl)));(conv=>whnf)))
    refine (hs i h1 hp).load ep (by simpa using hi1) ?_
    rw [List.getElem_map]
    ((conv=>whnf);repeat((first|(with_reducible first|refine Z1 ?_|refine Z2 ?_|refine Z3 ?_|refine Z4 ?_|refine Z5 ?_|refine Z9 (by assumption) rfl ?_|refine ZA (by assumption) rfl ?_|refine ZB (by assumption) rfl ?_|refine Z6 ?_|refine Z7 ?_|refine Z8 ?_)|((with_reducible refine ZM ?_ ?_);(focus rfl)));(conv=>whnf)))
    refine yield_call (hy i hi1 h1 hp) ?_
    rintro e h2 ⟨rfl, hp2⟩
    ((conv=>whnf);repeat((first|(with_reducible first|refine Z1 ?_|refine Z2 ?_|refine Z3 ?_|refine Z4 ?_|refine Z5 ?_|refine Z9 (by assumption) rfl ?_|refine ZA (by assumption) rfl ?_|refine ZB (by assumption) rfl ?_|refine Z6 ?_|refine Z7 ?_|refine Z8 ?_)|((with_reducible refine ZM ?_ ?_);(focus rfl)));(conv=>whnf)))
    exact ⟨⟨i + 1, rfl, by omega, hp2⟩, hmu⟩
  · have hge := of_decide_eq_false hlt
    obtain rfl : i = ks.length := by omega
    ((conv=>whnf);repeat((first|(with_reducible first|refine Z1 ?_|refine Z2 ?_|refine Z3 ?_|refine Z4 ?_|refine Z5 ?_|refine Z9 (by assumption) rfl ?_|refine ZA (by assumption) rfl ?_|refine ZB (by assumption) rfl ?_|refine Z6 ?_|refine Z7 ?_|refine Z8 ?_)|((with_reducible refine ZM ?_ ?_);(focus rfl)));(conv=>whnf)))
    exact ⟨rfl, hp⟩
theorem off_set (h : Heap) (k : Nat) (o : Obj) : Off k h (h.setIfInBounds k o) := ⟨by simp, fun b hb hne => by rw [Array.getElem?_setIfInBounds, if_neg (Ne.symm hne)]⟩
theorem set_same {h : Heap} {k : Nat} {o o' : Obj} (x : h[k]? = some o') : (h.setIfInBounds k o)[k]? = some o := by
  rcases Nat.lt_or_ge k h.size with hl | hl
  · rw [Array.getElem?_setIfInBounds, if_pos rfl, if_pos hl]
  · rw [Array.getElem?_eq_none hl] at x; cases x
/-- Of a list's texts all that were told so far. -/
structure Told (h0 : Heap) (D b : Nat) (rec : Rec) (ks : List ByteArray) (i : Nat) (h : Heap) : Prop where
  kept : Kept h0.size h0 h
  dfr : h[D]? = some (.deferred (some []))
  rdy : h[D + 1]? = some (.loop (rec .ready none))
  out : ∃ a' c', BlkW h b 23 [.slice a' i c'] ∧ Own h (D + 2) 9 1 a' i c' ((ks.take i).map .string)
theorem collect_spec {b : Nat} {ks : List ByteArray} {a : Option Addr} {c : Nat} {h : Heap} (hn : ks.length ≤ 4194304) (o : BlkW h b 23 [.slice a ks.length c]) (hs : Sl h 1 a ks.length c (ks.map .string)) :
    HCalls Try.prog 85 #[.slice none 0 0, .func (.func 74) #[] #[.pointer (some ⟨b, 0, none⟩)]] h fun e h' => ∃ a' c', e = .returned (.slice a' ks.length c') ∧ Own h' h.size 9 1 a' ks.length c' (ks.map .string) ∧ Ext h h' := by
  refine c85 (by simp) ?_
  ((conv=>whnf);repeat((first|(with_reducible first|refine Z1 ?_|refine Z2 ?_|refine Z3 ?_|refine Z4 ?_|refine Z5 ?_|refine Z9 (by assumption) rfl ?_|refine ZA (by assumption) rfl ?_|refine ZB (by assumption) rfl ?_|refine Z6 ?_|refine Z7 ?_|refine Z8 ?_)|((with_reducible refine ZM ?_ ?_);(focus rfl)));(conv=>whnf)))
  refine new_var (e := 23) [.slice none 0 0] rfl ?_
  intro h1 b2 o1 x1 z1 hb
  ((conv=>whnf);repeat((first|(with_reducible first|refine Z1 ?_|refine Z2 ?_|refine Z3 ?_|refine Z4 ?_|refine Z5 ?_|refine Z9 (by assumption) rfl ?_|refine ZA (by assumption) rfl ?_|refine ZB (by assumption) rfl ?_|refine Z6 ?_|refine Z7 ?_|refine Z8 ?_)|((with_reducible refine ZM ?_ ?_);(focus rfl)));(conv=>whnf)))
  refine HRange.mk 74 #[.pointer (some ⟨b, 0, none⟩)] rfl (by kernel_rfl) fun rec yl => ?_
  have hD : h1.size = h.size + 1 := z1
  have hb' : b2 = h.size := hb
  show HCalls Try.prog 74 #[.func (.yield (h1.size + 1)) #[] #[], .pointer (some ⟨b, 0, none⟩)] _ _
  refine (values1_spec (P := Told h h1.size b2 rec ks) hn ((o.ext x1).ext ((Ext.push _ _).trans (Ext.push _ _))) (fun i h' p => hs.ext p.kept) ?_ ?_).mono ?_
  · intro i hi h2 p
    refine yl [.string ks[i]] h2 _ rfl p.rdy ?_
    obtain ⟨p1, p2, p3, a', c', p4, p5⟩ := p
    have f3 := off_set h2 (h1.size + 1) (.loop (rec .busy none))
    have r3 := set_same (o := .loop (rec .busy none)) p3
    have p4' := p4.offk f3 (by have := p4.lt; omega)
    have lt5 := p5.lt
    have p5' := p5.off f3 (fun p ep => by have := lt5 p ep; omega)
    have d3 : (h2.setIfInBounds (h1.size + 1) (.loop (rec .busy none)))[h1.size]? = some (.deferred (some [])) := by
      rw [f3.2 _ ?_ (by omega)]
      · exact p2
      · rcases Nat.lt_or_ge h1.size h2.size with hl | hl
        · exact hl
        · rw [Array.getElem?_eq_none hl] at p2; cases p2
    have k3 : Kept h.size h (h2.setIfInBounds (h1.size + 1) (.loop (rec .busy none))) := p1.trans (f3.kept (by omega) p1.1)
    clear p4 p5 lt5
    have e4 : Told h h1.size b2 rec ks i (h2.setIfInBounds (h1.size + 1) (.loop (rec .busy none))) → True := fun _ => trivial
    clear e4
    ((conv=>whnf);repeat((first|(with_reducible first|refine Z1 ?_|refine Z2 ?_|refine Z3 ?_|refine Z4 ?_|refine Z5 ?_|refine Z9 (by assumption) rfl ?_|refine ZA (by assumption) rfl ?_|refine ZB (by assumption) rfl ?_|refine Z6 ?_|refine Z7 ?_|refine Z8 ?_)|((with_reducible refine ZM ?_ ?_);(focus rfl)));(conv=>whnf)))
    refine ⟨p3, ?_⟩
    generalize h2.setIfInBounds (h1.size + 1) (.loop (rec .busy none)) = h3 at f3 r3 p4' p5' d3 k3
    ((conv=>whnf);repeat((first|(with_reducible first|refine Z1 ?_|refine Z2 ?_|refine Z3 ?_|refine Z4 ?_|refine Z5 ?_|refine Z9 (by assumption) rfl ?_|refine ZA (by assumption) rfl ?_|refine ZB (by assumption) rfl ?_|refine Z6 ?_|refine Z7 ?_|refine Z8 ?_)|((with_reducible refine ZM ?_ ?_);(focus rfl)));(conv=>whnf)))
    refine new_own (e := 9) 1 1 [.string ks[i]] rfl rfl ?_
    intro h4 b4 w4 x4 z4 hb4
    have p4' := p4'.ext x4
    have p5' := p5'.ext x4
    have r4 : h4[h1.size + 1]? = some (.loop (rec .busy none)) := by
      rw [x4.2 _ ?_]
      · exact r3
      · rcases Nat.lt_or_ge (h1.size + 1) h3.size with hl | hl
        · exact hl
        · rw [Array.getElem?_eq_none hl] at r3; cases r3
    have d4 : h4[h1.size]? = some (.deferred (some [])) := by
      rw [x4.2 _ ?_]
      · exact d3
      · rcases Nat.lt_or_ge h1.size h3.size with hl | hl
        · exact hl
        · rw [Array.getElem?_eq_none hl] at d3; cases d3
    have hl3 : h1.size + 1 < h4.size := by
      rcases Nat.lt_or_ge (h1.size + 1) h4.size with hl | hl
      · exact hl
      · rw [Array.getElem?_eq_none hl] at r4; cases r4
    have lt5 := p5'.lt
    ((conv=>whnf);repeat((first|(with_reducible first|refine Z1 ?_|refine Z2 ?_|refine Z3 ?_|refine Z4 ?_|refine Z5 ?_|refine Z9 (by assumption) rfl ?_|refine ZA (by assumption) rfl ?_|refine ZB (by assumption) rfl ?_|refine Z6 ?_|refine Z7 ?_|refine Z8 ?_)|((with_reducible refine ZM ?_ ?_);(focus rfl)));(conv=>whnf)))
    refine w4.sl.cells ?_
    refine Own.grow p5' (by omega) rfl rfl (by intro v hv; simp only [List.mem_singleton] at hv; subst hv; rfl) (by omega) ?_
    intro h5 a5 c5 w5 g5
    have o5 := g5.blk p4' (fun p ep => by have := lt5 p ep; omega)
    have hs5 := g5.1
    ((conv=>whnf);repeat((first|(with_reducible first|refine Z1 ?_|refine Z2 ?_|refine Z3 ?_|refine Z4 ?_|refine Z5 ?_|refine Z9 (by assumption) rfl ?_|refine ZA (by assumption) rfl ?_|refine ZB (by assumption) rfl ?_|refine Z6 ?_|refine Z7 ?_|refine Z8 ?_)|((with_reducible refine ZM ?_ ?_);(focus rfl)));(conv=>whnf)))
    refine store1_blk o5 (by simp) rfl ?_
    intro h6 f6 z6 o6
    have o6 : BlkW h6 b2 23 [.slice a5 (i + 1) c5] := o6
    have lt5' := w5.lt
    have w6 := w5.off f6 (fun p ep => by have := lt5' p ep; omega)
    ((conv=>whnf);repeat((first|(with_reducible first|refine Z1 ?_|refine Z2 ?_|refine Z3 ?_|refine Z4 ?_|refine Z5 ?_|refine Z9 (by assumption) rfl ?_|refine ZA (by assumption) rfl ?_|refine ZB (by assumption) rfl ?_|refine Z6 ?_|refine Z7 ?_|refine Z8 ?_)|((with_reducible refine ZM ?_ ?_);(focus rfl)));(conv=>whnf)))
    have r6 : h6[h1.size + 1]? = some (.loop (rec .busy none)) := by
      rw [f6.2 _ (by omega) (by omega), g5.2.1 _ (by omega) (fun p ep => by have := lt5 p ep; omega)]; exact r4
    refine ⟨⟨_, _, r6⟩, rfl, ?_⟩
    have f7 := off_set h6 (h1.size + 1) (.loop (rec .ready none))
    have k4 : Kept h.size h h4 := k3.trans (x4.kept k3.1)
    have k5 : Kept h.size h h5 := k4.trans (g5.kept k4.1 fun p ep => by have := lt5 p ep; omega)
    have k6 : Kept h.size h h6 := k5.trans (f6.kept (by omega) k5.1)
    have k7 := k6.trans (f7.kept (by omega) k6.1)
    refine ⟨k7, ?_, set_same r6, a5, c5, o6.offk f7 (by omega), ?_⟩
    · rw [f7.2 _ (by omega) (by omega), f6.2 _ (by omega) (by omega), g5.2.1 _ (by omega) (fun p ep => by have := lt5 p ep; omega)]; exact d4
    · rw [take_succ' hi, List.map_append]
      exact w6.off f7 (fun p ep => by have := lt5' p ep; omega)
  · have e1 := (Ext.push h1 (.deferred (some []))).trans (Ext.push _ (.loop (rec .ready none)))
    refine ⟨(x1.trans e1).kept (Nat.le_refl _), ?_, ?_, none, 0, o1.ext e1, Own.nil _ _ _ _⟩
    · rw [Array.getElem?_push, if_neg (by simp), Array.getElem?_push, if_pos rfl]
    · rw [Array.getElem?_push, if_pos (by simp)]
  · rintro e h2 ⟨rfl, p1, p2, p3, a', c', p4, p5⟩
    rw [List.take_length] at p5
    refine ⟨.ready, none, p3, ⟨(fun e => LoopState.noConfusion e), ?_⟩⟩
    have f3 := off_set h2 (h1.size + 1) (.loop (rec .exhausted none))
    have p4' := p4.offk f3 (by have := p4.lt; omega)
    have lt5 := p5.lt
    have p5' := p5.off f3 (fun p ep => by have := lt5 p ep; omega)
    have k3 : Kept h.size h (h2.setIfInBounds (h1.size + 1) (.loop (rec .exhausted none))) := p1.trans (f3.kept (by omega) p1.1)
    have d3 : (h2.setIfInBounds (h1.size + 1) (.loop (rec .exhausted none)))[h1.size]? = some (.deferred (some [])) := by
      rw [f3.2 _ ?_ (by omega)]
      · exact p2
      · rcases Nat.lt_or_ge h1.size h2.size with hl | hl
        · exact hl
        · rw [Array.getElem?_eq_none hl] at p2; cases p2
    generalize h2.setIfInBounds (h1.size + 1) (.loop (rec .exhausted none)) = h3 at f3 p4' p5' d3 k3
    have f4 := off_set h3 h1.size (.deferred none)
    have p5'' := p5'.off f4 (fun p ep => by have := lt5 p ep; omega)
    ((conv=>whnf);repeat((first|(with_reducible first|refine Z1 ?_|refine Z2 ?_|refine Z3 ?_|refine Z4 ?_|refine Z5 ?_|refine Z9 (by assumption) rfl ?_|refine ZA (by assumption) rfl ?_|refine ZB (by assumption) rfl ?_|refine Z6 ?_|refine Z7 ?_|refine Z8 ?_)|((with_reducible refine ZM ?_ ?_);(focus rfl)));(conv=>whnf)))
    refine HMark.mk d3 ?_
    ((conv=>whnf);repeat((first|(with_reducible first|refine Z1 ?_|refine Z2 ?_|refine Z3 ?_|refine Z4 ?_|refine Z5 ?_|refine Z9 (by assumption) rfl ?_|refine ZA (by assumption) rfl ?_|refine ZB (by assumption) rfl ?_|refine Z6 ?_|refine Z7 ?_|refine Z8 ?_)|((with_reducible refine ZM ?_ ?_);(focus rfl)));(conv=>whnf)))
    exact ⟨a', c', rfl, p5''.lower (by omega), k3.trans (f4.kept (by omega) k3.1)⟩
theorem collect1_spec {b : Nat} {ks : List ByteArray} {a : Option Addr} {c : Nat} {h : Heap} (hn : ks.length ≤ 4194304) (o : BlkW h b 23 [.slice a ks.length c]) (hs : Sl h 1 a ks.length c (ks.map .string)) :
    HCalls Try.prog 72 #[.func (.func 74) #[] #[.pointer (some ⟨b, 0, none⟩)]] h fun e h' => ∃ a' c', e = .returned (.slice a' ks.length c') ∧ Own h' h.size 9 1 a' ks.length c' (ks.map .string) ∧ Ext h h' := by
  refine c72 (by simp) ?_
  ((conv=>whnf);repeat((first|(with_reducible first|refine Z1 ?_|refine Z2 ?_|refine Z3 ?_|refine Z4 ?_|refine Z5 ?_|refine Z9 (by assumption) rfl ?_|refine ZA (by assumption) rfl ?_|refine ZB (by assumption) rfl ?_|refine Z6 ?_|refine Z7 ?_|refine Z8 ?_)|((with_reducible refine ZM ?_ ?_);(focus rfl)));(conv=>whnf)))
  refine HCall.mk ((collect_spec hn o hs).mono ?_)
  rintro e h1 ⟨a', c', rfl, w1, x1⟩
  ((conv=>whnf);repeat((first|(with_reducible first|refine Z1 ?_|refine Z2 ?_|refine Z3 ?_|refine Z4 ?_|refine Z5 ?_|refine Z9 (by assumption) rfl ?_|refine ZA (by assumption) rfl ?_|refine ZB (by assumption) rfl ?_|refine Z6 ?_|refine Z7 ?_|refine Z8 ?_)|((with_reducible refine ZM ?_ ?_);(focus rfl)));(conv=>whnf)))
  exact ⟨a', c', rfl, w1, x1⟩
end Go.Proofs.Ytlogpojkkbcpjaa.Hc
