/- The law Wraps. -/
import Derived.Test.YtmibnfjjlibpgaaDoorTD
set_option linter.unusedVariables false
set_option linter.unusedSimpArgs false
namespace Go.Proofs.YtmibnfjjlibpgaaDoor.Hc
open Go Go.H Go.Proofs
set_option maxRecDepth 100000
set_option maxHeartbeats 8000000

def wrapD (t : DT) : DT := .mk 5 0 ⟨#[]⟩ [] [t]
theorem wrap_may (t : DT) : may (wrapD t) ↔ may t := by
  unfold wrapD
  simp only [may, mays, and_true]
  constructor
  · exact fun h => h.2
  · intro h
    refine ⟨?_, h⟩
    unfold Own1
    exact .inr (.inr (.inr (.inr (.inl ⟨rfl, rfl, rfl, rfl⟩))))
theorem wrap_deep (t : DT) : deep (wrapD t) = deep t + 1 := by unfold wrapD; simp only [deep, deeps]; omega
theorem wrap_txt (t : DT) : txt (wrapD t) = 91 :: (txt t ++ [93]) := by
  unfold wrapD
  simp only [txt, txts, commas]
  simp
theorem wrap_sz (t : DT) : sz (wrapD t) = 1 + sz t := by unfold wrapD; simp only [sz, szs]; omega
theorem wrap_vol (t : DT) : vol (wrapD t) = 6 + vol t := by unfold wrapD; simp only [vol, vols, kvol]; show 6 + 0 + 0 + (vol t + 0) = _; omega

theorem dataWraps_spec {t : DT} {h : Heap} {cs : List Value} (ra : Rep h t cs) (hv : vol t ≤ 1048576) (gl : Glob h) :
    HCalls Tryd.prog 9 #[.agg cs.toArray] h fun e h' => e = .returned (.bool true) ∧ Ext h h' := by
  have hcl := ra.len
  have hd := deep_vol t
  have hsv := sz_vol t
  have hwv := wrap_vol t
  have hwd := wrap_deep t
  have hwm := wrap_may t
  refine c9 (by simp) ?_
  ((conv=>whnf);repeat((first|(with_reducible first|refine Z1 ?_|refine Z2 ?_|refine Z3 ?_|refine Z4 ?_|refine Z5 ?_|refine Z9 (by assumption) rfl ?_|refine ZA (by assumption) rfl ?_|refine ZB (by assumption) rfl ?_|refine Z6 ?_|refine Z7 ?_|refine Z8 ?_)|((with_reducible refine ZM ?_ ?_);(focus rfl)));(conv=>whnf)))
  refine new_var (e := 25) cs rfl ?_
  intro h1 b1 o1 x1 z1 hb1
  ((conv=>whnf);repeat((first|(with_reducible first|refine Z1 ?_|refine Z2 ?_|refine Z3 ?_|refine Z4 ?_|refine Z5 ?_|refine Z9 (by assumption) rfl ?_|refine ZA (by assumption) rfl ?_|refine ZB (by assumption) rfl ?_|refine Z6 ?_|refine Z7 ?_|refine Z8 ?_)|((with_reducible refine ZM ?_ ?_);(focus rfl)));(conv=>whnf)))
  refine HCall.mk ((live_spec h1 (gl.ext x1)).mono ?_)
  rintro e h2 ⟨rfl, x2⟩
  have o2 := o1.ext x2
  have x12 := x1.trans x2
  clear o1
  ((conv=>whnf);repeat((first|(with_reducible first|refine Z1 ?_|refine Z2 ?_|refine Z3 ?_|refine Z4 ?_|refine Z5 ?_|refine Z9 (by assumption) rfl ?_|refine ZA (by assumption) rfl ?_|refine ZB (by assumption) rfl ?_|refine Z6 ?_|refine Z7 ?_|refine Z8 ?_|refine ZB (by assumption) (by assumption) ?_)|((with_reducible refine ZM ?_ ?_);(focus rfl)));(conv=>whnf)))
  refine splN_all rfl (by simpa using hcl) ?_
  ((conv=>whnf);repeat((first|(with_reducible first|refine Z1 ?_|refine Z2 ?_|refine Z3 ?_|refine Z4 ?_|refine Z5 ?_|refine Z9 (by assumption) rfl ?_|refine ZA (by assumption) rfl ?_|refine ZB (by assumption) rfl ?_|refine Z6 ?_|refine Z7 ?_|refine Z8 ?_)|((with_reducible refine ZM ?_ ?_);(focus rfl)));(conv=>whnf)))
  refine new_var (e := 25) cs rfl ?_
  intro h3 b3 o3 x3 z3 hb3
  have b1lt := o2.lt
  have o23 := o2.ext x3
  clear o2
  ((conv=>whnf);repeat((first|(with_reducible first|refine Z1 ?_|refine Z2 ?_|refine Z3 ?_|refine Z4 ?_|refine Z5 ?_|refine Z9 (by assumption) rfl ?_|refine ZA (by assumption) rfl ?_|refine ZB (by assumption) rfl ?_|refine Z6 ?_|refine Z7 ?_|refine Z8 ?_)|((with_reducible refine ZM ?_ ?_);(focus rfl)));(conv=>whnf)))
  refine new_var (e := 25) zeroD rfl ?_
  intro h4 b4 o4 x4 z4 hb4
  have b3lt := o3.lt
  have o24 := o23.ext x4
  have o34 := o3.ext x4
  clear o23 o3
  ((conv=>whnf);repeat((first|(with_reducible first|refine Z1 ?_|refine Z2 ?_|refine Z3 ?_|refine Z4 ?_|refine Z5 ?_|refine Z9 (by assumption) rfl ?_|refine ZA (by assumption) rfl ?_|refine ZB (by assumption) rfl ?_|refine Z6 ?_|refine Z7 ?_|refine Z8 ?_)|((with_reducible refine ZM ?_ ?_);(focus rfl)));(conv=>whnf)))
  refine store_new (vs := [.int .i64 5, .int .i64 0, .string ⟨#[]⟩, .slice none 0 0, .slice (some ⟨b3, 0, none⟩) 1 1]) o4 rfl (by simp [isOne]) ?_
  intro h5 f5 z5 o5
  have x35 : Ext h3 h5 := x4.offNew f5 (by omega)
  have o25 := o24.offk f5 (by omega)
  have o35 := o34.offk f5 (by omega)
  have x05 := x12.trans (x3.trans x35)
  clear o24 o34 o4
  have rw5 : Rep h5 (wrapD t) [.int .i64 5, .int .i64 0, .string ⟨#[]⟩, .slice none 0 0, .slice (some ⟨b3, 0, none⟩) 1 1] := by
    unfold wrapD
    simp only [Rep, Reps]
    exact ⟨by unfold i64; omega, by unfold i64; omega, by decide, by simp, by simp, by simp, none, 0, some ⟨b3, 0, none⟩, 1, cs, rfl, Sl.nil _ _, Sl.mk5 o35 (by simpa using hcl), cs, [], by simp, Rep.ext x05 _ _ ra, rfl⟩
  ((conv=>whnf);repeat((first|(with_reducible first|refine Z1 ?_|refine Z2 ?_|refine Z3 ?_|refine Z4 ?_|refine Z5 ?_|refine Z9 (by assumption) rfl ?_|refine ZA (by assumption) rfl ?_|refine ZB (by assumption) rfl ?_|refine Z6 ?_|refine Z7 ?_|refine Z8 ?_)|((with_reducible refine ZM ?_ ?_);(focus rfl)));(conv=>whnf)))
  refine blk_ldN o25 hcl ?_
  ((conv=>whnf);repeat((first|(with_reducible first|refine Z1 ?_|refine Z2 ?_|refine Z3 ?_|refine Z4 ?_|refine Z5 ?_|refine Z9 (by assumption) rfl ?_|refine ZA (by assumption) rfl ?_|refine ZB (by assumption) rfl ?_|refine Z6 ?_|refine Z7 ?_|refine Z8 ?_)|((with_reducible refine ZM ?_ ?_);(focus rfl)));(conv=>whnf)))
  refine HCall.mk ((text_spec t h5 cs (Rep.ext x05 _ _ ra) (by omega) (by omega) (gl.ext x05)).mono ?_)
  rintro e h6 ⟨n, s, rfl, t6, x6⟩
  have o26 := o25.ext x6
  have o56 := o5.ext x6
  have x06 := x05.trans x6
  clear o25 o5 o35
  ((conv=>whnf);repeat((first|(with_reducible first|refine Z1 ?_|refine Z2 ?_|refine Z3 ?_|refine Z4 ?_|refine Z5 ?_|refine Z9 (by assumption) rfl ?_|refine ZA (by assumption) rfl ?_|refine ZB (by assumption) rfl ?_|refine Z6 ?_|refine Z7 ?_|refine Z8 ?_)|((with_reducible refine ZM ?_ ?_);(focus rfl)));(conv=>whnf)))
  refine HCall.mk ((text_spec (wrapD t) h6 _ (Rep.ext x6 _ _ rw5) (by omega) (by omega) (gl.ext x06)).mono ?_)
  rintro e h7 ⟨m, s', rfl, t7, x7⟩
  have o27 := o26.ext x7
  have o57 := o56.ext x7
  have x07 := x06.trans x7
  have rw7 := Rep.ext (x6.trans x7) _ _ rw5
  clear o26 o56
  obtain ⟨hc, hs⟩ := t6
  obtain ⟨hc', hs'⟩ := t7
  have hne : n ≠ 0 → m = n := by
    intro hn
    rcases hc with h | h | h
    · exact absurd h.2.2 hn
    · rcases hc' with k | k | k
      · omega
      · omega
      · exact absurd (hwm.2 h.1) k.1
    · rcases hc' with k | k | k
      · exact absurd (hwm.1 k.1) h.1
      · exact absurd (hwm.1 k.1) h.1
      · omega
  have fin : ∀ (h8 : Heap) (x8 : Ext h7 h8), True := fun _ _ => trivial
  have qs : (((sz (wrapD t) : Nat) : Int) != (sz t : Nat) + 1) = false := by
    rw [wrap_sz]
    have : ((1 + sz t : Nat) : Int) = (sz t : Nat) + 1 := by omega
    rw [this]; simp
  ((conv=>whnf);repeat((first|(with_reducible first|refine Z1 ?_|refine Z2 ?_|refine Z3 ?_|refine Z4 ?_|refine Z5 ?_|refine Z9 (by assumption) rfl ?_|refine ZA (by assumption) rfl ?_|refine ZB (by assumption) rfl ?_|refine Z6 ?_|refine Z7 ?_|refine Z8 ?_|refine ZB (by assumption) (by assumption) ?_)|((with_reducible refine ZM ?_ ?_);(focus rfl)));(conv=>whnf)))
  refine HAlt.mk ?_ ?_
  all_goals
    ((conv=>whnf);repeat((first|(with_reducible first|refine Z1 ?_|refine Z2 ?_|refine Z3 ?_|refine Z4 ?_|refine Z5 ?_|refine Z9 (by assumption) rfl ?_|refine ZA (by assumption) rfl ?_|refine ZB (by assumption) rfl ?_|refine Z6 ?_|refine Z7 ?_|refine Z8 ?_|refine ZB (by assumption) (by assumption) ?_)|((with_reducible refine ZM ?_ ?_);(focus rfl)));(conv=>whnf)))
    refine HCall.mk ((size_spec (wrapD t) h7 _ rw7 (by omega)).mono ?_)
    rintro e h8 ⟨rfl, x8⟩
    have o28 := o27.ext x8
    have o58 := o57.ext x8
    clear o27 o57
    ((conv=>whnf);repeat((first|(with_reducible first|refine Z1 ?_|refine Z2 ?_|refine Z3 ?_|refine Z4 ?_|refine Z5 ?_|refine Z9 (by assumption) rfl ?_|refine ZA (by assumption) rfl ?_|refine ZB (by assumption) rfl ?_|refine Z6 ?_|refine Z7 ?_|refine Z8 ?_|refine ZB (by assumption) (by assumption) ?_)|((with_reducible refine ZM ?_ ?_);(focus rfl)));(conv=>whnf)))
    refine HCall.mk ((size_spec t h8 cs (Rep.ext (x07.trans x8) _ _ ra) (by omega)).mono ?_)
    rintro e h9 ⟨rfl, x9⟩
    have o59 := o58.ext x9
    have x09 := x07.trans (x8.trans x9)
    clear o58 o28
    by_cases hn : n = 0
    · have q : ((n : Int) != 0) = false := by rw [hn]; rfl
      have hm : may t ∧ deep t ≤ 20 := by rcases hc with h | h | h <;> first | exact ⟨h.1, h.2.1⟩ | (have := h.2.2; omega) | (have := h.2; omega)
      rw [if_pos hn] at hs
      subst hs
      have htl := txt_len t hm.1
      ((conv=>whnf);repeat((first|(with_reducible first|refine Z1 ?_|refine Z2 ?_|refine Z3 ?_|refine Z4 ?_|refine Z5 ?_|refine Z9 (by assumption) rfl ?_|refine ZA (by assumption) rfl ?_|refine ZB (by assumption) rfl ?_|refine Z6 ?_|refine Z7 ?_|refine Z8 ?_|refine ZB (by assumption) (by assumption) ?_)|((with_reducible refine ZM ?_ ?_);(focus rfl)));(conv=>whnf)))
      by_cases hm0 : m = 0
      · have q0 : ((m : Int) == 0) = true := by rw [hm0]; rfl
        rw [if_pos hm0, wrap_txt] at hs'
        subst hs'
        have ea : ((⟨[91].toArray⟩ : ByteArray) ++ (⟨(txt t).toArray⟩ : ByteArray)) ++ (⟨[93].toArray⟩ : ByteArray) = ⟨(91 :: (txt t ++ [93])).toArray⟩ := by
          rw [app_ba, app_ba]; rfl
        have qe : strEq ⟨(91 :: (txt t ++ [93])).toArray⟩ (((⟨[91].toArray⟩ : ByteArray) ++ (⟨(txt t).toArray⟩ : ByteArray)) ++ (⟨[93].toArray⟩ : ByteArray)) = true := by
          rw [ea]; exact (strEq_iff _ _).2 rfl
        ((conv=>whnf);repeat((first|(with_reducible first|refine Z1 ?_|refine Z2 ?_|refine Z3 ?_|refine Z4 ?_|refine Z5 ?_|refine Z9 (by assumption) rfl ?_|refine ZA (by assumption) rfl ?_|refine ZB (by assumption) rfl ?_|refine Z6 ?_|refine Z7 ?_|refine Z8 ?_|refine ZB (by assumption) (by assumption) ?_)|((with_reducible refine ZM ?_ ?_);(focus rfl)));(conv=>whnf)))
        refine HMust.mk (by show 1 + (txt t).length ≤ _; omega) ?_
        ((conv=>whnf);repeat((first|(with_reducible first|refine Z1 ?_|refine Z2 ?_|refine Z3 ?_|refine Z4 ?_|refine Z5 ?_|refine Z9 (by assumption) rfl ?_|refine ZA (by assumption) rfl ?_|refine ZB (by assumption) rfl ?_|refine Z6 ?_|refine Z7 ?_|refine Z8 ?_|refine ZB (by assumption) (by assumption) ?_)|((with_reducible refine ZM ?_ ?_);(focus rfl)));(conv=>whnf)))
        refine HMust.mk (by show ((⟨[91].toArray⟩ : ByteArray) ++ (⟨(txt t).toArray⟩ : ByteArray)).size + 1 ≤ _; rw [app_ba, ba_size]; simp only [List.length_append, List.length_cons, List.length_nil]; omega) ?_
        ((conv=>whnf);repeat((first|(with_reducible first|refine Z1 ?_|refine Z2 ?_|refine Z3 ?_|refine Z4 ?_|refine Z5 ?_|refine Z9 (by assumption) rfl ?_|refine ZA (by assumption) rfl ?_|refine ZB (by assumption) rfl ?_|refine Z6 ?_|refine Z7 ?_|refine Z8 ?_|refine ZB (by assumption) (by assumption) ?_)|((with_reducible refine ZM ?_ ?_);(focus rfl)));(conv=>whnf)))
        first
          | exact ⟨rfl, x09⟩
          | (refine HIf.yes qe ?_; ((conv=>whnf);repeat((first|(with_reducible first|refine Z1 ?_|refine Z2 ?_|refine Z3 ?_|refine Z4 ?_|refine Z5 ?_|refine Z9 (by assumption) rfl ?_|refine ZA (by assumption) rfl ?_|refine ZB (by assumption) rfl ?_|refine Z6 ?_|refine Z7 ?_|refine Z8 ?_|refine ZB (by assumption) (by assumption) ?_)|((with_reducible refine ZM ?_ ?_);(focus rfl)));(conv=>whnf))); exact ⟨rfl, x09⟩)
      · have q0 : ((m : Int) == 0) = false := beq_eq_false_iff_ne.2 hm0
        have hm31 : m = 31 := by
          rcases hc' with k | k | k
          · exact absurd k.2.2 hm0
          · exact k.2.2
          · exact absurd (hwm.2 hm.1) k.1
        subst hm31
        ((conv=>whnf);repeat((first|(with_reducible first|refine Z1 ?_|refine Z2 ?_|refine Z3 ?_|refine Z4 ?_|refine Z5 ?_|refine Z9 (by assumption) rfl ?_|refine ZA (by assumption) rfl ?_|refine ZB (by assumption) rfl ?_|refine Z6 ?_|refine Z7 ?_|refine Z8 ?_|refine ZB (by assumption) (by assumption) ?_)|((with_reducible refine ZM ?_ ?_);(focus rfl)));(conv=>whnf)))
        exact ⟨rfl, x09⟩
    · have q : ((n : Int) != 0) = true := bne_iff_ne.2 hn
      have hmn := hne hn
      subst hmn
      have q0 : ((m : Int) == 0) = false := beq_eq_false_iff_ne.2 hn
      ((conv=>whnf);repeat((first|(with_reducible first|refine Z1 ?_|refine Z2 ?_|refine Z3 ?_|refine Z4 ?_|refine Z5 ?_|refine Z9 (by assumption) rfl ?_|refine ZA (by assumption) rfl ?_|refine ZB (by assumption) rfl ?_|refine Z6 ?_|refine Z7 ?_|refine Z8 ?_|refine ZB (by assumption) (by assumption) ?_)|((with_reducible refine ZM ?_ ?_);(focus rfl)));(conv=>whnf)))
      refine HCall.mk ((check17_spec (wrapD t) h9 _ (Rep.ext (x8.trans x9) _ _ rw7) (by omega)).mono ?_)
      rintro e h10 ⟨m', rfl, hc10, x10⟩
      obtain rfl := hc'.same hc10
      ((conv=>whnf);repeat((first|(with_reducible first|refine Z1 ?_|refine Z2 ?_|refine Z3 ?_|refine Z4 ?_|refine Z5 ?_|refine Z9 (by assumption) rfl ?_|refine ZA (by assumption) rfl ?_|refine ZB (by assumption) rfl ?_|refine Z6 ?_|refine Z7 ?_|refine Z8 ?_)|((with_reducible refine ZM ?_ ?_);(focus rfl)));(conv=>whnf)))
      refine ⟨?_, x09.trans x10⟩
      show Ending.returned (.bool ((m : Int) == m)) = _
      rw [beq_self_eq_true]

end Go.Proofs.YtmibnfjjlibpgaaDoor.Hc
