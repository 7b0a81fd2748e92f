import Derived.Test.YtadkdfecmpjmdaaGreatDoorH6
set_option linter.unusedVariables false
set_option linter.unusedSimpArgs false
namespace Go.H
section
variable {P : Program} {q : Bool} {h : Heap} {E : Halt → Heap → Prop}
variable {ev : Operand → Value} {K : Next → Heap → Prop} {dst : Option Tmp} {type : TypeId} {pos : String} {after : Array Edge} {guard : Option (Nat × Bool)}

theorem map_moved (a : Option Addr) (m l size : Nat) : (if m = l then a else a.map (·.add (l * size))) = a.map fun a => movedTo a m l size := by
  unfold movedTo; cases a <;> by_cases e : m = l <;> simp [e]

theorem s_slice {c : AOp} {t : TypeId} {x : Operand} {lo hi mx : Option Operand} (hx : compOp P ⟨dst, .slice t x lo hi mx, type, pos, after, guard⟩ = c) (hq : q = true → quietK c = true)
    (hh : aop P c ev h K E) : hw P q (execOp ev ⟨dst, .slice t x lo hi mx, type, pos, after, guard⟩) h K E := by
  unfold compOp at hx
  dsimp only at hx
  split at hx
  · rename_i hu
    split at hx <;> subst hx
    · simp only [aop] at hh
      split at hh
      · rename_i s hs
        refine v_of ?_
        show hw P q (Instr.sliceAt t (ev x) (lo.map ev) (hi.map ev) none) h _ E
        unfold Instr.sliceAt
        rw [hw_bind', hw_underlying hu, hs]
        simp only
        unfold Instr.slice
        rw [hw_bind', hw_underlying hu]
        show hw P q (Instr.sliceBounds false s.size s.size (lo.map ev) (hi.map ev) ((none : Option Operand).map ev) >>= _) h _ E
        rw [hw_bind']
        refine hw_sliceBounds (lo := lo) (hi := hi) (mx := none) (by simp) ?_
        exact hh
      · exact hh.elim
    · exact s_raw hq hh
  · rename_i e hu
    split at hx
    · rename_i size hsz
      split at hx <;> subst hx
      · exact s_raw hq hh
      · rename_i hm
        simp only [aop] at hh
        split at hh
        · rename_i a len cap hs
          refine v_of ?_
          show hw P q (Instr.sliceAt t (ev x) (lo.map ev) (hi.map ev) (mx.map ev)) h _ E
          unfold Instr.sliceAt
          rw [hw_bind', hw_underlying hu, hs]
          simp only
          unfold Instr.slice
          rw [hw_bind', hw_underlying hu]
          simp only
          rw [hw_bind']
          refine hw_sliceBounds (lo := lo) (hi := hi) (mx := mx) ?_ ?_
          · rintro ⟨h1, h2⟩
            cases mx with
            | none => cases h2
            | some z => exact hm z h1 rfl
          · simp only [hw_bind', hw_size hsz, hw_pure, map_moved]
            exact hh
        · exact hh.elim
    · subst hx; exact s_raw hq hh
  · rename_i n e hu
    split at hx
    · rename_i size hsz
      split at hx <;> subst hx
      · exact s_raw hq hh
      · rename_i hm
        simp only [aop] at hh
        split at hh
        · rename_i a hs
          refine v_of ?_
          show hw P q (Instr.sliceAt t (ev x) (lo.map ev) (hi.map ev) (mx.map ev)) h _ E
          unfold Instr.sliceAt
          rw [hw_bind', hw_underlying hu, hs]
          simp only [asAddr]
          show hw P q (Instr.sliceBounds false n n (lo.map ev) (hi.map ev) (mx.map ev) >>= _) h _ E
          rw [hw_bind']
          refine hw_sliceBounds (lo := lo) (hi := hi) (mx := mx) ?_ ?_
          · rintro ⟨h1, h2⟩
            cases mx with
            | none => cases h2
            | some z => exact hm z h1 rfl
          · simp only [hw_bind', hw_size hsz, hw_pure]
            exact hh
        · exact hh.elim
    · subst hx; exact s_raw hq hh
  · subst hx; exact s_raw hq hh

theorem s_fieldAddr {c : AOp} {t : TypeId} {x : Operand} {i : Nat} (hx : compOp P ⟨dst, .fieldAddr t x i, type, pos, after, guard⟩ = c) (hq : q = true → quietK c = true)
    (hh : aop P c ev h K E) : hw P q (execOp ev ⟨dst, .fieldAddr t x i, type, pos, after, guard⟩) h K E := by
  unfold compOp at hx
  dsimp only at hx
  split at hx
  · rename_i fs hu
    split at hx
    · rename_i f hf
      split at hx <;> subst hx
      · exact s_raw hq hh
      · rename_i n hn hs
        simp only [aop] at hh
        split at hh
        · rename_i a ha
          refine v_of ?_
          show hw P q (Instr.fieldAt t (ev x) i) h _ E
          unfold Instr.fieldAt
          rw [hw_bind', hw_underlying hu]
          simp only [hf, ha, Instr.sureAddr]
          show hw P q (fieldPlace a f >>= _) h _ E
          unfold fieldPlace
          rw [hw_bind', hw_bind', hw_size hs]
          rw [if_neg (fun e => hn (by rw [e]))]
          exact hh
        · exact hh.elim
      · exact s_raw hq hh
    · subst hx; exact s_raw hq hh
  · subst hx; exact s_raw hq hh

theorem extract_list (cs : Array Value) (a n : Nat) : cs.extract a (a + n) = ((cs.toList.drop a).take n).toArray := by
  apply Array.ext'
  simp only [Array.toList_extract, List.extract_eq_drop_take', Nat.add_sub_cancel_left]
  rw [List.drop_take]
  congr 1; omega

theorem hw_part1 {t : TypeId} {cs : Array Value} {off : Nat} {v : Value} {Q : Value → Heap → Prop} (ha : isAggT P t = some false) (hv : cs.toList[off]? = some v) (hq : Q v h) :
    hw P q (part t cs off) h Q E := by
  unfold part
  rw [hw_bind', hw_isAgg ha]
  simp only [Bool.false_eq_true, if_false]
  have : cs[off]? = some v := by rw [← hv]; simp
  rw [this]; exact hq
theorem hw_partN {t : TypeId} {n : Nat} {cs : Array Value} {off : Nat} {Q : Value → Heap → Prop} (ha : isAggT P t = some true) (hs : sizeOfT P t = some n)
    (hq : Q (.agg ((cs.toList.drop off).take n).toArray) h) : hw P q (part t cs off) h Q E := by
  unfold part
  rw [hw_bind', hw_isAgg ha]
  simp only [if_true]
  rw [hw_bind', hw_size hs, extract_list]; exact hq

theorem s_field {c : AOp} {t : TypeId} {x : Operand} {i : Nat} (hx : compOp P ⟨dst, .field t x i, type, pos, after, guard⟩ = c) (hq : q = true → quietK c = true)
    (hh : aop P c ev h K E) : hw P q (execOp ev ⟨dst, .field t x i, type, pos, after, guard⟩) h K E := by
  unfold compOp at hx
  dsimp only at hx
  split at hx
  · rename_i fs hu
    split at hx
    · rename_i f hf
      split at hx <;> subst hx
      · rename_i n ha hs
        simp only [aop] at hh
        split at hh
        · rename_i cs hc
          refine v_of ?_
          show hw P q (Instr.field t (ev x) i) h _ E
          unfold Instr.field
          rw [hw_bind', hw_underlying hu]
          simp only [hf, hc, asAgg]
          exact hw_partN ha hs hh
        · exact hh.elim
      · rename_i ha
        simp only [aop] at hh
        split at hh
        · rename_i cs hc
          split at hh
          · rename_i v hv
            refine v_of ?_
            show hw P q (Instr.field t (ev x) i) h _ E
            unfold Instr.field
            rw [hw_bind', hw_underlying hu]
            simp only [hf, hc, asAgg]
            exact hw_part1 ha hv hh
          · exact hh.elim
        · exact hh.elim
      · exact s_raw hq hh
    · subst hx; exact s_raw hq hh
  · subst hx; exact s_raw hq hh

theorem s_indexAddr {c : AOp} {t : TypeId} {x i : Operand} (hx : compOp P ⟨dst, .indexAddr t x i, type, pos, after, guard⟩ = c) (hq : q = true → quietK c = true)
    (hh : aop P c ev h K E) : hw P q (execOp ev ⟨dst, .indexAddr t x i, type, pos, after, guard⟩) h K E := by
  unfold compOp at hx
  dsimp only at hx
  split at hx
  · rename_i e hu
    split at hx <;> subst hx
    · rename_i s hs
      simp only [aop] at hh
      split at hh
      · rename_i a len cap k i' hxx hii
        obtain ⟨j, rfl, l, p, rfl, kk⟩ := hh
        refine v_of ?_
        show hw P q (Instr.indexAt t (ev x) (ev i)) h _ E
        rw [hxx, hii]
        unfold Instr.indexAt
        rw [hw_bind', hw_asIntOf, hw_bind', hw_underlying hu]
        simp only [hw_bind', hw_pure, hw_underlying hu]
        rw [if_pos ⟨by omega, by omega⟩]
        rw [hw_bind', hw_size hs]
        exact kk
      · exact hh.elim
    · exact s_raw hq hh
  · rename_i n e hu
    split at hx <;> subst hx
    · rename_i s hs
      simp only [aop] at hh
      split at hh
      · rename_i a k i' hxx hii
        obtain ⟨j, rfl, l, kk⟩ := hh
        refine v_of ?_
        show hw P q (Instr.indexAt t (ev x) (ev i)) h _ E
        rw [hxx, hii]
        unfold Instr.indexAt
        rw [hw_bind', hw_asIntOf, hw_bind', hw_underlying hu]
        simp only [Instr.sureAddr, hw_bind', hw_pure, hw_underlying hu]
        rw [if_pos ⟨by omega, by omega⟩]
        rw [hw_bind', hw_size hs]
        exact kk
      · exact hh.elim
    · exact s_raw hq hh
  · subst hx; exact s_raw hq hh

theorem s_index {c : AOp} {t : TypeId} {x i : Operand} (hx : compOp P ⟨dst, .index t x i, type, pos, after, guard⟩ = c) (hq : q = true → quietK c = true)
    (hh : aop P c ev h K E) : hw P q (execOp ev ⟨dst, .index t x i, type, pos, after, guard⟩) h K E := by
  unfold compOp at hx
  dsimp only at hx
  split at hx <;> subst hx
  · rename_i hu
    simp only [aop] at hh
    split at hh
    · rename_i s k i' hxx hii
      obtain ⟨j, rfl, l, kk⟩ := hh
      refine v_of ?_
      show hw P q (Instr.index t (ev x) (ev i)) h _ E
      rw [hxx, hii]
      unfold Instr.index
      rw [hw_bind', hw_asIntOf, hw_bind', hw_underlying hu]
      simp only
      rw [if_pos (by omega)]
      have e : s[((j : Nat) : Int).toNat]? = some s.data[j]! := by
        have hl : j < s.data.size := l
        show (if h : _ then some _ else none) = _
        rw [dif_pos (show ((j : Nat) : Int).toNat < s.size by simpa using l)]
        simp only [Int.toNat_natCast]
        rw [getElem!_pos s.data j hl]; rfl
      rw [e]
      exact kk
    · exact hh.elim
  · exact s_raw hq hh

theorem s_extract {x : Operand} {i : Nat} (hh : aop P (.extract x i) ev h K E) : hw P q (execOp ev ⟨dst, .extract x i, type, pos, after, guard⟩) h K E := by
  simp only [aop] at hh
  split at hh
  · rename_i vs hx
    split at hh
    · rename_i v hv
      refine v_of ?_
      show hw P q (Instr.extract (ev x) i) h _ E
      rw [hx]
      unfold Instr.extract
      have : vs[i]? = some v := by rw [← hv]; simp
      simp only [this]; exact hh
    · exact hh.elim
  · exact hh.elim

end
end Go.H
