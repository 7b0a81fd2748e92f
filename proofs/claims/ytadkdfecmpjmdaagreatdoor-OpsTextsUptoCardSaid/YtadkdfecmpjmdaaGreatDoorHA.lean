import Derived.Test.YtadkdfecmpjmdaaGreatDoorH7
set_option linter.unusedVariables false
set_option linter.unusedSimpArgs false
namespace Go.H

theorem set_run (off : Nat) : ∀ (cs : List Value) (k : Nat) (cells : Array Value), off + k + cs.length ≤ cells.size →
    ((cs.zipIdx k).foldl (fun acc (x : Value × Nat) => acc.setIfInBounds (off + x.2) x.1) cells) = (cells.toList.take (off + k) ++ (cs ++ cells.toList.drop (off + k + cs.length))).toArray := by
  intro cs
  induction cs with
  | nil => intro k cells hl; simp
  | cons c cs ih =>
    intro k cells hl
    simp only [List.length_cons] at hl
    have hlt : off + k < cells.toList.length := by rw [Array.length_toList]; omega
    rw [List.zipIdx_cons, List.foldl_cons, ih (k + 1) _ (by rw [Array.size_setIfInBounds]; omega)]
    rw [Array.toList_setIfInBounds]
    have e1 : (cells.toList.set (off + k) c).take (off + (k + 1)) = cells.toList.take (off + k) ++ [c] := by
      rw [← Nat.add_assoc, List.take_add_one, List.take_set_of_le (Nat.le_refl _), List.getElem?_set_self hlt]; rfl
    have e2 : (cells.toList.set (off + k) c).drop (off + (k + 1) + cs.length) = cells.toList.drop (off + k + (cs.length + 1)) := by
      rw [List.drop_set_of_lt (by omega)]; congr 1; omega
    rw [e1, e2]; simp

theorem set_run0 (off : Nat) (cs : Array Value) (cells : List Value) (hl : off + cs.size ≤ cells.length) :
    (cs.zipIdx.foldl (fun acc (x : Value × Nat) => acc.setIfInBounds (off + x.2) x.1) cells.toArray) = (cells.take off ++ (cs.toList ++ cells.drop (off + cs.size))).toArray := by
  have := set_run off cs.toList 0 cells.toArray (by simpa using hl)
  rw [← Array.foldl_toList, Array.toList_zipIdx, this]
  simp

theorem fill_ok {ev : Operand → Value} {place : Nat → Option (Nat × Nat)} {K : List Value → Prop} : ∀ (parts : List (Nat × Operand)) (ps : List (Nat × Nat × Operand)) (cells : List Value),
    placesL place parts = some ps → fillL ev ps cells K → ∃ out : List Value, Instr.fill place cells.toArray (parts.map fun p => (p.1, ev p.2)) = some out.toArray ∧ K out := by
  intro parts
  induction parts with
  | nil => intro ps cells hp hf; cases hp; exact ⟨cells, rfl, hf⟩
  | cons p parts ih =>
    obtain ⟨i, x⟩ := p
    intro ps cells hp hf
    simp only [placesL] at hp
    split at hp
    · rename_i off size r hpl hr
      cases hp
      simp only [fillL] at hf
      simp only [List.map_cons, Instr.fill, hpl]
      rw [force_eq] at hf
      split at hf
      · rename_i cs hx
        obtain ⟨h1, h2, hf⟩ := splN_eq _ _ _ _ _ hf
        have h1' : cs.size = size := by rw [h1]; simp
        obtain ⟨out, ho, hk⟩ := ih r _ hr hf
        refine ⟨out, ?_, hk⟩
        simp only [hx, Value.cells]
        subst h1'
        rw [if_neg (by simp; omega), set_run0 off cs cells (by omega)]
        exact ho
      · rename_i hx
        obtain ⟨h1, h2, hf⟩ := splN_eq _ _ _ _ _ hf
        have h1' : size = 1 := by simpa using h1
        subst h1'
        obtain ⟨out, ho, hk⟩ := ih r _ hr hf
        refine ⟨out, ?_, hk⟩
        have hc : (ev x).cells = #[ev x] := by cases hv : ev x <;> first | rfl | exact (hx _ hv).elim
        rw [hc]
        rw [if_neg (by simp; omega), set_run0 off #[ev x] cells (by simpa using h2)]
        exact ho
    · cases hp

section
variable {P : Program} {q : Bool} {h : Heap} {E : Halt → Heap → Prop}
variable {ev : Operand → Value} {K : Next → Heap → Prop} {dst : Option Tmp} {type : TypeId} {pos : String} {after : Array Edge} {guard : Option (Nat × Bool)}

theorem hw_places {Q : List (Nat × Nat) → Heap → Prop} : ∀ (fs : List Field) (_ : (fs.all fun (f : Field) => (sizeOfT P f.type).isSome) = true),
    (∀ out : List (Nat × Nat), (∀ i : Nat, out[i]? = (fs[i]?).bind fun (f : Field) => (sizeOfT P f.type).map fun s => (f.offset, s)) → Q out h) →
    hw P q (fs.mapM fun (f : Field) => (do pure (f.offset, ← sizeOf f.type) : Sem (Nat × Nat))) h Q E
  | [], _, hq => hq [] (by simp)
  | f :: fs, ha, hq => by
    simp only [List.all_cons, Bool.and_eq_true] at ha
    obtain ⟨n, hn⟩ := Option.isSome_iff_exists.1 ha.1
    rw [List.mapM_cons, hw_bind', hw_bind', hw_size hn, hw_pure, hw_bind']
    refine hw_places fs ha.2 fun out ho => ?_
    refine hq _ fun i => ?_
    cases i with
    | zero => simp [hn]
    | succ i => simpa using ho i

theorem s_build {c : AOp} {t : TypeId} {parts : Array (Nat × Operand)} (hx : compOp P ⟨dst, .build t parts, type, pos, after, guard⟩ = c) (hq : q = true → quietK c = true)
    (hh : aop P c ev h K E) : hw P q (execOp ev ⟨dst, .build t parts, type, pos, after, guard⟩) h K E := by
  unfold compOp at hx
  dsimp only at hx
  have hparts : (parts.map fun (p : Nat × Operand) => (p.1, ev p.2)).toList = parts.toList.map fun p => (p.1, ev p.2) := by simp
  split at hx
  · rename_i z fs hz hu
    split at hx <;> subst hx
    · rename_i ps hall hps
      refine v_of ?_
      show hw P q (Instr.build t (parts.map fun (p : Nat × Operand) => (p.1, ev p.2))) h _ E
      unfold Instr.build
      rw [hw_bind', hw_zero hz]
      dsimp only
      rw [hw_bind', hw_underlying hu]
      dsimp only
      rw [hw_bind', Array.mapM_eq_mapM_toList, map_eq_pure_bind, hw_bind']
      refine hw_places fs.toList hall fun out ho => ?_
      rw [hw_pure]
      simp only [aop] at hh
      have hpl : (fun i => out.toArray[i]?) = fieldPlaces P fs := by
        funext i
        unfold fieldPlaces
        have := ho i
        simp only [List.getElem?_toArray, this, Array.getElem?_toList]
        cases fs[i]? <;> rfl
      obtain ⟨cells, hf, hk⟩ := fill_ok (place := fieldPlaces P fs) parts.toList ps z.cells.toList hps hh
      rw [hpl, hparts]
      simp only [Array.toArray_toList] at hf
      rw [hf]
      exact hk
    · exact s_raw hq hh
  · rename_i z n elem hz hu
    split at hx
    · rename_i s hs
      split at hx <;> subst hx
      · rename_i ps hps
        refine v_of ?_
        show hw P q (Instr.build t (parts.map fun (p : Nat × Operand) => (p.1, ev p.2))) h _ E
        unfold Instr.build
        rw [hw_bind', hw_zero hz]
        dsimp only
        rw [hw_bind', hw_underlying hu]
        dsimp only
        rw [hw_bind', hw_size hs]
        simp only [aop] at hh
        obtain ⟨cells, hf, hk⟩ := fill_ok parts.toList ps z.cells.toList hps hh
        rw [hparts]
        simp only [Array.toArray_toList] at hf
        rw [hf]
        exact hk
      · exact s_raw hq hh
    · subst hx; exact s_raw hq hh
  · subst hx; exact s_raw hq hh

theorem s_buildSlice {c : AOp} {t len : Nat} {parts : Array (Nat × Operand)} (hx : compOp P ⟨dst, .buildSlice t len parts, type, pos, after, guard⟩ = c) (hq : q = true → quietK c = true)
    (hh : aop P c ev h K E) : hw P q (execOp ev ⟨dst, .buildSlice t len parts, type, pos, after, guard⟩) h K E := by
  unfold compOp at hx
  dsimp only at hx
  have hparts : (parts.map fun (p : Nat × Operand) => (p.1, ev p.2)).toList = parts.toList.map fun p => (p.1, ev p.2) := by simp
  split at hx
  · rename_i elem hu
    split at hx
    · rename_i s z hs hz
      split at hx
      · rename_i ps hps
        split at hx <;> subst hx
        · exact s_raw hq hh
        · rename_i hle
          cases q with
          | true => cases hq rfl
          | false =>
          refine v_of ?_
          show hw P false (Instr.buildSlice t len (parts.map fun (p : Nat × Operand) => (p.1, ev p.2))) h _ E
          unfold Instr.buildSlice
          rw [hw_bind', hw_underlying hu]
          dsimp only
          rw [hw_bind', hw_size hs]
          rw [if_neg hle]
          simp only [aop] at hh
          obtain ⟨cells, hf, hk⟩ := fill_ok parts.toList ps _ hps hh
          obtain ⟨hk⟩ := hk
          have fin : ∀ zero : Array Value, ((Array.range (len * s)).map (zero[· % zero.size]!)) = ((Array.range (len * s)).map (z.cells[· % z.cells.size]!)) →
              hw P false (do
                let some cells := Instr.fill (fun i => some (i * s, s)) ((Array.range (len * s)).map (zero[· % zero.size]!)) (parts.map fun (p : Nat × Operand) => (p.1, ev p.2)).toList
                  | stuck "buildSlice: a part of the wrong size"
                pure (Value.slice (some (← newRow elem cells)) len len)) h (fun v h' => K (.value v) h') E := by
            intro zero he
            rw [he, hparts]
            simp only [Array.toArray_toList] at hf
            rw [hf]
            exact hk
          by_cases h0 : len * s = 0
          · simp only [h0, if_true]
            have := fin #[] (by rw [h0]; simp)
            rw [h0] at this
            exact this
          · simp only [h0, if_false]
            rw [hw_bind', hw_zero hz, hw_bind', hw_pure]
            exact fin _ rfl
      · subst hx; exact s_raw hq hh
    · subst hx; exact s_raw hq hh
  · subst hx; exact s_raw hq hh

end
end Go.H
