import Derived.Test.YtadkdfecmpjmdaaGreatDoorH5
set_option linter.unusedVariables false
set_option linter.unusedSimpArgs false
namespace Go.H
section
variable {P : Program} {q : Bool} {h : Heap} {E : Halt → Heap → Prop}
variable {ev : Operand → Value} {K : Next → Heap → Prop} {dst : Option Tmp} {type : TypeId} {pos : String} {after : Array Edge} {guard : Option (Nat × Bool)}

theorem hfreeze_new {o : Array Value} {e n : Nat} (hn : o.size = n) : hfreeze (h.push (.cells o e)) ⟨h.size, n, none⟩ 1 = h.push (.cells o e (n, n + 1)) := by
  unfold hfreeze
  simp only [Nat.one_ne_zero, if_false]
  apply Array.ext
  · simp
  · intro i h1 h2
    simp only [Array.getElem_modify]
    by_cases hi : h.size = i
    · subst hi; simp
    · have hlt : i < h.size := by simp at h1; omega
      simp [hi, Array.getElem_push_lt hlt]

theorem hw_stringToBytes {e : TypeId} {s : ByteArray} {Q : Value → Heap → Prop} (hs : s.size < 9223372036854775808)
    (k : ∀ c, s.size ≤ c → HNew h (.cells ((s.data.map fun b => Value.int .u8 b.toNat) ++ Array.replicate (c - s.size) (.int .u8 0)) e (c, c + 1)) fun b h' => Q (.slice (some ⟨b, 0, none⟩) s.size c) h') :
    hw P false (Conv.stringToBytes e s) h Q E := by
  unfold Conv.stringToBytes
  rw [hw_bind']
  unfold choose
  simp only [hw, Question.forced]
  intro t
  generalize hc : Question.cut (.appendCap s.size 0 e) t = c
  have hle : s.size ≤ c := by rw [← hc]; simp [Question.cut]
  obtain ⟨k⟩ := k c hle
  rw [hw_bind', hw_newRow, hw_bind']
  have hsz : ((s.data.map fun (b : UInt8) => Value.int .u8 b.toNat) ++ Array.replicate (c - s.size) (Value.int .u8 0)).size = c := by
    have : s.data.size = s.size := rfl
    simp; omega
  have hm : ∀ (Q' : Unit → Heap → Prop), Q' () (h.push (.cells ((s.data.map fun (b : UInt8) => Value.int .u8 b.toNat) ++ Array.replicate (c - s.size) (Value.int .u8 0)) e (c, c + 1))) →
      hw P false (markStringish ⟨h.size, 0, none⟩) (h.push (.cells ((s.data.map fun (b : UInt8) => Value.int .u8 b.toNat) ++ Array.replicate (c - s.size) (Value.int .u8 0)) e)) Q' E := by
    intro Q' hq
    unfold markStringish
    rw [hw_bind']
    have e1 : hshape (h.push (.cells ((s.data.map fun (b : UInt8) => Value.int .u8 b.toNat) ++ Array.replicate (c - s.size) (Value.int .u8 0)) e)) h.size = some (e, c) := by
      unfold hshape; rw [Array.getElem?_push_size]; simp only [hsz]
    show hw P false (match hshape _ h.size with
      | some (_, n) => freeze { block := h.size, off := n } 1
      | _ => pure ()) _ Q' E
    rw [e1]
    show Q' () (hfreeze _ ⟨h.size, c, none⟩ 1)
    rw [hfreeze_new hsz]; exact hq
  exact hm _ k

theorem s_convert {c : AOp} {src d : TypeId} {x : Operand} (hx : compOp P ⟨dst, .convert src d x, type, pos, after, guard⟩ = c) (hq : q = true → quietK c = true) (hh : aop P c ev h K E) :
    hw P q (execOp ev ⟨dst, .convert src d x, type, pos, after, guard⟩) h K E := by
  unfold compOp at hx
  dsimp only at hx
  split at hx
  · rename_i k' k h1 h2
    subst hx
    simp only [aop] at hh
    refine v_of ?_
    show hw P q (Go.convert src d (ev x)) h _ E
    split at hh
    · rename_i n hx
      obtain ⟨m, e, kk⟩ := hh
      rw [hx]; unfold Go.convert
      rw [hw_bind', hw_underlying h1, hw_bind', hw_underlying h2]
      simp only [Conv.intToInt, e]; exact kk
    · exact hh.elim
  · rename_i h1 h2
    subst hx
    simp only [aop] at hh
    refine v_of ?_
    show hw P q (Go.convert src d (ev x)) h _ E
    split at hh
    · rename_i s hx
      rw [hx]; unfold Go.convert
      rw [hw_bind', hw_underlying h1, hw_bind', hw_underlying h2]
      exact hh
    · exact hh.elim
  · rename_i e h1 h2
    split at hx <;> subst hx
    · rename_i he
      refine v_of ?_
      show hw P q (Go.convert src d (ev x)) h _ E
      unfold Go.convert
      rw [hw_bind', hw_underlying h1, hw_bind', hw_underlying h2]
      have hb := hw_bytesToString (P := P) (q := q) (E := E) (Q := fun v h' => K (.value v) h') hh
      cases hh with
      | nil c n e k =>
        rw [e] at hb ⊢
        show hw P q (underlying _ >>= _) h _ E
        rw [hw_bind', hw_underlying he]
        exact hb
      | mk a c s e r k =>
        rw [e] at hb ⊢
        show hw P q (underlying _ >>= _) h _ E
        rw [hw_bind', hw_underlying he]
        exact hb
    · exact s_raw hq hh
  · rename_i e h1 h2
    split at hx <;> subst hx
    · rename_i he
      cases q with
      | true => cases hq rfl
      | false =>
      simp only [aop] at hh
      split at hh
      · rename_i s hx
        obtain ⟨hs, k⟩ := hh
        refine v_of ?_
        show hw P false (Go.convert src d (ev x)) h _ E
        rw [hx]; unfold Go.convert
        rw [hw_bind', hw_underlying h1, hw_bind', hw_underlying h2]
        simp only
        rw [hw_bind', hw_underlying he]
        exact hw_stringToBytes hs k
      · exact hh.elim
    · exact s_raw hq hh
  · subst hx; exact s_raw hq hh

theorem s_makeInterface {c : AOp} {t : TypeId} {x : Operand} (hx : compOp P ⟨dst, .makeInterface t x, type, pos, after, guard⟩ = c) (hq : q = true → quietK c = true) (hh : aop P c ev h K E) :
    hw P q (execOp ev ⟨dst, .makeInterface t x, type, pos, after, guard⟩) h K E := by
  unfold compOp at hx
  dsimp only at hx
  split at hx <;> subst hx
  · exact s_raw hq hh
  · rename_i d hne hu
    refine v_of ?_
    show hw P q (Instr.makeInterface t (ev x)) h _ E
    unfold Instr.makeInterface
    rw [hw_bind', hw_underlying hu]
    cases d <;> first | exact hh | exact (hne _ rfl).elim
  · exact s_raw hq hh

theorem s_makeFunc {fn : Fn} {first captured : Array Operand} (hh : aop P (.mkFunc fn first.toList captured.toList) ev h K E) :
    hw P q (execOp ev ⟨dst, .makeFunc fn first captured, type, pos, after, guard⟩) h K E := by
  refine v_of ?_
  show K (.value (.func fn (first.map ev) (captured.map ev))) h
  simp only [aop] at hh
  have e1 : (first.toList.map ev).toArray = first.map ev := by apply Array.ext'; simp
  have e2 : (captured.toList.map ev).toArray = captured.map ev := by apply Array.ext'; simp
  rw [e1, e2] at hh; exact hh

theorem obound_some {x : Operand} {d n : Nat} {F : Nat → Prop} (hh : obound ev (some x) d n F) : ∃ k i j, ev x = .int k i ∧ i = (j : Nat) ∧ j ≤ n ∧ F j := by
  unfold obound at hh
  simp only at hh
  split at hh
  · rename_i k i hx; obtain ⟨j, e, l, f⟩ := hh; exact ⟨k, i, j, hx, e, l, f⟩
  · exact hh.elim
theorem hw_sb {x : Operand} {k : IntKind} {i : Int} {j y : Nat} {code : BoundsCode} {Q : Nat → Heap → Prop} (hx : ev x = .int k i) (hi : i = (j : Nat)) (hj : j ≤ y) :
    hw P q (Instr.sliceBound (ev x) y code) h Q E = Q j h := by
  subst hi
  rw [hx]
  unfold Instr.sliceBound
  rw [hw_bind', hw_asIntOf]
  simp only
  rw [if_pos ⟨by omega, by omega⟩]
  rfl

theorem hw_sliceBounds {b : Bool} {len cap : Nat} {lo hi mx : Option Operand} {Q : Nat × Nat × Nat → Heap → Prop} (hm : ¬ (hi = none ∧ mx.isSome = true))
    (hh : obound ev mx cap cap fun m => obound ev hi len m fun j => obound ev lo 0 j fun i => Q (i, j, m) h) :
    hw P q (Instr.sliceBounds b len cap (lo.map ev) (hi.map ev) (mx.map ev)) h Q E := by
  unfold Instr.sliceBounds
  cases mx with
  | none =>
    replace hh : obound ev hi len cap fun j => obound ev lo 0 j fun i => Q (i, j, cap) h := hh
    cases hi with
    | none =>
      replace hh : obound ev lo 0 len fun i => Q (i, len, cap) h := hh
      cases lo with
      | none => exact hh
      | some x =>
        obtain ⟨k, i, j, hx, e, l, f⟩ := obound_some hh
        simp only [Option.map_none, Option.map_some, hw_bind', hw_pure]
        rw [hw_sb hx e l]; exact f
    | some y =>
      obtain ⟨k, i, j, hx, e, l, f⟩ := obound_some hh
      simp only [Option.map_none, Option.map_some, hw_bind', hw_pure]
      rw [hw_sb hx e l]
      cases lo with
      | none => exact f
      | some x =>
        obtain ⟨k, i, j, hx, e, l, f⟩ := obound_some f
        simp only [Option.map_none, Option.map_some, hw_bind', hw_pure]
        rw [hw_sb hx e l]; exact f
  | some z =>
    obtain ⟨k, i, m, hx, e, l, hh⟩ := obound_some hh
    simp only [Option.map_some, hw_bind']
    rw [hw_sb hx e l]
    cases hi with
    | none => exact absurd ⟨rfl, rfl⟩ hm
    | some y =>
      obtain ⟨k, i, j, hx, e, l, f⟩ := obound_some hh
      simp only [Option.map_some, hw_bind']
      rw [hw_sb hx e l]
      cases lo with
      | none => exact f
      | some x =>
        obtain ⟨k, i, j, hx, e, l, f⟩ := obound_some f
        simp only [Option.map_some, hw_bind', hw_pure]
        rw [hw_sb hx e l]; exact f

end
end Go.H
