/- == and != of structs of any fields; an element of an array's value: raw operations. -/
import Derived.Test.YtadkdfecmpjmdaaGreatDoorHW
set_option linter.unusedVariables false
set_option linter.unusedSimpArgs false
namespace Go.H
variable {P : Program} {ev : Operand → Value} {h : Heap} {K : Next → Heap → Prop} {E : Halt → Heap → Prop}
theorem hw_forIn_all {α β : Type} {q : Bool} (b : α → Bool) {init stop : β} {body : α → β → Sem (ForInStep β)} : ∀ (fs : List α),
    (∀ f ∈ fs, ∀ Q : ForInStep β → Heap → Prop, (b f = true → Q (.yield init) h) → (b f = false → Q (.done stop) h) → hw P q (body f init) h Q E) →
    ∀ Q : β → Heap → Prop, (fs.all b = true → Q init h) → (fs.all b = false → Q stop h) → hw P q (forIn fs init body) h Q E
  | [], _, Q, h1, _ => by
    simp only [List.forIn_nil]
    exact h1 rfl
  | f :: fs, hb, Q, h1, h2 => by
    simp only [List.forIn_cons]
    rw [hw_bind']
    refine hb f (by simp) _ (fun e => ?_) (fun e => ?_)
    · dsimp only
      refine hw_forIn_all b fs (fun g hg => hb g (by simp [hg])) Q (fun a => h1 ?_) (fun a => h2 ?_)
      · rw [List.all_cons, e, a]; rfl
      · rw [List.all_cons, e, a]; rfl
    · dsimp only
      refine h2 ?_
      rw [List.all_cons, e]; rfl
def EqF (P : Program) (q : Bool) (d : Nat) (h : Heap) (E : Halt → Heap → Prop) (xs ys : Array Value) (b : Field → Bool) (f : Field) : Prop :=
  f.name ≠ "_" ∧ ∃ v w, (∀ Q : Value → Heap → Prop, Q v h → hw P q (part f.type xs f.offset) h Q E) ∧ (∀ Q : Value → Heap → Prop, Q w h → hw P q (part f.type ys f.offset) h Q E) ∧ ∀ Q : Bool → Heap → Prop, Q (b f) h → hw P q (Op.equalIn d f.type v w) h Q E
theorem hw_equal_struct {q : Bool} {d : Nat} {t : TypeId} {fields : Array Field} {xs ys : Array Value} {Q : Bool → Heap → Prop} (b : Field → Bool) (hu : P.underlying t = some (.struct fields)) (hs : P.stoodInHeld t = false)
    (hf : ∀ f ∈ fields.toList, EqF P q d h E xs ys b f) (k : Q (fields.toList.all b) h) : hw P q (Op.equalIn (d + 1) t (.agg xs) (.agg ys)) h Q E := by
  rw [Op.equalIn, hw_bind', hw_underlying hu]
  dsimp only
  rw [hw_bind', hw_program', hs]
  simp only [Bool.false_eq_true, if_false]
  rw [← Array.forIn_toList]
  rw [hw_bind']
  refine hw_forIn_all (stop := ⟨some false, ()⟩) b fields.toList (fun f hm Q h1 h2 => ?_) _ (fun e => ?_) (fun e => ?_)
  · obtain ⟨nn, v, w, pv, pw, pe⟩ := hf f hm
    simp only [nn, ne_eq, not_false_eq_true, if_true]
    rw [hw_bind']
    refine pv _ ?_
    rw [hw_bind']
    refine pw _ ?_
    rw [hw_bind']
    refine pe _ ?_
    cases hb : b f
    · simp only [Bool.not_false, if_true]
      exact h2 hb
    · simp only [Bool.not_true, Bool.false_eq_true, if_false]
      exact h1 hb
  · rw [e] at k; exact k
  · rw [e] at k; exact k
theorem EqF.str {q : Bool} {d : Nat} {xs ys : Array Value} {b : Field → Bool} {f : Field} {x y : ByteArray} (nn : f.name ≠ "_") (u : P.underlying f.type = some .string) (g : isAggT P f.type = some false) (hx : xs[f.offset]? = some (.string x)) (hy : ys[f.offset]? = some (.string y)) (hb : b f = strEq x y) : EqF P q (d + 1) h E xs ys b f :=
  ⟨nn, _, _, fun Q k => by rw [hw_part g hx]; exact k, fun Q k => by rw [hw_part g hy]; exact k, fun Q k => by rw [hw_equal_str u, ← hb]; exact k⟩
theorem EqF.int {q : Bool} {d : Nat} {xs ys : Array Value} {b : Field → Bool} {f : Field} {kk k' : IntKind} {x y : Int} (nn : f.name ≠ "_") (u : P.underlying f.type = some (.int kk)) (g : isAggT P f.type = some false) (hx : xs[f.offset]? = some (.int k' x)) (hy : ys[f.offset]? = some (.int k' y)) (hb : b f = (x == y)) : EqF P q (d + 1) h E xs ys b f :=
  ⟨nn, _, _, fun Q k => by rw [hw_part g hx]; exact k, fun Q k => by rw [hw_part g hy]; exact k, fun Q k => by
    rw [Op.equalIn, hw_bind', hw_underlying u]
    dsimp only
    rw [if_pos rfl]
    show Q (x == y) h
    rw [← hb]; exact k⟩
theorem EqF.bool {q : Bool} {d : Nat} {xs ys : Array Value} {b : Field → Bool} {f : Field} {x y : Bool} (nn : f.name ≠ "_") (u : P.underlying f.type = some .bool) (g : isAggT P f.type = some false) (hx : xs[f.offset]? = some (.bool x)) (hy : ys[f.offset]? = some (.bool y)) (hb : b f = (x == y)) : EqF P q (d + 1) h E xs ys b f :=
  ⟨nn, _, _, fun Q k => by rw [hw_part g hx]; exact k, fun Q k => by rw [hw_part g hy]; exact k, fun Q k => by
    rw [Op.equalIn, hw_bind', hw_underlying u]
    show Q (x == y) h
    rw [← hb]; exact k⟩
theorem EqF.sub {q : Bool} {d n : Nat} {xs ys : Array Value} {b : Field → Bool} {f : Field} {fields : Array Field} (b' : Field → Bool) (nn : f.name ≠ "_") (g : isAggT P f.type = some true) (hz : sizeOfT P f.type = some n) (hu : P.underlying f.type = some (.struct fields)) (hs : P.stoodInHeld f.type = false)
    (hf : ∀ g ∈ fields.toList, EqF P q d h E ((xs.toList.drop f.offset).take n).toArray ((ys.toList.drop f.offset).take n).toArray b' g) (hb : b f = fields.toList.all b') : EqF P q (d + 1) h E xs ys b f :=
  ⟨nn, _, _, fun Q k => hw_partN g hz k, fun Q k => hw_partN g hz k, fun Q k => hw_equal_struct b' hu hs hf (by rw [← hb]; exact k)⟩
theorem raw_eqS {o : Oper} {t u : TypeId} {x y : Operand} {fields : Array Field} {xs ys : Array Value} (b : Field → Bool) (ho : o.op = .binOp .eql t x y u) (hx : ev x = .agg xs) (hy : ev y = .agg ys) (hu : P.underlying t = some (.struct fields)) (hs : P.stoodInHeld t = false) (hg : P.eqGuardType P.depth t = false)
    (hf : ∀ f ∈ fields.toList, EqF P false 9999 h (fun x h' => E x h') xs ys b f)
    (k : K (.value (.bool (fields.toList.all b))) h) : HRaw P o ev h (noDefer K) E := by
  refine ⟨?_⟩
  unfold execOp
  rw [ho]
  show hw P false ((eqGuard .eql t x y (ev x) (ev y) >>= fun _ => Go.binOp .eql t (ev x) (ev y)) >>= fun v => pure (Next.value v)) h _ E
  rw [hx, hy, hw_bind', hw_bind']
  unfold eqGuard
  simp only [Bool.not_true, Bool.false_eq_true, if_false]
  rw [hw_bind', hw_program', hw_bind', hw_program', hg]
  simp only [Bool.not_false, if_true]
  rw [hw_pure]
  show hw P false (Op.equal t (.agg xs) (.agg ys) >>= fun r => pure (Value.bool r)) h _ E
  rw [hw_bind']
  unfold Op.equal Op.maxDepth
  exact hw_equal_struct b hu hs hf k
theorem raw_neS {o : Oper} {t u : TypeId} {x y : Operand} {fields : Array Field} {xs ys : Array Value} (b : Field → Bool) (ho : o.op = .binOp .neq t x y u) (hx : ev x = .agg xs) (hy : ev y = .agg ys) (hu : P.underlying t = some (.struct fields)) (hs : P.stoodInHeld t = false) (hg : P.eqGuardType P.depth t = false)
    (hf : ∀ f ∈ fields.toList, EqF P false 9999 h (fun x h' => E x h') xs ys b f)
    (k : K (.value (.bool (!(fields.toList.all b)))) h) : HRaw P o ev h (noDefer K) E := by
  refine ⟨?_⟩
  unfold execOp
  rw [ho]
  show hw P false ((eqGuard .neq t x y (ev x) (ev y) >>= fun _ => Go.binOp .neq t (ev x) (ev y)) >>= fun v => pure (Next.value v)) h _ E
  rw [hx, hy, hw_bind', hw_bind']
  unfold eqGuard
  simp only [Bool.not_true, Bool.false_eq_true, if_false]
  rw [hw_bind', hw_program', hw_bind', hw_program', hg]
  simp only [Bool.not_false, if_true]
  rw [hw_pure]
  show hw P false (Op.equal t (.agg xs) (.agg ys) >>= fun r => pure (Value.bool (!r))) h _ E
  rw [hw_bind']
  unfold Op.equal Op.maxDepth
  exact hw_equal_struct b hu hs hf k
theorem raw_idx1 {o : Oper} {t e : TypeId} {x ix : Operand} {cs : Array Value} {n : Nat} {v : Value} (i : Nat) (ho : o.op = .index t x ix) (hx : ev x = .agg cs) (hi : ev ix = .int .i64 (i : Int)) (hu : P.underlying t = some (.array n e)) (hn : i < n) (hz : sizeOfT P e = some 1) (hg : isAggT P e = some false) (hv : cs[i]? = some v)
    (k : K (.value v) h) : HRaw P o ev h (noDefer K) E := by
  refine ⟨?_⟩
  unfold execOp
  rw [ho]
  show hw P false (Instr.index t (ev x) (ev ix) >>= fun v => pure (Next.value v)) h _ E
  rw [hx, hi, hw_bind']
  unfold Instr.index
  rw [hw_bind']
  show hw P false (underlying t >>= _) h _ E
  rw [hw_bind', hw_underlying hu]
  dsimp only
  rw [if_pos ⟨Int.natCast_nonneg i, by exact_mod_cast hn⟩, hw_bind', hw_size hz, Int.toNat_natCast, Nat.mul_one, hw_part hg hv]
  exact k
theorem raw_idxN {o : Oper} {t e : TypeId} {x ix : Operand} {cs : Array Value} {n s : Nat} (i : Nat) (ho : o.op = .index t x ix) (hx : ev x = .agg cs) (hi : ev ix = .int .i64 (i : Int)) (hu : P.underlying t = some (.array n e)) (hn : i < n) (hz : sizeOfT P e = some s) (hg : isAggT P e = some true)
    (k : K (.value (.agg ((cs.toList.drop (i * s)).take s).toArray)) h) : HRaw P o ev h (noDefer K) E := by
  refine ⟨?_⟩
  unfold execOp
  rw [ho]
  show hw P false (Instr.index t (ev x) (ev ix) >>= fun v => pure (Next.value v)) h _ E
  rw [hx, hi, hw_bind']
  unfold Instr.index
  rw [hw_bind']
  show hw P false (underlying t >>= _) h _ E
  rw [hw_bind', hw_underlying hu]
  dsimp only
  rw [if_pos ⟨Int.natCast_nonneg i, by exact_mod_cast hn⟩, hw_bind', hw_size hz, Int.toNat_natCast]
  exact hw_partN hg hz k
end Go.H
