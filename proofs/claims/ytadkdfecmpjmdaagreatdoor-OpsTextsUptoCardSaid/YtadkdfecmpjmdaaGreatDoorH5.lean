import Derived.Test.YtadkdfecmpjmdaaGreatDoorH4
set_option linter.unusedVariables false
set_option linter.unusedSimpArgs false
namespace Go.H
section
variable {P : Program} {q : Bool} {h : Heap} {E : Halt → Heap → Prop}
variable {t : TypeId} {ev : Operand → Value} {K : Next → Heap → Prop} {dst : Option Tmp} {type : TypeId} {pos : String} {after : Array Edge} {guard : Option (Nat × Bool)}

theorem s_nilCheck {x : Operand} (hh : aop P (.nilCheck x) ev h K E) : hw P q (execOp ev ⟨dst, .nilCheck x, type, pos, after, guard⟩) h K E := by
  simp only [aop] at hh
  simp only [execOp]
  split at hh
  · rename_i hx; rw [hx]; exact hh
  · rename_i hx; rw [hx]; exact hh
  · rename_i hx; rw [hx]; exact hh
  · rename_i hx; rw [hx]; exact hh
  · exact hh.elim

theorem same_eq {k k' : IntKind} (e : IntKind.same k k' = true) : k = k' := by cases k <;> cases k' <;> first | rfl | cases e

theorem hw_intBits {op : BinOp} {k : IntKind} {a b : Int} {Q : Value → Heap → Prop} (ho : op = .and ∨ op = .or ∨ op = .xor ∨ op = .andNot)
    (hq : Q (.int k (ibits op k a b)) h) : hw P q (Op.intBits op k a b) h Q E := by
  rcases ho with rfl | rfl | rfl | rfl <;> exact hq

theorem s_int {op : BinOp} {k : IntKind} {a b : Int} {Q : Value → Heap → Prop} (hs : isShift op = false) (hh : ibin op k a b fun v => Q v h) :
    hw P q (Go.binOp op t (.int k a) (.int k b)) h Q E := by
  cases op <;> first | cases hs | skip
  all_goals simp only [ibin] at hh
  case add => obtain ⟨m, e, k⟩ := hh; simp only [Go.binOp, ne_eq, not_true, if_false, Op.intArith, e]; exact k
  case sub => obtain ⟨m, e, k⟩ := hh; simp only [Go.binOp, ne_eq, not_true, if_false, Op.intArith, e]; exact k
  case mul => obtain ⟨m, e, k⟩ := hh; simp only [Go.binOp, ne_eq, not_true, if_false, Op.intArith, e]; exact k
  case quo => obtain ⟨hb, m, e, k⟩ := hh; simp only [Go.binOp, ne_eq, not_true, if_false, Op.intDiv, hb, e]; exact k
  case rem => obtain ⟨hb, k⟩ := hh; simp only [Go.binOp, ne_eq, not_true, if_false, Op.intDiv, hb]; exact k
  case and => simp only [Go.binOp, ne_eq, not_true, if_false]; exact hw_intBits (by simp) hh
  case or => simp only [Go.binOp, ne_eq, not_true, if_false]; exact hw_intBits (by simp) hh
  case xor => simp only [Go.binOp, ne_eq, not_true, if_false]; exact hw_intBits (by simp) hh
  case andNot => simp only [Go.binOp, ne_eq, not_true, if_false]; exact hw_intBits (by simp) hh
  all_goals (simp only [Go.binOp, ne_eq, not_true, if_false, Op.intCmp]; exact hh)

theorem s_shift {op : BinOp} {k k' : IntKind} {a b : Int} {Q : Value → Heap → Prop} (hs : isShift op = true) (hh : ishift op k a b fun v => Q v h) :
    hw P q (Go.binOp op t (.int k a) (.int k' b)) h Q E := by
  cases op <;> first | cases hs | skip
  case shl => obtain ⟨hb, m, e, k⟩ := hh; simp only [Go.binOp, Op.shift, if_neg (Int.not_lt.2 hb), e]; exact k
  case shr => obtain ⟨hb, k⟩ := hh; simp only [Go.binOp, Op.shift, if_neg (Int.not_lt.2 hb)]; exact k

theorem s_str {op : BinOp} {a b : ByteArray} {Q : Value → Heap → Prop} (hh : sbin op a b fun v => Q v h) :
    hw P q (Go.binOp op t (.string a) (.string b)) h Q E := by
  cases op <;> simp only [sbin] at hh
  case add =>
    obtain ⟨hb, k⟩ := hh
    simp only [Go.binOp, Op.stringOp]
    rw [if_neg (by simp [IntKind.max, IntKind.signed, IntKind.bits]; omega)]
    exact k
  all_goals first | exact hh.elim | exact hh

theorem hw_eqGuard_int {op : BinOp} {x y : Operand} {k k' : IntKind} {a b : Int} {Q : Unit → Heap → Prop} (hq : Q () h) : hw P q (eqGuard op t x y (.int k a) (.int k' b)) h Q E := by
  unfold eqGuard; cases op <;> exact hq
theorem hw_eqGuard_str {op : BinOp} {x y : Operand} {a b : ByteArray} {Q : Unit → Heap → Prop} (hq : Q () h) : hw P q (eqGuard op t x y (.string a) (.string b)) h Q E := by
  unfold eqGuard; cases op <;> exact hq
theorem hw_eqGuard_bool {op : BinOp} {x y : Operand} {a b : Bool} {Q : Unit → Heap → Prop} (hq : Q () h) : hw P q (eqGuard op t x y (.bool a) (.bool b)) h Q E := by
  unfold eqGuard; cases op <;> exact hq

theorem s_bin {op : BinOp} {t u : TypeId} {x y : Operand} (hh : aop P (.bin op x y) ev h K E) : hw P q (execOp ev ⟨dst, .binOp op t x y u, type, pos, after, guard⟩) h K E := by
  simp only [aop] at hh
  refine v_of ?_
  show hw P q (eqGuard op t x y (ev x) (ev y) >>= fun _ => Go.binOp op t (ev x) (ev y)) h _ E
  rw [hw_bind']
  generalize ev x = vx at hh ⊢
  generalize ev y = vy at hh ⊢
  unfold abin at hh
  split at hh
  · refine hw_eqGuard_int ?_
    split at hh
    · rename_i hs; exact s_shift hs hh
    · rename_i hs
      split at hh
      · rename_i hk; obtain rfl := same_eq hk; exact s_int hs hh
      · exact hh.elim
  · exact hw_eqGuard_str (s_str hh)
  · exact hh.elim

theorem s_eqB {t u : TypeId} {op : BinOp} {neg : Bool} {x y : Operand} (hu : P.underlying t = some .bool) (ho : (op = .eql ∧ neg = false) ∨ (op = .neq ∧ neg = true))
    (hh : aop P (.eqB neg x y) ev h K E) : hw P q (execOp ev ⟨dst, .binOp op t x y u, type, pos, after, guard⟩) h K E := by
  simp only [aop] at hh
  refine v_of ?_
  show hw P q (eqGuard op t x y (ev x) (ev y) >>= fun _ => Go.binOp op t (ev x) (ev y)) h _ E
  rw [hw_bind']
  split at hh
  · rename_i a b hx hy
    rw [hx, hy]
    refine hw_eqGuard_bool ?_
    have key : ∀ (Q : Bool → Heap → Prop), Q (a == b) h → hw P q (Op.equal t (.bool a) (.bool b)) h Q E := by
      intro Q hq
      unfold Op.equal Op.maxDepth
      rw [Op.equalIn, hw_bind', hw_underlying hu]
      exact hq
    rcases ho with ⟨rfl, rfl⟩ | ⟨rfl, rfl⟩
    · show hw P q (Op.equal t (.bool a) (.bool b) >>= fun r => pure (Value.bool r)) h _ E
      rw [hw_bind']; exact key _ hh
    · show hw P q (Op.equal t (.bool a) (.bool b) >>= fun r => pure (Value.bool (!r))) h _ E
      rw [hw_bind']; exact key _ hh
  · exact hh.elim

theorem s_eqI {t u : TypeId} {op : BinOp} {neg : Bool} {x y : Operand} {ms : _} (hu : P.underlying t = some (.interface ms)) (ho : (op = .eql ∧ neg = false) ∨ (op = .neq ∧ neg = true))
    (hh : aop P (.eqI neg x y) ev h K E) : hw P q (execOp ev ⟨dst, .binOp op t x y u, type, pos, after, guard⟩) h K E := by
  simp only [aop] at hh
  refine v_of ?_
  show hw P q (eqGuard op t x y (ev x) (ev y) >>= fun _ => Go.binOp op t (ev x) (ev y)) h _ E
  rw [hw_bind']
  generalize ev x = vx at hh ⊢
  generalize ev y = vy at hh ⊢
  have fin : ∀ (vx vy : Value) (b : Bool), (∀ (Q : Unit → Heap → Prop), Q () h → hw P q (eqGuard op t x y vx vy) h Q E) → (∀ op, op = .eql ∨ op = .neq → Go.binOp op t vx vy = (do let r ← Op.equal t vx vy; pure (.bool (bif op == .neq then !r else r)))) →
      (∀ (Q : Bool → Heap → Prop), Q b h → hw P q (Op.equal t vx vy) h Q E) → K (.value (.bool (bif neg then !b else b))) h → hw P q (eqGuard op t x y vx vy) h (fun _ h' => hw P q (Go.binOp op t vx vy) h' (fun v h => K (.value v) h) E) E := by
    intro vx vy b hg hop he hk
    refine hg _ ?_
    rw [hop op (by rcases ho with ⟨rfl, _⟩ | ⟨rfl, _⟩ <;> simp), hw_bind']
    refine he _ ?_
    rcases ho with ⟨rfl, rfl⟩ | ⟨rfl, rfl⟩ <;> exact hk
  split at hh
  · rename_i tx vx ty vy
    cases hh with
    | ne e k =>
      refine fin _ _ false (fun Q hq => by unfold eqGuard; cases op <;> exact hq) (by rintro op (rfl | rfl) <;> rfl) (fun Q hq => ?_) k
      unfold Op.equal Op.maxDepth
      rw [Op.equalIn, hw_bind', hw_underlying hu]
      simp only [ne_eq, e, not_false_eq_true, if_true]
      exact hq
    | int i k k' a b e ex ey hi hc hu' kk =>
      subst e ex ey
      refine fin _ _ (a == b) (fun Q hq => by unfold eqGuard; cases op <;> exact hq) (by rintro op (rfl | rfl) <;> rfl) (fun Q hq => ?_) kk
      unfold Op.equal Op.maxDepth
      rw [Op.equalIn, hw_bind', hw_underlying hu]
      simp only [ne_eq, not_true, if_false]
      rw [hw_bind', hw_typeInfo hi]
      simp only [hc, Bool.not_true, Bool.false_eq_true, if_false]
      rw [Op.equalIn, hw_bind', hw_underlying hu']
      simp only [if_true]
      exact hq
  · refine fin _ _ false (fun Q hq => by unfold eqGuard; cases op <;> exact hq) (by rintro op (rfl | rfl) <;> rfl) (fun Q hq => ?_) (by cases neg <;> exact hh)
    unfold Op.equal Op.maxDepth
    rw [Op.equalIn, hw_bind', hw_underlying hu]
    exact hq
  · refine fin _ _ false (fun Q hq => by unfold eqGuard; cases op <;> exact hq) (by rintro op (rfl | rfl) <;> rfl) (fun Q hq => ?_) (by cases neg <;> exact hh)
    unfold Op.equal Op.maxDepth
    rw [Op.equalIn, hw_bind', hw_underlying hu]
    exact hq
  · exact hh.elim
theorem hw_eqGuard_nil {op : BinOp} {x y : Operand} {c v : Value} {Q : Unit → Heap → Prop} (hy : y = .const c) (hv : ∀ a, v ≠ .agg a) (hq : Q () h) : hw P q (eqGuard op t x y v c) h Q E := by
  subst hy
  unfold eqGuard
  cases op <;> first | exact hq | skip
  all_goals
    cases v <;> cases c <;> first | exact hq | (exact absurd rfl (hv _)) | skip
    all_goals
      cases x <;> exact hq
theorem nil_equal {d : TypeDesc} {y : Operand} {tag : Nat} {v : Value} {b : Bool} {Q : Bool → Heap → Prop} (hu : P.underlying t = some d) (hy : nilTag d y = some tag) (hb : nilB tag v = some b) (hq : Q b h) :
    ∃ c, y = .const c ∧ (∀ a, v ≠ .agg a) ∧ (∀ op, op = .eql ∨ op = .neq → Go.binOp op t v c = (do let r ← Op.equal t v c; pure (.bool (bif op == .neq then !r else r)))) ∧ hw P q (Op.equal t v c) h Q E := by
  unfold nilTag at hy
  split at hy <;> cases hy
  all_goals
    unfold nilB at hb
    cases v <;> cases hb
    all_goals
      refine ⟨_, rfl, (fun a e => by cases e), ?_, ?_⟩
      · rintro op (rfl | rfl) <;> rfl
      · unfold Op.equal Op.maxDepth
        rw [Op.equalIn, hw_bind', hw_underlying hu]
        first
          | exact hq
          | (rename_i a; cases a <;> exact hq)
          | (rename_i a _ _; cases a <;> exact hq)
theorem s_isNil {d : TypeDesc} {tag : Nat} {neg : Bool} {op : BinOp} {u : TypeId} {x y : Operand} (hev : ∀ c, ev (.const c) = c) (hu : P.underlying t = some d) (hy : nilTag d y = some tag) (ho : (op = .eql ∧ neg = false) ∨ (op = .neq ∧ neg = true))
    (hh : aop P (.isNil tag neg x) ev h K E) : hw P q (execOp ev ⟨dst, .binOp op t x y u, type, pos, after, guard⟩) h K E := by
  simp only [aop] at hh
  split at hh
  · rename_i b hb
    obtain ⟨c, hc, ha, hop, he⟩ := nil_equal (q := q) (h := h) (E := E) (Q := fun r h => K (.value (.bool (bif neg then !r else r))) h) hu hy hb hh
    refine v_of ?_
    show hw P q (eqGuard op t x y (ev x) (ev y) >>= fun _ => Go.binOp op t (ev x) (ev y)) h _ E
    rw [hw_bind']
    subst hc
    rw [hev]
    refine hw_eqGuard_nil rfl ha ?_
    rw [hop op (by rcases ho with ⟨rfl, _⟩ | ⟨rfl, _⟩ <;> simp), hw_bind']
    rcases ho with ⟨rfl, rfl⟩ | ⟨rfl, rfl⟩ <;> exact he
  · exact hh.elim

theorem s_binOp {c : AOp} {op : BinOp} {t u : TypeId} {x y : Operand} (hev : ∀ c, ev (.const c) = c) (hx : compOp P ⟨dst, .binOp op t x y u, type, pos, after, guard⟩ = c) (hq : q = true → quietK c = true) (hh : aop P c ev h K E) :
    hw P q (execOp ev ⟨dst, .binOp op t x y u, type, pos, after, guard⟩) h K E := by
  unfold compOp at hx
  dsimp only at hx
  split at hx
  · subst hx; exact s_bin hh
  · subst hx; exact s_bin hh
  · rename_i hu
    split at hx <;> subst hx
    · exact s_eqB hu (.inl ⟨rfl, rfl⟩) hh
    · exact s_eqB hu (.inr ⟨rfl, rfl⟩) hh
    · exact s_raw hq hh
  · rename_i d _ _ _ hu
    split at hx
    · split at hx
      · subst hx; rename_i tag hy; exact s_isNil hev hu hy (.inl ⟨rfl, rfl⟩) hh
      · split at hx <;> subst hx
        · exact s_eqI hu (.inl ⟨rfl, rfl⟩) hh
        · exact s_raw hq hh
    · split at hx
      · subst hx; rename_i tag hy; exact s_isNil hev hu hy (.inr ⟨rfl, rfl⟩) hh
      · split at hx <;> subst hx
        · exact s_eqI hu (.inr ⟨rfl, rfl⟩) hh
        · exact s_raw hq hh
    · subst hx; exact s_raw hq hh
  · subst hx; exact s_raw hq hh

theorem s_unOp {op : UnOp} {t : TypeId} {x : Operand} (hh : aop P (.un op x) ev h K E) : hw P q (execOp ev ⟨dst, .unOp op t x, type, pos, after, guard⟩) h K E := by
  simp only [aop] at hh
  refine v_of ?_
  show hw P q (Op.unary op (ev x)) h _ E
  split at hh
  · rename_i hx; rw [hx]; exact hh
  · rename_i hx; rw [hx]; obtain ⟨m, e, k⟩ := hh; simp only [Op.unary, Op.intArith, e]; exact k
  · rename_i hx; rw [hx]; exact hh
  · exact hh.elim

theorem hw_bytesToString {v : Value} {Q : Value → Heap → Prop} (hh : HBytes h v fun s => Q (.string s) h) : hw P q (Conv.bytesToString v) h Q E := by
  cases hh with
  | nil c n e k => subst e; exact k
  | mk a c s e r k =>
    subst e
    unfold Conv.bytesToString
    dsimp only
    rw [hw_bind']
    refine hw_loadCells (vs := s.data.toList.map fun b => Value.int .u8 b.toNat) (by simp) (fun j hj => ?_) ?_
    · rw [r j hj]; simp [hj]
    · have key : ∀ (l : List UInt8) (s₀ : ByteArray),
          (forIn ((l.map fun b => Value.int .u8 b.toNat).toArray) s₀ (fun c r => do
            let .int .u8 n := c | stuck "bytesToString: byte expected"
            pure (ForInStep.yield (r.push (UInt8.ofNat n.toNat)))) : Sem ByteArray) = pure (l.foldl (fun b a => b.push a) s₀) := by
        intro l s₀; simp
      rw [hw_bind']
      have e := key s.data.toList ByteArray.empty
      refine Eq.mpr (congrArg (fun z => hw P q z h _ E) e) ?_
      rw [hw_pure, hw_pure]
      have e2 : ∀ (l : List UInt8) (s₀ : ByteArray), l.foldl (fun b a => b.push a) s₀ = ⟨s₀.data ++ l.toArray⟩ := by
        intro l
        induction l with
        | nil => intro s₀; simp
        | cons b l ih => intro s₀; rw [List.foldl_cons, ih]; simp [ByteArray.push]
      rw [e2]
      have e3 : (⟨ByteArray.empty.data ++ s.data.toList.toArray⟩ : ByteArray) = s := by
        cases s; simp [ByteArray.empty, ByteArray.emptyWithCapacity]; rfl
      rw [e3]; exact k

end
end Go.H
