import Derived.Test.YtadkdfecmpjmdaaGreatDoorHA
set_option linter.unusedVariables false
set_option linter.unusedSimpArgs false
namespace Go.H
section
variable {P : Program} {q : Bool} {h : Heap} {E : Halt → Heap → Prop}
variable {ev : Operand → Value} {K : Next → Heap → Prop} {dst : Option Tmp} {type : TypeId} {pos : String} {after : Array Edge} {guard : Option (Nat × Bool)}

theorem wrap_i64_nat {n : Nat} (hn : n ≤ 9223372036854775807) : IntKind.i64.wrap (n : Int) = n := by
  have e : (n : Int) % 2 ^ 64 = n := by omega
  simp only [IntKind.wrap, IntKind.bits, IntKind.signed, Bool.true_and, e, decide_eq_true_eq]
  rw [if_neg (by omega)]

theorem s_makeSlice {c : AOp} {t : TypeId} {x y : Operand} (hx : compOp P ⟨dst, .makeSlice t x y, type, pos, after, guard⟩ = c) (hq : q = true → quietK c = true)
    (hh : aop P c ev h K E) : hw P q (execOp ev ⟨dst, .makeSlice t x y, type, pos, after, guard⟩) h K E := by
  unfold compOp at hx
  dsimp only at hx
  cases q with
  | true =>
    exfalso
    have h0 := hq rfl
    clear hh hq
    split at hx
    · split at hx
      · split at hx
        · split at hx <;> subst hx <;> cases h0
        · subst hx; cases h0
      · subst hx; cases h0
    · subst hx; cases h0
  | false =>
  split at hx
  · rename_i e hu
    split at hx
    · rename_i i hi
      split at hx
      · rename_i z hz
        split at hx <;> subst hx
        · rename_i hsz
          simp only [aop] at hh
          split at hh
          · rename_i k1 l k2 c h1 h2
            obtain ⟨l, rfl, hl, c, rfl, hc, ⟨hlc, hb⟩, kk⟩ := hh
            obtain ⟨kk⟩ := kk
            refine v_of ?_
            show hw P false (Instr.makeSlice t (ev x) (ev y)) h _ E
            rw [h1, h2]
            unfold Instr.makeSlice
            rw [hw_bind', hw_underlying hu]
            dsimp only
            simp only [asInt, hw_bind', hw_asIntOf, hw_pure, hw_typeInfo hi, wrap_i64_nat hl, wrap_i64_nat hc]
            have hb' : ¬ ((i.bytes : Int) * (c : Int) > 2 ^ 48) := by
              have h3 : ((c * i.bytes : Nat) : Int) ≤ ((281474976710656 : Nat) : Int) := Int.ofNat_le.2 hb
              rw [Int.natCast_mul, Int.mul_comm] at h3
              intro h4
              omega
            rw [if_neg (by
              intro hcon
              simp only [Bool.or_eq_true, decide_eq_true_eq] at hcon
              rcases hcon with ((hcon | hcon) | hcon) | hcon
              · omega
              · exact hb' hcon
              · omega
              · omega)]
            have room : ∀ (Q : Unit → Heap → Prop), Q () h → hw P false (askRoom ((c : Int).toNat * i.bytes)) h Q E := by
              intro Q hq'
              unfold askRoom
              split <;> exact hq'
            rw [hw_bind']
            refine room _ ?_
            have hs : sizeOfT P e = some i.size := by unfold sizeOfT; rw [hi]; rfl
            have hzz : zeroOf P e = some z := by unfold zeroOf; rw [hi]; exact hz
            rw [hw_bind', hw_size hs]
            have cells : ∀ zero : Array Value, (Array.range ((c : Int).toNat * i.size)).map (zero[· % zero.size]!) = Builtin.zeroCells z.cells c →
                hw P false (do
                  let a ← newRow e ((Array.range ((c : Int).toNat * i.size)).map (zero[· % zero.size]!))
                  pure (Value.slice (some a) ((l : Int)).toNat ((c : Int)).toNat)) h (fun v h' => K (.value v) h') E := by
              intro zero he
              rw [he]
              rw [hw_bind', hw_newRow, hw_pure]
              simpa using kk
            by_cases h0 : (c : Int).toNat * i.size = 0
            · simp only [h0, if_true]
              have := cells #[] (by
                unfold Builtin.zeroCells
                have : c * z.cells.size = 0 := by rw [hsz]; simpa using h0
                rw [this, h0]; simp)
              rw [h0] at this
              exact this
            · simp only [h0, if_false]
              rw [hw_bind', hw_zero hzz, hw_bind', hw_pure]
              exact cells _ (by unfold Builtin.zeroCells; rw [← hsz]; simp)
          · exact hh.elim
        · exact s_raw hq hh
      · subst hx; exact s_raw hq hh
    · subst hx; exact s_raw hq hh
  · subst hx; exact s_raw hq hh

theorem hw_lenOf {v : Value} {n : Nat} {Q : Nat → Heap → Prop} (hv : lenOf v = some n) : hw P q (Builtin.lenOf v) h Q E = Q n h := by
  cases v <;> simp [lenOf] at hv <;> subst hv <;> rfl

theorem hw_firstCells {size n : Nat} {a : Option Addr} {m c : Nat} {vs : List Value} {Q : Array Value → Heap → Prop}
    (hl : vs.length = n * size) (h1 : ∀ p, a = some p → ∀ i, i < n * size → hcell h (p.add i) = vs[i]?) (h2 : a = none → vs = []) (hq : Q vs.toArray h) :
    hw P q (Builtin.firstCells size n (.slice a m c)) h Q E := by
  cases a with
  | none => rw [h2 rfl] at hq; exact hq
  | some p => exact hw_loadCells hl (h1 p rfl) hq

theorem hw_firstStr {size n : Nat} {s : ByteArray} {Q : Array Value → Heap → Prop}
    (hq : Q ((s.data.toList.take n).map fun b => Value.int .u8 b.toNat).toArray h) : hw P q (Builtin.firstCells size n (.string s)) h Q E := by
  show Q ((s.extract 0 n).data.map fun b => Value.int .u8 b.toNat) h
  have : ((s.extract 0 n).data.map fun b => Value.int .u8 b.toNat) = ((s.data.toList.take n).map fun b => Value.int .u8 b.toNat).toArray := by
    apply Array.ext'
    simp [ByteArray.data_extract]
  rw [this]; exact hq

theorem growBy_le (need : Nat) : ∀ (r c : Nat), c ≤ 2 * need → 256 ≤ need → Builtin.growBy need r c ≤ 2 * need
  | 0, c, hc, _ => hc
  | r + 1, c, hc, hn => by
    unfold Builtin.growBy
    split
    · exact hc
    · exact growBy_le need r _ (by omega) hn
theorem nextcap_le {need old : Nat} (ho : old < need) : Builtin.nextslicecap need old ≤ 2 * need := by
  unfold Builtin.nextslicecap
  split
  · omega
  · split
    · omega
    · exact growBy_le need 4 old (by omega) (by omega)

theorem hw_append {t u e : Nat} {rest : List TypeId} {i : TypeInfo} {z : Value} {du : TypeDesc} {base : Option Addr} {len cap n : Nat} {y : Value} {more : List Value} {ty : TypeId}
    {Q : Value → Heap → Prop} (hu : P.underlying t = some (.slice e)) (huu : P.underlying u = some du) (hnu : ∀ k, du ≠ .int k) (hi : P.info? e = some i) (hz : i.zero = some z)
    (hsz : z.cells.size = i.size) (hb : 0 < i.bytes) (hlen : lenOf y = some n)
    (hfirst : ∀ (h' : Heap) (Q' : Array Value → Heap → Prop), h' = h → Q' more.toArray h → hw P false (Builtin.firstCells i.size n y) h' Q' E)
    (hh : HAppend h e i.size i.bytes z.cells.toList base len cap more n Q) :
    hw P false (Builtin.append_ (t :: u :: rest).toArray ty #[.slice base len cap, y]) h Q E := by
  have hzz : zeroOf P e = some z := by unfold zeroOf; rw [hi]; exact hz
  have hs : sizeOfT P e = some i.size := by unfold sizeOfT; rw [hi]; rfl
  have hint : (du matches .int _) = false := by cases du <;> first | rfl | exact (hnu _ rfl).elim
  unfold Builtin.append_
  have e0 : (t :: u :: rest).toArray[0]? = some t := by simp
  have e1 : (t :: u :: rest).toArray[1]? = some u := by simp
  have e2 : (#[Value.slice base len cap, y] : Array Value)[0]? = some (.slice base len cap) := rfl
  have e3 : (#[Value.slice base len cap, y] : Array Value)[1]? = some y := rfl
  rw [e0, e1, e2, e3]
  dsimp only
  show hw P false (underlying t >>= _) h Q E
  rw [hw_bind', hw_underlying hu]
  dsimp only
  rw [hw_bind', hw_size hs]
  simp only [hw_bind', hw_underlying huu, hw_pure, hint, Bool.false_eq_true, if_false, hw_lenOf hlen]
  cases hh with
  | fits f a ea one there k =>
    rw [if_pos f]
    rw [hw_bind']
    simp only [Bool.not_false, if_true]
    refine hfirst h _ rfl ?_
    subst ea
    simp only
    rw [hw_bind']
    refine hw_storeCells' (a := a.add (len * i.size)) one there ?_
    exact k
  | fitsNone f ea k =>
    rw [if_pos f]
    rw [hw_bind']
    simp only [Bool.not_false, if_true]
    refine hfirst h _ rfl ?_
    subst ea
    exact k
  | grows f room old lo eo en k =>
    have hneed : len + n ≤ 140737488355328 := Nat.le_trans (Nat.le_mul_of_pos_right _ hb) room
    rw [if_neg (by omega)]
    have hmax : IntKind.i64.max = 9223372036854775807 := by decide
    simp only [hw_bind', hw_typeInfo hi]
    rw [if_neg (by rw [hmax]; omega)]
    have hcap := nextcap_le f
    have hnc : ¬ Builtin.nextslicecap (len + n) cap * i.bytes > 2 ^ 48 := by
      have : Builtin.nextslicecap (len + n) cap * i.bytes ≤ 2 * (len + n) * i.bytes := Nat.mul_le_mul_right _ hcap
      rw [Nat.mul_assoc] at this
      omega
    simp only [hw_bind', hw_typeInfo hi, if_neg hnc]
    try simp only [hw_bind']
    unfold choose
    simp only [hw, Question.forced, Bool.false_eq_true, if_false]
    intro tt
    generalize hc : Question.cut (.appendCap (len + n) cap e) tt = c
    have hle : len + n ≤ c := by rw [← hc]; simp [Question.cut]
    have room' : ∀ (m : Nat) (Q : Unit → Heap → Prop), Q () h → hw P false (askRoom m) h Q E := by
      intro m Q hq'
      unfold askRoom
      split <;> exact hq'
    refine room' _ _ ?_
    refine hw_firstCells (vs := old) lo eo ?_ ?_
    · intro hn
      have := en hn
      subst this
      simp at lo
      exact lo
    · simp only [Bool.not_false, if_true]
      refine hfirst h _ rfl ?_
      rw [hw_zero hzz, hw_newRow, hw_pure]
      have := k c hle
      have e4 : old.toArray ++ more.toArray ++ Builtin.zeroCells z.cells (c - (len + n)) = (old ++ more ++ (Builtin.zeroCells z.cells.toList.toArray (c - (len + n))).toList).toArray := by
        apply Array.ext'; simp
      rw [e4]
      exact this

theorem hw_appendZ {t u e : Nat} {rest : List TypeId} {i : TypeInfo} {z : Value} {base : Option Addr} {len cap n : Nat} {k : IntKind} {kk : IntKind} {m : Int} {ty : TypeId}
    {Q : Value → Heap → Prop} (hu : P.underlying t = some (.slice e)) (huu : P.underlying u = some (.int k)) (hi : P.info? e = some i) (hz : i.zero = some z)
    (hsz : z.cells.size = i.size) (hb : 0 < i.bytes) (hm : m = n) (hn48 : n * i.bytes ≤ 281474976710656)
    (hh : HAppend h e i.size i.bytes z.cells.toList base len cap (Builtin.zeroCells z.cells.toList.toArray n).toList n Q) :
    hw P false (Builtin.append_ (t :: u :: rest).toArray ty #[.slice base len cap, .int kk m]) h Q E := by
  have hzz : zeroOf P e = some z := by unfold zeroOf; rw [hi]; exact hz
  have hs : sizeOfT P e = some i.size := by unfold sizeOfT; rw [hi]; rfl
  have hn2 : n ≤ 281474976710656 := Nat.le_trans (Nat.le_mul_of_pos_right _ hb) hn48
  have hw0 : IntKind.i64.wrap m = n := by rw [hm, IntKind.wrap_i64]; omega
  have hapd : ∀ (Q' : Array Value → Heap → Prop), Q' (Builtin.zeroCells z.cells n) h → hw P false (if n * i.size = 0 then pure #[] else do pure (Builtin.zeroCells (← zeroValue e).cells n) : Sem (Array Value)) h Q' E := by
    intro Q' hq'
    by_cases h0 : n * i.size = 0
    · rw [if_pos h0, hw_pure]
      have : Builtin.zeroCells z.cells n = #[] := by
        apply Array.ext
        · simp [Builtin.zeroCells, hsz, h0]
        · intro j h1 h2; simp at h2
      rw [this] at hq'; exact hq'
    · rw [if_neg h0, hw_bind', hw_zero hzz, hw_pure]; exact hq'
  unfold Builtin.append_
  have e0 : (t :: u :: rest).toArray[0]? = some t := by simp
  have e1 : (t :: u :: rest).toArray[1]? = some u := by simp
  have e2 : (#[Value.slice base len cap, Value.int kk m] : Array Value)[0]? = some (.slice base len cap) := rfl
  have e3 : (#[Value.slice base len cap, Value.int kk m] : Array Value)[1]? = some (.int kk m) := rfl
  rw [e0, e1, e2, e3]
  dsimp only
  show hw P false (underlying t >>= _) h Q E
  rw [hw_bind', hw_underlying hu]
  dsimp only
  rw [hw_bind', hw_size hs]
  simp only [hw_bind', hw_underlying huu, hw_pure, if_true]
  have has : asInt (.int kk m) = (pure m : Sem Int) := rfl
  rw [has, hw_pure, hw0]
  rw [if_neg (by omega)]
  simp only [hw_bind', hw_typeInfo hi]
  rw [if_neg (by have : ((n : Int) * (i.bytes : Int)) = ((n * i.bytes : Nat) : Int) := by rw [Int.natCast_mul]
                 rw [this]; omega)]
  simp only [hw_pure, Int.toNat_natCast, Bool.not_true, Bool.false_eq_true, if_false]
  rw [hw_bind', hw_pure]
  cases hh with
  | fits f a ea one there k =>
    rw [if_pos f]
    rw [hw_bind']
    refine hapd _ ?_
    subst ea
    simp only
    rw [hw_bind']
    refine hw_storeCells' (a := a.add (len * i.size)) one there ?_
    exact k
  | fitsNone f ea k =>
    rw [if_pos f]
    rw [hw_bind']
    refine hapd _ ?_
    subst ea
    exact k
  | grows f room old lo eo en k =>
    have hneed : len + n ≤ 140737488355328 := Nat.le_trans (Nat.le_mul_of_pos_right _ hb) room
    rw [if_neg (by omega)]
    have hmax : IntKind.i64.max = 9223372036854775807 := by decide
    simp only [hw_bind', hw_typeInfo hi]
    rw [if_neg (by rw [hmax]; omega)]
    have hcap := nextcap_le f
    have hnc : ¬ Builtin.nextslicecap (len + n) cap * i.bytes > 2 ^ 48 := by
      have : Builtin.nextslicecap (len + n) cap * i.bytes ≤ 2 * (len + n) * i.bytes := Nat.mul_le_mul_right _ hcap
      rw [Nat.mul_assoc] at this
      omega
    simp only [hw_bind', hw_typeInfo hi, if_neg hnc]
    try simp only [hw_bind']
    unfold choose
    simp only [hw, Question.forced, Bool.false_eq_true, if_false]
    intro tt
    generalize hc : Question.cut (.appendCap (len + n) cap e) tt = c
    have hle : len + n ≤ c := by rw [← hc]; simp [Question.cut]
    have room' : ∀ (m : Nat) (Q : Unit → Heap → Prop), Q () h → hw P false (askRoom m) h Q E := by
      intro m Q hq'
      unfold askRoom
      split <;> exact hq'
    refine room' _ _ ?_
    refine hw_firstCells (vs := old) lo eo ?_ ?_
    · intro hn
      have := en hn
      subst this
      simp at lo
      exact lo
    · refine hapd _ ?_
      rw [hw_zero hzz, hw_newRow, hw_pure]
      have := k c hle
      have e4 : old.toArray ++ Builtin.zeroCells z.cells n ++ Builtin.zeroCells z.cells (c - (len + n)) = (old ++ (Builtin.zeroCells z.cells.toList.toArray n).toList ++ (Builtin.zeroCells z.cells.toList.toArray (c - (len + n))).toList).toArray := by
        apply Array.ext'; simp
      rw [e4]
      exact this

theorem s_append {c : AOp} {args : Array Operand} {argTypes : Array TypeId} (hx : compOp P ⟨dst, .call ⟨.builtin .append, args, argTypes⟩, type, pos, after, guard⟩ = c)
    (hq : q = true → quietK c = true) (hh : aop P c ev h K E) : hw P q (execOp ev ⟨dst, .call ⟨.builtin .append, args, argTypes⟩, type, pos, after, guard⟩) h K E := by
  unfold compOp at hx
  dsimp only at hx
  cases q with
  | true =>
    exfalso
    have h0 := hq rfl
    clear hh hq
    repeat' (split at hx)
    all_goals (subst hx; cases h0)
  | false =>
  split at hx
  · rename_i x y t u rest hargs htypes
    split at hx
    · rename_i e k hu huu
      split at hx
      · rename_i i hi
        split at hx
        · rename_i z hz
          split at hx <;> subst hx
          · rename_i hc
            obtain ⟨hsz, hb⟩ := hc
            have ha : args = #[x, y] := by apply Array.ext'; simpa using hargs
            have ht : argTypes = (t :: u :: rest).toArray := by apply Array.ext'; simpa using htypes
            subst ha ht
            simp only [aop] at hh
            have hm : (#[x, y] : Array Operand).map ev = #[ev x, ev y] := by simp
            show hw P false (do pure (Next.value (← Builtin.append_ (t :: u :: rest).toArray type ((#[x, y] : Array Operand).map ev)))) h K E
            rw [hm]
            refine v_of ?_
            split at hh
            · rename_i base len cap kk m hex hey
              rw [hex, hey]
              obtain ⟨n, hmn, _, hn48, k⟩ := hh
              exact hw_appendZ hu huu hi hz hsz hb hmn hn48 k
            · exact hh.elim
          · exact s_raw hq hh
        · subst hx; exact s_raw hq hh
      · subst hx; exact s_raw hq hh
    · subst hx; exact s_raw hq hh
    · rename_i e du hnu hu huu
      split at hx
      · rename_i i hi
        split at hx
        · rename_i z hz
          split at hx <;> subst hx
          · rename_i hc
            obtain ⟨hsz, hb⟩ := hc
            have ha : args = #[x, y] := by apply Array.ext'; simpa using hargs
            have ht : argTypes = (t :: u :: rest).toArray := by apply Array.ext'; simpa using htypes
            subst ha ht
            simp only [aop] at hh
            have hm : (#[x, y] : Array Operand).map ev = #[ev x, ev y] := by simp
            show hw P false (do pure (Next.value (← Builtin.append_ (t :: u :: rest).toArray type ((#[x, y] : Array Operand).map ev)))) h K E
            rw [hm]
            refine v_of ?_
            split at hh
            · rename_i base len cap n hex hlen
              rw [hex]
              split at hh
              · rename_i s hey
                rw [hey] at hlen ⊢
                cases hlen
                refine hw_append hu huu hnu hi hz hsz hb rfl ?_ hh
                intro h' Q' hh' hq'
                subst hh'
                refine hw_firstStr ?_
                rw [List.take_of_length_le (by simp)]
                exact hq'
              · cases hh with
                | nil c m e z k =>
                  rw [e] at hlen ⊢
                  cases hlen
                  refine hw_append hu huu hnu hi hz hsz hb rfl ?_ k
                  intro h' Q' hh' hq'
                  subst hh'
                  exact hq'
                | mk a m c e vs l r k =>
                  rw [e] at hlen ⊢
                  cases hlen
                  refine hw_append hu huu hnu hi hz hsz hb rfl ?_ k
                  intro h' Q' hh' hq'
                  subst hh'
                  exact hw_loadCells l r hq'
            · exact hh.elim
          · exact s_raw hq hh
        · subst hx; exact s_raw hq hh
      · subst hx; exact s_raw hq hh
    · subst hx; exact s_raw hq hh
  · subst hx; exact s_raw hq hh

theorem s_copy {c : AOp} {args : Array Operand} {argTypes : Array TypeId} (hx : compOp P ⟨dst, .call ⟨.builtin .copy, args, argTypes⟩, type, pos, after, guard⟩ = c)
    (hq : q = true → quietK c = true) (hh : aop P c ev h K E) : hw P q (execOp ev ⟨dst, .call ⟨.builtin .copy, args, argTypes⟩, type, pos, after, guard⟩) h K E := by
  unfold compOp at hx
  dsimp only at hx
  cases q with
  | true =>
    exfalso
    have h0 := hq rfl
    clear hh hq
    repeat' (split at hx)
    all_goals (subst hx; cases h0)
  | false =>
  split at hx
  · rename_i x y t rest hargs htypes
    split at hx
    · rename_i e hu
      split at hx <;> subst hx
      · rename_i s hs
        have ha : args = #[x, y] := by apply Array.ext'; simpa using hargs
        have ht : argTypes = (t :: rest).toArray := by apply Array.ext'; simpa using htypes
        subst ha ht
        simp only [aop] at hh
        have hm : (#[x, y] : Array Operand).map ev = #[ev x, ev y] := by simp
        show hw P false (do pure (Next.value (← Builtin.copy_ (t :: rest).toArray type ((#[x, y] : Array Operand).map ev)))) h K E
        rw [hm]
        refine v_of ?_
        have e0 : (t :: rest).toArray[0]? = some t := by simp
        have e2 : ∀ a b : Value, (#[a, b] : Array Value)[0]? = some a := fun _ _ => rfl
        have e3 : ∀ a b : Value, (#[a, b] : Array Value)[1]? = some b := fun _ _ => rfl
        unfold Builtin.copy_
        rw [e0, e2, e3]
        dsimp only
        show hw P false (underlying t >>= _) h _ E
        rw [hw_bind', hw_underlying hu]
        dsimp only
        split at hh
        · rename_i a len cap n hex hlen
          rw [hex]
          dsimp only
          rw [hw_bind', hw_lenOf hlen, hw_bind', hw_size hs, hw_bind']
          have fin : ∀ vs : List Value, HStoreO h a vs (fun h' => K (.value (.int .i64 (Nat.min n len : Nat))) h') → hw P false (do
              if let some a := a then storeCells a vs
              pure (goInt (Nat.min n len))) h (fun v h' => K (.value v) h') E := by
            intro vs hv
            cases hv with
            | none e z k => subst e; exact k
            | mk p e k =>
              subst e
              obtain ⟨one, there, kk⟩ := k
              dsimp only
              rw [hw_bind']
              exact hw_storeCells' one there kk
          split at hh
          · rename_i str hey
            rw [hey]
            refine hw_firstStr ?_
            exact fin _ hh
          · cases hh with
            | nil c m e z k =>
              rw [e]
              show hw P false (pure #[]) h _ E
              rw [hw_pure]
              exact fin [] k
            | mk b m c e vs l r k =>
              rw [e]
              refine hw_loadCells l r ?_
              exact fin vs k
        · exact hh.elim
      · exact s_raw hq hh
    · subst hx; exact s_raw hq hh
  · subst hx; exact s_raw hq hh

theorem hw_findKey {key : TypeId} {d : TypeDesc} {k : Value} {es : List MapEntry} {f : Option (Nat × Value)} {Q : Option (Nat × Value) → Heap → Prop} (hu : P.underlying key = some d)
    (hf : Instr.findNow d k es 0 = some f) (hh : Q f h) : hw P q (Instr.findKey key k es) h Q E := by
  unfold Instr.findKey
  rw [hw_bind', hw_underlying hu, hf]
  exact hh
theorem hw_checkKey {b : Bool} {key : TypeId} {d : TypeDesc} {k : Value} {Q : Unit → Heap → Prop} (hu : P.underlying key = some d) (hd : d = .string ∨ ∃ k, d = .int k)
    (hh : Q () h) : hw P q (Instr.checkKey b 10000 key k) h Q E := by
  show hw P q (Instr.checkKey b (9999 + 1) key k) h Q E
  unfold Instr.checkKey
  rw [hw_bind', hw_underlying hu]
  rcases hd with rfl | ⟨kk, rfl⟩ <;> exact hh
theorem hw_getMap {r : Nat} {es : Array MapEntry} {clock : Nat} {α : Type} {f : Obj → Sem α} {Q : α → Heap → Prop} (e : h[r]? = some (.map es clock)) (hh : hw P q (f (.map es clock)) h Q E) :
    hw P q (getObj r >>= f) h Q E := by
  show hw P q (.getObj r fun o => f o) h Q E
  simp only [hw, e]
  exact hh
theorem s_lookup {c : AOp} {t : TypeId} {x i : Operand} {ok : Bool} (hx : compOp P ⟨dst, .lookup t x i ok, type, pos, after, guard⟩ = c) (hq : q = true → quietK c = true)
    (hh : aop P c ev h K E) : hw P q (execOp ev ⟨dst, .lookup t x i ok, type, pos, after, guard⟩) h K E := by
  unfold compOp at hx
  dsimp only at hx
  have go : ∀ (key elem : TypeId) (d : TypeDesc) (z : Value), P.underlying t = some (.map key elem) → P.underlying key = some d → (d = .string ∨ ∃ k, d = .int k) → zeroOf P elem = some z →
      aop P (.lookMap d z ok x i) ev h K E → hw P q (execOp ev ⟨dst, .lookup t x i ok, type, pos, after, guard⟩) h K E := by
    intro key elem d z h1 h2 h3 h4 hh
    refine v_of ?_
    show hw P q (Instr.lookup t (ev x) (ev i) ok) h _ E
    unfold Instr.lookup
    rw [hw_bind', hw_underlying h1]
    simp only [aop] at hh
    split at hh
    · rename_i e
      rw [e]
      (try dsimp only)
      rw [hw_bind', hw_pure, hw_bind']
      refine hw_checkKey h2 h3 ?_
      rw [hw_bind']
      refine hw_findKey h2 rfl ?_
      (try dsimp only)
      rw [hw_bind', hw_zero h4]
      cases ok <;> exact hh
    · rename_i r e
      rw [e]
      obtain ⟨es, clock, f, e1, hf, k⟩ := hh
      (try dsimp only)
      refine hw_getMap e1 ?_
      (try dsimp only)
      rw [hw_bind', hw_pure, hw_bind']
      refine hw_checkKey h2 h3 ?_
      rw [hw_bind']
      refine hw_findKey h2 hf ?_
      cases f with
      | none =>
        (try dsimp only)
        rw [hw_bind', hw_zero h4]
        cases ok <;> exact k
      | some p => cases ok <;> exact k
    · exact hh.elim
  split at hx
  · rename_i key elem hu
    split at hx
    · rename_i z hk hz; subst hx; exact go key elem _ z hu hk (.inl rfl) hz hh
    · rename_i kk z hk hz; subst hx; exact go key elem _ z hu hk (.inr ⟨_, rfl⟩) hz hh
    · subst hx; exact s_raw hq hh
  · subst hx; exact s_raw hq hh
theorem s_update {c : AOp} {t : TypeId} {m k x : Operand} (hx : compOp P ⟨dst, .mapUpdate t m k x, type, pos, after, guard⟩ = c) (hq : q = true → quietK c = true)
    (hh : aop P c ev h K E) : hw P q (execOp ev ⟨dst, .mapUpdate t m k x, type, pos, after, guard⟩) h K E := by
  unfold compOp at hx
  dsimp only at hx
  have go : ∀ (key elem : TypeId) (d : TypeDesc), q = false → P.underlying t = some (.map key elem) → P.underlying key = some d → (d = .string ∨ ∃ k, d = .int k) →
      aop P (.setMap d m k x) ev h K E → hw P q (execOp ev ⟨dst, .mapUpdate t m k x, type, pos, after, guard⟩) h K E := by
    intro key elem d hq h1 h2 h3 hh
    subst hq
    refine u_of ?_
    show hw P false (Instr.mapUpdate t (ev m) (ev k) (ev x)) h _ E
    unfold Instr.mapUpdate
    rw [hw_bind', hw_underlying h1]
    simp only [aop] at hh
    split at hh
    · rename_i r e
      rw [e]
      obtain ⟨es, clock, f, e1, hf, kk⟩ := hh
      (try dsimp only)
      refine hw_getMap e1 ?_
      (try dsimp only)
      rw [hw_bind']
      refine hw_checkKey h2 h3 ?_
      rw [hw_bind']
      refine hw_findKey h2 hf ?_
      have set : ∀ o, K .skip (h.setIfInBounds r o) → hw P false (setObj r o) h (fun _ h' => K .skip h') E := by
        intro o ho
        show hw P false (.setObj r o (.pure ())) h _ E
        simp only [hw, e1]
        exact ho
      cases f with
      | none => exact set _ kk
      | some p =>
        obtain ⟨i, v⟩ := p
        obtain ⟨hb, kk⟩ := kk
        (try dsimp only)
        unfold Instr.keyThatStays
        rw [hw_bind', if_pos hb, hw_pure]
        exact set _ kk
    · exact hh.elim
  split at hx
  · rename_i key elem hu
    split at hx
    · rename_i hk
      subst hx
      cases q with
      | true => cases hq rfl
      | false => exact go key elem _ rfl hu hk (.inl rfl) hh
    · rename_i kk hk
      subst hx
      cases q with
      | true => cases hq rfl
      | false => exact go key elem _ rfl hu hk (.inr ⟨_, rfl⟩) hh
    · subst hx; exact s_raw hq hh
  · subst hx; exact s_raw hq hh
theorem s_len {c : AOp} {args : Array Operand} {argTypes : Array TypeId} (hx : compOp P ⟨dst, .call ⟨.builtin .len, args, argTypes⟩, type, pos, after, guard⟩ = c)
    (hq : q = true → quietK c = true) (hh : aop P c ev h K E) : hw P q (execOp ev ⟨dst, .call ⟨.builtin .len, args, argTypes⟩, type, pos, after, guard⟩) h K E := by
  unfold compOp at hx
  dsimp only at hx
  split at hx
  · rename_i x t hargs htypes
    have ha : args = #[x] := by apply Array.ext'; simpa using hargs
    have ht : argTypes = #[t] := by apply Array.ext'; simpa using htypes
    have hm : (#[x] : Array Operand).map ev = #[ev x] := by simp
    subst ha ht
    have start : hw P q (Builtin.len_ #[t] type #[ev x]) h (fun v h' => K (.value v) h') E → hw P q (execOp ev ⟨dst, .call ⟨.builtin .len, #[x], #[t]⟩, type, pos, after, guard⟩) h K E := by
      intro hb
      show hw P q (do pure (Next.value (← Builtin.len_ #[t] type ((#[x] : Array Operand).map ev)))) h K E
      rw [hm]
      exact v_of hb
    split at hx
    · rename_i hu
      subst hx
      simp only [aop] at hh
      split at hh
      · rename_i s hs
        refine start ?_
        rw [hs]
        show hw P q (underlying t >>= _) h _ E
        rw [hw_bind', hw_underlying hu]
        exact hh
      · exact hh.elim
    · rename_i hu
      subst hx
      simp only [aop] at hh
      split at hh
      · rename_i a n c hs
        refine start ?_
        rw [hs]
        show hw P q (underlying t >>= _) h _ E
        rw [hw_bind', hw_underlying hu]
        exact hh
      · exact hh.elim
    · rename_i hu
      subst hx
      simp only [aop] at hh
      refine start ?_
      show hw P q (underlying t >>= _) h _ E
      rw [hw_bind', hw_underlying hu]
      exact hh
    · rename_i hu
      subst hx
      simp only [aop] at hh
      split at hh
      · rename_i e
        refine start ?_
        rw [e]
        show hw P q (underlying t >>= _) h _ E
        rw [hw_bind', hw_underlying hu]
        exact hh
      · rename_i r e
        refine start ?_
        rw [e]
        obtain ⟨es, clock, e1, k⟩ := hh
        show hw P q (underlying t >>= _) h _ E
        rw [hw_bind', hw_underlying hu]
        exact hw_getMap e1 k
      · exact hh.elim
    · subst hx; exact s_raw hq hh
  · subst hx; exact s_raw hq hh

theorem hw_mnmx {mx : Bool} {k : IntKind} {Q : Value → Heap → Prop} : ∀ (ys : List Operand) (a : Int), (mnmx mx ev k ys a fun m => Q (.int k m) h) →
    hw P q ((ys.map ev).foldlM (fun x y => match mx with | true => Builtin.max2 x y | false => Builtin.min2 x y) (.int k a)) h Q E
  | [], a, hh => hh
  | y :: ys, a, hh => by
    simp only [mnmx] at hh
    split at hh
    · rename_i k' b hb
      rw [List.map_cons, List.foldlM_cons, hw_bind', hb]
      have := hw_mnmx ys _ hh
      cases mx <;> exact this
    · exact hh.elim

theorem s_max {c : AOp} {args : Array Operand} {argTypes : Array TypeId} (hx : compOp P ⟨dst, .call ⟨.builtin .max, args, argTypes⟩, type, pos, after, guard⟩ = c)
    (hq : q = true → quietK c = true) (hh : aop P c ev h K E) : hw P q (execOp ev ⟨dst, .call ⟨.builtin .max, args, argTypes⟩, type, pos, after, guard⟩) h K E := by
  unfold compOp at hx
  dsimp only at hx
  split at hx <;> subst hx
  · rename_i x ys hargs
    simp only [aop] at hh
    split at hh
    · rename_i k a ha
      show hw P q (do pure (Next.value (← Builtin.max_ argTypes type (args.map ev)))) h K E
      refine v_of ?_
      unfold Builtin.max_
      have : (args.map ev).toList = ev x :: ys.map ev := by simp [hargs]
      rw [this, ha]
      exact hw_mnmx (mx := true) ys a hh
    · exact hh.elim
  · exact s_raw hq hh
theorem s_min {c : AOp} {args : Array Operand} {argTypes : Array TypeId} (hx : compOp P ⟨dst, .call ⟨.builtin .min, args, argTypes⟩, type, pos, after, guard⟩ = c)
    (hq : q = true → quietK c = true) (hh : aop P c ev h K E) : hw P q (execOp ev ⟨dst, .call ⟨.builtin .min, args, argTypes⟩, type, pos, after, guard⟩) h K E := by
  unfold compOp at hx
  dsimp only at hx
  split at hx <;> subst hx
  · rename_i x ys hargs
    simp only [aop] at hh
    split at hh
    · rename_i k a ha
      show hw P q (do pure (Next.value (← Builtin.min_ argTypes type (args.map ev)))) h K E
      refine v_of ?_
      unfold Builtin.min_
      have : (args.map ev).toList = ev x :: ys.map ev := by simp [hargs]
      rw [this, ha]
      exact hw_mnmx (mx := false) ys a hh
    · exact hh.elim
  · exact s_raw hq hh

theorem goes_callFunc {f : FuncId} {args : Array Value} {Q : Next → Heap → Prop} (hg : goesIn P f = true) (hq : Q (.enter f args) h) : hw P q (callFunc f args) h Q E := by
  unfold goesIn at hg
  unfold callFunc
  rw [hw_bind', hw_program']
  cases hf : P.funcs[f]? with
  | none => rw [hf] at hg; cases hg
  | some fn =>
    rw [hf] at hg
    simp only [Bool.and_eq_true, bne_iff_ne, ne_eq] at hg
    dsimp only
    have h1 : (fn.name == "runtime.NumGoroutine") = false := by simpa using hg.2
    have h2 : fn.body.isNone = false := by cases hb : fn.body <;> simp_all
    simp only [h1, h2, Bool.false_eq_true, if_false]
    exact hq

theorem s_callF {c : AOp} {f : FuncId} {args : Array Operand} {argTypes : Array TypeId} (hx : compOp P ⟨dst, .call ⟨.value (.func f), args, argTypes⟩, type, pos, after, guard⟩ = c)
    (hev : ev (.func f) = .func (.func f) #[] #[])
    (hq : q = true → quietK c = true) (hh : aop P c ev h K E) : hw P q (execOp ev ⟨dst, .call ⟨.value (.func f), args, argTypes⟩, type, pos, after, guard⟩) h K E := by
  unfold compOp at hx
  dsimp only at hx
  split at hx <;> subst hx
  · rename_i hg
    show hw P q (do let d ← Deferred.ofValue (ev (.func f)) (args.map ev); invoke d.target d.args) h K E
    rw [hev]
    show hw P q (callFunc f ((#[] ++ args.map ev) ++ #[])) h K E
    refine goes_callFunc hg ?_
    simp only [aop] at hh
    have : (#[] ++ args.map ev) ++ #[] = (args.toList.map ev).toArray := by apply Array.ext'; simp
    rw [this]; exact hh
  · exact s_raw hq hh

theorem s_callV {t : Nat} {args : Array Operand} {argTypes : Array TypeId}
    (hh : aop P (.callV (.tmp t) args.toList) ev h K E) : hw P q (execOp ev ⟨dst, .call ⟨.value (.tmp t), args, argTypes⟩, type, pos, after, guard⟩) h K E := by
  simp only [aop] at hh
  split at hh
  · rename_i f first captured hx
    obtain ⟨hg, k⟩ := hh
    show hw P q (do let d ← Deferred.ofValue (ev (.tmp t)) (args.map ev); invoke d.target d.args) h K E
    rw [hx]
    show hw P q (callFunc f ((first ++ args.map ev) ++ captured)) h K E
    refine goes_callFunc hg ?_
    have : (first ++ args.map ev) ++ captured = ((first.toList ++ args.toList.map ev) ++ captured.toList).toArray := by apply Array.ext'; simp
    rw [this]; exact k
  · rename_i l first captured hx
    obtain ⟨r, hl, hs, k⟩ := hh
    show hw P q (do let d ← Deferred.ofValue (ev (.tmp t)) (args.map ev); invoke d.target d.args) h K E
    rw [hx]
    show hw P q (Instr.yield l (first ++ args.map ev)) h K E
    have ea : first ++ args.map ev = (first.toList ++ args.toList.map ev).toArray := by apply Array.ext'; simp
    rw [ea]
    unfold Instr.yield Instr.getLoop
    rw [hw_bind', hw_bind']
    simp only [getObj, H.hw, hl, hw_pure]
    simp only [hs, ne_eq, not_true_eq_false, if_false]
    exact k
  · exact hh.elim

theorem s_assert {c : AOp} {x : Operand} {u t : TypeId} {ok : Bool} (hx : compOp P ⟨dst, .typeAssert x u t ok, type, pos, after, guard⟩ = c) (hq : q = true → quietK c = true) (hh : aop P c ev h K E) :
    hw P q (execOp ev ⟨dst, .typeAssert x u t ok, type, pos, after, guard⟩) h K E := by
  unfold compOp at hx
  dsimp only at hx
  split at hx
  · subst hx; exact s_raw hq hh
  · rename_i d z hni hu hz
    subst hx
    refine v_of ?_
    show hw P q (Instr.typeAssert (ev x) u t ok) h _ E
    unfold Instr.typeAssert
    dsimp only
    rw [hw_bind', hw_underlying hu]
    have fails : ∀ (a b : Option TypeId) (m : String), ok = true → K (.value (.tuple #[z, .bool false])) h →
        hw P q (if ok = true then (do let v ← zeroValue t; pure (.tuple #[v, .bool false])) else runtimePanic (.typeAssertion a b t m) : Sem Value) h (fun v h' => K (.value v) h') E := by
      intro a b m e k
      rw [if_pos e, hw_bind', hw_zero hz]; exact k
    simp only [aop] at hh
    split at hh
    · rename_i e
      rw [e]
      split at hh
      · cases d <;> first | exact (hni _ rfl).elim | exact fails _ _ _ rfl hh
      · exact hh.elim
    · rename_i w v e
      rw [e]
      obtain ⟨h1, h2⟩ := hh
      have key : hw P q (if w = t then pure (if ok = true then .tuple #[v, .bool true] else v) else (if ok = true then (do let v ← zeroValue t; pure (.tuple #[v, .bool false])) else runtimePanic (.typeAssertion (some u) (some w) t "") : Sem Value)) h (fun v h' => K (.value v) h') E := by
        by_cases hw' : w = t
        · rw [if_pos hw']
          have := h1 (by rw [hw']; exact Nat.beq_refl t)
          cases ok <;> exact this
        · rw [if_neg hw']
          have := h2 (by cases hb : Nat.beq w t with | true => exact absurd (Nat.eq_of_beq_eq_true hb) hw' | false => rfl)
          cases ok with
          | true => exact fails _ _ _ rfl this
          | false => exact this.elim
      cases d <;> first | exact (hni _ rfl).elim | exact key
    · exact hh.elim
  · subst hx; exact s_raw hq hh

theorem s_defer {c : AOp} {t : Nat} {args : Array Operand} {argTypes : Array TypeId} (hx : compOp P ⟨dst, .defer ⟨.value (.tmp t), args, argTypes⟩, type, pos, after, guard⟩ = c) (hq : q = true → quietK c = true) (hh : aop P c ev h K E) :
    hw P q (execOp ev ⟨dst, .defer ⟨.value (.tmp t), args, argTypes⟩, type, pos, after, guard⟩) h K E := by
  unfold compOp at hx
  dsimp only at hx
  split at hx
  · rename_i ha
    subst hx
    simp only [aop] at hh
    split at hh
    · rename_i f first captured e
      obtain ⟨_, k⟩ := hh
      show hw P q (do let d ← Deferred.ofValue (ev (.tmp t)) (args.map ev); pure (.defer d)) h K E
      have : args = #[] := by cases args; simpa using ha
      subst this
      rw [e]
      have e2 : first ++ (#[] : Array Operand).map ev = first := by simp
      show hw P q (pure (.defer { target := .fn (.func f) captured, args := first ++ (#[] : Array Operand).map ev })) h K E
      rw [e2]; exact k
    · exact hh.elim
  · subst hx; exact s_raw hq hh

theorem hw_asInt {k : IntKind} {n : Int} {Q : Int → Heap → Prop} : hw P q (asInt (.int k n)) h Q E = Q n h := rfl
theorem hw_loadBytes {Q : ByteArray → Heap → Prop} : ∀ (l : List UInt8) (a : Addr) (acc : ByteArray), (∀ j, j < l.length → hcell h (a.add j) = some (.int .u8 ((l[j]!).toNat : Nat))) → Q ⟨acc.data ++ l.toArray⟩ h → hw P q (loadBytes a acc l.length) h Q E
  | [], a, acc, _, hq => by
    simp at hq
    exact hq
  | x :: l, a, acc, hc, hq => by
    have h0 : hcell h a = some (.int .u8 (x.toNat : Nat)) := by
      have := hc 0 (by simp)
      simpa [Addr.add] using this
    have ea : ∀ j, (a.add 1).add j = a.add (1 + j) := by
      intro j
      unfold Addr.add
      by_cases hj : j = 0
      · subst hj; simp
      · simp [hj, Nat.add_assoc]
    show hw P q (load a >>= _) h Q E
    rw [hw_bind', hw_load h0]
    dsimp only
    refine hw_loadBytes l (a.add 1) _ (fun j hj => ?_) ?_
    · have := hc (1 + j) (by simp; omega)
      rw [ea, this]
      congr 3
      rw [Nat.add_comm]; simp
    · have e : ((x.toNat : Int).toNat.toUInt8) = x := by simp
      have e2 : (⟨(acc.push ((x.toNat : Int).toNat.toUInt8)).data ++ l.toArray⟩ : ByteArray) = ⟨acc.data ++ (x :: l).toArray⟩ := by
        rw [e]
        congr 1
        show acc.data.push x ++ l.toArray = _
        apply Array.ext'
        simp
      rw [e2]
      exact hq
theorem s_ustr {c : AOp} {args : Array Operand} {argTypes : Array TypeId} (hx : compOp P ⟨dst, .call ⟨.builtin .unsafeString, args, argTypes⟩, type, pos, after, guard⟩ = c)
    (hq : q = true → quietK c = true) (hh : aop P c ev h K E) : hw P q (execOp ev ⟨dst, .call ⟨.builtin .unsafeString, args, argTypes⟩, type, pos, after, guard⟩) h K E := by
  unfold compOp at hx
  dsimp only at hx
  split at hx
  · rename_i x y t rest hargs htypes
    have ha : args = #[x, y] := by apply Array.ext'; simpa using hargs
    have ht : argTypes[0]? = some t := by rw [← Array.getElem?_toList, htypes]; rfl
    subst ha
    split at hx
    · rename_i e hu
      subst hx
      cases q with
      | true => cases hq rfl
      | false =>
        refine v_of ?_
        show hw P false (Builtin.unsafeString_ argTypes type ((#[x, y] : Array Operand).map ev)) h _ E
        have hm : (#[x, y] : Array Operand).map ev = #[ev x, ev y] := by simp
        rw [hm]
        simp only [aop] at hh
        unfold Builtin.unsafeString_
        split at hh
        · rename_i k m hx' hy'
          rw [hx', hy']
          obtain ⟨rfl, kk⟩ := hh
          show hw P false (asInt (.int k 0) >>= _) h _ E
          rw [hw_bind', hw_asInt]
          simp only [ht]
          exact kk
        · rename_i a k m hx' hy'
          rw [hx', hy']
          show hw P false (asInt (.int k m) >>= _) h _ E
          rw [hw_bind', hw_asInt]
          simp only [ht]
          cases hh with
          | zero e0 kk => subst e0; exact kk
          | mk s cells e0 hn hmx h0 hs hl hc r kk =>
            subst e0
            have e1 : ¬ ((s.size : Int) < 0) := by omega
            have e2 : ¬ ((s.size : Int) > IntKind.i64.max) := by show ¬ ((s.size : Int) > 9223372036854775807); omega
            have e3 : ¬ ((s.size : Int) = 0) := by omega
            simp only [e1, e2, e3, if_false]
            show hw P false (elemOf t >>= _) h _ E
            have he : ∀ (Q : TypeId → Heap → Prop), Q e h → hw P false (elemOf t) h Q E := by
              intro Q hq'
              unfold elemOf
              rw [hw_bind', hw_underlying hu]
              exact hq'
            rw [hw_bind']
            refine he _ ?_
            rw [hw_bind']
            have hv : ∀ (Q : Bool → Heap → Prop), Q true h → hw P false (variablesAt a e (s.size : Int).toNat) h Q E := by
              intro Q hq'
              unfold variablesAt
              rw [hw_bind', hw_program']
              show hw P false (shape a.block >>= _) h Q E
              rw [hw_bind']
              show hw P false _ h _ E
              simp only [shape, H.hw, hs]
              have := Go.Lib.liesAt_bytes (P := P) hc (cells / P.cellsOf e) s.size (by rw [hc]; simpa using hl)
              show Q (liesAt P P.depth e (cells / P.cellsOf e) a.off e (s.size : Int).toNat) h
              rw [h0, Int.toNat_natCast, this]
              exact hq'
            refine hv _ ?_
            simp only [if_true]
            rw [hw_bind']
            have hlen : s.data.toList.length = (s.size : Int).toNat := by rw [Int.toNat_natCast]; rfl
            rw [← hlen]
            refine hw_loadBytes s.data.toList a .empty (fun j hj => ?_) ?_
            · have hj' : j < s.size := hj
              have q1 : j < s.data.size := hj'
              have e5 : s.data[j]! = s.data.toList[j]! := by
                rw [getElem!_pos s.data j q1, getElem!_pos s.data.toList j hj]; rfl
              rw [r j hj', e5]
            · have es : (⟨ByteArray.empty.data ++ s.data.toList.toArray⟩ : ByteArray) = s := by
                cases s with | mk d =>
                  show (⟨#[] ++ d.toList.toArray⟩ : ByteArray) = ⟨d⟩
                  simp
              rw [es, hlen]
              simp only [Int.toNat_natCast]
              exact kk
        · exact hh.elim
    · subst hx; exact s_raw hq hh
  · subst hx; exact s_raw hq hh
theorem s_sldata {c : AOp} {args : Array Operand} {argTypes : Array TypeId} (hx : compOp P ⟨dst, .call ⟨.builtin .unsafeSliceData, args, argTypes⟩, type, pos, after, guard⟩ = c)
    (hq : q = true → quietK c = true) (hh : aop P c ev h K E) : hw P q (execOp ev ⟨dst, .call ⟨.builtin .unsafeSliceData, args, argTypes⟩, type, pos, after, guard⟩) h K E := by
  unfold compOp at hx
  dsimp only at hx
  split at hx
  · rename_i x hargs
    have ha : args = #[x] := by apply Array.ext'; simpa using hargs
    subst ha hx
    refine v_of ?_
    show hw P q (Builtin.unsafeSliceData_ argTypes type ((#[x] : Array Operand).map ev)) h _ E
    have hm : (#[x] : Array Operand).map ev = #[ev x] := by simp
    rw [hm]
    simp only [aop] at hh
    unfold Builtin.unsafeSliceData_
    split at hh
    · rename_i hx'; rw [hx']; exact hh
    · rename_i a n c hx'
      obtain ⟨hc, kk⟩ := hh
      rw [hx']
      show hw P q (if c ≠ 0 then (pure (Value.pointer (some a)) : Sem Value) else _) h _ E
      rw [if_pos hc]
      exact kk
    · exact hh.elim
  · subst hx; exact s_raw hq hh

theorem compOp_sound {o : Oper} (hev : ∀ f, ev (.func f) = .func (.func f) #[] #[]) (hec : ∀ c, ev (.const c) = c) (hq : q = true → quietK (compOp P o) = true) (hh : aop P (compOp P o) ev h K E) :
    hw P q (execOp ev o) h K E := by
  obtain ⟨dst, op, type, pos, after, guard⟩ := o
  cases op with
  | move x => exact hh
  | assign x => exact hh
  | pick c a b =>
    change aop P (.pick c a b) ev h K E at hh
    simp only [aop] at hh
    split at hh
    · rename_i t ht
      obtain ⟨h1, h2⟩ := hh
      show hw P q (do pure (Next.value (if ← asBool (ev c) then ev a else ev b))) h K E
      rw [ht]
      cases t
      · exact h2 rfl
      · exact h1 rfl
    · exact hh.elim
  | alloc e => exact s_alloc rfl hq hh
  | box e x => exact s_box hq hh
  | build t parts => exact s_build rfl hq hh
  | buildSlice t len parts => exact s_buildSlice rfl hq hh
  | load t x => exact s_load rfl hq hh
  | store t a x => exact s_store rfl hq hh
  | nilCheck x => exact s_nilCheck hh
  | binOp op t x y u => exact s_binOp hec rfl hq hh
  | unOp op t x => exact s_unOp hh
  | convert a b x => exact s_convert rfl hq hh
  | makeInterface t x => exact s_makeInterface rfl hq hh
  | makeFunc fn a b => exact s_makeFunc hh
  | makeSlice t a b => exact s_makeSlice rfl hq hh
  | slice t x a b c => exact s_slice rfl hq hh
  | fieldAddr t x i => exact s_fieldAddr rfl hq hh
  | field t x i => exact s_field rfl hq hh
  | indexAddr t x i => exact s_indexAddr rfl hq hh
  | index t x i => exact s_index rfl hq hh
  | extract x i => exact s_extract hh
  | call c =>
    obtain ⟨callee, args, argTypes⟩ := c
    cases callee with
    | builtin b =>
      cases b with
      | len => exact s_len rfl hq hh
      | append => exact s_append rfl hq hh
      | copy => exact s_copy rfl hq hh
      | max => exact s_max rfl hq hh
      | min => exact s_min rfl hq hh
      | unsafeString => exact s_ustr rfl hq hh
      | unsafeSliceData => exact s_sldata rfl hq hh
      | _ => exact s_raw hq hh
    | value f =>
      cases f with
      | func f => exact s_callF rfl (hev f) hq hh
      | tmp t => exact s_callV hh
      | _ => exact s_raw hq hh
    | invoke r m => exact s_raw hq hh
  | «panic» x =>
    cases q with
    | true => cases hq rfl
    | false =>
      refine v_of ?_
      have hh' : aop P (.panicI x) ev h K E := hh
      simp only [aop] at hh'
      split at hh'
      · rename_i t v e
        show hw P false (Instr.panic (ev x)) h _ E
        rw [e]
        exact hh'
      · exact hh'.elim
  | typeAssert x u t ok => exact s_assert rfl hq hh
  | «defer» c =>
    obtain ⟨callee, args, argTypes⟩ := c
    cases callee with
    | value f =>
      cases f with
      | tmp t => exact s_defer rfl hq hh
      | _ => exact s_raw hq hh
    | _ => exact s_raw hq hh
  | lookup t x i ok => exact s_lookup rfl hq hh
  | mapUpdate t m k x => exact s_update rfl hq hh
  | makeMap t r =>
    cases r with
    | some r => exact s_raw hq hh
    | none =>
      cases q with
      | true => cases hq rfl
      | false =>
        obtain ⟨k⟩ := (show HNew h (.map #[] 0) (fun b h' => K (.value (.map (some b))) h') from hh)
        refine v_of ?_
        exact k
  | _ => exact s_raw hq hh

end
end Go.H
