/- Proof texts, laid together. -/
import Derived.Test.YtlogpojkkbcpjaaPa
import Derived.ChangeArms
import Derived.JoinedCond
import Derived.Shelf.Vars
/- Trees of a program's text that came in. -/
set_option linter.unusedVariables false
set_option linter.unusedSimpArgs false
namespace Go.Proofs.Ytlogpojkkbcpjaa.RU
open Go Go.H Go.Proofs Go.ChangeShapes Go.WideShapes Go.RowKit
set_option maxRecDepth 100000
theorem list_ex {α β : Type} : ∀ (l : List α) (R : Nat → α → β → Prop) (_ : ∀ i (hi : i < l.length), ∃ b, R i l[i] b), ∃ bs : List β, bs.length = l.length ∧ ∀ i (hi : i < l.length) (hb : i < bs.length), R i l[i] bs[i]
  | [], R, h => ⟨[], rfl, fun i hi => by simp at hi⟩
  | a :: l, R, h => by
    obtain ⟨b, hb⟩ := h 0 (by simp)
    obtain ⟨bs, h1, h2⟩ := list_ex l (fun i => R (i + 1)) fun i hi => h (i + 1) (by simpa using hi)
    refine ⟨b :: bs, by simp [h1], fun i hi hj => ?_⟩
    cases i with
    | zero => exact hb
    | succ i => exact h2 i (by simpa using hi) (by simpa using hj)
theorem sum_le {α β : Type} (f : β → Nat) (g : α → Nat) : ∀ (l : List α) (bs : List β), bs.length = l.length → (∀ i (hi : i < l.length) (hb : i < bs.length), f bs[i] ≤ g l[i]) → (bs.map f).sum ≤ (l.map g).sum
  | [], [], _, _ => by simp
  | a :: l, b :: bs, hl, h => by
    have h0 := h 0 (by simp) (by simp)
    have h1 := sum_le f g l bs (by simpa using hl) fun i hi hb => h (i + 1) (by simpa using hi) (by simpa using hb)
    simp only [List.map_cons, List.sum_cons, List.getElem_cons_zero] at h0 ⊢; omega
  | [], _ :: _, h, _ => by simp at h
  | _ :: _, [], h, _ => by simp at h
theorem bulk_sum {H : Type} : ∀ l : List (DataW H), Rows.uptoBulkAll l = (l.map Rows.uptoBulk).sum
  | [] => rfl
  | d :: r => by simp only [Rows.uptoBulkAll, List.map_cons, List.sum_cons, bulk_sum r]
theorem bulk_mem' {H : Type} : ∀ (l : List (DataW H)) (d : DataW H), d ∈ l → Rows.uptoBulk d ≤ Rows.uptoBulkAll l
  | [], d, h => by cases h
  | e :: r, d, h => by
    simp only [Rows.uptoBulkAll]
    rcases List.mem_cons.1 h with rfl | h
    · omega
    · have := bulk_mem' r d h; omega
theorem flat_get {α : Type} {n : Nat} : ∀ (l : List (List α)) (_ : ∀ x ∈ l, x.length = n) (i j : Nat) (hi : i < l.length) (_ : j < n), l.flatten[i * n + j]? = l[i][j]?
  | [], _, i, _, hi, _ => by simp at hi
  | a :: l, h, i, j, hi, hj => by
    have ha := h a (by simp)
    cases i with
    | zero => rw [List.flatten_cons, Nat.zero_mul, Nat.zero_add, List.getElem?_append_left (by omega)]; rfl
    | succ i =>
      rw [List.flatten_cons, List.getElem?_append_right (by rw [ha, Nat.add_mul]; omega), List.getElem_cons_succ, ← flat_get l (fun x hx => h x (by simp [hx])) i j (by simpa using hi) hj]
      congr 1; rw [ha, Nat.add_mul]; omega
theorem flat_len {α : Type} {n : Nat} : ∀ (l : List (List α)) (_ : ∀ x ∈ l, x.length = n), l.flatten.length = l.length * n
  | [], _ => by simp
  | a :: l, h => by rw [List.flatten_cons, List.length_append, h a (by simp), flat_len l (fun x hx => h x (by simp [hx])), List.length_cons, Nat.add_mul]; omega
end Go.Proofs.Ytlogpojkkbcpjaa.RU
namespace Go.Proofs.Ytlogpojkkbcpjaa.Hc
open Go Go.H Go.Proofs Go.ChangeShapes Go.WideShapes Go.RowKit
set_option maxRecDepth 100000
theorem treps_flat {h : Heap} : ∀ (l : List NT) (cs : List (List Value)), cs.length = l.length → (∀ i (hi : i < l.length) (hc : i < cs.length), TRep h l[i] cs[i]) → TReps h l cs.flatten
  | [], [], _, _ => by simp [TReps]
  | d :: l, c :: cs, hl, hr => by
    simp only [TReps]
    exact ⟨c, cs.flatten, by simp, hr 0 (by simp) (by simp), treps_flat l cs (by simpa using hl) fun i hi hc => hr (i + 1) (by simpa using hi) (by simpa using hc)⟩
  | [], _ :: _, h, _ => by simp at h
  | _ :: _, [], h, _ => by simp at h
theorem cnts_sum : ∀ l : List NT, cnts l = (l.map cnt).sum
  | [] => rfl
  | d :: r => by simp only [cnts, List.map_cons, List.sum_cons, cnts_sum r]
theorem ksum_len : ∀ ks : List ByteArray, ks.length ≤ (ks.map fun k => k.size + 1).sum
  | [] => by simp
  | k :: r => by have := ksum_len r; simp only [List.length_cons, List.map_cons, List.sum_cons]; omega
theorem ksum_mem : ∀ (ks : List ByteArray) (k : ByteArray), k ∈ ks → k.size ≤ (ks.map fun k => k.size + 1).sum
  | [], k, h => by cases h
  | e :: r, k, h => by
    simp only [List.map_cons, List.sum_cons]
    rcases List.mem_cons.1 h with rfl | h
    · omega
    · have := ksum_mem r k h; omega
section
variable {H : Type} {enc : TypeId × Value → H} {W : World} {base : Nat} {spare : Nat → Bool} {held : Bool}
theorem open_names {fuel : Nat} {cs : List Value} {x : DataW H × List MemPlace} (h : DataW.trod enc Try.prog W base spare held fuel 23 cs = some x) :
    ∃ (a : Option Addr) (ks : List ByteArray) (c : Nat), cs = [.slice a ks.length c] ∧ Sl W.heap 1 a ks.length c (ks.map .string) ∧ (ks.map fun k => k.size + 1).sum + 1 ≤ Rows.uptoBulk x.1 := by
  rcases DataW.trod_slice Try.underlying23 h with ⟨rfl, rfl⟩ | ⟨a, len, cap, elems, rest, n, _, rfl, rfl, hb, hl, hm, hlen, hel, _, _⟩
  · exact ⟨none, [], 0, rfl, Sl.nil _ _, by simp [Rows.uptoBulk]⟩
  have hc : Try.prog.cellsOf 9 = 1 := by kernel_rfl
  rw [hc] at hel
  have each : ∀ i (hi : i < elems.length), ∃ s : ByteArray, W.cell? (a.add i) = some (.string s) ∧ elems[i].1 = .lit (.string s.data.toList) ∧ s.size ≤ maxLen := by
    intro i hi
    have h1 := hel i (by omega)
    rw [List.getElem?_eq_getElem hi, Option.bind_eq_some_iff] at h1
    obtain ⟨cs, h2, h3⟩ := h1
    obtain ⟨s, rfl, h4, h5⟩ := DataW.trod_string Try.underlying9 h3
    have := cell_of_cells?_one h2
    rw [Nat.mul_one] at this
    exact ⟨s, this, by rw [h4], h5⟩
  obtain ⟨ks, k1, k2⟩ := RU.list_ex elems (fun i y s => W.cell? (a.add i) = some (.string s) ∧ y.1 = .lit (.string s.data.toList) ∧ s.size ≤ maxLen) each
  refine ⟨some a, ks, cap, by rw [k1, hlen], ⟨by simp, by omega, fun e => (by cases e), ?_⟩, ?_⟩
  · intro p ep i hi
    cases ep
    rw [Nat.mul_one] at hi
    have := (k2 i (by omega) hi).1
    rw [cell_eq] at this
    rw [this, List.getElem?_map, List.getElem?_eq_getElem hi]; rfl
  · have := RU.sum_le (fun k : ByteArray => k.size + 1) (fun y : DataW H × List MemPlace => Rows.uptoBulk y.1) elems ks k1 fun i hi hb => by
      rw [(k2 i hi hb).2.1]; simp only [Rows.uptoBulk]; exact Nat.le_refl _
    simp only [Rows.uptoBulk]
    rw [RU.bulk_sum, List.map_map]
    simp only [Function.comp_def]
    omega
theorem open_treesF {fuel : Nat} (ih : ∀ m, m < fuel → ∀ (cs : List Value) (x : DataW H × List MemPlace), DataW.trod enc Try.prog W base spare held m 26 cs = some x → Rows.uptoBulk x.1 ≤ 1048576 → ∃ t : NT, TRep W.heap t cs ∧ cnt t ≤ Rows.uptoBulk x.1)
    {cs : List Value} {x : DataW H × List MemPlace} (h : DataW.trod enc Try.prog W base spare held fuel 24 cs = some x) (hbk : Rows.uptoBulk x.1 ≤ 1048576) :
    ∃ (a : Option Addr) (l : List NT) (c : Nat) (xs : List Value), cs = [.slice a l.length c] ∧ Sl W.heap 6 a l.length c xs ∧ TReps W.heap l xs ∧ cnts l + 1 ≤ Rows.uptoBulk x.1 ∧ l.length ≤ 1048576 := by
  have hc : Try.prog.cellsOf 26 = 6 := by kernel_rfl
  rcases DataW.trod_slice Try.underlying24 h with ⟨rfl, rfl⟩ | ⟨a, len, cap, elems, rest, n', rfl, rfl, rfl, hb, hlc, hm, hlen, hel, _, _⟩
  · exact ⟨none, [], 0, [], rfl, Sl.nil _ _, by simp only [TReps], by simp [cnts, Rows.uptoBulk], by simp⟩
  rw [hc] at hel
  simp only [Rows.uptoBulk] at hbk
  have hle : len ≤ 1048576 := by have := RU.length_le (elems.map (·.1)); rw [List.length_map] at this; omega
  have each : ∀ i (hi : i < elems.length), ∃ y : NT × List Value, TRep W.heap y.1 y.2 ∧ (∀ j, j < 6 → hcell W.heap ((a.add (i * 6)).add j) = y.2[j]?) ∧ cnt y.1 ≤ Rows.uptoBulk elems[i].1 := by
    intro i hi
    have h1 := hel i (by omega)
    rw [List.getElem?_eq_getElem hi, Option.bind_eq_some_iff] at h1
    obtain ⟨cs, h2, h3⟩ := h1
    have hbi : Rows.uptoBulk elems[i].1 ≤ 1048576 := by
      have := RU.bulk_mem' (elems.map (·.1)) elems[i].1 (List.mem_map.2 ⟨_, List.getElem_mem hi, rfl⟩)
      omega
    obtain ⟨t, r, hv⟩ := ih n' (by omega) cs _ h3 hbi
    have h4 := World.cells?_some h2
    refine ⟨(t, cs), r, fun j hj => ?_, hv⟩
    have := h4.2.2 j hj
    rw [cell_eq] at this
    rw [this]
  obtain ⟨ys, k1, k2⟩ := RU.list_ex elems (fun i y (z : NT × List Value) => TRep W.heap z.1 z.2 ∧ (∀ j, j < 6 → hcell W.heap ((a.add (i * 6)).add j) = z.2[j]?) ∧ cnt z.1 ≤ Rows.uptoBulk y.1) each
  have hall : ∀ x ∈ ys.map (·.2), x.length = 6 := by
    intro x hx
    obtain ⟨z, hz, rfl⟩ := List.mem_map.1 hx
    obtain ⟨i, hi, rfl⟩ := List.getElem_of_mem hz
    exact (k2 i (by omega) hi).1.len
  have hyl : (ys.map (·.1)).length = len := by rw [List.length_map]; omega
  refine ⟨some a, ys.map (·.1), cap, (ys.map (·.2)).flatten, by rw [hyl], ⟨by rw [RU.flat_len _ hall]; simp, by omega, fun e => (by cases e), ?_⟩, treps_flat (ys.map (·.1)) (ys.map (·.2)) (by simp) ?_, ?_, by omega⟩
  · intro p ep i hi
    cases ep
    rw [hyl] at hi
    have hq : i / 6 < ys.length := by omega
    have h5 := (k2 (i / 6) (by omega) hq).2.1 (i % 6) (by omega)
    rw [add_add, show i / 6 * 6 + i % 6 = i by omega] at h5
    have h6 := RU.flat_get (ys.map (·.2)) hall (i / 6) (i % 6) (by simpa using hq) (by omega)
    rw [show i / 6 * 6 + i % 6 = i by omega, List.getElem_map] at h6
    rw [h5, h6]
  · intro i hi hc'
    rw [List.getElem_map, List.getElem_map]
    exact (k2 i (by simpa [k1] using hi) (by simpa using hi)).1
  · have := RU.sum_le (fun z : NT × List Value => cnt z.1) (fun y : DataW H × List MemPlace => Rows.uptoBulk y.1) elems ys k1 fun i hi hb => (k2 i hi hb).2.2
    rw [cnts_sum, List.map_map]
    simp only [Rows.uptoBulk]
    rw [RU.bulk_sum, List.map_map]
    simp only [Function.comp_def] at this ⊢
    omega
theorem open_tree : ∀ (fuel : Nat) (cs : List Value) (x : DataW H × List MemPlace), DataW.trod enc Try.prog W base spare held fuel 26 cs = some x → Rows.uptoBulk x.1 ≤ 1048576 → ∃ t : NT, TRep W.heap t cs ∧ cnt t ≤ Rows.uptoBulk x.1 := by
  intro fuel
  induction fuel using Nat.strongRecOn with
  | ind fuel ih =>
  intro cs x h hbk
  obtain ⟨xs, n, rfl, rfl, hl, hx, hf⟩ := DataW.trod_struct Try.underlying26 h
  have hc : Try.prog.cellsOf 26 = 6 := by kernel_rfl
  have c1 : Try.prog.cellsOf 3 = 1 := by kernel_rfl
  have c2 : Try.prog.cellsOf 2 = 1 := by kernel_rfl
  have c3 : Try.prog.cellsOf 9 = 1 := by kernel_rfl
  have c4 : Try.prog.cellsOf 23 = 1 := by kernel_rfl
  have c5 : Try.prog.cellsOf 24 = 1 := by kernel_rfl
  rw [hc] at hl
  have f0 := hf 0 _ rfl
  have f1 := hf 1 _ rfl
  have f2 := hf 2 _ rfl
  have f3 := hf 3 _ rfl
  have f4 := hf 4 _ rfl
  have f5 := hf 5 _ rfl
  match cs, hl with
  | [v0, v1, v2, v3, v4, v5], _ =>
  match xs, hx with
  | [x0, x1, x2, x3, x4, x5], _ =>
  simp only [c1, c2, c3, c4, c5, List.drop_zero, List.drop_succ_cons, List.take_succ_cons, List.take_zero, List.getElem?_cons_zero, List.getElem?_cons_succ] at f0 f1 f2 f3 f4 f5
  obtain ⟨k, e0, d0, w0⟩ := DataW.trod_int Try.underlying3 f0
  obtain ⟨nm, e1, d1, w1⟩ := DataW.trod_string Try.underlying9 f1
  obtain ⟨m, e2, d2, w2⟩ := DataW.trod_int Try.underlying2 f2
  obtain ⟨s, e3, d3, w3⟩ := DataW.trod_string Try.underlying9 f3
  obtain ⟨ka, ks, kc, e4, s4, b4⟩ := open_names f4
  cases e0; cases e1; cases e2; cases e3; cases e4
  have wb : ∀ {k : Int}, (Lit.int .i64 k).wf = true → i64 k := fun {k} h => by unfold i64; simpa [Lit.wf, IntKind.min, IntKind.max, IntKind.signed, IntKind.bits] using h
  have h1 : nm.size + 1 ≤ Rows.uptoBulk x1.1 := by rw [d1]; simp only [Rows.uptoBulk]; exact Nat.le_refl _
  have h3 : s.size + 1 ≤ Rows.uptoBulk x3.1 := by rw [d3]; simp only [Rows.uptoBulk]; exact Nat.le_refl _
  simp only [Rows.uptoBulk, List.map_cons, List.map_nil, Rows.uptoBulkAll] at hbk
  have l4 := ksum_len ks
  have m4 : ∀ x ∈ ks, x.size ≤ 4194304 := fun x hx => by have := ksum_mem ks x hx; omega
  obtain ⟨la, l, lc, ys, e5, s5, t5, b5, l5⟩ := open_treesF (fun m hm => ih m (by omega)) f5 (by omega)
  cases e5
  refine ⟨.mk k nm m s ks l, ?_, ?_⟩
  · simp only [TRep]
    exact ⟨wb w0, wb w2, by omega, by omega, by omega, by omega, m4, ka, kc, la, lc, ys, rfl, s4, s5, t5⟩
  · simp only [cnt, Rows.uptoBulk, List.map_cons, List.map_nil, Rows.uptoBulkAll]; omega
/-- One tree, some trees. -/
theorem open_trees {a : Option Addr} {len cap : Nat} {d : DataW H} {ps : List MemPlace} (h : DataW.Trod enc Try.prog W base spare held 24 (.slice a len cap) d ps) (hbk : Rows.uptoBulk d ≤ 1048576) :
    ∃ (l : List NT) (xs : List Value), len = l.length ∧ Sl W.heap 6 a l.length cap xs ∧ TReps W.heap l xs ∧ cnts l ≤ 1048576 := by
  obtain ⟨fuel, hf⟩ := h
  obtain ⟨a', l, c, xs, e, s, t, b, _⟩ := open_treesF (fun m _ => open_tree m) hf hbk
  simp only [Value.cells] at e
  cases e
  exact ⟨l, xs, rfl, s, t, by simp only at b; omega⟩
end
end Go.Proofs.Ytlogpojkkbcpjaa.Hc
/- The wrap of the second form with the world's shape kept; what the library's own variable holds. -/
set_option linter.unusedVariables false
set_option linter.unusedSimpArgs false
namespace Go.Proofs.Ytlogpojkkbcpjaa.Hc
open Go Go.H Go.Proofs Go.ChangeShapes
set_option maxRecDepth 100000
theorem glob_of_shape {W : World} (h : W.ShapedOpen Try.prog) : Glb W.heap := by
  obtain ⟨m, e⟩ := cell_of_shapedOpen_int (P := Try.prog) (g := 0) (t := 3) (zero := #[.int .i64 0]) (k := .i64) h (of_decide_eq_true (by kernel_rfl)) (by kernel_rfl) rfl (by kernel_rfl) (by kernel_rfl) Try.underlying3
  exact ⟨m, e⟩
theorem handed_shaped {H : Type} {enc : TypeId × Value → H} {a : Assume} {C : Checked} {os : Os} {f : FuncId} {fn : Func} {s : OpenSpec} {k : (H : Type) → List (DataW H) → Bool} (hk : s.cond = some k) {F : Stop.Interp} {conds : List PathCond} {apart fresh handsOn again : Bool}
    (own : ownKnob C.prog.godebug = none) (started : os.Started) (noInit : C.prog.inits.idxOf? f = none) (hfn : C.prog.funcs[f]? = some fn)
    (witness : ∃ (w : World) (tape : Tape) (i : Input), w.os = os ∧ (w.forCall tape i).Shaped C.prog ∧ i.vars = [] ∧ Input.okWide C.prog (w.forCall tape i) .any w.heap.size f i ∧
      s.pre6 enc C.prog fn conds apart (w.forCall tape i).memory i.args ∧ a.holds C.prog (lone (Frame.enter C.prog f i.args .normal) [] (w.forCall tape i)))
    (contract : ∀ (W : World) (base : Nat) (args : Array Value) (ds gs : List (DataW H)) (before : List MemPlace), W.ShapedOpen C.prog →
      (∀ (j : Nat) t v, fn.params[j]? = some t → args[j]? = some v → Value.okWide C.prog W .any base t v) →
      DataW.Whole enc C.prog fn.params.toList s.vars apart W args.toList ds gs before →
      conds.all (PathCond.test C.prog ⟨fn.params.toList, ds, s.bare.plain.varTypes C.prog, gs⟩) = true → k H (ds ++ gs) = true →
      a.holds C.prog (lone (Frame.enter C.prog f args .normal) [] W) →
      Calls C.prog f args W fun e W' => ∃ v, e = .returned v ∧ (s.at F).post enc C.prog fn apart fresh handsOn again W args v W') :
    ReturnsInHanded a C os f .any (s.pre6 enc C.prog fn conds apart) ((s.at F).post enc C.prog fn apart fresh handsOn again) := by
  refine returnsInHanded_of_calls own started noInit witness ?_
  intro w tape i _ hsh _ hok hpre hholds
  obtain ⟨_, _, _, fn', hfn', _, _, _, _, hval⟩ := hok
  have e : fn' = fn := Option.some.inj (hfn'.symm.trans hfn)
  subst e
  obtain ⟨ds, gs, before, hw, hc, hkk⟩ := (OpenSpec.pre_some hk conds apart _ _).1 hpre.1
  have hw' := DataW.Whole.of_heap (w' := w.forCall tape i) (by rfl) hw
  refine (contract (w.forCall tape i) w.heap.size i.args ds gs before hsh hval hw' hc hkk hholds).mono fun e W' ⟨v, he, hp⟩ => ?_
  subst he
  exact ChangeSpec.post_blind hp
end Go.Proofs.Ytlogpojkkbcpjaa.Hc
