/- Calls that came in. -/
import Derived.Test.YtlbmhpjefpdekaaRU
import Derived.Test.YtlbmhpjefpdekaaXA
import Derived.ChangeArms
set_option linter.unusedVariables false
set_option linter.unusedSimpArgs false
namespace Go.Proofs.Ytlbmhpjefpdekaa.RU
open Go Go.H Go.Proofs Go.ChangeShapes Go.WideShapes Go.RowKit
set_option maxRecDepth 100000
theorem list_ex {α β : Type} : ∀ (l : List α) (R : Nat → α → β → Prop) (_ : ∀ i (hi : i < l.length), ∃ b, R i l[i] b), ∃ bs : List β, bs.length = l.length ∧ ∀ i (hi : i < l.length) (hb : i < bs.length), R i l[i] bs[i]
  | [], R, h => ⟨[], rfl, fun i hi => by simp at hi⟩
  | a :: l, R, h => by
    obtain ⟨b, hb⟩ := h 0 (by simp)
    obtain ⟨bs, h1, h2⟩ := list_ex l (fun i => R (i + 1)) fun i hi => h (i + 1) (by simpa using hi)
    refine ⟨b :: bs, by simp [h1], fun i hi hj => ?_⟩
    cases i with
    | zero => exact hb
    | succ i => exact h2 i (by simpa using hi) (by simpa using hj)
theorem bulk_mem {H : Type} : ∀ (l : List (DataW H)) (d : DataW H), d ∈ l → Rows.uptoBulk d + l.length ≤ Rows.uptoBulkAll l + 1
  | [], d, h => by cases h
  | e :: r, d, h => by
    simp only [Rows.uptoBulkAll, List.length_cons]
    have h1 := one_le e
    rcases List.mem_cons.1 h with rfl | h
    · have := length_le r; omega
    · have := bulk_mem r d h; omega
theorem flat_get {α : Type} {n : Nat} : ∀ (l : List (List α)) (_ : ∀ x ∈ l, x.length = n) (i j : Nat) (hi : i < l.length) (_ : j < n), l.flatten[i * n + j]? = l[i][j]?
  | [], _, i, _, hi, _ => by simp at hi
  | a :: l, h, i, j, hi, hj => by
    have ha := h a (by simp)
    cases i with
    | zero => rw [List.flatten_cons, Nat.zero_mul, Nat.zero_add, List.getElem?_append_left (by omega)]; rfl
    | succ i =>
      rw [List.flatten_cons, List.getElem?_append_right (by rw [ha, Nat.add_mul]; omega), List.getElem_cons_succ, ← flat_get l (fun x hx => h x (by simp [hx])) i j (by simpa using hi) hj]
      congr 1; rw [ha, Nat.add_mul]; omega
theorem flat_len {α : Type} {n : Nat} : ∀ (l : List (List α)) (_ : ∀ x ∈ l, x.length = n), l.flatten.length = l.length * n
  | [], _ => by simp
  | a :: l, h => by rw [List.flatten_cons, List.length_append, h a (by simp), flat_len l (fun x hx => h x (by simp [hx])), List.length_cons, Nat.add_mul]; omega
theorem els_flat {α : Type} {R : Heap → α → List Value → Prop} {h : Heap} : ∀ (l : List α) (cs : List (List Value)), cs.length = l.length → (∀ i (hi : i < l.length) (hc : i < cs.length), R h l[i] cs[i]) → Els R h l cs.flatten
  | [], [], _, _ => by simp [Els]
  | d :: l, c :: cs, hl, hr => ⟨c, cs.flatten, by simp, hr 0 (by simp) (by simp), els_flat l cs (by simpa using hl) fun i hi hc => hr (i + 1) (by simpa using hi) (by simpa using hc)⟩
  | [], _ :: _, h, _ => by simp at h
  | _ :: _, [], h, _ => by simp at h
section
variable {H : Type} {enc : TypeId × Value → H} {P : Program} {W : World} {base : Nat} {spare : Nat → Bool} {held : Bool}
/-- Some things that came in. -/
theorem open_els {α : Type} {R : Heap → α → List Value → Prop} {t e : TypeId} {m : Nat} (hu : P.underlying t = some (.slice e)) (hc : P.cellsOf e = m) (hm0 : 0 < m) (hn : ∀ d cs, R W.heap d cs → cs.length = m)
    (one : ∀ fuel cs x, DataW.trod enc P W base spare held fuel e cs = some x → Rows.uptoBulk x.1 ≤ 1048576 → ∃ d, R W.heap d cs) {fuel : Nat} {cs : List Value} {x : DataW H × List MemPlace} (h : DataW.trod enc P W base spare held fuel t cs = some x) (hbk : Rows.uptoBulk x.1 ≤ 1048576) :
    ∃ (a : Option Addr) (l : List α) (xs : List Value) (c : Nat), cs = [.slice a l.length c] ∧ Sl W.heap m a l.length c xs ∧ Els R W.heap l xs ∧ l.length ≤ 1048576 := by
  rcases DataW.trod_slice hu h with ⟨rfl, rfl⟩ | ⟨a, len, cap, elems, rest, n, _, rfl, rfl, hb, hl, hm, hlen, hel, _, _⟩
  · exact ⟨none, [], [], 0, rfl, Sl.nil _ _, by simp [Els], by simp⟩
  rw [hc] at hel
  simp only [Rows.uptoBulk] at hbk
  have hle := length_le (elems.map (·.1))
  rw [List.length_map] at hle
  have each : ∀ i (hi : i < elems.length), ∃ y : α × List Value, R W.heap y.1 y.2 ∧ (∀ j, j < m → hcell W.heap ((a.add (i * m)).add j) = y.2[j]?) := by
    intro i hi
    have h1 := hel i (by omega)
    rw [List.getElem?_eq_getElem hi, Option.bind_eq_some_iff] at h1
    obtain ⟨cs, h2, h3⟩ := h1
    have hbi : Rows.uptoBulk elems[i].1 ≤ 1048576 := by
      have := bulk_mem (elems.map (·.1)) elems[i].1 (List.mem_map.2 ⟨_, List.getElem_mem hi, rfl⟩)
      rw [List.length_map] at this
      omega
    obtain ⟨d, r⟩ := one _ cs _ h3 hbi
    have h4 := World.cells?_some h2
    refine ⟨(d, cs), r, fun j hj => ?_⟩
    have := h4.2.2 j hj
    rw [cell_eq] at this
    rw [this]
  obtain ⟨ys, k1, k2⟩ := list_ex elems (fun i y (z : α × List Value) => R W.heap z.1 z.2 ∧ (∀ j, j < m → hcell W.heap ((a.add (i * m)).add j) = z.2[j]?)) each
  have hall : ∀ x ∈ ys.map (·.2), x.length = m := by
    intro x hx
    obtain ⟨z, hz, rfl⟩ := List.mem_map.1 hx
    obtain ⟨i, hi, rfl⟩ := List.getElem_of_mem hz
    exact hn _ _ (k2 i (by omega) hi).1
  have hyl : (ys.map (·.1)).length = len := by rw [List.length_map]; omega
  refine ⟨some a, ys.map (·.1), (ys.map (·.2)).flatten, cap, by rw [hyl], ⟨by rw [flat_len _ hall]; simp, by omega, fun e => (by cases e), ?_⟩, els_flat _ _ (by simp) ?_, by omega⟩
  · intro p ep i hi
    cases ep
    rw [hyl] at hi
    have hq : i / m < ys.length := by
      have : i / m < len := Nat.div_lt_of_lt_mul (by rw [Nat.mul_comm]; exact hi)
      omega
    have h5 := (k2 (i / m) (by omega) hq).2 (i % m) (Nat.mod_lt _ hm0)
    have e1 : i / m * m + i % m = i := by rw [Nat.mul_comm]; exact Nat.div_add_mod i m
    rw [add_add, e1] at h5
    have h6 := flat_get (ys.map (·.2)) hall (i / m) (i % m) (by simpa using hq) (Nat.mod_lt _ hm0)
    rw [e1, List.getElem_map] at h6
    rw [h5, h6]
  · intro i hi hc'
    rw [List.getElem_map, List.getElem_map]
    exact (k2 i (by simpa [k1] using hi) (by simpa using hi)).1
end
end Go.Proofs.Ytlbmhpjefpdekaa.RU
namespace Go.Proofs.Ytlbmhpjefpdekaa.Hc
open Go Go.H Go.Proofs Go.ChangeShapes Go.WideShapes Go.RowKit
set_option maxRecDepth 100000
theorem sl_low {h h' : Heap} {size n c : Nat} {a : Option Addr} {xs : List Value} (x : Sl h size a n c xs) (k : ∀ b, b < h.size → h'[b]? = h[b]?) : Sl h' size a n c xs := by
  refine ⟨x.1, x.2.1, x.2.2.1, fun p ep i hi => ?_⟩
  have h1 := x.2.2.2 p ep i hi
  have hl : i < xs.length := by rw [x.1]; exact hi
  have hb : (p.add i).block < h.size := by
    rcases Nat.lt_or_ge (p.add i).block h.size with hlt | hge
    · exact hlt
    · have h0 : h[(p.add i).block]? = none := Array.getElem?_eq_none hge
      have : hcell h (p.add i) = none := by unfold hcell; rw [h0]
      rw [this, List.getElem?_eq_getElem hl] at h1
      cases h1
  rw [hcell_of (k _ hb), h1]
section
variable {H : Type} {enc : TypeId × Value → H} {W : World} {base : Nat} {spare : Nat → Bool} {held : Bool}
theorem open_op (fuel : Nat) {cs : List Value} {x : DataW H × List MemPlace} (h : DataW.trod enc Try.prog W base spare held fuel 33 cs = some x) (hbk : Rows.uptoBulk x.1 ≤ 1048576) : ∃ t : OpP, OpRep W.heap.size W.heap t cs := by
  obtain ⟨xs, n, rfl, rfl, hl, hx, hf⟩ := DataW.trod_struct Try.underlying33 h
  have hc : Try.prog.cellsOf 33 = 4 := by kernel_rfl
  have c1 : Try.prog.cellsOf 3 = 1 := by kernel_rfl
  have c2 : Try.prog.cellsOf 31 = 1 := by kernel_rfl
  rw [hc] at hl
  have f0 := hf 0 _ rfl
  have f1 := hf 1 _ rfl
  have f2 := hf 2 _ rfl
  have f3 := hf 3 _ rfl
  match cs, hl with
  | [v0, v1, v2, v3], _ =>
  match xs, hx with
  | [x0, x1, x2, x3], _ =>
  simp only [c1, c2, List.drop_zero, List.drop_succ_cons, List.take_succ_cons, List.take_zero, List.getElem?_cons_zero, List.getElem?_cons_succ] at f0 f1 f2 f3
  obtain ⟨k, e0, d0, w0⟩ := DataW.trod_int Try.underlying3 f0
  obtain ⟨m, e1, d1, w1⟩ := DataW.trod_int Try.underlying3 f1
  obtain ⟨s, e2, d2, w2⟩ := DataW.trod_int Try.underlying3 f2
  cases e0; cases e1; cases e2
  simp only [Rows.uptoBulk, List.map_cons, List.map_nil, Rows.uptoBulkAll] at hbk
  have ws : -9223372036854775808 ≤ s ∧ s ≤ 9223372036854775807 := by simpa [Lit.wf, IntKind.min, IntKind.max, IntKind.signed, IntKind.bits] using w2
  have f3' := f3
  obtain ⟨a, len, cap, rfl⟩ : ∃ a len cap, v3 = .slice a len cap := by
    rcases DataW.trod_slice Try.underlying31 f3' with ⟨e, _⟩ | ⟨a, len, cap, _, _, _, _, e, _⟩
    · cases e; exact ⟨_, _, _, rfl⟩
    · cases e; exact ⟨_, _, _, rfl⟩
  have tr : DataW.Trod enc Try.prog W base spare held 31 (.slice a len cap) x3.1 x3.2 := ⟨_, f3⟩
  obtain ⟨l, sl⟩ := Go.H.open_bytes' Try.underlying31 Try.underlying5 (by kernel_rfl) tr
  have hle := RU.ints_len Try.underlying31 Try.underlying5 (by kernel_rfl) tr
  have hll : l.length = len := by have := sl.1; simpa using this
  subst hll
  exact ⟨⟨k, m, s, l⟩, ws, by show l.length ≤ _; omega, a, cap, rfl, fun h' k => sl_low sl k⟩
/-- Some calls. -/
theorem open_ops {a : Option Addr} {len cap : Nat} {d : DataW H} {ps : List MemPlace} (h : DataW.Trod enc Try.prog W base spare held 22 (.slice a len cap) d ps) (hbk : Rows.uptoBulk d ≤ 1048576) :
    ∃ (l : List OpP) (xs : List Value), len = l.length ∧ Sl W.heap 4 a l.length cap xs ∧ Els (OpRep W.heap.size) W.heap l xs ∧ l.length ≤ 1048576 := by
  obtain ⟨fuel, hf⟩ := h
  obtain ⟨a', l, xs, c, e, s, es, hl⟩ := RU.open_els Try.underlying22 (show Try.prog.cellsOf 33 = 4 by kernel_rfl) (by decide) (R := fun h o cs => OpRep W.heap.size h o cs) (fun o cs r => r.len) (fun fuel cs x hx hb => open_op fuel hx hb) hf hbk
  simp only [Value.cells] at e
  cases e
  exact ⟨l, xs, rfl, s, es, hl⟩
end
end Go.Proofs.Ytlbmhpjefpdekaa.Hc
