/- Trees of values that came in. -/
import Derived.Test.YtmibnfjjlibpgaaDoorRU
import Derived.Test.YtmibnfjjlibpgaaDoorA0
import Derived.ChangeArms
set_option linter.unusedVariables false
set_option linter.unusedSimpArgs false
namespace Go.Proofs.YtmibnfjjlibpgaaDoor.Hc
open Go Go.H Go.Proofs Go.ChangeShapes Go.WideShapes Go.RowKit
set_option maxRecDepth 100000

theorem list_ex {α β : Type} : ∀ (l : List α) (R : Nat → α → β → Prop) (_ : ∀ i (hi : i < l.length), ∃ b, R i l[i] b), ∃ bs : List β, bs.length = l.length ∧ ∀ i (hi : i < l.length) (hb : i < bs.length), R i l[i] bs[i]
  | [], R, h => ⟨[], rfl, fun i hi => by simp at hi⟩
  | a :: l, R, h => by
    obtain ⟨b, hb⟩ := h 0 (by simp)
    obtain ⟨bs, h1, h2⟩ := list_ex l (fun i => R (i + 1)) fun i hi => h (i + 1) (by simpa using hi)
    refine ⟨b :: bs, by simp [h1], fun i hi hj => ?_⟩
    cases i with
    | zero => exact hb
    | succ i => exact h2 i (by simpa using hi) (by simpa using hj)
theorem sum_le {α β : Type} (f : β → Nat) (g : α → Nat) : ∀ (l : List α) (bs : List β), bs.length = l.length → (∀ i (hi : i < l.length) (hb : i < bs.length), f bs[i] ≤ g l[i]) → (bs.map f).sum ≤ (l.map g).sum
  | [], [], _, _ => by simp
  | a :: l, b :: bs, hl, h => by
    have h0 := h 0 (by simp) (by simp)
    have h1 := sum_le f g l bs (by simpa using hl) fun i hi hb => h (i + 1) (by simpa using hi) (by simpa using hb)
    simp only [List.map_cons, List.sum_cons, List.getElem_cons_zero] at h0 ⊢; omega
  | [], _ :: _, h, _ => by simp at h
  | _ :: _, [], h, _ => by simp at h
theorem kvol_sum : ∀ ks : List ByteArray, kvol ks = (ks.map fun k => k.size + 1).sum
  | [] => rfl
  | k :: r => by simp only [kvol, List.map_cons, List.sum_cons, kvol_sum r]
theorem vols_sum : ∀ l : List DT, vols l = (l.map vol).sum
  | [] => rfl
  | d :: r => by simp only [vols, List.map_cons, List.sum_cons, vols_sum r]
theorem bulk_sum {H : Type} : ∀ l : List (DataW H), Rows.uptoBulkAll l = (l.map Rows.uptoBulk).sum
  | [] => rfl
  | d :: r => by simp only [Rows.uptoBulkAll, List.map_cons, List.sum_cons, bulk_sum r]
theorem bulk_mem {H : Type} : ∀ (l : List (DataW H)) (d : DataW H), d ∈ l → Rows.uptoBulk d ≤ Rows.uptoBulkAll l
  | [], d, h => by cases h
  | e :: r, d, h => by
    simp only [Rows.uptoBulkAll]
    rcases List.mem_cons.1 h with rfl | h
    · omega
    · have := bulk_mem r d h; omega
theorem flat_get {α : Type} {n : Nat} : ∀ (l : List (List α)) (_ : ∀ x ∈ l, x.length = n) (i j : Nat) (hi : i < l.length) (_ : j < n), l.flatten[i * n + j]? = l[i][j]?
  | [], _, i, _, hi, _ => by simp at hi
  | a :: l, h, i, j, hi, hj => by
    have ha := h a (by simp)
    cases i with
    | zero => rw [List.flatten_cons, Nat.zero_mul, Nat.zero_add, List.getElem?_append_left (by omega)]; rfl
    | succ i =>
      rw [List.flatten_cons, List.getElem?_append_right (by rw [ha, Nat.add_mul]; omega), List.getElem_cons_succ, ← flat_get l (fun x hx => h x (by simp [hx])) i j (by simpa using hi) hj]
      congr 1; rw [ha, Nat.add_mul]; omega
theorem flat_len {α : Type} {n : Nat} : ∀ (l : List (List α)) (_ : ∀ x ∈ l, x.length = n), l.flatten.length = l.length * n
  | [], _ => by simp
  | a :: l, h => by rw [List.flatten_cons, List.length_append, h a (by simp), flat_len l (fun x hx => h x (by simp [hx])), List.length_cons, Nat.add_mul]; omega
theorem reps_flat {h : Heap} : ∀ (l : List DT) (cs : List (List Value)), cs.length = l.length → (∀ i (hi : i < l.length) (hc : i < cs.length), Rep h l[i] cs[i]) → Reps h l cs.flatten
  | [], [], _, _ => by simp [Reps]
  | d :: l, c :: cs, hl, hr => by
    simp only [Reps]
    exact ⟨c, cs.flatten, by simp, hr 0 (by simp) (by simp), reps_flat l cs (by simpa using hl) fun i hi hc => hr (i + 1) (by simpa using hi) (by simpa using hc)⟩
  | [], _ :: _, h, _ => by simp at h
  | _ :: _, [], h, _ => by simp at h

section
variable {H : Type} {enc : TypeId × Value → H} {W : World} {base : Nat} {spare : Nat → Bool} {held : Bool}

theorem open_strs {fuel : Nat} {cs : List Value} {x : DataW H × List MemPlace} (h : DataW.trod enc Tryd.prog W base spare held fuel 22 cs = some x) :
    ∃ (a : Option Addr) (ks : List ByteArray) (c : Nat), cs = [.slice a ks.length c] ∧ Sl W.heap 1 a ks.length c (ks.map .string) ∧ ks.length ≤ maxLen ∧ (∀ k ∈ ks, k.size ≤ maxLen) ∧ kvol ks + 1 ≤ Rows.uptoBulk x.1 := by
  rcases DataW.trod_slice Tryd.underlying22 h with ⟨rfl, rfl⟩ | ⟨a, len, cap, elems, rest, n, _, rfl, rfl, hb, hl, hm, hlen, hel, _, _⟩
  · exact ⟨none, [], 0, rfl, Sl.nil _ _, by simp, by simp, by simp [kvol, Rows.uptoBulk]⟩
  have hc : Tryd.prog.cellsOf 9 = 1 := by kernel_rfl
  rw [hc] at hel
  have each : ∀ i (hi : i < elems.length), ∃ s : ByteArray, W.cell? (a.add i) = some (.string s) ∧ elems[i].1 = .lit (.string s.data.toList) ∧ s.size ≤ maxLen := by
    intro i hi
    have h1 := hel i (by omega)
    rw [List.getElem?_eq_getElem hi, Option.bind_eq_some_iff] at h1
    obtain ⟨cs, h2, h3⟩ := h1
    obtain ⟨s, rfl, h4, h5⟩ := DataW.trod_string Tryd.underlying9 h3
    have := cell_of_cells?_one h2
    rw [Nat.mul_one] at this
    exact ⟨s, this, by rw [h4], h5⟩
  obtain ⟨ks, k1, k2⟩ := list_ex elems (fun i y s => W.cell? (a.add i) = some (.string s) ∧ y.1 = .lit (.string s.data.toList) ∧ s.size ≤ maxLen) each
  refine ⟨some a, ks, cap, by rw [k1, hlen], ⟨by simp, by omega, fun e => (by cases e), ?_⟩, by omega, ?_, ?_⟩
  · intro p ep i hi
    cases ep
    rw [Nat.mul_one] at hi
    have := (k2 i (by omega) hi).1
    rw [cell_eq] at this
    rw [this, List.getElem?_map, List.getElem?_eq_getElem hi]; rfl
  · intro k hk
    obtain ⟨i, hi, rfl⟩ := List.getElem_of_mem hk
    exact (k2 i (by omega) hi).2.2
  · have := sum_le (fun k : ByteArray => k.size + 1) (fun y : DataW H × List MemPlace => Rows.uptoBulk y.1) elems ks k1 fun i hi hb => by
      rw [(k2 i hi hb).2.1]; simp only [Rows.uptoBulk]; exact Nat.le_refl _
    rw [kvol_sum]
    simp only [Rows.uptoBulk]
    rw [bulk_sum, List.map_map]
    simp only [Function.comp_def]
    omega

theorem open_data : ∀ (fuel : Nat) (cs : List Value) (x : DataW H × List MemPlace), DataW.trod enc Tryd.prog W base spare held fuel 25 cs = some x → Rows.uptoBulk x.1 ≤ 1048576 → ∃ t : DT, Rep W.heap t cs ∧ vol t ≤ Rows.uptoBulk x.1 := by
  intro fuel
  induction fuel using Nat.strongRecOn with
  | ind fuel ih =>
  intro cs x h hbk
  obtain ⟨xs, n, rfl, rfl, hl, hx, hf⟩ := DataW.trod_struct Tryd.underlying25 h
  have hc : Tryd.prog.cellsOf 25 = 5 := by kernel_rfl
  have c1 : Tryd.prog.cellsOf 3 = 1 := by kernel_rfl
  have c2 : Tryd.prog.cellsOf 2 = 1 := by kernel_rfl
  have c3 : Tryd.prog.cellsOf 9 = 1 := by kernel_rfl
  have c4 : Tryd.prog.cellsOf 22 = 1 := by kernel_rfl
  have c5 : Tryd.prog.cellsOf 23 = 1 := by kernel_rfl
  rw [hc] at hl
  have f0 := hf 0 _ rfl
  have f1 := hf 1 _ rfl
  have f2 := hf 2 _ rfl
  have f3 := hf 3 _ rfl
  have f4 := hf 4 _ rfl
  match cs, hl with
  | [v0, v1, v2, v3, v4], _ =>
  match xs, hx with
  | [x0, x1, x2, x3, x4], _ =>
  simp only [c1, c2, c3, c4, c5, List.drop_zero, List.drop_succ_cons, List.take_succ_cons, List.take_zero, List.getElem?_cons_zero, List.getElem?_cons_succ] at f0 f1 f2 f3 f4
  obtain ⟨k, e0, d0, w0⟩ := DataW.trod_int Tryd.underlying3 f0
  obtain ⟨m, e1, d1, w1⟩ := DataW.trod_int Tryd.underlying2 f1
  obtain ⟨s, e2, d2, w2⟩ := DataW.trod_string Tryd.underlying9 f2
  obtain ⟨ka, ks, kc, e3, s3, l3, m3, b3⟩ := open_strs f3
  cases e0; cases e1; cases e2; cases e3
  have wb : ∀ {k : Int}, (Lit.int .i64 k).wf = true → i64 k := fun {k} h => by unfold i64; simpa [Lit.wf, IntKind.min, IntKind.max, IntKind.signed, IntKind.bits] using h
  have hs : s.size + 1 ≤ Rows.uptoBulk x2.1 := by rw [d2]; simp only [Rows.uptoBulk]; exact Nat.le_refl _
  have h0 : 1 ≤ Rows.uptoBulk x0.1 := RU.one_le _
  have h1 : 1 ≤ Rows.uptoBulk x1.1 := RU.one_le _
  simp only [Rows.uptoBulk, List.map_cons, List.map_nil, Rows.uptoBulkAll] at hbk
  have l3 := kvol_len ks
  have w2 : s.size ≤ 140737488351232 := by omega
  have l3' : ks.length ≤ 140737488351232 := by omega
  have m3' : ∀ x ∈ ks, x.size ≤ 140737488351232 := fun x hx => by have := kvol_mem ks x hx; omega
  rcases DataW.trod_slice Tryd.underlying23 f4 with ⟨e4, d4⟩ | ⟨a, len, cap, elems, rest, n', rfl, e4, d4, hb, hlc, hm, hlen, hel, _, _⟩
  · cases e4
    have h4 : 1 ≤ Rows.uptoBulk x4.1 := RU.one_le _
    refine ⟨.mk k m s ks [], Rep.mk' (l := []) (wb w0) (wb w1) w2 l3' (by simp) m3' s3 (Sl.nil _ _) (by simp only [Reps]), ?_⟩
    simp only [vol, vols, Rows.uptoBulk, List.map_cons, List.map_nil, Rows.uptoBulkAll]
    omega
  · cases e4
    rw [hc] at hel
    have hb4 : Rows.uptoBulkAll (elems.map (·.1)) ≤ 1048576 := by rw [d4] at hbk; simp only [Rows.uptoBulk] at hbk; omega
    have hle : len ≤ 1048576 := by have := RU.length_le (elems.map (·.1)); rw [List.length_map] at this; omega
    have each : ∀ i (hi : i < elems.length), ∃ y : DT × List Value, Rep W.heap y.1 y.2 ∧ (∀ j, j < 5 → hcell W.heap ((a.add (i * 5)).add j) = y.2[j]?) ∧ vol y.1 ≤ Rows.uptoBulk elems[i].1 := by
      intro i hi
      have h1 := hel i (by omega)
      rw [List.getElem?_eq_getElem hi, Option.bind_eq_some_iff] at h1
      obtain ⟨cs, h2, h3⟩ := h1
      have hbi : Rows.uptoBulk elems[i].1 ≤ 1048576 := by
        have := bulk_mem (elems.map (·.1)) elems[i].1 (List.mem_map.2 ⟨_, List.getElem_mem hi, rfl⟩)
        omega
      obtain ⟨t, r, hv⟩ := ih n' (by omega) cs _ h3 hbi
      have h4 := World.cells?_some h2
      refine ⟨(t, cs), r, fun j hj => ?_, hv⟩
      have := h4.2.2 j hj
      rw [cell_eq] at this
      rw [this]
    obtain ⟨ys, k1, k2⟩ := list_ex elems (fun i y (z : DT × List Value) => Rep W.heap z.1 z.2 ∧ (∀ j, j < 5 → hcell W.heap ((a.add (i * 5)).add j) = z.2[j]?) ∧ vol z.1 ≤ Rows.uptoBulk y.1) each
    have hall : ∀ x ∈ ys.map (·.2), x.length = 5 := by
      intro x hx
      obtain ⟨z, hz, rfl⟩ := List.mem_map.1 hx
      obtain ⟨i, hi, rfl⟩ := List.getElem_of_mem hz
      exact (k2 i (by omega) hi).1.len
    have hyl : (ys.map (·.1)).length = len := by rw [List.length_map]; omega
    refine ⟨.mk k m s ks (ys.map (·.1)), ?_, ?_⟩
    · have sl : Sl W.heap 5 (some a) (ys.map (·.1)).length cap (ys.map (·.2)).flatten := by
        refine ⟨by rw [flat_len _ hall]; simp, by omega, fun e => (by cases e), ?_⟩
        intro p ep i hi
        cases ep
        rw [hyl] at hi
        have hq : i / 5 < ys.length := by omega
        have h5 := (k2 (i / 5) (by omega) hq).2.1 (i % 5) (by omega)
        rw [add_add, show i / 5 * 5 + i % 5 = i by omega] at h5
        have h6 := flat_get (ys.map (·.2)) hall (i / 5) (i % 5) (by simpa using hq) (by omega)
        rw [show i / 5 * 5 + i % 5 = i by omega, List.getElem_map] at h6
        rw [h5, h6]
      have := Rep.mk' (wb w0) (wb w1) w2 l3' (by omega) m3' s3 sl (reps_flat (ys.map (·.1)) (ys.map (·.2)) (by simp) fun i hi hc => by
        rw [List.getElem_map, List.getElem_map]
        exact (k2 i (by simpa [k1] using hi) (by simpa using hi)).1)
      rw [hyl] at this
      exact this
    · have := sum_le (fun z : DT × List Value => vol z.1) (fun y : DataW H × List MemPlace => Rows.uptoBulk y.1) elems ys k1 fun i hi hb => (k2 i hi hb).2.2
      simp only [vol, Rows.uptoBulk, List.map_cons, List.map_nil, Rows.uptoBulkAll]
      rw [vols_sum, List.map_map]
      rw [d4]
      simp only [Rows.uptoBulk]
      rw [bulk_sum, bulk_sum, List.map_map]
      simp only [Function.comp_def] at this ⊢
      omega
end

end Go.Proofs.YtmibnfjjlibpgaaDoor.Hc
