/- The library's maps.Copy, maps.Clone, slices.Sorted of maps.Keys, told of the heap. -/
import Derived.Test.YtlbmhpjefpdekaaX1
set_option linter.unusedVariables false
set_option linter.unusedSimpArgs false
namespace Go.Proofs.Ytlbmhpjefpdekaa.Hc
open Go Go.H Go.Proofs
open Go.WideElems (Fit rd rg)
set_option maxRecDepth 100000
set_option maxHeartbeats 4000000

/-- How a value reads: as its bytes. -/
def RV : Value → Option (DataW Unit × List MemPlace)
  | .string s => some (.lit (.string s.data.toList), [])
  | _ => none
abbrev KI : Maps.Keyed Try.prog 3 := Maps.int_keyed Try.underlying3
theorem keyOf_i (i : Nat) (hi : i < 2048) : keyOf Try.prog 3 (.int .i64 (i : Nat)) = some (.int .i64 (i : Nat)) := Maps.keyOf_int_mk Try.underlying3 (by simp only [Lit.wf, IntKind.min, IntKind.max]; decide +revert)
/-- What the entries read as. -/
noncomputable def dOf (es : List MapEntry) : DataW Unit := .map ((es.map (rg Try.prog 3 RV)).foldr DataW.insert [])
theorem MS.fit {es : Array MapEntry} {clock : Nat} {g : Nat → Option ByteArray} (m : MS es.toList clock g) : Fit Try.prog 3 RV es clock := by
  refine ⟨?_, ⟨m.st1, m.st2, m.st3⟩, ?_⟩
  · have := m.size_le
    rw [Array.length_toList] at this
    unfold maxLen; omega
  · intro x hx
    obtain ⟨i, s, k1, k2, k3⟩ := m.en x hx
    refine ⟨(.int .i64 (i : Nat), .lit (.string s.data.toList)), ?_⟩
    unfold rd
    rw [k1, k2, keyOf_i i (m.bd i s k3).1]
    rfl
theorem MR.owns {h : Heap} {r : Nat} {g : Nat → Option ByteArray} {es : Array MapEntry} {clock : Nat} (e : h[r]? = some (.map es clock)) (m : MS es.toList clock g) {w : World} (hw : w.heap = h) : w.ownsMap Try.prog 3 RV r 2048 (dOf es.toList) :=
  ⟨es, clock, by rw [hw]; exact e, m.fit, by have := m.size_le; rw [Array.length_toList] at this; exact this, rfl⟩
def valD (o : Option ByteArray) (z : DataW Unit) : DataW Unit := match o with
  | some s => .lit (.string s.data.toList)
  | none => z
theorem zeroStr (w : World) : (zeroValue 9).run Try.prog w = .ok (.string ⟨#[]⟩) w := Try.zeroValue9 w
theorem MS.atKey {es : Array MapEntry} {clock : Nat} {g : Nat → Option ByteArray} (m : MS es.toList clock g) (i : Nat) (hi : i < 2048) (z : DataW Unit) : (dOf es.toList).atKey (.int .i64 (i : Nat)) z = valD (g i) z := by
  let w : World := { (default : World) with heap := #[.map es clock] }
  rcases Maps.fit_look (w := w) (b := 0) false KI Try.underlying55 (zeroStr w) (es := es) (clock := clock) rfl m.fit (keyOf_i i hi) with ⟨_, h1, h2⟩ | ⟨e0, y, h1, h2, _, h3, h4, _⟩
  · have hg : g i = none := by
      cases hg : g i with
      | none => rfl
      | some s =>
        obtain ⟨x, hx, kx⟩ := m.al i s hg
        exact absurd kx (h1 x hx)
    rw [hg]; exact h2 z
  · obtain ⟨j, s, k1, k2, k3⟩ := m.en e0 h1
    rw [h2] at k1
    obtain rfl := key_inj k1
    rw [k3]
    refine (h4 z).trans ?_
    rw [k2] at h3
    cases h3
    rfl

theorem nodup_inj {α β : Type} (f : α → β) : ∀ {l : List α} (_ : (l.map f).Nodup) {a b : α}, a ∈ l → b ∈ l → f a = f b → a = b
  | [], _, a, b, ha, _, _ => by cases ha
  | x :: l, hd, a, b, ha, hb, e => by
    rw [List.map_cons, List.nodup_cons] at hd
    rcases List.mem_cons.1 ha with ha' | ha' <;> rcases List.mem_cons.1 hb with hb' | hb'
    · rw [ha', hb']
    · exact absurd (by rw [← ha', e]; exact List.mem_map_of_mem hb') hd.1
    · exact absurd (by rw [← hb', ← e]; exact List.mem_map_of_mem ha') hd.1
    · exact nodup_inj f hd.2 ha' hb' e
theorem keyOf_inv {v : Value} {l : Lit} (h : keyOf Try.prog 3 v = some l) : ∃ z : Int, v = .int .i64 z ∧ l = .int .i64 z ∧ (Lit.int .i64 z).wf = true := by
  have hu : Try.prog.underlying 3 = some (.int .i64) := Try.underlying3
  unfold keyOf at h
  rw [hu] at h
  cases v <;> simp [mapKey, hu] at h
  obtain ⟨⟨rfl, hw⟩, rfl⟩ := h
  exact ⟨_, rfl, rfl, hw⟩
theorem MS.atZ {es : Array MapEntry} {clock : Nat} {g : Nat → Option ByteArray} (m : MS es.toList clock g) (z : Int) (hw : (Lit.int .i64 z).wf = true) :
    (∃ (i : Nat) (s : ByteArray), z = i ∧ g i = some s ∧ ∀ z0, (dOf es.toList).atKey (.int .i64 z) z0 = .lit (.string s.data.toList)) ∨ ((∀ i : Nat, z = i → g i = none) ∧ ∀ z0, (dOf es.toList).atKey (.int .i64 z) z0 = z0) := by
  let w : World := { (default : World) with heap := #[.map es clock] }
  rcases Maps.fit_look (w := w) (b := 0) false KI Try.underlying55 (zeroStr w) (es := es) (clock := clock) rfl m.fit (Maps.keyOf_int_mk Try.underlying3 hw) with ⟨_, h1, h2⟩ | ⟨e0, y, h1, h2, _, h3, h4, _⟩
  · refine .inr ⟨?_, h2⟩
    rintro i rfl
    cases hg : g i with
    | none => rfl
    | some s =>
      obtain ⟨x, hx, kx⟩ := m.al i s hg
      exact absurd kx (h1 x hx)
  · obtain ⟨j, s, k1, k2, k3⟩ := m.en e0 h1
    rw [h2] at k1
    injection k1 with _ k1
    rw [k2] at h3
    cases h3
    exact .inl ⟨j, s, k1, k3, h4⟩
def mergeG (gd gs : Nat → Option ByteArray) : Nat → Option ByteArray := fun i => match gs i with
  | some s => some s
  | none => gd i
theorem mcopy_spec {h : Heap} {rd rs : Nat} {gd gs : Nat → Option ByteArray} (xd : MR h rd gd) (xs : MR h rs gs) (hne : rd ≠ rs) :
    HCalls Try.prog 38 #[.map (some rd), .map (some rs)] h fun e h' => e = .returned (.tuple #[]) ∧ MR h' rd (mergeG gd gs) ∧ Off rd h h' := by
  intro w hw
  obtain ⟨ed, cd, hed, md⟩ := xd
  obtain ⟨es, cs, hes, ms⟩ := xs
  have od := MR.owns hed md hw
  have os := MR.owns hes ms hw
  have hsz : Maps.size (dOf es.toList) ≤ 2048 := by
    have := ms.size_le
    show ((es.toList.map (rg Try.prog 3 RV)).foldr DataW.insert []).length ≤ 2048
    rw [length_sorted, List.length_map]; exact this
  refine (AnyX.maps_Copy Try.copyN KI RV rd rs 2048 2048 (dOf ed.toList) (dOf es.toList) w od os hne (by unfold maxLen; omega)).mono ?_
  rintro e w' ⟨rfl, own, _, gr⟩
  subst hw
  refine ⟨⟨gr.os, gr.tape, gr.output⟩, rfl, ?_, ⟨gr.size, fun b hb hn => gr.block b hb (by simpa using hn)⟩⟩
  obtain ⟨es', clock', hb, F, _, hD⟩ := own
  have cs1 := os.canonK KI
  have cd1 := od.canonK KI
  have hat : ∀ (l : Lit) z0, (DataW.map ((es'.toList.map (rg Try.prog 3 RV)).foldr DataW.insert [])).atKey l z0 = (dOf es.toList).atKey l ((dOf ed.toList).atKey l z0) := by
    intro l z0
    have hD' : Lib.mergeD (dOf ed.toList) (dOf es.toList) = DataW.map ((es'.toList.map (rg Try.prog 3 RV)).foldr DataW.insert []) := hD
    rw [← hD']
    obtain ⟨ess, hess, rs1, ks⟩ := cs1
    have hmD : Maps.IsMap (dOf ed.toList) := by obtain ⟨q, hq, _⟩ := cd1; exact ⟨_, hq⟩
    rw [hess]
    exact Maps.atKey_foldPut l z0 ess _ hmD (fun p hp => KI.one.key (ks p hp)) (Maps.apart_of_rising rs1)
  have look : ∀ (z : Int) (hw : (Lit.int .i64 z).wf = true), ((∀ x ∈ es'.toList, x.key ≠ .int .i64 z) ∧ ∀ z0, (dOf es.toList).atKey (.int .i64 z) ((dOf ed.toList).atKey (.int .i64 z) z0) = z0) ∨ ∃ e0 y, e0 ∈ es'.toList ∧ e0.key = .int .i64 z ∧ RV e0.val = some y ∧ ∀ z0, (dOf es.toList).atKey (.int .i64 z) ((dOf ed.toList).atKey (.int .i64 z) z0) = y.1 := by
    intro z hz
    rcases Maps.fit_look (w := w') (b := rd) false KI Try.underlying55 (zeroStr w') hb F (Maps.keyOf_int_mk Try.underlying3 hz) with ⟨_, h1, h2⟩ | ⟨e0, y, h1, h2, _, h3, h4, _⟩
    · exact .inl ⟨h1, fun z0 => by rw [← hat]; exact h2 z0⟩
    · exact .inr ⟨e0, y, h1, h2, h3, fun z0 => by rw [← hat]; exact h4 z0⟩
  have val : ∀ (z : Int) (hw : (Lit.int .i64 z).wf = true), (∃ (i : Nat) (s : ByteArray), z = i ∧ mergeG gd gs i = some s ∧ ∀ z0, (dOf es.toList).atKey (.int .i64 z) ((dOf ed.toList).atKey (.int .i64 z) z0) = .lit (.string s.data.toList)) ∨ ((∀ i : Nat, z = i → mergeG gd gs i = none) ∧ ∀ z0, (dOf es.toList).atKey (.int .i64 z) ((dOf ed.toList).atKey (.int .i64 z) z0) = z0) := by
    intro z hz
    rcases ms.atZ z hz with ⟨i, s, e1, e2, e3⟩ | ⟨e1, e2⟩
    · exact .inl ⟨i, s, e1, by unfold mergeG; rw [e2], fun z0 => e3 _⟩
    · rcases md.atZ z hz with ⟨i, s, f1, f2, f3⟩ | ⟨f1, f2⟩
      · exact .inl ⟨i, s, f1, by unfold mergeG; rw [e1 i f1]; exact f2, fun z0 => by rw [e2, f3]⟩
      · exact .inr ⟨fun i hi => by unfold mergeG; rw [e1 i hi]; exact f1 i hi, fun z0 => by rw [e2, f2]⟩
  refine ⟨es', clock', hb, ?_⟩
  constructor
  · exact F.stamped.1
  · exact F.stamped.2.1
  · exact F.stamped.2.2
  · intro x hx
    obtain ⟨y, hy⟩ := F.reads x hx
    have hk := Go.WideElems.rd_key hy
    obtain ⟨z, k1, k2, kw⟩ := keyOf_inv hk
    rcases look z kw with ⟨h1, _⟩ | ⟨e0, y0, h1, h2, h3, h4⟩
    · exact absurd k1 (h1 x hx)
    · obtain rfl : e0 = x := nodup_inj (·.key) F.stamped.2.2 h1 hx (by show e0.key = x.key; rw [h2, k1])
      rcases val z kw with ⟨i, s, v1, v2, v3⟩ | ⟨_, v2⟩
      · refine ⟨i, s, by rw [k1, v1], ?_, v2⟩
        have e1 := (h4 .nil).symm.trans (v3 .nil)
        cases hv : e0.val with
        | string t =>
          rw [hv] at h3
          cases h3
          injection e1 with e1
          injection e1 with e1
          congr 1
          apply ByteArray.ext
          exact Array.toList_inj.1 e1
        | _ => rw [hv] at h3; cases h3
      · have e1 := (h4 .nil).symm.trans (v2 .nil)
        cases hv : e0.val with
        | string t => rw [hv] at h3; cases h3; cases e1
        | _ => rw [hv] at h3; cases h3
  · intro i s hi
    have hlt : i < 2048 := by
      unfold mergeG at hi
      split at hi
      · rename_i hg; exact (ms.bd i _ hg).1
      · exact (md.bd i _ hi).1
    have kw : (Lit.int .i64 ((i : Nat) : Int)).wf = true := by
      have := keyOf_i i hlt
      obtain ⟨z, k1, _, k3⟩ := keyOf_inv this
      injection k1 with _ k1
      rw [k1]; exact k3
    rcases look i kw with ⟨h1, h2⟩ | ⟨e0, y, h1, h2, _⟩
    · rcases val i kw with ⟨j, t, v1, v2, v3⟩ | ⟨v1, _⟩
      · have := (h2 .nil).symm.trans (v3 .nil)
        cases this
      · rw [v1 i rfl] at hi; cases hi
    · exact ⟨e0, h1, h2⟩
  · intro i s hi
    unfold mergeG at hi
    split at hi
    · rename_i hg; cases hi; exact ms.bd i _ hg
    · exact md.bd i _ hi

theorem mclone_spec {h : Heap} {r : Nat} {g : Nat → Option ByteArray} (x : MR h r g) :
    HCalls Try.prog 41 #[.map (some r)] h fun e h' => e = .returned (.map (some h.size)) ∧ MR h' h.size g ∧ Ext h h' := by
  intro w hw
  obtain ⟨es, clock, e, m⟩ := x
  subst hw
  refine (AnyW.maps_Clone Try.cloneM r es clock w e).mono ?_
  rintro e w' ⟨rfl, rfl⟩
  exact ⟨⟨rfl, rfl, rfl⟩, rfl, ⟨es, clock, by show (w.heap.push _)[w.heap.size]? = _; simp, m⟩, Ext.push _ _⟩

end Go.Proofs.Ytlbmhpjefpdekaa.Hc
