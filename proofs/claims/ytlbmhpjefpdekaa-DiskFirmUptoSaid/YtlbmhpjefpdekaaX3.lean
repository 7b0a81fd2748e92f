/- slices.Sorted of maps.Keys. -/
import Derived.Test.YtlbmhpjefpdekaaX2
set_option linter.unusedVariables false
set_option linter.unusedSimpArgs false
namespace Go.Proofs.Ytlbmhpjefpdekaa.Hc
open Go Go.H Go.Proofs
open Go.WideElems (Fit rd rg)
set_option maxRecDepth 100000
set_option maxHeartbeats 4000000

/-- The sectors that have something, rising. -/
def keysOf (g : Nat → Option ByteArray) : List Nat := (List.range 2048).filter fun i => (g i).isSome
def natV (n : Nat) : Value := .int .i64 n
theorem sorted_eq : ∀ (l m : List Int), l.Pairwise (· ≤ ·) → m.Pairwise (· < ·) → l.Perm m → l = m
  | [], m, _, _, p => by
    have := p.length_eq
    exact (List.length_eq_zero_iff.1 (by simpa using this.symm)).symm
  | a :: l, [], _, _, p => by have := p.length_eq; simp at this
  | a :: l, b :: m, hl, hm, p => by
    rw [List.pairwise_cons] at hl hm
    have h1 : a ∈ b :: m := p.mem_iff.1 (by simp)
    have h2 : b ∈ a :: l := p.mem_iff.2 (by simp)
    have hab : a = b := by
      rcases List.mem_cons.1 h1 with h | h
      · exact h
      · rcases List.mem_cons.1 h2 with k | k
        · exact k.symm
        · have := hm.1 a h
          have := hl.1 b k
          omega
    subst hab
    rw [sorted_eq l m hl.2 hm.2 ((List.perm_cons a).1 p)]
theorem keysOf_pair (g : Nat → Option ByteArray) : ((keysOf g).map fun i : Nat => (i : Int)).Pairwise (· < ·) := by
  rw [List.pairwise_map]
  have : (keysOf g).Pairwise (· < ·) := List.Pairwise.filter _ List.pairwise_lt_range
  exact this.imp (by intro a b h; omega)
theorem keysOf_mem (g : Nat → Option ByteArray) (i : Nat) : i ∈ keysOf g ↔ i < 2048 ∧ (g i).isSome = true := by
  unfold keysOf; rw [List.mem_filter, List.mem_range]
theorem MS.keysPerm {es : Array MapEntry} {clock : Nat} {g : Nat → Option ByteArray} (m : MS es.toList clock g) : (intKeys (dOf es.toList)).Perm ((keysOf g).map fun i : Nat => (i : Int)) := by
  have h1 : (intKeys (dOf es.toList)).Perm ((es.toList.map (rg Try.prog 3 RV)).map fun p => Go.intOf p.1) := (Go.WideShapes.sorted_perm _).map _
  refine h1.trans ?_
  have h2 : (es.toList.map (rg Try.prog 3 RV)).map (fun p => Go.intOf p.1) = es.toList.map fun x => (natOf x.key : Int) := by
    rw [List.map_map]
    apply List.map_congr_left
    intro x hx
    obtain ⟨i, s, k1, k2, k3⟩ := m.en x hx
    have hk := keyOf_i i (m.bd i s k3).1
    show Go.intOf (rg Try.prog 3 RV x).1 = _
    unfold rg rd
    rw [k1, k2, hk]
    simp only [natOf, Int.toNat_natCast]
    rfl
  rw [h2]
  have hn1 : (es.toList.map fun x => (natOf x.key : Int)).Nodup := by
    rw [List.nodup_iff_pairwise_ne, List.pairwise_map]
    have := List.nodup_iff_pairwise_ne.1 m.st3
    rw [List.pairwise_map] at this
    refine this.imp_of_mem ?_
    intro a b ha hb hne e
    obtain ⟨i, s, k1, _⟩ := m.en a ha
    obtain ⟨j, t, k2, _⟩ := m.en b hb
    rw [k1, k2] at hne e
    simp only [natOf, Int.toNat_natCast] at e
    exact hne (by rw [show i = j by omega])
  have hn2 : ((keysOf g).map fun i : Nat => (i : Int)).Nodup := (keysOf_pair g).imp (by intro a b h; omega)
  rw [List.perm_ext_iff_of_nodup hn1 hn2]
  intro z
  rw [List.mem_map, List.mem_map]
  constructor
  · rintro ⟨x, hx, rfl⟩
    obtain ⟨i, s, k1, _, k3⟩ := m.en x hx
    refine ⟨i, (keysOf_mem g i).2 ⟨(m.bd i s k3).1, by rw [k3]; rfl⟩, ?_⟩
    rw [k1]; simp [natOf]
  · rintro ⟨i, hi, rfl⟩
    obtain ⟨_, h2⟩ := (keysOf_mem g i).1 hi
    obtain ⟨s, hs⟩ := Option.isSome_iff_exists.1 h2
    obtain ⟨x, hx, kx⟩ := m.al i s hs
    exact ⟨x, hx, by rw [kx]; simp [natOf]⟩

theorem mkeys_spec (r : Nat) (h : Heap) : HCalls Try.prog 40 #[.map (some r)] h fun e h' =>
    e = .returned (.func (.func 45) #[] #[.pointer (some ⟨h.size, 0, none⟩)]) ∧ h' = h.push (.cells #[.map (some r)] 55) := by
  intro w hw
  subst hw
  refine ((callsIn_wide (n := 5)).1 (AnyZI.keys_in Try.keysA Fence.wide 5 trivial rfl (some r) w)).mono ?_
  rintro e w' ⟨rfl, rfl⟩
  exact ⟨⟨rfl, rfl, rfl⟩, rfl, rfl⟩
/-- slices.Sort's two contracts, at the fence that asks nothing. -/
theorem sortsA (m : Nat) : AnyZI.SortsIn Try.prog Try.sortedA_ren Fence.wide m :=
  ⟨fun blk off cap ss W hH hblk hsz => callsIn_wide.2 (AnyM.slices_Sort_int Try.sortA blk off cap ss W hH hblk hsz),
   fun p cap W => callsIn_wide.2 (AnyM.slices_Sort_int_none Try.sortA p cap W)⟩
theorem msorted_spec {h : Heap} {r bk : Nat} {g : Nat → Option ByteArray} (x : MR h r g) (hb : BlkW h bk 55 [.map (some r)]) :
    HCalls Try.prog 39 #[.func (.func 45) #[] #[.pointer (some ⟨bk, 0, none⟩)]] h fun e h' => ∃ (a : Option Addr) (c : Nat), e = .returned (.slice a (keysOf g).length c) ∧ Sl h' 1 a (keysOf g).length c ((keysOf g).map natV) ∧ Ext h h' := by
  intro w hw
  obtain ⟨es, clock, e, m⟩ := x
  have own := MR.owns e m hw
  have hsz : Maps.size (dOf es.toList) ≤ 2048 := by
    have := m.size_le
    show ((es.toList.map (rg Try.prog 3 RV)).foldr DataW.insert []).length ≤ 2048
    rw [length_sorted, List.length_map]; exact this
  have hbk : bk < w.heap.size := by rw [hw]; exact hb.lt
  have hcl : w.cell? ⟨bk, 0, none⟩ = some (.map (some r)) := by rw [cell_eq, hw]; exact (hb.blk.cell 0).trans rfl
  have hseq : SeqGives Fence.wide 2 Try.prog 45 #[.pointer (some ⟨bk, 0, none⟩)] encZ (fun ss => ss.Perm (intKeys (dOf es.toList))) (Maps.size (dOf es.toList)) w :=
    AnyZI.keys_gives (ρ := Try.keysA_ren) { Try.keysA with } Fence.wide _ trivial rfl (by omega) bk r 2048 (dOf es.toList) w hbk hcl own
  have cS := AnyZI.sorted_in Try.sortedA Fence.wide 5 trivial trivial trivial trivial rfl (by omega) (sortsA _) (enters_of Try.func44 (by kernel_rfl) rfl) 45 #[.pointer (some ⟨bk, 0, none⟩)] trivial (enters_of Try.func45 (by kernel_rfl) rfl) _ _ (by unfold maxLen; omega) (by omega) w hseq
  refine ((callsIn_wide (n := 5)).1 cS).mono ?_
  rintro e w' ⟨v, ss, rfl, hS, hrow, hnil, bel⟩
  have hperm := hS.trans m.keysPerm
  have hse : ss.mergeSort (fun x y => decide (x ≤ y)) = (keysOf g).map fun i : Nat => (i : Int) := by
    refine sorted_eq _ _ ?_ (keysOf_pair g) ((List.mergeSort_perm ss _).trans hperm)
    have := List.pairwise_mergeSort (le := fun x y : Int => decide (x ≤ y)) (by intro a b c h1 h2; simp at h1 h2 ⊢; omega) (by intro a b; simp; omega) ss
    exact this.imp (by intro a b h; simpa using h)
  have hlen : ss.length = (keysOf g).length := by have := hperm.length_eq; simpa using this
  rw [hse] at hrow
  have hmap : ((keysOf g).map fun i : Nat => (i : Int)).map encZ = (keysOf g).map natV := by rw [List.map_map]; rfl
  rw [hmap, hlen] at hrow
  subst hw
  obtain ⟨hl, ⟨rfl, h0⟩ | ⟨gk, cap, cur, rfl, hge, hcur, hcap, _, hcs, htk⟩⟩ := hrow
  · have hk : (keysOf g) = [] := List.length_eq_zero_iff.1 h0
    refine ⟨⟨bel.os, bel.tape, bel.output⟩, none, 0, by rw [hk]; rfl, by rw [hk]; exact Sl.nil _ _, bel.size, fun b hb => bel.block b hb⟩
  · refine ⟨⟨bel.os, bel.tape, bel.output⟩, some ⟨gk, 0, none⟩, cap, rfl, ⟨by simp, hcap, (by intro h; cases h), ?_⟩, bel.size, fun b hb => bel.block b hb⟩
    intro p ep i hi
    cases ep
    rw [add_mk, Nat.zero_add]
    unfold hcell
    rw [show w'.heap[(⟨gk, i, none⟩ : Addr).block]? = _ from hcur]
    simp only [Option.isSome_none, Bool.false_eq_true, if_false]
    rw [← htk, List.getElem?_take_of_lt (by omega), Array.getElem?_toList]

end Go.Proofs.Ytlbmhpjefpdekaa.Hc
