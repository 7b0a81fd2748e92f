/- slices.Sort, slices.Compact over texts by the shelf; scope.distinct. -/
import Derived.Test.YtlogpojkkbcpjaaYC
import Derived.Test.YtlogpojkkbcpjaaS2
set_option linter.unusedVariables false
set_option linter.unusedSimpArgs false
namespace Go.Proofs.Ytlogpojkkbcpjaa.Hc
open Go Go.H Go.Proofs
open Go.Sort (Holds putRow putCells grow mapBlock onCells)
set_option maxRecDepth 100000
set_option maxHeartbeats 4000000
theorem put_off {α : Type} [Inhabited α] (enc : α → Value) (w : World) (b : Nat) (d : Array α) : Off b w.heap (putRow enc w b 0 d).heap := by
  refine ⟨by simp [putRow, mapBlock], fun k hk hne => ?_⟩
  simp only [putRow, mapBlock]
  rw [Array.getElem?_modify, if_neg (Ne.symm hne)]
theorem put_row {α : Type} [Inhabited α] (enc : α → Value) (w : World) (b e : Nat) (d : Array α) (cs : List Value) (fz : Nat × Nat) (x : w.heap[b]? = some (.cells cs.toArray e fz)) (hl : d.size ≤ cs.length) :
    (putRow enc w b 0 d).heap[b]? = some (.cells (d.toList.map enc ++ cs.drop d.size).toArray e fz) := by
  simp only [putRow, mapBlock]
  rw [Array.getElem?_modify, if_pos rfl, x]
  simp only [Option.map_some, onCells]
  congr 2
  apply Array.ext_getElem?
  intro i
  simp only [putCells, Array.getElem?_mapIdx, List.getElem?_toArray, Nat.zero_le, true_and, Nat.zero_add, Nat.sub_zero]
  by_cases hi : i < d.size
  · rw [List.getElem?_append_left (by simpa using hi), List.getElem?_eq_getElem (by omega), Option.map_some, if_pos hi, List.getElem?_map, List.getElem?_eq_getElem (by simpa using hi), Option.map_some, getElem!_pos d i hi, Array.getElem_toList]
  · rw [List.getElem?_append_right (by simpa using hi), List.length_map, Array.length_toList, List.getElem?_drop, show d.size + (i - d.size) = i by omega]
    cases cs[i]? with
    | none => rfl
    | some v => rw [Option.map_some, if_neg hi]
def toL (s : ByteArray) : List UInt8 := s.data.toList
def toB (l : List UInt8) : ByteArray := ⟨l.toArray⟩
theorem toB_toL (s : ByteArray) : toB (toL s) = s := rfl
theorem toL_toB (l : List UInt8) : toL (toB l) = l := rfl
theorem map_enc (ks : List ByteArray) : (ks.map toL).map encStr = ks.map .string := by rw [List.map_map]; rfl
theorem map_enc' (ss : List (List UInt8)) : ss.map encStr = (ss.map toB).map .string := by rw [List.map_map]; rfl
theorem holds_of {w : World} {b e : Nat} {ks : List ByteArray} {spare : List Value} (x : BlkW w.heap b e (ks.map .string ++ spare)) : Holds encStr w b 0 (ks.map toL).toArray := by
  intro j hj
  have hj : j < ks.length := by simpa using hj
  refine ⟨?_, ?_⟩
  · rw [cell_eq, Nat.zero_add, x.blk.cell, List.getElem?_append_left (by simpa using hj), List.getElem?_map, List.getElem?_eq_getElem hj, Option.map_some]
    congr 1
    rw [getElem!_pos _ j (by simpa using hj)]
    simp [toL]
  · rw [frozen_eq, Nat.zero_add]
    exact x.frozen (by rw [List.length_append, List.length_map]; omega)
/-- Texts in order. -/
def sortS (ks : List ByteArray) : List ByteArray := ((ks.map toL).mergeSort fun x y => decide (x ≤ y)).map toB
theorem sortS_len (ks : List ByteArray) : (sortS ks).length = ks.length := by unfold sortS; simp
theorem sort_spec {h : Heap} {b c : Nat} {ks : List ByteArray} {B : Nat} (w0 : Own h B 9 1 (some ⟨b, 0, none⟩) ks.length c (ks.map .string)) (hn : ks.length ≤ 4194304) :
    HCalls Try.prog 73 #[.slice (some ⟨b, 0, none⟩) ks.length c] h fun e h' => e = .returned (.tuple #[]) ∧ Own h' B 9 1 (some ⟨b, 0, none⟩) ks.length c ((sortS ks).map .string) ∧ Off b h h' := by
  intro w hw
  subst hw
  obtain ⟨hl, hc, hnn, hp⟩ := w0
  obtain ⟨b', spare, eb, hB, hs, o⟩ := hp _ rfl
  cases eb
  have c1 := Any.slices_Sort_string Try.lays190 b 0 c (ks.map toL) w (holds_of o) o.lt (by simp; omega)
  rw [List.length_map] at c1
  refine c1.mono ?_
  rintro e w' ⟨rfl, n, os, rfl⟩
  refine ⟨⟨rfl, rfl, rfl⟩, rfl, ?_⟩
  obtain ⟨fz, o1, o2⟩ := o
  have hd : ((ks.map toL).mergeSort fun x y => decide (x ≤ y)).toArray.size = ks.length := by simp
  have r1 := put_row encStr (Go.Sort.ahead w n) b 9 ((ks.map toL).mergeSort fun x y => decide (x ≤ y)).toArray _ fz o1 (by rw [hd]; simp)
  have f1 := put_off encStr (Go.Sort.ahead w n) b ((ks.map toL).mergeSort fun x y => decide (x ≤ y)).toArray
  have eg : ∀ (v : World) (i : Nat), i < v.heap.size → (grow v os).heap[i]? = v.heap[i]? := by
    intro v i hi
    show (v.heap ++ os)[i]? = _
    rw [Array.getElem?_append_left hi]
  have hb : b < (Go.Sort.ahead w n).heap.size := by
    rcases Nat.lt_or_ge b w.heap.size with hl | hl
    · exact hl
    · rw [Array.getElem?_eq_none hl] at o1; cases o1
  have hsz : (grow (putRow encStr (Go.Sort.ahead w n) b 0 ((ks.map toL).mergeSort fun x y => decide (x ≤ y)).toArray) os).heap.size = (putRow encStr (Go.Sort.ahead w n) b 0 ((ks.map toL).mergeSort fun x y => decide (x ≤ y)).toArray).heap.size + os.size := by show (_ ++ os : Array Obj).size = _; simp
  refine ⟨⟨by simp [sortS], hc, hnn, ?_⟩, ?_⟩
  · intro p ep
    cases ep
    refine ⟨b, spare, rfl, hB, hs, fz, ?_, ?_⟩
    · rw [eg _ _ (by have := f1.1; omega), r1, hd]
      congr 2
      simp only [map_enc']
      rw [List.drop_left' (by simp)]
      rfl
    · intro i hi
      refine o2 i ?_
      simp only [List.length_append, List.length_map, sortS_len] at hi ⊢
      exact hi
  · refine ⟨by have := f1.1; rw [hsz]; exact Nat.le_trans this (Nat.le_add_right _ _), fun k hk hne => ?_⟩
    rw [eg _ _ (Nat.lt_of_lt_of_le hk f1.1)]
    exact f1.2 k hk hne
theorem sort_none (p : Option Addr) (c : Nat) (h : Heap) : HCalls Try.prog 73 #[.slice p 0 c] h fun e h' => e = .returned (.tuple #[]) ∧ h' = h := by
  intro w hw
  subst hw
  exact (Any.slices_Sort_string_none Try.lays190 p c w).mono fun e w' ⟨h1, h2⟩ => by subst h2; exact ⟨⟨rfl, rfl, rfl⟩, h1, rfl⟩
theorem sorted_spec {b : Nat} {ks : List ByteArray} {a : Option Addr} {c : Nat} {h : Heap} (hn : ks.length ≤ 4194304) (o : BlkW h b 23 [.slice a ks.length c]) (hs : Sl h 1 a ks.length c (ks.map .string)) :
    HCalls Try.prog 53 #[.func (.func 74) #[] #[.pointer (some ⟨b, 0, none⟩)]] h fun e h' => ∃ a' c', e = .returned (.slice a' ks.length c') ∧ Own h' h.size 9 1 a' ks.length c' ((sortS ks).map .string) ∧ Ext h h' := by
  refine c53 (by simp) ?_
  ((conv=>whnf);repeat((first|(with_reducible first|refine Z1 ?_|refine Z2 ?_|refine Z3 ?_|refine Z4 ?_|refine Z5 ?_|refine Z9 (by assumption) rfl ?_|refine ZA (by assumption) rfl ?_|refine ZB (by assumption) rfl ?_|refine Z6 ?_|refine Z7 ?_|refine Z8 ?_)|((with_reducible refine ZM ?_ ?_);(focus rfl)));(conv=>whnf)))
  refine HCall.mk ((collect1_spec hn o hs).mono ?_)
  rintro e h1 ⟨a', c', rfl, w1, x1⟩
  cases a' with
  | none =>
    have h0 := w1.2.2.1 rfl
    have h2 := w1.2.1
    obtain rfl : c' = 0 := h0
    have hk : ks = [] := List.length_eq_zero_iff.1 (by omega)
    subst hk
    ((conv=>whnf);repeat((first|(with_reducible first|refine Z1 ?_|refine Z2 ?_|refine Z3 ?_|refine Z4 ?_|refine Z5 ?_|refine Z9 (by assumption) rfl ?_|refine ZA (by assumption) rfl ?_|refine ZB (by assumption) rfl ?_|refine Z6 ?_|refine Z7 ?_|refine Z8 ?_)|((with_reducible refine ZM ?_ ?_);(focus rfl)));(conv=>whnf)))
    refine HCall.mk ((sort_none none 0 h1).mono ?_)
    rintro e h2 ⟨rfl, rfl⟩
    ((conv=>whnf);repeat((first|(with_reducible first|refine Z1 ?_|refine Z2 ?_|refine Z3 ?_|refine Z4 ?_|refine Z5 ?_|refine Z9 (by assumption) rfl ?_|refine ZA (by assumption) rfl ?_|refine ZB (by assumption) rfl ?_|refine Z6 ?_|refine Z7 ?_|refine Z8 ?_)|((with_reducible refine ZM ?_ ?_);(focus rfl)));(conv=>whnf)))
    exact ⟨none, 0, rfl, by simpa [sortS] using w1, x1⟩
  | some p =>
    obtain ⟨b1, sp, rfl, hB, _⟩ := w1.2.2.2 p rfl
    ((conv=>whnf);repeat((first|(with_reducible first|refine Z1 ?_|refine Z2 ?_|refine Z3 ?_|refine Z4 ?_|refine Z5 ?_|refine Z9 (by assumption) rfl ?_|refine ZA (by assumption) rfl ?_|refine ZB (by assumption) rfl ?_|refine Z6 ?_|refine Z7 ?_|refine Z8 ?_)|((with_reducible refine ZM ?_ ?_);(focus rfl)));(conv=>whnf)))
    refine HCall.mk ((sort_spec w1 hn).mono ?_)
    rintro e h2 ⟨rfl, w2, f2⟩
    ((conv=>whnf);repeat((first|(with_reducible first|refine Z1 ?_|refine Z2 ?_|refine Z3 ?_|refine Z4 ?_|refine Z5 ?_|refine Z9 (by assumption) rfl ?_|refine ZA (by assumption) rfl ?_|refine ZB (by assumption) rfl ?_|refine Z6 ?_|refine Z7 ?_|refine Z8 ?_)|((with_reducible refine ZM ?_ ?_);(focus rfl)));(conv=>whnf)))
    exact ⟨_, c', rfl, w2, x1.offNew f2 hB⟩
theorem compact_spec {h : Heap} {b c : Nat} {ks : List ByteArray} {B : Nat} (w0 : Own h B 9 1 (some ⟨b, 0, none⟩) ks.length c (ks.map .string)) (hn : ks.length ≤ 4194304) :
    HCalls Try.prog 55 #[.slice (some ⟨b, 0, none⟩) ks.length c] h fun e h' => ∃ a' c', e = .returned (.slice a' (Lib.compact (ks.map toL)).length c') ∧ Off b h h' := by
  intro w hw
  subst hw
  obtain ⟨hl, hc, hnn, hp⟩ := w0
  obtain ⟨b', spare, eb, hB, hs, o⟩ := hp _ rfl
  cases eb
  have c1 := Any.slices_Compact_string Try.lays194 b 0 c (ks.map toL) w (holds_of o) (by simp; omega) (by simpa using hc)
  rw [List.length_map] at c1
  refine c1.mono ?_
  rintro e w' ⟨rfl, q, rfl⟩
  exact ⟨⟨rfl, rfl, rfl⟩, _, _, rfl, put_off encStr (Go.Sort.ahead w q) b _⟩
theorem compact_none (p : Option Addr) (c : Nat) (h : Heap) : HCalls Try.prog 55 #[.slice p 0 c] h fun e h' => e = .returned (.slice p 0 c) ∧ h' = h := by
  intro w hw
  subst hw
  exact (Any.slices_Compact_string_empty Try.lays194 p c w).mono fun e w' ⟨h1, h2⟩ => by subst h2; exact ⟨⟨rfl, rfl, rfl⟩, h1, rfl⟩
theorem filter_len {α : Type} (q : α → Bool) : ∀ l : List α, (l.filter q).length = l.length ↔ ∀ x ∈ l, q x = true := by
  intro l
  exact List.length_filter_eq_length_iff
theorem compact_len (zs : List (List UInt8)) : (Lib.compact zs).length = zs.length ↔ ∀ j, 0 < j → j < zs.length → zs[j]? ≠ zs[j - 1]? := by
  have h1 : (Lib.compact zs).length = ((List.range zs.length).filter (Lib.keeps zs.toArray)).length := by unfold Lib.compact Lib.compactUpTo; rw [List.length_map]
  have h2 : (((List.range zs.length).filter (Lib.keeps zs.toArray)).length = zs.length) ↔ ∀ x ∈ List.range zs.length, Lib.keeps zs.toArray x = true := by
    have := filter_len (Lib.keeps zs.toArray) (List.range zs.length)
    rwa [List.length_range] at this
  rw [h1, h2]
  have at1 : ∀ j, j < zs.length → zs.toArray[j]! = zs[j]!  := by intro j hj; simp
  constructor
  · intro h j h0 hj
    have := h j (List.mem_range.2 hj)
    unfold Lib.keeps at this
    have := of_decide_eq_true this
    rcases this with hh | hh
    · omega
    · intro e
      apply hh
      rw [List.getElem?_eq_getElem hj, List.getElem?_eq_getElem (by omega)] at e
      rw [getElem!_pos _ j (by simpa using hj), getElem!_pos _ (j - 1) (by simp; omega)]
      simpa using e
  · intro h j hj
    have hj := List.mem_range.1 hj
    unfold Lib.keeps
    refine decide_eq_true ?_
    by_cases h0 : j = 0
    · exact .inl h0
    · refine .inr fun e => h j (by omega) hj ?_
      rw [getElem!_pos _ j (by simpa using hj), getElem!_pos _ (j - 1) (by simp; omega)] at e
      rw [List.getElem?_eq_getElem hj, List.getElem?_eq_getElem (by omega)]
      simpa using e
theorem sorted_pair (l : List (List UInt8)) : (l.mergeSort fun x y => decide (x ≤ y)).Pairwise (· ≤ ·) := by
  have := List.pairwise_mergeSort (le := fun x y : List UInt8 => decide (x ≤ y)) (by intro a b c h1 h2; simp only [decide_eq_true_eq] at h1 h2 ⊢; exact List.le_trans h1 h2) (by intro a b; simp only [Bool.or_eq_true, decide_eq_true_eq]; exact List.le_total a b) l
  exact this.imp (by intro a b h; simpa using h)
theorem nodup_adj (l : List (List UInt8)) (hp : l.Pairwise (· ≤ ·)) : l.Nodup ↔ ∀ j, 0 < j → j < l.length → l[j]? ≠ l[j - 1]? := by
  constructor
  · intro h j h0 hj e
    rw [List.getElem?_eq_getElem hj, List.getElem?_eq_getElem (by omega)] at e
    have := (List.nodup_iff_pairwise_ne.1 h)
    rw [List.pairwise_iff_getElem] at this
    exact this (j - 1) j (by omega) hj (by omega) (by injection e with e; exact e.symm)
  · intro h
    rw [List.nodup_iff_pairwise_ne, List.pairwise_iff_getElem]
    intro i j hi hj hij e
    rw [List.pairwise_iff_getElem] at hp
    have h1 := hp i (i + 1) hi (by omega) (by omega)
    have h2 : l[i + 1] ≤ l[j] := by
      rcases Nat.lt_or_ge (i + 1) j with hl | hl
      · exact hp (i + 1) j (by omega) hj hl
      · have : i + 1 = j := by omega
        subst this; exact List.le_refl _
    rw [← e] at h2
    have := List.le_antisymm h1 h2
    refine h (i + 1) (by omega) (by omega) ?_
    rw [List.getElem?_eq_getElem (by omega), show i + 1 - 1 = i by omega, List.getElem?_eq_getElem hi, this]
def distinctB (ks : List ByteArray) : Bool := decide (ks.Nodup)
theorem toL_inj : ∀ {a b : ByteArray}, toL a = toL b → a = b := by intro a b h; rw [← toB_toL a, ← toB_toL b, h]
theorem distinct_law (ks : List ByteArray) : (Lib.compact ((sortS ks).map toL)).length = ks.length ↔ ks.Nodup := by
  have e1 : (sortS ks).map toL = (ks.map toL).mergeSort fun x y => decide (x ≤ y) := by unfold sortS; rw [List.map_map]; exact List.map_id _
  have hl : ks.length = ((ks.map toL).mergeSort fun x y => decide (x ≤ y)).length := by simp
  rw [e1, hl, compact_len, ← nodup_adj _ (sorted_pair _), (List.mergeSort_perm _ _).nodup_iff]
  constructor
  · intro h; exact (List.pairwise_map.1 h).imp (by intro a b hne e; exact hne (by rw [e]))
  · intro h; exact List.Pairwise.map toL (by intro a b h e; exact h (toL_inj e)) h
theorem distinct_spec {ks : List ByteArray} {a : Option Addr} {c : Nat} {h : Heap} (hn : ks.length ≤ 4194304) (hs : Sl h 1 a ks.length c (ks.map .string)) :
    HCalls Try.prog 37 #[.slice a ks.length c] h fun e h' => e = .returned (.bool (distinctB ks)) ∧ Ext h h' := by
  refine c37 (by simp) ?_
  ((conv=>whnf);repeat((first|(with_reducible first|refine Z1 ?_|refine Z2 ?_|refine Z3 ?_|refine Z4 ?_|refine Z5 ?_|refine Z9 (by assumption) rfl ?_|refine ZA (by assumption) rfl ?_|refine ZB (by assumption) rfl ?_|refine Z6 ?_|refine Z7 ?_|refine Z8 ?_)|((with_reducible refine ZM ?_ ?_);(focus rfl)));(conv=>whnf)))
  refine HCall.mk ((values_spec a ks.length c h).mono ?_)
  rintro e h1 ⟨b, rfl, o1, x1⟩
  ((conv=>whnf);repeat((first|(with_reducible first|refine Z1 ?_|refine Z2 ?_|refine Z3 ?_|refine Z4 ?_|refine Z5 ?_|refine Z9 (by assumption) rfl ?_|refine ZA (by assumption) rfl ?_|refine ZB (by assumption) rfl ?_|refine Z6 ?_|refine Z7 ?_|refine Z8 ?_)|((with_reducible refine ZM ?_ ?_);(focus rfl)));(conv=>whnf)))
  refine HCall.mk ((sorted_spec hn o1 (hs.ext x1)).mono ?_)
  rintro e h2 ⟨a', c', rfl, w2, x2⟩
  have hl := distinct_law ks
  cases a' with
  | none =>
    have h0 := w2.2.2.1 rfl
    have h3 := w2.2.1
    have hk : ks = [] := List.length_eq_zero_iff.1 (by omega)
    subst hk
    ((conv=>whnf);repeat((first|(with_reducible first|refine Z1 ?_|refine Z2 ?_|refine Z3 ?_|refine Z4 ?_|refine Z5 ?_|refine Z9 (by assumption) rfl ?_|refine ZA (by assumption) rfl ?_|refine ZB (by assumption) rfl ?_|refine Z6 ?_|refine Z7 ?_|refine Z8 ?_)|((with_reducible refine ZM ?_ ?_);(focus rfl)));(conv=>whnf)))
    refine HCall.mk ((compact_none none c' h2).mono ?_)
    rintro e h3 ⟨rfl, rfl⟩
    ((conv=>whnf);repeat((first|(with_reducible first|refine Z1 ?_|refine Z2 ?_|refine Z3 ?_|refine Z4 ?_|refine Z5 ?_|refine Z9 (by assumption) rfl ?_|refine ZA (by assumption) rfl ?_|refine ZB (by assumption) rfl ?_|refine Z6 ?_|refine Z7 ?_|refine Z8 ?_)|((with_reducible refine ZM ?_ ?_);(focus rfl)));(conv=>whnf)))
    exact ⟨rfl, x1.trans x2⟩
  | some p =>
    obtain ⟨b1, sp, rfl, hB, _⟩ := w2.2.2.2 p rfl
    have w2' : Own h2 h1.size 9 1 (some ⟨b1, 0, none⟩) (sortS ks).length c' ((sortS ks).map .string) := by rw [sortS_len]; exact w2
    have c2 := compact_spec w2' (by rw [sortS_len]; exact hn)
    rw [sortS_len] at c2
    ((conv=>whnf);repeat((first|(with_reducible first|refine Z1 ?_|refine Z2 ?_|refine Z3 ?_|refine Z4 ?_|refine Z5 ?_|refine Z9 (by assumption) rfl ?_|refine ZA (by assumption) rfl ?_|refine ZB (by assumption) rfl ?_|refine Z6 ?_|refine Z7 ?_|refine Z8 ?_)|((with_reducible refine ZM ?_ ?_);(focus rfl)));(conv=>whnf)))
    refine HCall.mk (c2.mono ?_)
    rintro e h3 ⟨a3, c3, rfl, f3⟩
    generalize (Lib.compact ((sortS ks).map toL)).length = m at hl
    have q : ((m : Int) == (ks.length : Int)) = distinctB ks := by
      unfold distinctB
      rw [Bool.eq_iff_iff, beq_iff_eq, decide_eq_true_iff, ← hl]; omega
    ((conv=>whnf);repeat((first|(with_reducible first|refine Z1 ?_|refine Z2 ?_|refine Z3 ?_|refine Z4 ?_|refine Z5 ?_|refine Z9 (by assumption) rfl ?_|refine ZA (by assumption) rfl ?_|refine ZB (by assumption) rfl ?_|refine Z6 ?_|refine Z7 ?_|refine Z8 ?_)|((with_reducible refine ZM ?_ ?_);(focus rfl)));(conv=>whnf)))
    exact ⟨by rw [← q]; rfl, (x1.trans x2).offNew f3 (Nat.le_trans x1.1 hB)⟩
end Go.Proofs.Ytlogpojkkbcpjaa.Hc
