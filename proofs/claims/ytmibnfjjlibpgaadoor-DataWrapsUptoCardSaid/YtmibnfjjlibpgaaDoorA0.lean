import Derived.Test.YtmibnfjjlibpgaaDoorC0
import Derived.Test.YtmibnfjjlibpgaaDoorHK
set_option linter.unusedVariables false
set_option linter.unusedSimpArgs false
namespace Go.Proofs.YtmibnfjjlibpgaaDoor.Hc
open Go Go.H Go.Proofs
set_option maxRecDepth 100000

theorem rsame_spec : ∀ (a b : DT) (h : Heap) (cs ds : List Value), Rep h a cs → Rep h b ds →
    HCalls Tryd.prog 16 #[.agg cs.toArray, .agg ds.toArray] h fun e h' => ∃ r, e = .returned (.bool r) ∧ (r = true ↔ a = b) ∧ Ext h h' := by
  intro a
  induction a using (measure (fun d : DT => SizeOf.sizeOf d)).wf.induction with
  | _ a ih =>
  intro b h cs ds ra rb
  obtain ⟨k1, n1, s1, ks1, l1⟩ := a
  obtain ⟨k2, n2, s2, ks2, l2⟩ := b
  have ra0 := ra
  have rb0 := rb
  simp only [Rep] at ra rb
  obtain ⟨a1, a2, a3, a4, a5, a6, ka, kc, la, lc, xs, rfl, a7, a8, a9⟩ := ra
  obtain ⟨b1, b2, b3, b4, b5, b6, kb, kd, lb, ld, ys, rfl, b7, b8, b9⟩ := rb
  refine c16 (by simp) ?_
  ((conv=>whnf);repeat((first|(with_reducible first|refine Z1 ?_|refine Z2 ?_|refine Z3 ?_|refine Z4 ?_|refine Z5 ?_));(conv=>whnf)))
  refine new_var (e := 25) [.int .i64 k1, .int .i64 n1, .string s1, .slice ka ks1.length kc, .slice la l1.length lc] rfl ?_
  intro h1 bx ox x1 z1 _
  ((conv=>whnf);repeat((first|(with_reducible first|refine Z1 ?_|refine Z2 ?_|refine Z3 ?_|refine Z4 ?_|refine Z5 ?_));(conv=>whnf)))
  refine new_var (e := 25) [.int .i64 k2, .int .i64 n2, .string s2, .slice kb ks2.length kd, .slice lb l2.length ld] rfl ?_
  intro h2 by' oy x2 z2 _
  ((conv=>whnf);repeat((first|(with_reducible first|refine Z1 ?_|refine Z2 ?_|refine Z3 ?_|refine Z4 ?_|refine Z5 ?_));(conv=>whnf)))
  have ox2 := ox.ext x2
  have x12 := x1.trans x2
  refine blk_ld ox2 rfl ?_
  ((conv=>whnf);repeat((first|(with_reducible first|refine Z1 ?_|refine Z2 ?_|refine Z3 ?_|refine Z4 ?_|refine Z5 ?_));(conv=>whnf)))
  refine blk_ld oy rfl ?_
  ((conv=>whnf);repeat((first|(with_reducible first|refine Z1 ?_|refine Z2 ?_|refine Z3 ?_|refine Z4 ?_|refine Z5 ?_));(conv=>whnf)))
  refine HIf.mk (fun hb1 => ?_) (fun hb1 => ?_)
  · have hne : k1 ≠ k2 := by simpa using hb1
    ((conv=>whnf);repeat((first|(with_reducible first|refine Z1 ?_|refine Z2 ?_|refine Z3 ?_|refine Z4 ?_|refine Z5 ?_));(conv=>whnf)))
    exact ⟨false, rfl, by simp [hne], x12⟩
  have e1 : k1 = k2 := by simpa using hb1
  ((conv=>whnf);repeat((first|(with_reducible first|refine Z1 ?_|refine Z2 ?_|refine Z3 ?_|refine Z4 ?_|refine Z5 ?_));(conv=>whnf)))
  refine blk_ld ox2 rfl ?_
  ((conv=>whnf);repeat((first|(with_reducible first|refine Z1 ?_|refine Z2 ?_|refine Z3 ?_|refine Z4 ?_|refine Z5 ?_));(conv=>whnf)))
  refine blk_ld oy rfl ?_
  ((conv=>whnf);repeat((first|(with_reducible first|refine Z1 ?_|refine Z2 ?_|refine Z3 ?_|refine Z4 ?_|refine Z5 ?_));(conv=>whnf)))
  refine HIf.mk (fun hb2 => ?_) (fun hb2 => ?_)
  · have hne : n1 ≠ n2 := by simpa using hb2
    ((conv=>whnf);repeat((first|(with_reducible first|refine Z1 ?_|refine Z2 ?_|refine Z3 ?_|refine Z4 ?_|refine Z5 ?_));(conv=>whnf)))
    exact ⟨false, rfl, by simp [hne], x12⟩
  have e2 : n1 = n2 := by simpa using hb2
  ((conv=>whnf);repeat((first|(with_reducible first|refine Z1 ?_|refine Z2 ?_|refine Z3 ?_|refine Z4 ?_|refine Z5 ?_));(conv=>whnf)))
  refine blk_ld ox2 rfl ?_
  ((conv=>whnf);repeat((first|(with_reducible first|refine Z1 ?_|refine Z2 ?_|refine Z3 ?_|refine Z4 ?_|refine Z5 ?_));(conv=>whnf)))
  refine blk_ld oy rfl ?_
  ((conv=>whnf);repeat((first|(with_reducible first|refine Z1 ?_|refine Z2 ?_|refine Z3 ?_|refine Z4 ?_|refine Z5 ?_));(conv=>whnf)))
  refine HIf.mk (fun hb3 => ?_) (fun hb3 => ?_)
  · have hne : s1 ≠ s2 := by intro e; rw [← strEq_iff] at e; rw [e] at hb3; cases hb3
    ((conv=>whnf);repeat((first|(with_reducible first|refine Z1 ?_|refine Z2 ?_|refine Z3 ?_|refine Z4 ?_|refine Z5 ?_));(conv=>whnf)))
    exact ⟨false, rfl, by simp [hne], x12⟩
  have e3 : s1 = s2 := by rw [← strEq_iff]; simpa using hb3
  ((conv=>whnf);repeat((first|(with_reducible first|refine Z1 ?_|refine Z2 ?_|refine Z3 ?_|refine Z4 ?_|refine Z5 ?_));(conv=>whnf)))
  refine blk_ld ox2 rfl ?_
  ((conv=>whnf);repeat((first|(with_reducible first|refine Z1 ?_|refine Z2 ?_|refine Z3 ?_|refine Z4 ?_|refine Z5 ?_));(conv=>whnf)))
  refine blk_ld oy rfl ?_
  ((conv=>whnf);repeat((first|(with_reducible first|refine Z1 ?_|refine Z2 ?_|refine Z3 ?_|refine Z4 ?_|refine Z5 ?_));(conv=>whnf)))
  refine HIf.mk (fun hb4 => ?_) (fun hb4 => ?_)
  · have hne : ks1 ≠ ks2 := by rintro rfl; simp at hb4
    ((conv=>whnf);repeat((first|(with_reducible first|refine Z1 ?_|refine Z2 ?_|refine Z3 ?_|refine Z4 ?_|refine Z5 ?_));(conv=>whnf)))
    exact ⟨false, rfl, by simp [hne], x12⟩
  have e4 : ks1.length = ks2.length := by have : (ks1.length : Int) = ks2.length := by simpa using hb4
                                          omega
  ((conv=>whnf);repeat((first|(with_reducible first|refine Z1 ?_|refine Z2 ?_|refine Z3 ?_|refine Z4 ?_|refine Z5 ?_));(conv=>whnf)))
  refine blk_ld ox2 rfl ?_
  ((conv=>whnf);repeat((first|(with_reducible first|refine Z1 ?_|refine Z2 ?_|refine Z3 ?_|refine Z4 ?_|refine Z5 ?_));(conv=>whnf)))
  refine blk_ld oy rfl ?_
  ((conv=>whnf);repeat((first|(with_reducible first|refine Z1 ?_|refine Z2 ?_|refine Z3 ?_|refine Z4 ?_|refine Z5 ?_));(conv=>whnf)))
  refine HIf.mk (fun hb5 => ?_) (fun hb5 => ?_)
  · have hne : l1 ≠ l2 := by rintro rfl; simp at hb5
    ((conv=>whnf);repeat((first|(with_reducible first|refine Z1 ?_|refine Z2 ?_|refine Z3 ?_|refine Z4 ?_|refine Z5 ?_));(conv=>whnf)))
    exact ⟨false, rfl, by simp [hne], x12⟩
  have e5 : l1.length = l2.length := by have : (l1.length : Int) = l2.length := by simpa using hb5
                                        omega
  ((conv=>whnf);repeat((first|(with_reducible first|refine Z1 ?_|refine Z2 ?_|refine Z3 ?_|refine Z4 ?_|refine Z5 ?_));(conv=>whnf)))
  refine blk_ld ox2 rfl ?_
  ((conv=>whnf);repeat((first|(with_reducible first|refine Z1 ?_|refine Z2 ?_|refine Z3 ?_|refine Z4 ?_|refine Z5 ?_));(conv=>whnf)))
  have a7' := a7.ext x12
  have b7' := b7.ext x12
  refine loop_rule [47] (fun vs h' => ∃ (i : Nat), vs = [.int .i64 i] ∧ i ≤ ks1.length ∧ ks1.take i = ks2.take i ∧ h' = h2)
    (fun vs _ => match vs with | [.int _ i] => ks1.length - i.toNat | _ => 0) rfl ?_ ?_
  · exact ⟨0, rfl, by omega, rfl, rfl⟩
  · intro u h2 v47
    rintro ⟨i, e, hi, ht, rfl⟩
    cases e
    ((conv=>whnf);repeat((first|(with_reducible first|refine Z1 ?_|refine Z2 ?_|refine Z3 ?_|refine Z4 ?_|refine Z5 ?_));(conv=>whnf)))
    refine HIf.mk (fun hb => ?_) (fun hb => ?_)
    · have hlt := of_decide_eq_true hb
      have hi1 : i < ks1.length := by omega
      have hi2 : i < ks2.length := by omega
      ((conv=>whnf);repeat((first|(with_reducible first|refine Z1 ?_|refine Z2 ?_|refine Z3 ?_|refine Z4 ?_|refine Z5 ?_));(conv=>whnf)))
      refine blk_ld ox2 rfl ?_
      ((conv=>whnf);repeat((first|(with_reducible first|refine Z1 ?_|refine Z2 ?_|refine Z3 ?_|refine Z4 ?_|refine Z5 ?_));(conv=>whnf)))
      refine HIdx.mk i rfl hi1 ?_
      refine sl_some a7' hi1 fun p ep => ?_
      ((conv=>whnf);repeat((first|(with_reducible first|refine Z1 ?_|refine Z2 ?_|refine Z3 ?_|refine Z4 ?_|refine Z5 ?_));(conv=>whnf)))
      refine a7'.load ep (by simpa using hi1) ?_
      rw [List.getElem_map]
      ((conv=>whnf);repeat((first|(with_reducible first|refine Z1 ?_|refine Z2 ?_|refine Z3 ?_|refine Z4 ?_|refine Z5 ?_));(conv=>whnf)))
      refine blk_ld oy rfl ?_
      ((conv=>whnf);repeat((first|(with_reducible first|refine Z1 ?_|refine Z2 ?_|refine Z3 ?_|refine Z4 ?_|refine Z5 ?_));(conv=>whnf)))
      refine HIdx.mk i rfl hi2 ?_
      refine sl_some b7' hi2 fun p2 ep2 => ?_
      ((conv=>whnf);repeat((first|(with_reducible first|refine Z1 ?_|refine Z2 ?_|refine Z3 ?_|refine Z4 ?_|refine Z5 ?_));(conv=>whnf)))
      refine b7'.load ep2 (by simpa using hi2) ?_
      rw [List.getElem_map]
      ((conv=>whnf);repeat((first|(with_reducible first|refine Z1 ?_|refine Z2 ?_|refine Z3 ?_|refine Z4 ?_|refine Z5 ?_));(conv=>whnf)))
      refine HIf.mk (fun hb6 => ?_) (fun hb6 => ?_)
      · have hne : ks1 ≠ ks2 := by
          rintro rfl
          have : strEq ks1[i] ks1[i] = true := (strEq_iff _ _).2 rfl
          rw [this] at hb6; cases hb6
        ((conv=>whnf);repeat((first|(with_reducible first|refine Z1 ?_|refine Z2 ?_|refine Z3 ?_|refine Z4 ?_|refine Z5 ?_));(conv=>whnf)))
        exact ⟨false, rfl, by simp [hne], x12⟩
      · have heq : ks1[i] = ks2[i] := by rw [← strEq_iff]; simpa using hb6
        ((conv=>whnf);repeat((first|(with_reducible first|refine Z1 ?_|refine Z2 ?_|refine Z3 ?_|refine Z4 ?_|refine Z5 ?_));(conv=>whnf)))
        refine ⟨⟨i + 1, rfl, by omega, ?_, rfl⟩, ?_⟩
        · rw [List.take_add_one, List.take_add_one, ht, List.getElem?_eq_getElem hi1, List.getElem?_eq_getElem hi2, heq]
        · show ks1.length - (((i : Int) + 1)).toNat < ks1.length - ((i : Int)).toNat
          omega
    · have hge := of_decide_eq_false hb
      have e6 : ks1 = ks2 := by
        rw [List.take_of_length_le (by omega), List.take_of_length_le (by omega)] at ht; exact ht
      ((conv=>whnf);repeat((first|(with_reducible first|refine Z1 ?_|refine Z2 ?_|refine Z3 ?_|refine Z4 ?_|refine Z5 ?_));(conv=>whnf)))
      refine blk_ld ox2 rfl ?_
      ((conv=>whnf);repeat((first|(with_reducible first|refine Z1 ?_|refine Z2 ?_|refine Z3 ?_|refine Z4 ?_|refine Z5 ?_));(conv=>whnf)))
      refine loop_rule [65] (fun vs h' => ∃ (i : Nat), vs = [.int .i64 i] ∧ i ≤ l1.length ∧ l1.take i = l2.take i ∧ Ext h2 h')
        (fun vs _ => match vs with | [.int _ i] => l1.length - i.toNat | _ => 0) rfl ?_ ?_
      · exact ⟨0, rfl, by omega, rfl, Ext.refl _⟩
      · intro u h3 v65
        rintro ⟨i, e, hi, ht, x3⟩
        cases e
        have x13 := x12.trans x3
        ((conv=>whnf);repeat((first|(with_reducible first|refine Z1 ?_|refine Z2 ?_|refine Z3 ?_|refine Z4 ?_|refine Z5 ?_));(conv=>whnf)))
        refine HIf.mk (fun hb7 => ?_) (fun hb7 => ?_)
        · have hlt := of_decide_eq_true hb7
          have hi1 : i < l1.length := by omega
          have hi2 : i < l2.length := by omega
          ((conv=>whnf);repeat((first|(with_reducible first|refine Z1 ?_|refine Z2 ?_|refine Z3 ?_|refine Z4 ?_|refine Z5 ?_));(conv=>whnf)))
          refine blk_ld (ox2.ext x3) rfl ?_
          ((conv=>whnf);repeat((first|(with_reducible first|refine Z1 ?_|refine Z2 ?_|refine Z3 ?_|refine Z4 ?_|refine Z5 ?_));(conv=>whnf)))
          refine HIdx.mk i rfl hi1 ?_
          refine sl_some a8 hi1 fun p ep => ?_
          ((conv=>whnf);repeat((first|(with_reducible first|refine Z1 ?_|refine Z2 ?_|refine Z3 ?_|refine Z4 ?_|refine Z5 ?_));(conv=>whnf)))
          refine (a8.ext x13).loadRep (Reps.ext x13 _ _ a9) ep hi1 fun as' ra1 => ?_
          ((conv=>whnf);repeat((first|(with_reducible first|refine Z1 ?_|refine Z2 ?_|refine Z3 ?_|refine Z4 ?_|refine Z5 ?_));(conv=>whnf)))
          refine blk_ld (oy.ext x3) rfl ?_
          ((conv=>whnf);repeat((first|(with_reducible first|refine Z1 ?_|refine Z2 ?_|refine Z3 ?_|refine Z4 ?_|refine Z5 ?_));(conv=>whnf)))
          refine HIdx.mk i rfl hi2 ?_
          refine sl_some b8 hi2 fun p2 ep2 => ?_
          ((conv=>whnf);repeat((first|(with_reducible first|refine Z1 ?_|refine Z2 ?_|refine Z3 ?_|refine Z4 ?_|refine Z5 ?_));(conv=>whnf)))
          refine (b8.ext x13).loadRep (Reps.ext x13 _ _ b9) ep2 hi2 fun bs' rb1 => ?_
          ((conv=>whnf);repeat((first|(with_reducible first|refine Z1 ?_|refine Z2 ?_|refine Z3 ?_|refine Z4 ?_|refine Z5 ?_));(conv=>whnf)))
          refine HCall.mk ((ih l1[i] (by have := List.sizeOf_lt_of_mem (List.getElem_mem hi1); show SizeOf.sizeOf l1[i] < SizeOf.sizeOf (DT.mk k1 n1 s1 ks1 l1); simp only [DT.mk.sizeOf_spec]; omega) l2[i] h3 as' bs' ra1 rb1).mono ?_)
          rintro e h4 ⟨r, rfl, hr, x4⟩
          ((conv=>whnf);repeat((first|(with_reducible first|refine Z1 ?_|refine Z2 ?_|refine Z3 ?_|refine Z4 ?_|refine Z5 ?_));(conv=>whnf)))
          refine HIf.mk (fun hb8 => ?_) (fun hb8 => ?_)
          · have hne : l1 ≠ l2 := by
              rintro rfl
              have : r = true := hr.2 rfl
              rw [this] at hb8; cases hb8
            ((conv=>whnf);repeat((first|(with_reducible first|refine Z1 ?_|refine Z2 ?_|refine Z3 ?_|refine Z4 ?_|refine Z5 ?_));(conv=>whnf)))
            exact ⟨false, rfl, by simp [hne], x13.trans x4⟩
          · have heq : l1[i] = l2[i] := hr.1 (by simpa using hb8)
            ((conv=>whnf);repeat((first|(with_reducible first|refine Z1 ?_|refine Z2 ?_|refine Z3 ?_|refine Z4 ?_|refine Z5 ?_));(conv=>whnf)))
            refine ⟨⟨i + 1, rfl, by omega, ?_, x3.trans x4⟩, ?_⟩
            · rw [List.take_add_one, List.take_add_one, ht, List.getElem?_eq_getElem hi1, List.getElem?_eq_getElem hi2, heq]
            · show l1.length - (((i : Int) + 1)).toNat < l1.length - ((i : Int)).toNat
              omega
        · have hge := of_decide_eq_false hb7
          have e7 : l1 = l2 := by
            rw [List.take_of_length_le (by omega), List.take_of_length_le (by omega)] at ht; exact ht
          ((conv=>whnf);repeat((first|(with_reducible first|refine Z1 ?_|refine Z2 ?_|refine Z3 ?_|refine Z4 ?_|refine Z5 ?_));(conv=>whnf)))
          exact ⟨true, rfl, by simp [e1, e2, e3, e6, e7], x13⟩

end Go.Proofs.YtmibnfjjlibpgaaDoor.Hc

namespace Go.Proofs.YtmibnfjjlibpgaaDoor.Hc
open Go Go.H Go.Proofs
set_option maxRecDepth 100000

/-- A map of these texts, with counts up to m. -/
def MapOf (h : Heap) (r : Nat) (ks : List ByteArray) (m : Nat) : Prop := ∃ es clock, h[r]? = some (.map es clock) ∧ es.toList.map (·.key) = ks.map Value.string ∧ ∀ e ∈ es.toList, ∃ n : Int, e.val = .int .i64 n ∧ 0 ≤ n ∧ n ≤ m
theorem MapOf.find {h : Heap} {r m : Nat} {ks : List ByteArray} (x : MapOf h r ks m) (k : ByteArray) : ∃ es clock f, h[r]? = some (.map es clock) ∧ Instr.findNow .string (.string k) es.toList 0 = some f ∧ es.size = ks.length ∧
    ((f = none ∧ k ∉ ks ∧ ∀ (n : Int), 0 ≤ n → n ≤ (m + 1 : Nat) → MapOf (h.setIfInBounds r (.map (es.push { key := .string k, val := .int .i64 n, born := clock }) (clock + 1))) r (ks ++ [k]) (m + 1)) ∨
     ∃ i v, f = some (i, .int .i64 v) ∧ 0 ≤ v ∧ v ≤ m ∧ k ∈ ks ∧ ((es[i]?).map (·.key)).getD (.string k) = .string k ∧
       ∀ (n : Int), 0 ≤ n → n ≤ (m + 1 : Nat) → MapOf (h.setIfInBounds r (.map (es.modify i fun e => { e with key := .string k, val := .int .i64 n }) clock)) r ks (m + 1)) := by
  obtain ⟨es, clock, e, hk, hv⟩ := x
  have hr : r < h.size := by
    rcases Nat.lt_or_ge r h.size with hl | hl
    · exact hl
    · rw [Array.getElem?_eq_none hl] at e; cases e
  have hsz : es.size = ks.length := by
    have := congrArg List.length hk
    simpa using this
  have isk : ∀ x ∈ es.toList, MapKept.IsKey .string x.key := by
    intro y hy
    have : y.key ∈ es.toList.map (·.key) := List.mem_map_of_mem hy
    rw [hk] at this
    obtain ⟨s, _, es'⟩ := List.mem_map.1 this
    rw [← es']; trivial
  refine ⟨es, clock, ?_⟩
  rcases MapKept.findNow_spec (d := .string) (k := .string k) trivial es.toList 0 isk with ⟨h1, h2⟩ | ⟨j, e0, h1, h2, h3⟩
  · refine ⟨none, e, h1, hsz, .inl ⟨rfl, ?_, ?_⟩⟩
    · intro hm
      have : Value.string k ∈ es.toList.map (·.key) := by rw [hk]; exact List.mem_map_of_mem hm
      obtain ⟨y, hy, ey⟩ := List.mem_map.1 this
      exact h2 y hy ey
    · intro n hn0 hn1
      refine ⟨_, _, by rw [Array.getElem?_setIfInBounds_self_of_lt hr], ?_, ?_⟩
      · rw [Array.toList_push, List.map_append, List.map_append, hk]; rfl
      · intro y hy
        rw [Array.toList_push] at hy
        rcases List.mem_append.1 hy with hy | hy
        · obtain ⟨n, a, b, c⟩ := hv y hy
          exact ⟨n, a, b, by omega⟩
        · rw [List.mem_singleton] at hy
          subst hy
          exact ⟨n, rfl, hn0, hn1⟩
  · rw [Nat.zero_add] at h1
    have hm0 : e0 ∈ es.toList := List.mem_of_getElem? h2
    obtain ⟨v, a, b, c⟩ := hv e0 hm0
    have h2' : es[j]? = some e0 := by rw [← Array.getElem?_toList]; exact h2
    refine ⟨some (j, e0.val), e, h1, hsz, .inr ⟨j, v, by rw [a], b, c, ?_, by rw [h2']; exact h3, ?_⟩⟩
    · have : Value.string k ∈ ks.map Value.string := by rw [← hk, ← h3]; exact List.mem_map_of_mem hm0
      obtain ⟨s, hs, es'⟩ := List.mem_map.1 this
      cases es'; exact hs
    · intro n hn0 hn1
      refine ⟨_, _, by rw [Array.getElem?_setIfInBounds_self_of_lt hr], ?_, ?_⟩
      · rw [← hk]
        apply List.ext_getElem?
        intro i
        rw [List.getElem?_map, List.getElem?_map, Array.getElem?_toList, Array.getElem?_modify, Array.getElem?_toList]
        by_cases hij : j = i
        · subst hij; rw [if_pos rfl, h2']; simp [h3]
        · rw [if_neg hij]
      · intro y hy
        obtain ⟨i, hi⟩ := List.getElem?_of_mem hy
        rw [Array.getElem?_toList, Array.getElem?_modify] at hi
        by_cases hij : j = i
        · subst hij; rw [if_pos rfl, h2'] at hi
          simp at hi
          subst hi
          exact ⟨n, rfl, hn0, hn1⟩
        · rw [if_neg hij] at hi
          obtain ⟨n, a, b, c⟩ := hv y (by rw [← Array.getElem?_toList] at hi; exact List.mem_of_getElem? hi)
          exact ⟨n, a, b, by omega⟩
theorem and1_64 {n : Nat} (hn : n < 2 ^ 63) : ibits .and .i64 (n : Int) 1 = ((n % 2 : Nat) : Int) := by
  unfold ibits
  have e1 : ((BitVec.ofInt 64 (n : Int)) &&& (BitVec.ofInt 64 1)).toNat = n % 2 := by
    rw [BitVec.toNat_and, BitVec.ofInt_natCast, show BitVec.ofInt 64 1 = 1#64 from rfl, BitVec.toNat_ofNat, BitVec.toNat_ofNat, Nat.mod_eq_of_lt (by omega : n < 2 ^ 64)]
    exact Nat.and_one_is_mod n
  show IntKind.i64.wrap (((BitVec.ofInt 64 (n : Int)) &&& (BitVec.ofInt 64 1)).toNat : Int) = _
  rw [e1]
  exact wrap_i64 (by omega)
theorem check_spec (s : ByteArray) (h : Heap) (hs : s.size ≤ 140737488351232) : HCalls Tryd.prog 36 #[.string s] h fun e h' => e = .returned (.bool (decide (s.size % 2 = 0))) ∧ h' = h := by
  refine c36 (by simp) ?_
  ((conv=>whnf);repeat((first|(with_reducible first|refine Z1 ?_|refine Z2 ?_|refine Z3 ?_|refine Z4 ?_|refine Z5 ?_));(conv=>whnf)))
  refine ⟨?_, rfl⟩
  show Ending.returned (.bool (ibits .and .i64 (s.size : Int) 1 == 0)) = _
  rw [and1_64 (by omega)]
  congr 2
  by_cases h0 : s.size % 2 = 0
  · rw [decide_eq_true h0, h0]; rfl
  · rw [decide_eq_false h0, beq_eq_false_iff_ne]; omega

end Go.Proofs.YtmibnfjjlibpgaaDoor.Hc

namespace Go.Proofs.YtmibnfjjlibpgaaDoor.Hc
open Go Go.H Go.Proofs
set_option maxRecDepth 100000

/-- A record's keys may be. -/
def GoodKeys (ks : List ByteArray) (n : Nat) : Prop := (∀ k ∈ ks, k.size % 2 = 0) ∧ ks.Nodup ∧ ks.length = n

theorem sameBits_str (n : Nat) (k : ByteArray) : Instr.sameBits n (.string k) (.string k) = true := by
  have : (k == k) = true := (MapKept.bytes_beq k k).2 rfl
  cases n <;> simpa [Instr.sameBits] using this

theorem names_spec (a : DT) (h : Heap) (cs : List Value) (ra : Rep h a cs) :
    HCalls Tryd.prog 37 #[.agg cs.toArray] h fun e h' => ∃ r, e = .returned (.bool r) ∧ (r = true ↔ GoodKeys a.keys a.list.length) ∧ Ext h h' := by
  obtain ⟨k1, n1, s1, ks1, l1⟩ := a
  have ra0 := ra
  simp only [Rep] at ra
  obtain ⟨a1, a2, a3, a4, a5, a6, ka, kc, la, lc, xs, rfl, a7, a8, a9⟩ := ra
  refine c37 (by simp) ?_
  ((conv=>whnf);repeat((first|(with_reducible first|refine Z1 ?_|refine Z2 ?_|refine Z3 ?_|refine Z4 ?_|refine Z5 ?_));(conv=>whnf)))
  refine new_var (e := 25) [.int .i64 k1, .int .i64 n1, .string s1, .slice ka ks1.length kc, .slice la l1.length lc] rfl ?_
  intro h1 bx ox x1 z1 _
  ((conv=>whnf);repeat((first|(with_reducible first|refine Z1 ?_|refine Z2 ?_|refine Z3 ?_|refine Z4 ?_|refine Z5 ?_));(conv=>whnf)))
  refine ⟨?_⟩
  have m0 : MapOf (h1.push (.map #[] 0)) h1.size [] 0 := ⟨#[], 0, by simp, rfl, by simp⟩
  have x2 : Ext h1 (h1.push (.map #[] 0)) := Ext.push _ _
  have z2 : (h1.push (.map #[] 0)).size = h1.size + 1 := by simp
  generalize h1.push (.map #[] 0) = h2 at *
  ((conv=>whnf);repeat((first|(with_reducible first|refine Z1 ?_|refine Z2 ?_|refine Z3 ?_|refine Z4 ?_|refine Z5 ?_));(conv=>whnf)))
  refine blk_ld (ox.ext x2) rfl ?_
  ((conv=>whnf);repeat((first|(with_reducible first|refine Z1 ?_|refine Z2 ?_|refine Z3 ?_|refine Z4 ?_|refine Z5 ?_));(conv=>whnf)))
  have a7' := a7.ext (x1.trans x2)
  refine loop_rule [10] (fun vs h' => ∃ (i : Nat) (us : List ByteArray), vs = [.int .i64 i] ∧ i ≤ ks1.length ∧ MapOf h' h1.size us i ∧ Off h1.size h2 h' ∧ h'.size = h2.size ∧ (∀ k ∈ ks1.take i, k.size % 2 = 0) ∧
      (∀ k, k ∈ us ↔ k ∈ ks1.take i) ∧ us.length ≤ i ∧ (us.length = i ↔ (ks1.take i).Nodup))
    (fun vs _ => match vs with | [.int _ i] => ks1.length - i.toNat | _ => 0) rfl ?_ ?_
  · exact ⟨0, [], rfl, by omega, m0, (Ext.refl _).off, rfl, by simp, by simp, by simp, by simp⟩
  · intro u h3 v10
    rintro ⟨i, us, e, hi, mo, of3, z3, he, hu, hul, hun⟩
    cases e
    have x13 : Ext h1 h3 := x2.offNew of3 (Nat.le_refl _)
    have a73 := a7.ext (x1.trans x13)
    ((conv=>whnf);repeat((first|(with_reducible first|refine Z1 ?_|refine Z2 ?_|refine Z3 ?_|refine Z4 ?_|refine Z5 ?_));(conv=>whnf)))
    refine HIf.mk (fun hb => ?_) (fun hb => ?_)
    · have hlt := of_decide_eq_true hb
      have hi1 : i < ks1.length := by omega
      have htk : ks1.take (i + 1) = ks1.take i ++ [ks1[i]] := by rw [List.take_add_one, List.getElem?_eq_getElem hi1]; rfl
      ((conv=>whnf);repeat((first|(with_reducible first|refine Z1 ?_|refine Z2 ?_|refine Z3 ?_|refine Z4 ?_|refine Z5 ?_));(conv=>whnf)))
      refine HIdx.mk i rfl hi1 ?_
      refine sl_some a73 hi1 fun p ep => ?_
      ((conv=>whnf);repeat((first|(with_reducible first|refine Z1 ?_|refine Z2 ?_|refine Z3 ?_|refine Z4 ?_|refine Z5 ?_));(conv=>whnf)))
      refine a73.load ep (by simpa using hi1) ?_
      rw [List.getElem_map]
      ((conv=>whnf);repeat((first|(with_reducible first|refine Z1 ?_|refine Z2 ?_|refine Z3 ?_|refine Z4 ?_|refine Z5 ?_));(conv=>whnf)))
      refine HCall.mk ((check_spec ks1[i] h3 (a6 _ (List.getElem_mem hi1))).mono ?_)
      rintro e h3 ⟨rfl, rfl⟩
      by_cases hev : ks1[i].size % 2 = 0
      · have hd : decide (ks1[i].size % 2 = 0) = true := decide_eq_true hev
        rw [hd]
        ((conv=>whnf);repeat((first|(with_reducible first|refine Z1 ?_|refine Z2 ?_|refine Z3 ?_|refine Z4 ?_|refine Z5 ?_));(conv=>whnf)))
        have hev' : ∀ k ∈ ks1.take (i + 1), k.size % 2 = 0 := by
          intro k hk
          rw [htk] at hk
          rcases List.mem_append.1 hk with hk | hk
          · exact he k hk
          · rw [List.mem_singleton] at hk; rw [hk]; exact hev
        have hmu : ks1.length - (((i : Int) + 1)).toNat < ks1.length - ((i : Int)).toNat := by omega
        have put : ∀ o, Off h1.size h3 (h3.setIfInBounds h1.size o) ∧ (h3.setIfInBounds h1.size o).size = h3.size := by
          intro o
          refine ⟨⟨by simp, fun b hb hne => ?_⟩, by simp⟩
          rw [Array.getElem?_setIfInBounds_ne (Ne.symm hne)]
        obtain ⟨es, clock, f, e1, hf, hsz, hcase⟩ := mo.find ks1[i]
        refine HMapF.mk es clock f e1 hf ?_
        rcases hcase with ⟨rfl, hnot, hpush⟩ | ⟨j, v, rfl, hv0, hv1, hin, hkey, hmod⟩
        · ((conv=>whnf);repeat((first|(with_reducible first|refine Z1 ?_|refine Z2 ?_|refine Z3 ?_|refine Z4 ?_|refine Z5 ?_));(conv=>whnf)))
          refine HMapF.mk es clock none e1 hf ?_
          ((conv=>whnf);repeat((first|(with_reducible first|refine Z1 ?_|refine Z2 ?_|refine Z3 ?_|refine Z4 ?_|refine Z5 ?_));(conv=>whnf)))
          refine ⟨⟨i + 1, us ++ [ks1[i]], rfl, by omega, hpush 1 (by omega) (by omega), of3.trans (put _).1, (put _).2.trans z3, hev', ?_, by rw [List.length_append, List.length_singleton]; omega, ?_⟩, hmu⟩
          · intro k; rw [htk, List.mem_append, List.mem_append, hu k]
          · rw [htk, List.length_append, List.length_singleton, List.nodup_append]
            have hni : ks1[i] ∉ ks1.take i := fun hm => hnot ((hu _).2 hm)
            constructor
            · intro hle
              refine ⟨hun.1 (by omega), by simp, ?_⟩
              intro a ha b hb' hab
              rw [List.mem_singleton] at hb'
              subst hb'; subst hab
              exact hni ha
            · intro hh
              have := hun.2 hh.1
              omega
        · ((conv=>whnf);repeat((first|(with_reducible first|refine Z1 ?_|refine Z2 ?_|refine Z3 ?_|refine Z4 ?_|refine Z5 ?_));(conv=>whnf)))
          refine HMapF.mk es clock _ e1 hf ?_
          ((conv=>whnf);repeat((first|(with_reducible first|refine Z1 ?_|refine Z2 ?_|refine Z3 ?_|refine Z4 ?_|refine Z5 ?_));(conv=>whnf)))
          refine HMust.mk (by show Instr.sameBits 10000 (((es[j]?).map (·.key)).getD (.string ks1[i])) (.string ks1[i]) = true; rw [hkey]; exact sameBits_str _ _) ?_
          ((conv=>whnf);repeat((first|(with_reducible first|refine Z1 ?_|refine Z2 ?_|refine Z3 ?_|refine Z4 ?_|refine Z5 ?_));(conv=>whnf)))
          refine ⟨⟨i + 1, us, rfl, by omega, hmod (v + 1) (by omega) (by omega), of3.trans (put _).1, (put _).2.trans z3, hev', ?_, by omega, ?_⟩, hmu⟩
          · intro k; rw [htk, List.mem_append, hu k]
            constructor
            · exact fun hk => .inl hk
            · rintro (hk | hk)
              · exact hk
              · rw [List.mem_singleton] at hk; rw [hk]; exact (hu _).1 hin
          · constructor
            · intro hle; omega
            · intro hh
              rw [htk, List.nodup_append] at hh
              exact absurd rfl (hh.2.2 _ ((hu _).1 hin) _ (by simp))
      · have hd : decide (ks1[i].size % 2 = 0) = false := decide_eq_false hev
        rw [hd]
        ((conv=>whnf);repeat((first|(with_reducible first|refine Z1 ?_|refine Z2 ?_|refine Z3 ?_|refine Z4 ?_|refine Z5 ?_));(conv=>whnf)))
        refine ⟨false, rfl, ?_, x1.trans x13⟩
        simp only [Bool.false_eq_true, false_iff]
        intro hg
        exact hev (hg.1 _ (List.getElem_mem hi1))
    · have hge := of_decide_eq_false hb
      obtain ⟨es, clock, e1, hkk, _⟩ := mo
      have hsz : es.size = us.length := by
        have := congrArg List.length hkk
        simpa using this
      have hik : i = ks1.length := by omega
      subst hik
      rw [List.take_length] at he hu hun
      ((conv=>whnf);repeat((first|(with_reducible first|refine Z1 ?_|refine Z2 ?_|refine Z3 ?_|refine Z4 ?_|refine Z5 ?_));(conv=>whnf)))
      refine HMapL.mk es clock e1 ?_
      rw [hsz]
      ((conv=>whnf);repeat((first|(with_reducible first|refine Z1 ?_|refine Z2 ?_|refine Z3 ?_|refine Z4 ?_|refine Z5 ?_));(conv=>whnf)))
      have ox3 := ox.ext x13
      refine blk_ld ox3 rfl ?_
      ((conv=>whnf);repeat((first|(with_reducible first|refine Z1 ?_|refine Z2 ?_|refine Z3 ?_|refine Z4 ?_|refine Z5 ?_));(conv=>whnf)))
      refine HIf.mk (fun hb5 => ?_) (fun hb5 => ?_)
      · have hlen : us.length = ks1.length := by have : (us.length : Int) = ks1.length := by simpa using hb5
                                                 omega
        ((conv=>whnf);repeat((first|(with_reducible first|refine Z1 ?_|refine Z2 ?_|refine Z3 ?_|refine Z4 ?_|refine Z5 ?_));(conv=>whnf)))
        refine blk_ld ox3 rfl ?_
        ((conv=>whnf);repeat((first|(with_reducible first|refine Z1 ?_|refine Z2 ?_|refine Z3 ?_|refine Z4 ?_|refine Z5 ?_));(conv=>whnf)))
        refine blk_ld ox3 rfl ?_
        ((conv=>whnf);repeat((first|(with_reducible first|refine Z1 ?_|refine Z2 ?_|refine Z3 ?_|refine Z4 ?_|refine Z5 ?_));(conv=>whnf)))
        refine ⟨_, rfl, ?_, x1.trans x13⟩
        show ((ks1.length : Int) == (l1.length : Int)) = true ↔ _
        rw [beq_iff_eq]
        exact ⟨fun hq => ⟨he, hun.1 hlen, by show ks1.length = l1.length; omega⟩, fun hq => by have : ks1.length = l1.length := hq.2.2; omega⟩
      · have hlen : us.length ≠ ks1.length := by intro e; rw [e] at hb5; simp at hb5
        ((conv=>whnf);repeat((first|(with_reducible first|refine Z1 ?_|refine Z2 ?_|refine Z3 ?_|refine Z4 ?_|refine Z5 ?_));(conv=>whnf)))
        refine ⟨false, rfl, ?_, x1.trans x13⟩
        simp only [Bool.false_eq_true, false_iff]
        intro hg
        exact hlen (hun.2 hg.2.1)

end Go.Proofs.YtmibnfjjlibpgaaDoor.Hc

namespace Go.Proofs.YtmibnfjjlibpgaaDoor.Hc
open Go Go.H Go.Proofs
set_option maxRecDepth 100000

/-- It may be, but for what stands within. -/
def Own1 (k n : Int) (s : ByteArray) (ks : List ByteArray) (l : List DT) : Prop :=
  ((k = 0 ∨ k = 1) ∧ n = 0 ∧ s = ⟨#[]⟩ ∧ ks = [] ∧ l = []) ∨ (k = 2 ∧ (n = 0 ∨ n = 1) ∧ s = ⟨#[]⟩ ∧ ks = [] ∧ l = []) ∨
  (k = 3 ∧ (-9007199254740991 ≤ n ∧ n ≤ 9007199254740991) ∧ s = ⟨#[]⟩ ∧ ks = [] ∧ l = []) ∨ (k = 4 ∧ n = 0 ∧ s.size % 2 = 0 ∧ ks = [] ∧ l = []) ∨
  (k = 5 ∧ n = 0 ∧ s = ⟨#[]⟩ ∧ ks = []) ∨ (k = 6 ∧ n = 0 ∧ s = ⟨#[]⟩ ∧ GoodKeys ks l.length)
mutual
def may : DT → Prop
  | .mk k n s ks l => Own1 k n s ks l ∧ mays l
def mays : List DT → Prop
  | [] => True
  | d :: r => may d ∧ mays r
end
mutual
def deep : DT → Nat
  | .mk _ _ _ _ l => deeps l + 1
def deeps : List DT → Nat
  | [] => 0
  | d :: r => max (deep d) (deeps r)
end
theorem mays_iff : ∀ (l : List DT), mays l ↔ ∀ d ∈ l, may d
  | [] => by simp [mays]
  | d :: r => by simp [mays, mays_iff r]
theorem deep_pos (d : DT) : 1 ≤ deep d := by cases d; simp only [deep]; omega
theorem deeps_le : ∀ (l : List DT) (d : DT), d ∈ l → deep d ≤ deeps l
  | [], d, h => by cases h
  | e :: r, d, h => by
    simp only [deeps]
    rcases List.mem_cons.1 h with rfl | h
    · omega
    · have := deeps_le r d h; omega
theorem deeps_append : ∀ (l r : List DT), deeps (l ++ r) = max (deeps l) (deeps r)
  | [], r => by simp [deeps]
  | d :: l, r => by simp only [List.cons_append, deeps, deeps_append l r]; omega

end Go.Proofs.YtmibnfjjlibpgaaDoor.Hc

namespace Go.Proofs.YtmibnfjjlibpgaaDoor.Hc
open Go Go.H Go.Proofs
set_option maxRecDepth 100000

theorem own_01 {k n : Int} {s : ByteArray} {ks : List ByteArray} {l : List DT} (hk : k = 0 ∨ k = 1) : Own1 k n s ks l ↔ 0 ≤ n ∧ n ≤ 0 ∧ decide (s = ⟨#[]⟩) = true ∧ decide (l = []) = true ∧ decide (ks = []) = true := by
  unfold Own1; simp only [decide_eq_true_eq]; grind
theorem own_2 {n : Int} {s : ByteArray} {ks : List ByteArray} {l : List DT} : Own1 2 n s ks l ↔ 0 ≤ n ∧ n ≤ 1 ∧ decide (s = ⟨#[]⟩) = true ∧ decide (l = []) = true ∧ decide (ks = []) = true := by
  unfold Own1; simp only [decide_eq_true_eq]; grind
theorem own_3 {n : Int} {s : ByteArray} {ks : List ByteArray} {l : List DT} : Own1 3 n s ks l ↔ -9007199254740991 ≤ n ∧ n ≤ 9007199254740991 ∧ decide (s = ⟨#[]⟩) = true ∧ decide (l = []) = true ∧ decide (ks = []) = true := by
  unfold Own1; simp only [decide_eq_true_eq]; grind
theorem own_4 {n : Int} {s : ByteArray} {ks : List ByteArray} {l : List DT} : Own1 4 n s ks l ↔ 0 ≤ n ∧ n ≤ 0 ∧ decide (s.size % 2 = 0) = true ∧ decide (l = []) = true ∧ decide (ks = []) = true := by
  unfold Own1; simp only [decide_eq_true_eq]; grind
theorem own_5 {n : Int} {s : ByteArray} {ks : List ByteArray} {l : List DT} : Own1 5 n s ks l ↔ 0 ≤ n ∧ n ≤ 0 ∧ decide (s = ⟨#[]⟩) = true ∧ true = true ∧ decide (ks = []) = true := by
  unfold Own1; simp only [decide_eq_true_eq]; grind
theorem own_6 {n : Int} {s : ByteArray} {ks : List ByteArray} {l : List DT} {r : Bool} (hr : r = true ↔ GoodKeys ks l.length) : Own1 6 n s ks l ↔ 0 ≤ n ∧ n ≤ 0 ∧ decide (s = ⟨#[]⟩) = true ∧ true = true ∧ r = true := by
  unfold Own1; simp only [decide_eq_true_eq, hr]; grind

theorem level_spec : ∀ (a : DT) (h : Heap) (cs : List Value), Rep h a cs → deep a ≤ 4611686018427387904 →
    HCalls Tryd.prog 24 #[.agg cs.toArray] h fun e h' => ∃ n : Nat, e = .returned (.int .i64 n) ∧ (may a → n = deep a) ∧ (¬ may a → n = 0) ∧ Ext h h' := by
  intro a
  induction a using (measure (fun d : DT => SizeOf.sizeOf d)).wf.induction with
  | _ a ih =>
  intro h cs ra hdeep
  obtain ⟨k1, n1, s1, ks1, l1⟩ := a
  have ra0 := ra
  simp only [Rep] at ra
  obtain ⟨a1, a2, a3, a4, a5, a6, ka, kc, la, lc, xs, rfl, a7, a8, a9⟩ := ra
  refine c24 (by simp) ?_
  ((conv=>whnf);repeat((first|(with_reducible first|refine Z1 ?_|refine Z2 ?_|refine Z3 ?_|refine Z4 ?_|refine Z5 ?_));(conv=>whnf)))
  refine new_var (e := 25) [.int .i64 k1, .int .i64 n1, .string s1, .slice ka ks1.length kc, .slice la l1.length lc] rfl ?_
  intro h1 bx ox x1 z1 _
  ((conv=>whnf);repeat((first|(with_reducible first|refine Z1 ?_|refine Z2 ?_|refine Z3 ?_|refine Z4 ?_|refine Z5 ?_));(conv=>whnf)))
  refine blk_ld ox rfl ?_
  ((conv=>whnf);repeat((first|(with_reducible first|refine Z1 ?_|refine Z2 ?_|refine Z3 ?_|refine Z4 ?_|refine Z5 ?_));(conv=>whnf)))
  refine blk_ld ox rfl ?_
  ((conv=>whnf);repeat((first|(with_reducible first|refine Z1 ?_|refine Z2 ?_|refine Z3 ?_|refine Z4 ?_|refine Z5 ?_));(conv=>whnf)))
  refine blk_ld ox rfl ?_
  (conv => whnf)
  rw [strEq_nil, len_nil, len_nil]
  refine cut_rule [3, 4, 5, 6, 7] (fun vs h' => ∃ (lo hi : Int) (t li ks : Bool), vs = [.int .i64 lo, .int .i64 hi, .bool t, .bool li, .bool ks] ∧ Ext h1 h' ∧ (Own1 k1 n1 s1 ks1 l1 ↔ lo ≤ n1 ∧ n1 ≤ hi ∧ t = true ∧ li = true ∧ ks = true)) rfl ?_ ?_
  · ((conv=>whnf);repeat((first|(with_reducible first|refine Z1 ?_|refine Z2 ?_|refine Z3 ?_|refine Z4 ?_|refine Z5 ?_));(conv=>whnf)))
    refine blk_ld ox rfl ?_
    ((conv=>whnf);repeat((first|(with_reducible first|refine Z1 ?_|refine Z2 ?_|refine Z3 ?_|refine Z4 ?_|refine Z5 ?_));(conv=>whnf)))
    refine HIf.mk (fun b0 => ?_) (fun b0 => ?_)
    · have hk : k1 = 0 := by simpa using b0
      ((conv=>whnf);repeat((first|(with_reducible first|refine Z1 ?_|refine Z2 ?_|refine Z3 ?_|refine Z4 ?_|refine Z5 ?_));(conv=>whnf)))
      exact ⟨0, 0, _, _, _, rfl, Ext.refl _, own_01 (.inl hk)⟩
    ((conv=>whnf);repeat((first|(with_reducible first|refine Z1 ?_|refine Z2 ?_|refine Z3 ?_|refine Z4 ?_|refine Z5 ?_));(conv=>whnf)))
    refine HIf.mk (fun b1 => ?_) (fun b1 => ?_)
    · have hk : k1 = 1 := by simpa using b1
      ((conv=>whnf);repeat((first|(with_reducible first|refine Z1 ?_|refine Z2 ?_|refine Z3 ?_|refine Z4 ?_|refine Z5 ?_));(conv=>whnf)))
      exact ⟨0, 0, _, _, _, rfl, Ext.refl _, own_01 (.inr hk)⟩
    ((conv=>whnf);repeat((first|(with_reducible first|refine Z1 ?_|refine Z2 ?_|refine Z3 ?_|refine Z4 ?_|refine Z5 ?_));(conv=>whnf)))
    refine HIf.mk (fun b2 => ?_) (fun b2 => ?_)
    · have hk : k1 = 2 := by simpa using b2
      ((conv=>whnf);repeat((first|(with_reducible first|refine Z1 ?_|refine Z2 ?_|refine Z3 ?_|refine Z4 ?_|refine Z5 ?_));(conv=>whnf)))
      exact ⟨0, 1, _, _, _, rfl, Ext.refl _, by rw [hk]; exact own_2⟩
    ((conv=>whnf);repeat((first|(with_reducible first|refine Z1 ?_|refine Z2 ?_|refine Z3 ?_|refine Z4 ?_|refine Z5 ?_));(conv=>whnf)))
    refine HIf.mk (fun b3 => ?_) (fun b3 => ?_)
    · have hk : k1 = 3 := by simpa using b3
      ((conv=>whnf);repeat((first|(with_reducible first|refine Z1 ?_|refine Z2 ?_|refine Z3 ?_|refine Z4 ?_|refine Z5 ?_));(conv=>whnf)))
      exact ⟨_, _, _, _, _, rfl, Ext.refl _, by rw [hk]; exact own_3⟩
    ((conv=>whnf);repeat((first|(with_reducible first|refine Z1 ?_|refine Z2 ?_|refine Z3 ?_|refine Z4 ?_|refine Z5 ?_));(conv=>whnf)))
    refine HIf.mk (fun b4 => ?_) (fun b4 => ?_)
    · have hk : k1 = 4 := by simpa using b4
      ((conv=>whnf);repeat((first|(with_reducible first|refine Z1 ?_|refine Z2 ?_|refine Z3 ?_|refine Z4 ?_|refine Z5 ?_));(conv=>whnf)))
      refine blk_ld ox rfl ?_
      ((conv=>whnf);repeat((first|(with_reducible first|refine Z1 ?_|refine Z2 ?_|refine Z3 ?_|refine Z4 ?_|refine Z5 ?_));(conv=>whnf)))
      refine HCall.mk ((check_spec s1 h1 a3).mono ?_)
      rintro e h1 ⟨rfl, rfl⟩
      ((conv=>whnf);repeat((first|(with_reducible first|refine Z1 ?_|refine Z2 ?_|refine Z3 ?_|refine Z4 ?_|refine Z5 ?_));(conv=>whnf)))
      exact ⟨0, 0, _, _, _, rfl, Ext.refl _, by rw [hk]; exact own_4⟩
    ((conv=>whnf);repeat((first|(with_reducible first|refine Z1 ?_|refine Z2 ?_|refine Z3 ?_|refine Z4 ?_|refine Z5 ?_));(conv=>whnf)))
    refine HIf.mk (fun b5 => ?_) (fun b5 => ?_)
    · have hk : k1 = 5 := by simpa using b5
      ((conv=>whnf);repeat((first|(with_reducible first|refine Z1 ?_|refine Z2 ?_|refine Z3 ?_|refine Z4 ?_|refine Z5 ?_));(conv=>whnf)))
      exact ⟨0, 0, _, _, _, rfl, Ext.refl _, by rw [hk]; exact own_5⟩
    ((conv=>whnf);repeat((first|(with_reducible first|refine Z1 ?_|refine Z2 ?_|refine Z3 ?_|refine Z4 ?_|refine Z5 ?_));(conv=>whnf)))
    refine HIf.mk (fun b6 => ?_) (fun b6 => ?_)
    · have hk : k1 = 6 := by simpa using b6
      ((conv=>whnf);repeat((first|(with_reducible first|refine Z1 ?_|refine Z2 ?_|refine Z3 ?_|refine Z4 ?_|refine Z5 ?_));(conv=>whnf)))
      refine blk_ldN ox rfl ?_
      ((conv=>whnf);repeat((first|(with_reducible first|refine Z1 ?_|refine Z2 ?_|refine Z3 ?_|refine Z4 ?_|refine Z5 ?_));(conv=>whnf)))
      refine HCall.mk ((names_spec _ h1 _ (Rep.ext x1 _ _ ra0)).mono ?_)
      rintro e h2 ⟨r, rfl, hr, x2⟩
      ((conv=>whnf);repeat((first|(with_reducible first|refine Z1 ?_|refine Z2 ?_|refine Z3 ?_|refine Z4 ?_|refine Z5 ?_));(conv=>whnf)))
      exact ⟨0, 0, _, _, _, rfl, x2, by rw [hk]; exact own_6 hr⟩
    ((conv=>whnf);repeat((first|(with_reducible first|refine Z1 ?_|refine Z2 ?_|refine Z3 ?_|refine Z4 ?_|refine Z5 ?_));(conv=>whnf)))
    have hno : ¬ Own1 k1 n1 s1 ks1 l1 := by
      unfold Own1
      simp only [beq_eq_false_iff_ne] at b0 b1 b2 b3 b4 b5 b6
      grind
    refine ⟨0, rfl, ?_, fun _ => rfl, x1⟩
    intro hm
    simp only [may] at hm
    exact absurd hm.1 hno
  · intro u h2 v3 v4 v5 v6 v7
    rintro ⟨lo, hi, t, li, ks, e, x2, own⟩
    cases e
    have x12 := x1.trans x2
    have ox2 := ox.ext x2
    have bad : ∀ (h' : Heap), Ext h h' → ¬ Own1 k1 n1 s1 ks1 l1 → ∃ n : Nat, Ending.returned (.int .i64 0) = .returned (.int .i64 n) ∧ (may (.mk k1 n1 s1 ks1 l1) → n = deep (.mk k1 n1 s1 ks1 l1)) ∧ (¬ may (.mk k1 n1 s1 ks1 l1) → n = 0) ∧ Ext h h' := by
      intro h' xx hno
      exact ⟨0, rfl, fun hm => by simp only [may] at hm; exact absurd hm.1 hno, fun _ => rfl, xx⟩
    ((conv=>whnf);repeat((first|(with_reducible first|refine Z1 ?_|refine Z2 ?_|refine Z3 ?_|refine Z4 ?_|refine Z5 ?_));(conv=>whnf)))
    refine blk_ld ox2 rfl ?_
    ((conv=>whnf);repeat((first|(with_reducible first|refine Z1 ?_|refine Z2 ?_|refine Z3 ?_|refine Z4 ?_|refine Z5 ?_));(conv=>whnf)))
    refine HIf.mk (fun c1 => ?_) (fun c1 => ?_)
    · have hc := of_decide_eq_true c1
      ((conv=>whnf);repeat((first|(with_reducible first|refine Z1 ?_|refine Z2 ?_|refine Z3 ?_|refine Z4 ?_|refine Z5 ?_));(conv=>whnf)))
      exact bad _ x12 (fun ho => by have := own.1 ho; omega)
    have hc1 := of_decide_eq_false c1
    ((conv=>whnf);repeat((first|(with_reducible first|refine Z1 ?_|refine Z2 ?_|refine Z3 ?_|refine Z4 ?_|refine Z5 ?_));(conv=>whnf)))
    refine blk_ld ox2 rfl ?_
    ((conv=>whnf);repeat((first|(with_reducible first|refine Z1 ?_|refine Z2 ?_|refine Z3 ?_|refine Z4 ?_|refine Z5 ?_));(conv=>whnf)))
    refine HIf.mk (fun c2 => ?_) (fun c2 => ?_)
    · have hc := of_decide_eq_true c2
      ((conv=>whnf);repeat((first|(with_reducible first|refine Z1 ?_|refine Z2 ?_|refine Z3 ?_|refine Z4 ?_|refine Z5 ?_));(conv=>whnf)))
      exact bad _ x12 (fun ho => by have := own.1 ho; omega)
    have hc2 := of_decide_eq_false c2
    ((conv=>whnf);repeat((first|(with_reducible first|refine Z1 ?_|refine Z2 ?_|refine Z3 ?_|refine Z4 ?_|refine Z5 ?_));(conv=>whnf)))
    cases t
    · ((conv=>whnf);repeat((first|(with_reducible first|refine Z1 ?_|refine Z2 ?_|refine Z3 ?_|refine Z4 ?_|refine Z5 ?_));(conv=>whnf)))
      exact bad _ x12 (fun ho => by have := own.1 ho; simp at this)
    cases li
    · ((conv=>whnf);repeat((first|(with_reducible first|refine Z1 ?_|refine Z2 ?_|refine Z3 ?_|refine Z4 ?_|refine Z5 ?_));(conv=>whnf)))
      exact bad _ x12 (fun ho => by have := own.1 ho; simp at this)
    cases ks
    · ((conv=>whnf);repeat((first|(with_reducible first|refine Z1 ?_|refine Z2 ?_|refine Z3 ?_|refine Z4 ?_|refine Z5 ?_));(conv=>whnf)))
      exact bad _ x12 (fun ho => by have := own.1 ho; simp at this)
    have hown : Own1 k1 n1 s1 ks1 l1 := own.2 ⟨by omega, by omega, rfl, rfl, rfl⟩
    ((conv=>whnf);repeat((first|(with_reducible first|refine Z1 ?_|refine Z2 ?_|refine Z3 ?_|refine Z4 ?_|refine Z5 ?_));(conv=>whnf)))
    refine blk_ld ox2 rfl ?_
    ((conv=>whnf);repeat((first|(with_reducible first|refine Z1 ?_|refine Z2 ?_|refine Z3 ?_|refine Z4 ?_|refine Z5 ?_));(conv=>whnf)))
    simp only [deep] at hdeep
    refine loop_rule [8, 68] (fun vs h' => ∃ (i : Nat), vs = [.int .i64 ((deeps (l1.take i) + 1 : Nat) : Int), .int .i64 i] ∧ i ≤ l1.length ∧ Ext h2 h' ∧ ∀ d ∈ l1.take i, may d)
      (fun vs _ => match vs with | [_, .int _ i] => l1.length - i.toNat | _ => 0) rfl ?_ ?_
    · exact ⟨0, rfl, by omega, Ext.refl _, by simp⟩
    · intro u h3 v8 v68
      rintro ⟨i, e, hi, x3, hmay⟩
      cases e
      have x13 := x12.trans x3
      ((conv=>whnf);repeat((first|(with_reducible first|refine Z1 ?_|refine Z2 ?_|refine Z3 ?_|refine Z4 ?_|refine Z5 ?_));(conv=>whnf)))
      refine HIf.mk (fun hb => ?_) (fun hb => ?_)
      · have hlt := of_decide_eq_true hb
        have hi1 : i < l1.length := by omega
        have htk : l1.take (i + 1) = l1.take i ++ [l1[i]] := by rw [List.take_add_one, List.getElem?_eq_getElem hi1]; rfl
        have hdi := deeps_le l1 l1[i] (List.getElem_mem hi1)
        have hdt : deeps (l1.take i) ≤ deeps l1 := by
          have := deeps_append (l1.take i) (l1.drop i)
          rw [List.take_append_drop] at this; omega
        ((conv=>whnf);repeat((first|(with_reducible first|refine Z1 ?_|refine Z2 ?_|refine Z3 ?_|refine Z4 ?_|refine Z5 ?_));(conv=>whnf)))
        refine HIdx.mk i rfl hi1 ?_
        refine sl_some a8 hi1 fun p ep => ?_
        ((conv=>whnf);repeat((first|(with_reducible first|refine Z1 ?_|refine Z2 ?_|refine Z3 ?_|refine Z4 ?_|refine Z5 ?_));(conv=>whnf)))
        refine (a8.ext x13).loadRep (Reps.ext x13 _ _ a9) ep hi1 fun as' ra1 => ?_
        ((conv=>whnf);repeat((first|(with_reducible first|refine Z1 ?_|refine Z2 ?_|refine Z3 ?_|refine Z4 ?_|refine Z5 ?_));(conv=>whnf)))
        refine new_var (e := 25) [.int .i64 0, .int .i64 0, .string ⟨#[]⟩, .slice none 0 0, .slice none 0 0] rfl ?_
        intro h4 b4 o4 x4 z4 hb4
        ((conv=>whnf);repeat((first|(with_reducible first|refine Z1 ?_|refine Z2 ?_|refine Z3 ?_|refine Z4 ?_|refine Z5 ?_));(conv=>whnf)))
        have hal := ra1.len
        refine HMust.mk (by simpa using hal) ?_
        refine store_blk o4 (by simp [hal]) ra1.one ?_
        intro h5 f5 z5 o5
        have o5' : BlkW h5 b4 25 as' := by
          have e : ([Value.int .i64 0, .int .i64 0, .string ⟨#[]⟩, .slice none 0 0, .slice none 0 0] : List Value).drop (0 + as'.toArray.toList.length) = [] := by simp [hal]
          rw [e] at o5
          simpa using o5
        have x45 : Ext h3 h5 := x4.offNew f5 (by omega)
        ((conv=>whnf);repeat((first|(with_reducible first|refine Z1 ?_|refine Z2 ?_|refine Z3 ?_|refine Z4 ?_|refine Z5 ?_));(conv=>whnf)))
        refine blk_ldN o5' hal ?_
        ((conv=>whnf);repeat((first|(with_reducible first|refine Z1 ?_|refine Z2 ?_|refine Z3 ?_|refine Z4 ?_|refine Z5 ?_));(conv=>whnf)))
        refine HCall.mk ((ih l1[i] (by have := List.sizeOf_lt_of_mem (List.getElem_mem hi1); show SizeOf.sizeOf l1[i] < SizeOf.sizeOf (DT.mk k1 n1 s1 ks1 l1); simp only [DT.mk.sizeOf_spec]; omega) h5 as' (Rep.ext x45 _ _ ra1) (by omega)).mono ?_)
        rintro e h6 ⟨m, rfl, hm1, hm2, x6⟩
        have hp := deep_pos l1[i]
        ((conv=>whnf);repeat((first|(with_reducible first|refine Z1 ?_|refine Z2 ?_|refine Z3 ?_|refine Z4 ?_|refine Z5 ?_));(conv=>whnf)))
        refine HIf.mk (fun hb7 => ?_) (fun hb7 => ?_)
        · have hm0 : m = 0 := by have : (m : Int) = 0 := by simpa using hb7
                                 omega
          ((conv=>whnf);repeat((first|(with_reducible first|refine Z1 ?_|refine Z2 ?_|refine Z3 ?_|refine Z4 ?_|refine Z5 ?_));(conv=>whnf)))
          refine ⟨0, rfl, fun hm => ?_, fun _ => rfl, x13.trans (x45.trans x6)⟩
          simp only [may] at hm
          have := hm1 ((mays_iff l1).1 hm.2 _ (List.getElem_mem hi1))
          omega
        · have hm0 : m ≠ 0 := by intro e; subst e; simp at hb7
          have hmi : may l1[i] := Classical.byContradiction fun hn => hm0 (hm2 hn)
          have hme := hm1 hmi
          ((conv=>whnf);repeat((first|(with_reducible first|refine Z1 ?_|refine Z2 ?_|refine Z3 ?_|refine Z4 ?_|refine Z5 ?_));(conv=>whnf)))
          refine ⟨⟨i + 1, ?_, by omega, x3.trans (x45.trans x6), ?_⟩, ?_⟩
          · have hd2 : deeps (l1.take (i + 1)) = max (deeps (l1.take i)) (deep l1[i]) := by rw [htk, deeps_append]; simp [deeps]
            rw [hd2]
            show [Value.int .i64 (if ((m : Int) + 1) > ((deeps (l1.take i) + 1 : Nat) : Int) then ((m : Int) + 1) else ((deeps (l1.take i) + 1 : Nat) : Int)), Value.int .i64 ((i : Int) + 1)] = _
            have e : (if ((m : Int) + 1) > ((deeps (l1.take i) + 1 : Nat) : Int) then ((m : Int) + 1) else ((deeps (l1.take i) + 1 : Nat) : Int)) = ((max (deeps (l1.take i)) (deep l1[i]) + 1 : Nat) : Int) := by split <;> omega
            rw [e]; rfl
          · intro d hd
            rw [htk] at hd
            rcases List.mem_append.1 hd with hd | hd
            · exact hmay d hd
            · rw [List.mem_singleton] at hd; rw [hd]; exact hmi
          · show l1.length - (((i : Int) + 1)).toNat < l1.length - ((i : Int)).toNat
            omega
      · have hge := of_decide_eq_false hb
        have hik : l1.take i = l1 := List.take_of_length_le (by omega)
        rw [hik] at hmay
        rw [hik]
        ((conv=>whnf);repeat((first|(with_reducible first|refine Z1 ?_|refine Z2 ?_|refine Z3 ?_|refine Z4 ?_|refine Z5 ?_));(conv=>whnf)))
        have hall : may (.mk k1 n1 s1 ks1 l1) := by simp only [may]; exact ⟨hown, (mays_iff l1).2 hmay⟩
        exact ⟨deeps l1 + 1, rfl, fun _ => by simp only [deep], fun hn => absurd hall hn, x13⟩

end Go.Proofs.YtmibnfjjlibpgaaDoor.Hc

namespace Go.Proofs.YtmibnfjjlibpgaaDoor.Hc
open Go Go.H Go.Proofs
set_option maxRecDepth 100000

/-- Whether a value may be, as a number. -/
def Chk (a : DT) (n : Int) : Prop := (may a ∧ deep a ≤ 20 ∧ n = 0) ∨ (may a ∧ 20 < deep a ∧ n = 31) ∨ (¬ may a ∧ n = 30)

theorem check17_spec (a : DT) (h : Heap) (cs : List Value) (ra : Rep h a cs) (hdeep : deep a ≤ 4611686018427387904) :
    HCalls Tryd.prog 11 #[.agg cs.toArray] h fun e h' => ∃ n : Int, e = .returned (.int .i64 n) ∧ Chk a n ∧ Ext h h' := by
  refine c11 (by simp) ?_
  ((conv=>whnf);repeat((first|(with_reducible first|refine Z1 ?_|refine Z2 ?_|refine Z3 ?_|refine Z4 ?_|refine Z5 ?_));(conv=>whnf)))
  refine new_var (e := 25) cs rfl ?_
  intro h1 bx ox x1 z1 _
  ((conv=>whnf);repeat((first|(with_reducible first|refine Z1 ?_|refine Z2 ?_|refine Z3 ?_|refine Z4 ?_|refine Z5 ?_));(conv=>whnf)))
  refine blk_ldN ox ra.len ?_
  ((conv=>whnf);repeat((first|(with_reducible first|refine Z1 ?_|refine Z2 ?_|refine Z3 ?_|refine Z4 ?_|refine Z5 ?_));(conv=>whnf)))
  refine HCall.mk ((level_spec a h1 cs (Rep.ext x1 _ _ ra) hdeep).mono ?_)
  rintro e h2 ⟨m, rfl, hm1, hm2, x2⟩
  have hp := deep_pos a
  ((conv=>whnf);repeat((first|(with_reducible first|refine Z1 ?_|refine Z2 ?_|refine Z3 ?_|refine Z4 ?_|refine Z5 ?_));(conv=>whnf)))
  refine HIf.mk (fun hb => ?_) (fun hb => ?_)
  · have hm0 : m = 0 := by have : (m : Int) = 0 := by simpa using hb
                           omega
    ((conv=>whnf);repeat((first|(with_reducible first|refine Z1 ?_|refine Z2 ?_|refine Z3 ?_|refine Z4 ?_|refine Z5 ?_));(conv=>whnf)))
    refine ⟨30, rfl, .inr (.inr ⟨fun hm => ?_, rfl⟩), x1.trans x2⟩
    have := hm1 hm
    omega
  · have hm0 : m ≠ 0 := by intro e; subst e; simp at hb
    have hma : may a := Classical.byContradiction fun hn => hm0 (hm2 hn)
    have hme := hm1 hma
    ((conv=>whnf);repeat((first|(with_reducible first|refine Z1 ?_|refine Z2 ?_|refine Z3 ?_|refine Z4 ?_|refine Z5 ?_));(conv=>whnf)))
    refine HIf.mk (fun hb2 => ?_) (fun hb2 => ?_)
    · have := of_decide_eq_true hb2
      ((conv=>whnf);repeat((first|(with_reducible first|refine Z1 ?_|refine Z2 ?_|refine Z3 ?_|refine Z4 ?_|refine Z5 ?_));(conv=>whnf)))
      exact ⟨31, rfl, .inr (.inl ⟨hma, by omega, rfl⟩), x1.trans x2⟩
    · have := of_decide_eq_false hb2
      ((conv=>whnf);repeat((first|(with_reducible first|refine Z1 ?_|refine Z2 ?_|refine Z3 ?_|refine Z4 ?_|refine Z5 ?_));(conv=>whnf)))
      exact ⟨0, rfl, .inl ⟨hma, by omega, rfl⟩, x1.trans x2⟩

end Go.Proofs.YtmibnfjjlibpgaaDoor.Hc

namespace Go.Proofs.YtmibnfjjlibpgaaDoor.Hc
open Go Go.H Go.Proofs
set_option maxRecDepth 100000

theorem rdeep_spec : ∀ (a : DT) (h : Heap) (cs : List Value), Rep h a cs → deep a ≤ 4611686018427387904 →
    HCalls Tryd.prog 26 #[.agg cs.toArray] h fun e h' => e = .returned (.int .i64 (deep a : Nat)) ∧ Ext h h' := by
  intro a
  induction a using (measure (fun d : DT => SizeOf.sizeOf d)).wf.induction with
  | _ a ih =>
  intro h cs ra hdeep
  obtain ⟨k1, n1, s1, ks1, l1⟩ := a
  simp only [Rep] at ra
  obtain ⟨a1, a2, a3, a4, a5, a6, ka, kc, la, lc, xs, rfl, a7, a8, a9⟩ := ra
  refine c26 (by simp) ?_
  ((conv=>whnf);repeat((first|(with_reducible first|refine Z1 ?_|refine Z2 ?_|refine Z3 ?_|refine Z4 ?_|refine Z5 ?_));(conv=>whnf)))
  refine new_var (e := 25) [.int .i64 k1, .int .i64 n1, .string s1, .slice ka ks1.length kc, .slice la l1.length lc] rfl ?_
  intro h1 bx ox x1 z1 _
  ((conv=>whnf);repeat((first|(with_reducible first|refine Z1 ?_|refine Z2 ?_|refine Z3 ?_|refine Z4 ?_|refine Z5 ?_));(conv=>whnf)))
  refine blk_ld ox rfl ?_
  ((conv=>whnf);repeat((first|(with_reducible first|refine Z1 ?_|refine Z2 ?_|refine Z3 ?_|refine Z4 ?_|refine Z5 ?_));(conv=>whnf)))
  simp only [deep] at hdeep
  refine loop_rule [3, 9] (fun vs h' => ∃ (i : Nat), vs = [.int .i64 ((deeps (l1.take i) : Nat) : Int), .int .i64 i] ∧ i ≤ l1.length ∧ Ext h1 h')
    (fun vs _ => match vs with | [_, .int _ i] => l1.length - i.toNat | _ => 0) rfl ?_ ?_
  · exact ⟨0, rfl, by omega, Ext.refl _⟩
  · intro u h3 v8 v68
    rintro ⟨i, e, hi, x3⟩
    cases e
    have x13 := x1.trans x3
    ((conv=>whnf);repeat((first|(with_reducible first|refine Z1 ?_|refine Z2 ?_|refine Z3 ?_|refine Z4 ?_|refine Z5 ?_));(conv=>whnf)))
    refine HIf.mk (fun hb => ?_) (fun hb => ?_)
    · have hlt := of_decide_eq_true hb
      have hi1 : i < l1.length := by omega
      have htk : l1.take (i + 1) = l1.take i ++ [l1[i]] := by rw [List.take_add_one, List.getElem?_eq_getElem hi1]; rfl
      have hdi := deeps_le l1 l1[i] (List.getElem_mem hi1)
      ((conv=>whnf);repeat((first|(with_reducible first|refine Z1 ?_|refine Z2 ?_|refine Z3 ?_|refine Z4 ?_|refine Z5 ?_));(conv=>whnf)))
      refine HIdx.mk i rfl hi1 ?_
      refine sl_some a8 hi1 fun p ep => ?_
      ((conv=>whnf);repeat((first|(with_reducible first|refine Z1 ?_|refine Z2 ?_|refine Z3 ?_|refine Z4 ?_|refine Z5 ?_));(conv=>whnf)))
      refine (a8.ext x13).loadRep (Reps.ext x13 _ _ a9) ep hi1 fun as' ra1 => ?_
      ((conv=>whnf);repeat((first|(with_reducible first|refine Z1 ?_|refine Z2 ?_|refine Z3 ?_|refine Z4 ?_|refine Z5 ?_));(conv=>whnf)))
      refine new_var (e := 25) [.int .i64 0, .int .i64 0, .string ⟨#[]⟩, .slice none 0 0, .slice none 0 0] rfl ?_
      intro h4 b4 o4 x4 z4 hb4
      ((conv=>whnf);repeat((first|(with_reducible first|refine Z1 ?_|refine Z2 ?_|refine Z3 ?_|refine Z4 ?_|refine Z5 ?_));(conv=>whnf)))
      have hal := ra1.len
      refine HMust.mk (by simpa using hal) ?_
      refine store_blk o4 (by simp [hal]) ra1.one ?_
      intro h5 f5 z5 o5
      have o5' : BlkW h5 b4 25 as' := by
        have e : ([Value.int .i64 0, .int .i64 0, .string ⟨#[]⟩, .slice none 0 0, .slice none 0 0] : List Value).drop (0 + as'.toArray.toList.length) = [] := by simp [hal]
        rw [e] at o5
        simpa using o5
      have x45 : Ext h3 h5 := x4.offNew f5 (by omega)
      ((conv=>whnf);repeat((first|(with_reducible first|refine Z1 ?_|refine Z2 ?_|refine Z3 ?_|refine Z4 ?_|refine Z5 ?_));(conv=>whnf)))
      refine blk_ldN o5' hal ?_
      ((conv=>whnf);repeat((first|(with_reducible first|refine Z1 ?_|refine Z2 ?_|refine Z3 ?_|refine Z4 ?_|refine Z5 ?_));(conv=>whnf)))
      refine HCall.mk ((ih l1[i] (by have := List.sizeOf_lt_of_mem (List.getElem_mem hi1); show SizeOf.sizeOf l1[i] < SizeOf.sizeOf (DT.mk k1 n1 s1 ks1 l1); simp only [DT.mk.sizeOf_spec]; omega) h5 as' (Rep.ext x45 _ _ ra1) (by omega)).mono ?_)
      rintro e h6 ⟨rfl, x6⟩
      ((conv=>whnf);repeat((first|(with_reducible first|refine Z1 ?_|refine Z2 ?_|refine Z3 ?_|refine Z4 ?_|refine Z5 ?_));(conv=>whnf)))
      refine ⟨⟨i + 1, ?_, by omega, x3.trans (x45.trans x6)⟩, ?_⟩
      · have hd2 : deeps (l1.take (i + 1)) = max (deeps (l1.take i)) (deep l1[i]) := by rw [htk, deeps_append]; simp [deeps]
        rw [hd2]
        show [Value.int .i64 (if ((deep l1[i] : Nat) : Int) > ((deeps (l1.take i) : Nat) : Int) then ((deep l1[i] : Nat) : Int) else ((deeps (l1.take i) : Nat) : Int)), Value.int .i64 ((i : Int) + 1)] = _
        have e : (if ((deep l1[i] : Nat) : Int) > ((deeps (l1.take i) : Nat) : Int) then ((deep l1[i] : Nat) : Int) else ((deeps (l1.take i) : Nat) : Int)) = ((max (deeps (l1.take i)) (deep l1[i]) : Nat) : Int) := by split <;> omega
        rw [e]; rfl
      · show l1.length - (((i : Int) + 1)).toNat < l1.length - ((i : Int)).toNat
        omega
    · have hge := of_decide_eq_false hb
      have hik : l1.take i = l1 := List.take_of_length_le (by omega)
      rw [hik]
      ((conv=>whnf);repeat((first|(with_reducible first|refine Z1 ?_|refine Z2 ?_|refine Z3 ?_|refine Z4 ?_|refine Z5 ?_));(conv=>whnf)))
      exact ⟨by simp only [deep]; rfl, x13⟩

end Go.Proofs.YtmibnfjjlibpgaaDoor.Hc

namespace Go.Proofs.YtmibnfjjlibpgaaDoor.Hc
open Go Go.H Go.Proofs
set_option maxRecDepth 100000

theorem rcheck_spec (s : ByteArray) (h : Heap) (hs : s.size ≤ 140737488351232) : HCalls Tryd.prog 45 #[.string s] h fun e h' => e = .returned (.bool (decide (s.size % 2 = 0))) ∧ h' = h := by
  refine c45 (by simp) ?_
  ((conv=>whnf);repeat((first|(with_reducible first|refine Z1 ?_|refine Z2 ?_|refine Z3 ?_|refine Z4 ?_|refine Z5 ?_));(conv=>whnf)))
  refine ⟨?_, rfl⟩
  show Ending.returned (.bool ((s.size : Int).tmod 2 == 0)) = _
  rw [show (s.size : Int).tmod 2 = ((s.size % 2 : Nat) : Int) from (Int.ofNat_tmod s.size 2).symm]
  congr 2
  by_cases h0 : s.size % 2 = 0
  · rw [decide_eq_true h0, h0]; rfl
  · rw [decide_eq_false h0, beq_eq_false_iff_ne]; omega

theorem rkeys_spec (a : DT) (h : Heap) (cs : List Value) (ra : Rep h a cs) :
    HCalls Tryd.prog 46 #[.agg cs.toArray] h fun e h' => ∃ r, e = .returned (.bool r) ∧ (r = true ↔ GoodKeys a.keys a.list.length) ∧ Ext h h' := by
  obtain ⟨k1, n1, s1, ks1, l1⟩ := a
  simp only [Rep] at ra
  obtain ⟨a1, a2, a3, a4, a5, a6, ka, kc, la, lc, xs, rfl, a7, a8, a9⟩ := ra
  refine c46 (by simp) ?_
  ((conv=>whnf);repeat((first|(with_reducible first|refine Z1 ?_|refine Z2 ?_|refine Z3 ?_|refine Z4 ?_|refine Z5 ?_));(conv=>whnf)))
  refine new_var (e := 25) [.int .i64 k1, .int .i64 n1, .string s1, .slice ka ks1.length kc, .slice la l1.length lc] rfl ?_
  intro h1 bx ox x1 z1 _
  ((conv=>whnf);repeat((first|(with_reducible first|refine Z1 ?_|refine Z2 ?_|refine Z3 ?_|refine Z4 ?_|refine Z5 ?_));(conv=>whnf)))
  refine blk_ld ox rfl ?_
  ((conv=>whnf);repeat((first|(with_reducible first|refine Z1 ?_|refine Z2 ?_|refine Z3 ?_|refine Z4 ?_|refine Z5 ?_));(conv=>whnf)))
  refine blk_ld ox rfl ?_
  ((conv=>whnf);repeat((first|(with_reducible first|refine Z1 ?_|refine Z2 ?_|refine Z3 ?_|refine Z4 ?_|refine Z5 ?_));(conv=>whnf)))
  refine HIf.mk (fun hb => ?_) (fun hb => ?_)
  · have hne : ks1.length ≠ l1.length := by intro e; rw [e] at hb; simp at hb
    ((conv=>whnf);repeat((first|(with_reducible first|refine Z1 ?_|refine Z2 ?_|refine Z3 ?_|refine Z4 ?_|refine Z5 ?_));(conv=>whnf)))
    refine ⟨false, rfl, ?_, x1⟩
    simp only [Bool.false_eq_true, false_iff]
    intro hg
    exact hne hg.2.2
  have hle : ks1.length = l1.length := by have : (ks1.length : Int) = l1.length := by simpa using hb
                                          omega
  ((conv=>whnf);repeat((first|(with_reducible first|refine Z1 ?_|refine Z2 ?_|refine Z3 ?_|refine Z4 ?_|refine Z5 ?_));(conv=>whnf)))
  refine blk_ld ox rfl ?_
  ((conv=>whnf);repeat((first|(with_reducible first|refine Z1 ?_|refine Z2 ?_|refine Z3 ?_|refine Z4 ?_|refine Z5 ?_));(conv=>whnf)))
  have a7' := a7.ext x1
  refine loop_rule [17] (fun vs h' => ∃ (i : Nat), vs = [.int .i64 i] ∧ i ≤ ks1.length ∧ h' = h1 ∧ (∀ k ∈ ks1.take i, k.size % 2 = 0) ∧ (ks1.take i).Nodup)
    (fun vs _ => match vs with | [.int _ i] => ks1.length - i.toNat | _ => 0) rfl ?_ ?_
  · exact ⟨0, rfl, by omega, rfl, by simp, by simp⟩
  · intro u h1 v17
    rintro ⟨i, e, hi, rfl, he, hn⟩
    cases e
    ((conv=>whnf);repeat((first|(with_reducible first|refine Z1 ?_|refine Z2 ?_|refine Z3 ?_|refine Z4 ?_|refine Z5 ?_));(conv=>whnf)))
    refine HIf.mk (fun hb2 => ?_) (fun hb2 => ?_)
    · have hlt := of_decide_eq_true hb2
      have hi1 : i < ks1.length := by omega
      ((conv=>whnf);repeat((first|(with_reducible first|refine Z1 ?_|refine Z2 ?_|refine Z3 ?_|refine Z4 ?_|refine Z5 ?_));(conv=>whnf)))
      refine HIdx.mk i rfl hi1 ?_
      refine sl_some a7' hi1 fun p ep => ?_
      ((conv=>whnf);repeat((first|(with_reducible first|refine Z1 ?_|refine Z2 ?_|refine Z3 ?_|refine Z4 ?_|refine Z5 ?_));(conv=>whnf)))
      refine a7'.load ep (by simpa using hi1) ?_
      rw [List.getElem_map]
      ((conv=>whnf);repeat((first|(with_reducible first|refine Z1 ?_|refine Z2 ?_|refine Z3 ?_|refine Z4 ?_|refine Z5 ?_));(conv=>whnf)))
      refine blk_ld ox rfl ?_
      ((conv=>whnf);repeat((first|(with_reducible first|refine Z1 ?_|refine Z2 ?_|refine Z3 ?_|refine Z4 ?_|refine Z5 ?_));(conv=>whnf)))
      have hkc := a7'.2.1
      refine HBound.mk i rfl (by omega) ?_
      ((conv=>whnf);repeat((first|(with_reducible first|refine Z1 ?_|refine Z2 ?_|refine Z3 ?_|refine Z4 ?_|refine Z5 ?_));(conv=>whnf)))
      have sl := a7'.slice (Nat.zero_le i) (Nat.le_of_lt hi1)
      rw [Nat.mul_one, Nat.mul_one, List.drop_zero, ← List.map_take] at sl
      have htk : ks1.take (i + 1) = ks1.take i ++ [ks1[i]] := by rw [List.take_add_one, List.getElem?_eq_getElem hi1]; rfl
      refine loop_rule [27] (fun vs h' => ∃ (j : Nat), vs = [.int .i64 j] ∧ j ≤ i ∧ h' = h1 ∧ ∀ x ∈ ks1.take j, x ≠ ks1[i])
        (fun vs _ => match vs with | [.int _ j] => i - j.toNat | _ => 0) rfl ?_ ?_
      · exact ⟨0, rfl, by omega, rfl, by simp⟩
      · intro u h1 v27
        rintro ⟨j, e, hj, rfl, hx⟩
        cases e
        ((conv=>whnf);repeat((first|(with_reducible first|refine Z1 ?_|refine Z2 ?_|refine Z3 ?_|refine Z4 ?_|refine Z5 ?_));(conv=>whnf)))
        refine HIf.mk (fun hb3 => ?_) (fun hb3 => ?_)
        · have hlt3 := of_decide_eq_true hb3
          have hj1 : j < i := by omega
          have hj2 : j < ks1.length := by omega
          ((conv=>whnf);repeat((first|(with_reducible first|refine Z1 ?_|refine Z2 ?_|refine Z3 ?_|refine Z4 ?_|refine Z5 ?_));(conv=>whnf)))
          refine HIdx.mk j rfl (by omega) ?_
          refine sl_some sl (by omega) fun p ep => ?_
          ((conv=>whnf);repeat((first|(with_reducible first|refine Z1 ?_|refine Z2 ?_|refine Z3 ?_|refine Z4 ?_|refine Z5 ?_));(conv=>whnf)))
          refine sl.load ep (by simp; omega) ?_
          rw [List.getElem_map, List.getElem_take]
          ((conv=>whnf);repeat((first|(with_reducible first|refine Z1 ?_|refine Z2 ?_|refine Z3 ?_|refine Z4 ?_|refine Z5 ?_));(conv=>whnf)))
          refine HIf.mk (fun hb4 => ?_) (fun hb4 => ?_)
          · have heq : ks1[j] = ks1[i] := (strEq_iff _ _).1 hb4
            ((conv=>whnf);repeat((first|(with_reducible first|refine Z1 ?_|refine Z2 ?_|refine Z3 ?_|refine Z4 ?_|refine Z5 ?_));(conv=>whnf)))
            refine ⟨false, rfl, ?_, x1⟩
            simp only [Bool.false_eq_true, false_iff]
            intro hg
            exact List.pairwise_iff_getElem.1 hg.2.1 j i hj2 hi1 hj1 heq
          · have hne : ks1[j] ≠ ks1[i] := fun e => by rw [(strEq_iff _ _).2 e] at hb4; cases hb4
            ((conv=>whnf);repeat((first|(with_reducible first|refine Z1 ?_|refine Z2 ?_|refine Z3 ?_|refine Z4 ?_|refine Z5 ?_));(conv=>whnf)))
            refine ⟨⟨j + 1, rfl, by omega, rfl, ?_⟩, ?_⟩
            · intro x hxm
              rw [List.take_add_one, List.getElem?_eq_getElem hj2] at hxm
              rcases List.mem_append.1 hxm with h | h
              · exact hx x h
              · simp at h; rw [h]; exact hne
            · show i - (((j : Int) + 1)).toNat < i - ((j : Int)).toNat
              omega
        · have hge3 := of_decide_eq_false hb3
          obtain rfl : j = i := by omega
          ((conv=>whnf);repeat((first|(with_reducible first|refine Z1 ?_|refine Z2 ?_|refine Z3 ?_|refine Z4 ?_|refine Z5 ?_));(conv=>whnf)))
          refine HCall.mk ((rcheck_spec ks1[j] h1 (a6 _ (List.getElem_mem hi1))).mono ?_)
          rintro e h1 ⟨rfl, rfl⟩
          by_cases hev : ks1[j].size % 2 = 0
          · have hd : decide (ks1[j].size % 2 = 0) = true := decide_eq_true hev
            rw [hd]
            ((conv=>whnf);repeat((first|(with_reducible first|refine Z1 ?_|refine Z2 ?_|refine Z3 ?_|refine Z4 ?_|refine Z5 ?_));(conv=>whnf)))
            refine ⟨⟨j + 1, rfl, by omega, rfl, ?_, ?_⟩, ?_⟩
            · intro k hk
              rw [htk] at hk
              rcases List.mem_append.1 hk with hk | hk
              · exact he k hk
              · rw [List.mem_singleton] at hk; rw [hk]; exact hev
            · rw [htk, List.nodup_append]
              refine ⟨hn, by simp, ?_⟩
              intro a ha b hb' hab
              rw [List.mem_singleton] at hb'
              subst hb'; subst hab
              exact hx _ ha rfl
            · show ks1.length - (((j : Int) + 1)).toNat < ks1.length - ((j : Int)).toNat
              omega
          · have hd : decide (ks1[j].size % 2 = 0) = false := decide_eq_false hev
            rw [hd]
            ((conv=>whnf);repeat((first|(with_reducible first|refine Z1 ?_|refine Z2 ?_|refine Z3 ?_|refine Z4 ?_|refine Z5 ?_));(conv=>whnf)))
            refine ⟨false, rfl, ?_, x1⟩
            simp only [Bool.false_eq_true, false_iff]
            intro hg
            exact hev (hg.1 _ (List.getElem_mem hi1))
    · have hge := of_decide_eq_false hb2
      ((conv=>whnf);repeat((first|(with_reducible first|refine Z1 ?_|refine Z2 ?_|refine Z3 ?_|refine Z4 ?_|refine Z5 ?_));(conv=>whnf)))
      have hik : ks1.take i = ks1 := List.take_of_length_le (by omega)
      rw [hik] at he hn
      exact ⟨true, rfl, by simp only [true_iff]; exact ⟨he, hn, hle⟩, x1⟩

end Go.Proofs.YtmibnfjjlibpgaaDoor.Hc

namespace Go.Proofs.YtmibnfjjlibpgaaDoor.Hc
open Go Go.H Go.Proofs
set_option maxRecDepth 100000

theorem rown_spec (a : DT) (h : Heap) (cs : List Value) (ra : Rep h a cs) :
    HCalls Tryd.prog 38 #[.agg cs.toArray] h fun e h' => ∃ r, e = .returned (.bool r) ∧ (r = true ↔ Own1 a.kind a.num a.str a.keys a.list) ∧ Ext h h' := by
  obtain ⟨k1, n1, s1, ks1, l1⟩ := a
  have ra0 := ra
  simp only [Rep] at ra
  obtain ⟨a1, a2, a3, a4, a5, a6, ka, kc, la, lc, xs, rfl, a7, a8, a9⟩ := ra
  simp only [DT.kind, DT.num, DT.str, DT.keys, DT.list]
  refine c38 (by simp) ?_
  ((conv=>whnf);repeat((first|(with_reducible first|refine Z1 ?_|refine Z2 ?_|refine Z3 ?_|refine Z4 ?_|refine Z5 ?_));(conv=>whnf)))
  refine new_var (e := 25) [.int .i64 k1, .int .i64 n1, .string s1, .slice ka ks1.length kc, .slice la l1.length lc] rfl ?_
  intro h1 bx ox x1 z1 _
  ((conv=>whnf);repeat'(first|((with_reducible refine ZM ?_ ?_);(focus rfl);(conv=>whnf))|((with_reducible first|refine Z1 ?_|refine Z2 ?_|refine Z3 ?_|refine Z4 ?_|refine Z9 (by assumption) rfl ?_|refine Z5 ?_);(conv=>whnf))|((with_reducible refine HIf.mk (fun q=> ?_) (fun q=> ?_))<;>(conv=>whnf))))
  all_goals first
    | (refine ⟨_, rfl, ?_, x1⟩; simp only [len_nil, beq_iff_eq, beq_eq_false_iff_ne, decide_eq_true_eq, decide_eq_false_iff_not, (str_nil_iff _).1, (str_nil_iff _).2] at *; unfold Own1; grind)
    | skip
  · refine HCall.mk ((rcheck_spec s1 h1 a3).mono ?_)
    rintro e h2 ⟨rfl, rfl⟩
    ((conv=>whnf);repeat'(first|((with_reducible refine ZM ?_ ?_);(focus rfl);(conv=>whnf))|((with_reducible first|refine Z1 ?_|refine Z2 ?_|refine Z3 ?_|refine Z4 ?_|refine Z9 (by assumption) rfl ?_|refine Z5 ?_);(conv=>whnf))|((with_reducible refine HIf.mk (fun q=> ?_) (fun q=> ?_))<;>(conv=>whnf))))
    all_goals (refine ⟨_, rfl, ?_, x1⟩; simp only [len_nil, beq_iff_eq, beq_eq_false_iff_ne, decide_eq_true_eq, decide_eq_false_iff_not, (str_nil_iff _).1, (str_nil_iff _).2] at *; unfold Own1; grind)
  · refine blk_ldN ox rfl ?_
    ((conv=>whnf);repeat'(first|((with_reducible refine ZM ?_ ?_);(focus rfl);(conv=>whnf))|((with_reducible first|refine Z1 ?_|refine Z2 ?_|refine Z3 ?_|refine Z4 ?_|refine Z9 (by assumption) rfl ?_|refine Z5 ?_);(conv=>whnf))|((with_reducible refine HIf.mk (fun q=> ?_) (fun q=> ?_))<;>(conv=>whnf))))
    refine HCall.mk ((rkeys_spec _ h1 _ (Rep.ext x1 _ _ ra0)).mono ?_)
    rintro e h2 ⟨r, rfl, hr, x2⟩
    ((conv=>whnf);repeat'(first|((with_reducible refine ZM ?_ ?_);(focus rfl);(conv=>whnf))|((with_reducible first|refine Z1 ?_|refine Z2 ?_|refine Z3 ?_|refine Z4 ?_|refine Z9 (by assumption) rfl ?_|refine Z5 ?_);(conv=>whnf))|((with_reducible refine HIf.mk (fun q=> ?_) (fun q=> ?_))<;>(conv=>whnf))))
    refine ⟨_, rfl, ?_, x1.trans x2⟩; simp only [DT.keys, DT.list] at hr; simp only [len_nil, beq_iff_eq, beq_eq_false_iff_ne, decide_eq_true_eq, decide_eq_false_iff_not, (str_nil_iff _).1, (str_nil_iff _).2] at *; unfold Own1; grind

end Go.Proofs.YtmibnfjjlibpgaaDoor.Hc

namespace Go.Proofs.YtmibnfjjlibpgaaDoor.Hc
open Go Go.H Go.Proofs
set_option maxRecDepth 100000

def kvol : List ByteArray → Nat
  | [] => 0
  | k :: r => k.size + 1 + kvol r
mutual
/-- How much a tree holds. -/
def vol : DT → Nat
  | .mk _ _ s ks l => 6 + s.size + kvol ks + vols l
def vols : List DT → Nat
  | [] => 0
  | d :: r => vol d + vols r
end
theorem kvol_len : ∀ (ks : List ByteArray), ks.length ≤ kvol ks
  | [] => by simp [kvol]
  | k :: r => by have := kvol_len r; simp only [kvol, List.length_cons]; omega
theorem kvol_mem : ∀ (ks : List ByteArray) (k : ByteArray), k ∈ ks → k.size + 1 ≤ kvol ks
  | [], k, h => by cases h
  | e :: r, k, h => by
    simp only [kvol]
    rcases List.mem_cons.1 h with rfl | h
    · omega
    · have := kvol_mem r k h; omega
theorem vol_pos (d : DT) : 6 ≤ vol d := by cases d; simp only [vol]; omega
theorem vols_len : ∀ (l : List DT), 6 * l.length ≤ vols l
  | [] => by simp [vols]
  | d :: r => by have := vols_len r; have := vol_pos d; simp only [vols, List.length_cons]; omega
theorem vols_mem : ∀ (l : List DT) (d : DT), d ∈ l → vol d ≤ vols l
  | [], d, h => by cases h
  | e :: r, d, h => by
    simp only [vols]
    rcases List.mem_cons.1 h with rfl | h
    · omega
    · have := vols_mem r d h; omega
theorem vols_append : ∀ (l r : List DT), vols (l ++ r) = vols l + vols r
  | [], r => by simp [vols]
  | d :: l, r => by simp only [List.cons_append, vols, vols_append l r]; omega
theorem kvol_append : ∀ (l r : List ByteArray), kvol (l ++ r) = kvol l + kvol r
  | [], r => by simp [kvol]
  | d :: l, r => by simp only [List.cons_append, kvol, kvol_append l r]; omega
mutual
theorem deep_vol : ∀ (d : DT), deep d ≤ vol d
  | .mk k n s ks l => by have := deeps_vol l; simp only [deep, vol]; omega
theorem deeps_vol : ∀ (l : List DT), deeps l ≤ vols l
  | [] => by simp [deeps]
  | d :: r => by have := deep_vol d; have := deeps_vol r; simp only [deeps, vols]; omega
end
theorem dt_lt {k n : Int} {s : ByteArray} {ks : List ByteArray} {l : List DT} {i : Nat} (hi : i < l.length) : SizeOf.sizeOf l[i] < SizeOf.sizeOf (DT.mk k n s ks l) := by
  have := List.sizeOf_lt_of_mem (List.getElem_mem hi); simp only [DT.mk.sizeOf_spec]; omega
theorem take_succ' {α : Type} {l : List α} {i : Nat} (hi : i < l.length) : l.take (i + 1) = l.take i ++ [l[i]] := by rw [List.take_add_one, List.getElem?_eq_getElem hi]; rfl

/-- A variable that takes an element. -/
theorem store_new {h : Heap} {b e : Nat} {zs vs : List Value} {K : Heap → Prop} (x : BlkW h b e zs) (hl : vs.length = zs.length) (one : ∀ v ∈ vs, isOne v = true)
    (k : ∀ h', Off b h h' → h'.size = h.size → BlkW h' b e vs → K h') : HStore h ⟨b, 0, none⟩ vs K := by
  refine store_blk x (by omega) one fun h' f z y => k h' f z ?_
  rw [List.take_zero, Nat.zero_add, hl, List.drop_length, List.append_nil, List.nil_append] at y
  exact y

theorem rmay_spec : ∀ (a : DT) (h : Heap) (cs : List Value), Rep h a cs →
    HCalls Tryd.prog 25 #[.agg cs.toArray] h fun e h' => ∃ r, e = .returned (.bool r) ∧ (r = true ↔ may a) ∧ Ext h h' := by
  intro a
  induction a using (measure (fun d : DT => SizeOf.sizeOf d)).wf.induction with
  | _ a ih =>
  intro h cs ra
  obtain ⟨k1, n1, s1, ks1, l1⟩ := a
  have ra0 := ra
  simp only [Rep] at ra
  obtain ⟨a1, a2, a3, a4, a5, a6, ka, kc, la, lc, xs, rfl, a7, a8, a9⟩ := ra
  refine c25 (by simp) ?_
  ((conv=>whnf);repeat((first|(with_reducible first|refine Z1 ?_|refine Z2 ?_|refine Z3 ?_|refine Z4 ?_|refine Z5 ?_|refine Z9 (by assumption) rfl ?_|refine ZA (by assumption) rfl ?_|refine ZB (by assumption) rfl ?_|refine Z6 ?_|refine Z7 ?_|refine Z8 ?_)|((with_reducible refine ZM ?_ ?_);(focus rfl)));(conv=>whnf)))
  refine new_var (e := 25) [.int .i64 k1, .int .i64 n1, .string s1, .slice ka ks1.length kc, .slice la l1.length lc] rfl ?_
  intro h1 bx ox x1 z1 _
  ((conv=>whnf);repeat((first|(with_reducible first|refine Z1 ?_|refine Z2 ?_|refine Z3 ?_|refine Z4 ?_|refine Z5 ?_|refine Z9 (by assumption) rfl ?_|refine ZA (by assumption) rfl ?_|refine ZB (by assumption) rfl ?_|refine Z6 ?_|refine Z7 ?_|refine Z8 ?_)|((with_reducible refine ZM ?_ ?_);(focus rfl)));(conv=>whnf)))
  refine HCall.mk ((rown_spec _ h1 _ (Rep.ext x1 _ _ ra0)).mono ?_)
  rintro e h2 ⟨r, rfl, hr, x2⟩
  simp only [DT.kind, DT.num, DT.str, DT.keys, DT.list] at hr
  ((repeat (rename BlkW h1 _ _ _ => upq; have upr := BlkW.ext upq x2; clear upq)))
  have x12 := x1.trans x2
  cases r
  · ((conv=>whnf);repeat((first|(with_reducible first|refine Z1 ?_|refine Z2 ?_|refine Z3 ?_|refine Z4 ?_|refine Z5 ?_|refine Z9 (by assumption) rfl ?_|refine ZA (by assumption) rfl ?_|refine ZB (by assumption) rfl ?_|refine Z6 ?_|refine Z7 ?_|refine Z8 ?_)|((with_reducible refine ZM ?_ ?_);(focus rfl)));(conv=>whnf)))
    exact ⟨false, rfl, by simp only [may, Bool.false_eq_true, false_iff] at hr ⊢; exact fun hm => hr hm.1, x12⟩
  have hown := hr.1 rfl
  ((conv=>whnf);repeat((first|(with_reducible first|refine Z1 ?_|refine Z2 ?_|refine Z3 ?_|refine Z4 ?_|refine Z5 ?_|refine Z9 (by assumption) rfl ?_|refine ZA (by assumption) rfl ?_|refine ZB (by assumption) rfl ?_|refine Z6 ?_|refine Z7 ?_|refine Z8 ?_)|((with_reducible refine ZM ?_ ?_);(focus rfl)));(conv=>whnf)))
  refine loop_rule [11] (fun vs h' => ∃ (i : Nat), vs = [.int .i64 i] ∧ i ≤ l1.length ∧ Ext h2 h' ∧ ∀ d ∈ l1.take i, may d)
    (fun vs _ => match vs with | [.int _ i] => l1.length - i.toNat | _ => 0) rfl ?_ ?_
  · exact ⟨0, rfl, by omega, Ext.refl _, by simp⟩
  · intro u h3 v11
    rintro ⟨i, e, hi, x3, hmay⟩
    cases e
    have x13 := x12.trans x3
    ((conv=>whnf);repeat((first|(with_reducible first|refine Z1 ?_|refine Z2 ?_|refine Z3 ?_|refine Z4 ?_|refine Z5 ?_|refine Z9 (by assumption) rfl ?_|refine ZA (by assumption) rfl ?_|refine ZB (by assumption) rfl ?_|refine Z6 ?_|refine Z7 ?_|refine Z8 ?_)|((with_reducible refine ZM ?_ ?_);(focus rfl)));(conv=>whnf)))
    refine HIf.mk (fun hb => ?_) (fun hb => ?_)
    · have hi1 : i < l1.length := by have := of_decide_eq_true hb; omega
      ((conv=>whnf);repeat((first|(with_reducible first|refine Z1 ?_|refine Z2 ?_|refine Z3 ?_|refine Z4 ?_|refine Z5 ?_|refine Z9 (by assumption) rfl ?_|refine ZA (by assumption) rfl ?_|refine ZB (by assumption) rfl ?_|refine Z6 ?_|refine Z7 ?_|refine Z8 ?_)|((with_reducible refine ZM ?_ ?_);(focus rfl)));(conv=>whnf)))
      refine HIdx.mk i rfl hi1 ?_
      refine sl_some a8 hi1 fun p ep => ?_
      ((conv=>whnf);repeat((first|(with_reducible first|refine Z1 ?_|refine Z2 ?_|refine Z3 ?_|refine Z4 ?_|refine Z5 ?_|refine Z9 (by assumption) rfl ?_|refine ZA (by assumption) rfl ?_|refine ZB (by assumption) rfl ?_|refine Z6 ?_|refine Z7 ?_|refine Z8 ?_)|((with_reducible refine ZM ?_ ?_);(focus rfl)));(conv=>whnf)))
      refine (a8.ext x13).loadRep (Reps.ext x13 _ _ a9) ep hi1 fun as' ra1 => ?_
      ((conv=>whnf);repeat((first|(with_reducible first|refine Z1 ?_|refine Z2 ?_|refine Z3 ?_|refine Z4 ?_|refine Z5 ?_|refine Z9 (by assumption) rfl ?_|refine ZA (by assumption) rfl ?_|refine ZB (by assumption) rfl ?_|refine Z6 ?_|refine Z7 ?_|refine Z8 ?_)|((with_reducible refine ZM ?_ ?_);(focus rfl)));(conv=>whnf)))
      refine new_var (e := 25) [.int .i64 0, .int .i64 0, .string ⟨#[]⟩, .slice none 0 0, .slice none 0 0] rfl ?_
      intro h4 b4 o4 x4 z4 hb4
      ((conv=>whnf);repeat((first|(with_reducible first|refine Z1 ?_|refine Z2 ?_|refine Z3 ?_|refine Z4 ?_|refine Z5 ?_|refine Z9 (by assumption) rfl ?_|refine ZA (by assumption) rfl ?_|refine ZB (by assumption) rfl ?_|refine Z6 ?_|refine Z7 ?_|refine Z8 ?_)|((with_reducible refine ZM ?_ ?_);(focus rfl)));(conv=>whnf)))
      have hal := ra1.len
      refine HMust.mk (by simpa using hal) ?_
      refine store_new o4 (by simp [hal]) (by simpa using ra1.one) ?_
      intro h5 f5 z5 o5
      have x45 : Ext h3 h5 := x4.offNew f5 (by omega)
      (conv => whnf)
      refine blk_ldN o5 (by simpa using hal) ?_
      ((conv=>whnf);repeat((first|(with_reducible first|refine Z1 ?_|refine Z2 ?_|refine Z3 ?_|refine Z4 ?_|refine Z5 ?_|refine Z9 (by assumption) rfl ?_|refine ZA (by assumption) rfl ?_|refine ZB (by assumption) rfl ?_|refine Z6 ?_|refine Z7 ?_|refine Z8 ?_)|((with_reducible refine ZM ?_ ?_);(focus rfl)));(conv=>whnf)))
      refine HCall.mk ((ih l1[i] (dt_lt hi1) h5 as' (Rep.ext x45 _ _ ra1)).mono ?_)
      rintro e h6 ⟨r, rfl, hr, x6⟩
      cases r
      · ((conv=>whnf);repeat((first|(with_reducible first|refine Z1 ?_|refine Z2 ?_|refine Z3 ?_|refine Z4 ?_|refine Z5 ?_|refine Z9 (by assumption) rfl ?_|refine ZA (by assumption) rfl ?_|refine ZB (by assumption) rfl ?_|refine Z6 ?_|refine Z7 ?_|refine Z8 ?_)|((with_reducible refine ZM ?_ ?_);(focus rfl)));(conv=>whnf)))
        refine ⟨false, rfl, ?_, x13.trans (x45.trans x6)⟩
        simp only [may, Bool.false_eq_true, false_iff] at hr ⊢
        intro hm
        exact hr ((mays_iff _).1 hm.2 _ (List.getElem_mem hi1))
      · ((conv=>whnf);repeat((first|(with_reducible first|refine Z1 ?_|refine Z2 ?_|refine Z3 ?_|refine Z4 ?_|refine Z5 ?_|refine Z9 (by assumption) rfl ?_|refine ZA (by assumption) rfl ?_|refine ZB (by assumption) rfl ?_|refine Z6 ?_|refine Z7 ?_|refine Z8 ?_)|((with_reducible refine ZM ?_ ?_);(focus rfl)));(conv=>whnf)))
        refine ⟨⟨i + 1, rfl, by omega, x3.trans (x45.trans x6), ?_⟩, ?_⟩
        · intro d hd
          rw [take_succ' hi1] at hd
          rcases List.mem_append.1 hd with h | h
          · exact hmay d h
          · rw [List.mem_singleton] at h; rw [h]; exact hr.1 rfl
        · show l1.length - (((i : Int) + 1)).toNat < l1.length - ((i : Int)).toNat
          omega
    · have hge := of_decide_eq_false hb
      ((conv=>whnf);repeat((first|(with_reducible first|refine Z1 ?_|refine Z2 ?_|refine Z3 ?_|refine Z4 ?_|refine Z5 ?_|refine Z9 (by assumption) rfl ?_|refine ZA (by assumption) rfl ?_|refine ZB (by assumption) rfl ?_|refine Z6 ?_|refine Z7 ?_|refine Z8 ?_)|((with_reducible refine ZM ?_ ?_);(focus rfl)));(conv=>whnf)))
      rw [List.take_of_length_le (by omega)] at hmay
      exact ⟨true, rfl, by simp only [may, true_iff]; exact ⟨hown, (mays_iff _).2 hmay⟩, x13⟩

theorem rcheckD_spec (a : DT) (h : Heap) (cs : List Value) (ra : Rep h a cs) (hv : vol a ≤ 1073741824) :
    HCalls Tryd.prog 12 #[.agg cs.toArray] h fun e h' => ∃ n : Int, e = .returned (.int .i64 n) ∧ Chk a n ∧ Ext h h' := by
  have hd := deep_vol a
  refine c12 (by simp) ?_
  ((conv=>whnf);repeat((first|(with_reducible first|refine Z1 ?_|refine Z2 ?_|refine Z3 ?_|refine Z4 ?_|refine Z5 ?_));(conv=>whnf)))
  refine new_var (e := 25) cs rfl ?_
  intro h1 bx ox x1 z1 _
  ((conv=>whnf);repeat((first|(with_reducible first|refine Z1 ?_|refine Z2 ?_|refine Z3 ?_|refine Z4 ?_|refine Z5 ?_));(conv=>whnf)))
  refine blk_ldN ox ra.len ?_
  ((conv=>whnf);repeat((first|(with_reducible first|refine Z1 ?_|refine Z2 ?_|refine Z3 ?_|refine Z4 ?_|refine Z5 ?_));(conv=>whnf)))
  refine HCall.mk ((rmay_spec a h1 cs (Rep.ext x1 _ _ ra)).mono ?_)
  rintro e h2 ⟨r, rfl, hr, x2⟩
  ((repeat (rename BlkW h1 _ _ _ => upq; have upr := BlkW.ext upq x2; clear upq)))
  cases r
  · ((conv=>whnf);repeat((first|(with_reducible first|refine Z1 ?_|refine Z2 ?_|refine Z3 ?_|refine Z4 ?_|refine Z5 ?_|refine Z9 (by assumption) rfl ?_|refine ZA (by assumption) rfl ?_|refine ZB (by assumption) rfl ?_|refine Z6 ?_|refine Z7 ?_|refine Z8 ?_)|((with_reducible refine ZM ?_ ?_);(focus rfl)));(conv=>whnf)))
    refine ⟨30, rfl, .inr (.inr ⟨fun hm => by simpa using hr.2 hm, rfl⟩), x1.trans x2⟩
  · have hma := hr.1 rfl
    ((conv=>whnf);repeat((first|(with_reducible first|refine Z1 ?_|refine Z2 ?_|refine Z3 ?_|refine Z4 ?_|refine Z5 ?_));(conv=>whnf)))
    refine blk_ldN (by assumption) ra.len ?_
    ((conv=>whnf);repeat((first|(with_reducible first|refine Z1 ?_|refine Z2 ?_|refine Z3 ?_|refine Z4 ?_|refine Z5 ?_));(conv=>whnf)))
    refine HCall.mk ((rdeep_spec a h2 cs (Rep.ext (x1.trans x2) _ _ ra) (by omega)).mono ?_)
    rintro e h3 ⟨rfl, x3⟩
    ((conv=>whnf);repeat((first|(with_reducible first|refine Z1 ?_|refine Z2 ?_|refine Z3 ?_|refine Z4 ?_|refine Z5 ?_));(conv=>whnf)))
    refine HIf.mk (fun hb2 => ?_) (fun hb2 => ?_)
    · have := of_decide_eq_true hb2
      ((conv=>whnf);repeat((first|(with_reducible first|refine Z1 ?_|refine Z2 ?_|refine Z3 ?_|refine Z4 ?_|refine Z5 ?_));(conv=>whnf)))
      exact ⟨31, rfl, .inr (.inl ⟨hma, by omega, rfl⟩), x1.trans (x2.trans x3)⟩
    · have := of_decide_eq_false hb2
      ((conv=>whnf);repeat((first|(with_reducible first|refine Z1 ?_|refine Z2 ?_|refine Z3 ?_|refine Z4 ?_|refine Z5 ?_));(conv=>whnf)))
      exact ⟨0, rfl, .inl ⟨hma, by omega, rfl⟩, x1.trans (x2.trans x3)⟩

end Go.Proofs.YtmibnfjjlibpgaaDoor.Hc
