/- The reference's disk: New, Write, Flush, Waiting, Cut, On; sameness of rows. -/
import Derived.Test.YtlbmhpjefpdekaaX7
set_option linter.unusedVariables false
set_option linter.unusedSimpArgs false
namespace Go.Proofs.Ytlbmhpjefpdekaa.Hc
open Go Go.H Go.Proofs
set_option maxRecDepth 100000
set_option maxHeartbeats 8000000

theorem sameInts_spec {h : Heap} {a a' : Option Addr} {c c' : Nat} {l m : List Nat} (s : Sl h 1 a l.length c (l.map natV)) (s' : Sl h 1 a' m.length c' (m.map natV)) (hl : l.length ≤ 140737488351232) :
    HCalls Try.prog 23 #[.slice a l.length c, .slice a' m.length c'] h fun e h' => e = .returned (.bool (decide (l = m))) ∧ h' = h := by
  refine c23 (by simp) ?_
  by_cases hle : l.length = m.length
  · have q : ((l.length : Int) != (m.length : Int)) = false := by rw [hle]; simp
    ((conv=>whnf);repeat((first|(with_reducible first|refine Z1 ?_|refine Z2 ?_|refine Z3 ?_|refine Z4 ?_|refine Z5 ?_|refine Z9 (by assumption) rfl ?_|refine ZA (by assumption) rfl ?_|refine ZB (by assumption) rfl ?_|refine Z6 ?_|refine Z7 ?_|refine Z8 ?_)|((with_reducible refine ZM ?_ ?_);(focus rfl)));(conv=>whnf)))
    refine loop_rule [13] (fun vs h' => ∃ (i : Nat), vs = [.int .i64 i] ∧ i ≤ l.length ∧ l.take i = m.take i ∧ h' = h)
      (fun vs _ => match vs with | [.int _ i] => l.length - i.toNat | _ => 0) rfl ?_ ?_
    · exact ⟨0, rfl, by omega, rfl, rfl⟩
    intro u h2 v13
    rintro ⟨i, e, hi, ht, rfl⟩
    cases e
    ((conv=>whnf);repeat((first|(with_reducible first|refine Z1 ?_|refine Z2 ?_|refine Z3 ?_|refine Z4 ?_|refine Z5 ?_|refine Z9 (by assumption) rfl ?_|refine ZA (by assumption) rfl ?_|refine ZB (by assumption) rfl ?_|refine Z6 ?_|refine Z7 ?_|refine Z8 ?_)|((with_reducible refine ZM ?_ ?_);(focus rfl)));(conv=>whnf)))
    refine HIf.mk (fun hb => ?_) (fun hb => ?_)
    · have hi1 : i < l.length := by have := of_decide_eq_true hb; omega
      have hi2 : i < m.length := by omega
      have hmu : l.length - ((i : Int) + 1).toNat < l.length - ((i : Int)).toNat := by omega
      ((conv=>whnf);repeat((first|(with_reducible first|refine Z1 ?_|refine Z2 ?_|refine Z3 ?_|refine Z4 ?_|refine Z5 ?_|refine Z9 (by assumption) rfl ?_|refine ZA (by assumption) rfl ?_|refine ZB (by assumption) rfl ?_|refine Z6 ?_|refine Z7 ?_|refine Z8 ?_)|((with_reducible refine ZM ?_ ?_);(focus rfl)));(conv=>whnf)))
      refine HIdx.mk i rfl hi1 ?_
      refine sl_some s hi1 fun p ep => ?_
      ((conv=>whnf);repeat((first|(with_reducible first|refine Z1 ?_|refine Z2 ?_|refine Z3 ?_|refine Z4 ?_|refine Z5 ?_|refine Z9 (by assumption) rfl ?_|refine ZA (by assumption) rfl ?_|refine ZB (by assumption) rfl ?_|refine Z6 ?_|refine Z7 ?_|refine Z8 ?_)|((with_reducible refine ZM ?_ ?_);(focus rfl)));(conv=>whnf)))
      refine s.load ep (by simpa using hi1) ?_
      rw [List.getElem_map]
      unfold natV
      ((conv=>whnf);repeat((first|(with_reducible first|refine Z1 ?_|refine Z2 ?_|refine Z3 ?_|refine Z4 ?_|refine Z5 ?_|refine Z9 (by assumption) rfl ?_|refine ZA (by assumption) rfl ?_|refine ZB (by assumption) rfl ?_|refine Z6 ?_|refine Z7 ?_|refine Z8 ?_)|((with_reducible refine ZM ?_ ?_);(focus rfl)));(conv=>whnf)))
      refine HIdx.mk i rfl hi2 ?_
      refine sl_some s' hi2 fun p2 ep2 => ?_
      ((conv=>whnf);repeat((first|(with_reducible first|refine Z1 ?_|refine Z2 ?_|refine Z3 ?_|refine Z4 ?_|refine Z5 ?_|refine Z9 (by assumption) rfl ?_|refine ZA (by assumption) rfl ?_|refine ZB (by assumption) rfl ?_|refine Z6 ?_|refine Z7 ?_|refine Z8 ?_)|((with_reducible refine ZM ?_ ?_);(focus rfl)));(conv=>whnf)))
      refine s'.load ep2 (by simpa using hi2) ?_
      rw [List.getElem_map]
      unfold natV
      by_cases hk : l[i] = m[i]
      · have q2 : (((l[i] : Nat) : Int) != ((m[i] : Nat) : Int)) = false := by rw [hk]; simp
        ((conv=>whnf);repeat((first|(with_reducible first|refine Z1 ?_|refine Z2 ?_|refine Z3 ?_|refine Z4 ?_|refine Z5 ?_|refine Z9 (by assumption) rfl ?_|refine ZA (by assumption) rfl ?_|refine ZB (by assumption) rfl ?_|refine Z6 ?_|refine Z7 ?_|refine Z8 ?_)|((with_reducible refine ZM ?_ ?_);(focus rfl)));(conv=>whnf)))
        refine ⟨⟨i + 1, rfl, by omega, ?_, rfl⟩, hmu⟩
        rw [List.take_add_one, List.take_add_one, ht, List.getElem?_eq_getElem hi1, List.getElem?_eq_getElem hi2, hk]
      · have q2 : (((l[i] : Nat) : Int) != ((m[i] : Nat) : Int)) = true := bne_iff_ne.2 (by omega)
        ((conv=>whnf);repeat((first|(with_reducible first|refine Z1 ?_|refine Z2 ?_|refine Z3 ?_|refine Z4 ?_|refine Z5 ?_|refine Z9 (by assumption) rfl ?_|refine ZA (by assumption) rfl ?_|refine ZB (by assumption) rfl ?_|refine Z6 ?_|refine Z7 ?_|refine Z8 ?_)|((with_reducible refine ZM ?_ ?_);(focus rfl)));(conv=>whnf)))
        refine ⟨?_, rfl⟩
        rw [decide_eq_false (show ¬ l = m from fun e => by subst e; exact hk rfl)]
        rfl
    · have hge := of_decide_eq_false hb
      rw [List.take_of_length_le (by omega), List.take_of_length_le (by omega)] at ht
      ((conv=>whnf);repeat((first|(with_reducible first|refine Z1 ?_|refine Z2 ?_|refine Z3 ?_|refine Z4 ?_|refine Z5 ?_|refine Z9 (by assumption) rfl ?_|refine ZA (by assumption) rfl ?_|refine ZB (by assumption) rfl ?_|refine Z6 ?_|refine Z7 ?_|refine Z8 ?_)|((with_reducible refine ZM ?_ ?_);(focus rfl)));(conv=>whnf)))
      rw [decide_eq_true ht]
      exact ⟨rfl, rfl⟩
  · have q : ((l.length : Int) != (m.length : Int)) = true := bne_iff_ne.2 (by omega)
    ((conv=>whnf);repeat((first|(with_reducible first|refine Z1 ?_|refine Z2 ?_|refine Z3 ?_|refine Z4 ?_|refine Z5 ?_|refine Z9 (by assumption) rfl ?_|refine ZA (by assumption) rfl ?_|refine ZB (by assumption) rfl ?_|refine Z6 ?_|refine Z7 ?_|refine Z8 ?_)|((with_reducible refine ZM ?_ ?_);(focus rfl)));(conv=>whnf)))
    refine ⟨?_, rfl⟩
    rw [decide_eq_false (show ¬ l = m from fun e => by subst e; exact hle rfl)]
    rfl
theorem same2_spec {h : Heap} {a a' : Option Addr} {c c' : Nat} {l m : List UInt8} (s : Sl h 1 a l.length c (l.map byteV)) (s' : Sl h 1 a' m.length c' (m.map byteV)) :
    HCalls Try.prog 24 #[.slice a l.length c, .slice a' m.length c'] h fun e h' => e = .returned (.bool (decide (l = m))) ∧ h' = h := by
  refine c24 (by simp) ?_
  ((conv=>whnf);repeat((first|(with_reducible first|refine Z1 ?_|refine Z2 ?_|refine Z3 ?_|refine Z4 ?_|refine Z5 ?_|refine Z9 (by assumption) rfl ?_|refine ZA (by assumption) rfl ?_|refine ZB (by assumption) rfl ?_|refine Z6 ?_|refine Z7 ?_|refine Z8 ?_)|((with_reducible refine ZM ?_ ?_);(focus rfl)));(conv=>whnf)))
  refine s.bytes ?_
  ((conv=>whnf);repeat((first|(with_reducible first|refine Z1 ?_|refine Z2 ?_|refine Z3 ?_|refine Z4 ?_|refine Z5 ?_|refine Z9 (by assumption) rfl ?_|refine ZA (by assumption) rfl ?_|refine ZB (by assumption) rfl ?_|refine Z6 ?_|refine Z7 ?_|refine Z8 ?_)|((with_reducible refine ZM ?_ ?_);(focus rfl)));(conv=>whnf)))
  refine s'.bytes ?_
  ((conv=>whnf);repeat((first|(with_reducible first|refine Z1 ?_|refine Z2 ?_|refine Z3 ?_|refine Z4 ?_|refine Z5 ?_|refine Z9 (by assumption) rfl ?_|refine ZA (by assumption) rfl ?_|refine ZB (by assumption) rfl ?_|refine Z6 ?_|refine Z7 ?_|refine Z8 ?_)|((with_reducible refine ZM ?_ ?_);(focus rfl)));(conv=>whnf)))
  refine ⟨?_, rfl⟩
  have : strEq (⟨l.toArray⟩ : ByteArray) ⟨m.toArray⟩ = decide (l = m) := by
    by_cases e : l = m
    · rw [decide_eq_true e, e]; exact (strEq_iff _ _).2 rfl
    · rw [decide_eq_false e]
      refine (strEq_no _ _).2 fun h => e ?_
      have := congrArg (fun s : ByteArray => s.data.toList) h
      simpa using this
  rw [← this]; rfl

theorem keysOf_many {d : DK} (k : d.Ok) : (List.range d.many).filter (fun i => (d.waits i).isSome) = keysOf d.waits := by
  unfold keysOf
  have hm := k.m2
  have e : List.range 2048 = List.range d.many ++ (List.range (2048 - d.many)).map (d.many + ·) := by
    rw [← List.range_add]; congr 1; omega
  rw [e, List.filter_append]
  have : ((List.range (2048 - d.many)).map (d.many + ·)).filter (fun i => (d.waits i).isSome) = [] := by
    rw [List.filter_eq_nil_iff]
    intro i hi
    obtain ⟨j, _, rfl⟩ := List.mem_map.1 hi
    cases hw : d.waits (d.many + j) with
    | none => simp
    | some s => have := k.wm _ s hw; omega
  rw [this, List.append_nil]
theorem rwaiting_spec {h : Heap} {b fb wb : Nat} {d : DK} (x : RR h b fb wb d) : HCalls Try.prog 33 #[.pointer (some ⟨b, 0, none⟩)] h fun e h' =>
    ∃ (a : Option Addr) (c : Nat), e = .returned (.slice a (keysOf d.waits).length c) ∧ Own h' h.size 3 1 a (keysOf d.waits).length c ((keysOf d.waits).map natV) ∧ Ext h h' := by
  obtain ⟨fc, wc, o, f, w⟩ := x.fc
  have k := x.ok
  have km := k.m2
  refine c33 (by simp) ?_
  ((conv=>whnf);repeat((first|(with_reducible first|refine Z1 ?_|refine Z2 ?_|refine Z3 ?_|refine Z4 ?_|refine Z5 ?_|refine Z9 (by assumption) rfl ?_|refine ZA (by assumption) rfl ?_|refine ZB (by assumption) rfl ?_|refine Z6 ?_|refine Z7 ?_|refine Z8 ?_)|((with_reducible refine ZM ?_ ?_);(focus rfl)));(conv=>whnf)))
  refine loop_rule [3, 11] (fun vs h' => ∃ (i : Nat) (a' : Option Addr) (c' : Nat), vs = [.slice a' ((List.range i).filter fun i => (d.waits i).isSome).length c', .int .i64 i] ∧ i ≤ d.many ∧ Own h' h.size 3 1 a' ((List.range i).filter fun i => (d.waits i).isSome).length c' (((List.range i).filter fun i => (d.waits i).isSome).map natV) ∧ Ext h h')
    (fun vs _ => match vs with | [_, .int _ i] => d.many - i.toNat | _ => 0) rfl ?_ ?_
  · exact ⟨0, none, 0, rfl, by omega, Own.nil _ _ _ _, Ext.refl _⟩
  intro u h2 v3 v11
  rintro ⟨i, a', c', e, hi, w2, x2⟩
  cases e
  have w' := own_offS w (OffS.of_ext (S := []) x2) (by simp)
  ((conv=>whnf);repeat((first|(with_reducible first|refine Z1 ?_|refine Z2 ?_|refine Z3 ?_|refine Z4 ?_|refine Z5 ?_|refine Z9 (by assumption) rfl ?_|refine ZA (by assumption) rfl ?_|refine ZB (by assumption) rfl ?_|refine Z6 ?_|refine Z7 ?_|refine Z8 ?_)|((with_reducible refine ZM ?_ ?_);(focus rfl)));(conv=>whnf)))
  refine HIf.mk (fun hlt => ?_) (fun hlt => ?_)
  · have hi1 : i < d.many := by have := of_decide_eq_true hlt; omega
    have hmu : d.many - ((i : Int) + 1).toNat < d.many - ((i : Int)).toNat := by omega
    have hwe := DK.wV_eq k i
    have hrs : List.range (i + 1) = List.range i ++ [i] := List.range_succ
    have hfl := List.length_filter_le (fun i => (d.waits i).isSome) (List.range i)
    rw [List.length_range] at hfl
    ((conv=>whnf);repeat((first|(with_reducible first|refine Z1 ?_|refine Z2 ?_|refine Z3 ?_|refine Z4 ?_|refine Z5 ?_|refine Z9 (by assumption) rfl ?_|refine ZA (by assumption) rfl ?_|refine ZB (by assumption) rfl ?_|refine Z6 ?_|refine Z7 ?_|refine Z8 ?_)|((with_reducible refine ZM ?_ ?_);(focus rfl)));(conv=>whnf)))
    refine HIdx.mk i rfl hi1 ?_
    refine sl_some w'.sl hi1 fun p ep => ?_
    cases ep
    ((conv=>whnf);repeat((first|(with_reducible first|refine Z1 ?_|refine Z2 ?_|refine Z3 ?_|refine Z4 ?_|refine Z5 ?_|refine Z9 (by assumption) rfl ?_|refine ZA (by assumption) rfl ?_|refine ZB (by assumption) rfl ?_|refine Z6 ?_|refine Z7 ?_|refine Z8 ?_)|((with_reducible refine ZM ?_ ?_);(focus rfl)));(conv=>whnf)))
    refine w'.sl.load rfl (by rw [tab_len]; exact hi1) ?_
    rw [tab_get]
    cases hw : d.waits i with
    | none =>
      have q : (!strEq (d.wV i) ⟨#[]⟩) = false := by rw [hwe, hw]; rfl
      have ef : (List.range (i + 1)).filter (fun i => (d.waits i).isSome) = (List.range i).filter (fun i => (d.waits i).isSome) := by rw [hrs, List.filter_append]; simp [hw]
      ((conv=>whnf);repeat((first|(with_reducible first|refine Z1 ?_|refine Z2 ?_|refine Z3 ?_|refine Z4 ?_|refine Z5 ?_|refine Z9 (by assumption) rfl ?_|refine ZA (by assumption) rfl ?_|refine ZB (by assumption) rfl ?_|refine Z6 ?_|refine Z7 ?_|refine Z8 ?_)|((with_reducible refine ZM ?_ ?_);(focus rfl)));(conv=>whnf)))
      refine ⟨⟨i + 1, a', c', ?_, by omega, ?_, x2⟩, hmu⟩
      · rw [ef]; rfl
      · rw [ef]; exact w2
    | some s =>
      have q : (!strEq (d.wV i) ⟨#[]⟩) = true := by rw [hwe, hw]; rfl
      have ef : (List.range (i + 1)).filter (fun i => (d.waits i).isSome) = (List.range i).filter (fun i => (d.waits i).isSome) ++ [i] := by rw [hrs, List.filter_append]; simp [hw]
      ((conv=>whnf);repeat((first|(with_reducible first|refine Z1 ?_|refine Z2 ?_|refine Z3 ?_|refine Z4 ?_|refine Z5 ?_|refine Z9 (by assumption) rfl ?_|refine ZA (by assumption) rfl ?_|refine ZB (by assumption) rfl ?_|refine Z6 ?_|refine Z7 ?_|refine Z8 ?_)|((with_reducible refine ZM ?_ ?_);(focus rfl)));(conv=>whnf)))
      refine new_own (e := 3) 1 1 [natV i] rfl rfl ?_
      intro h3 b3 w3 x3 z3 hb3
      ((conv=>whnf);repeat((first|(with_reducible first|refine Z1 ?_|refine Z2 ?_|refine Z3 ?_|refine Z4 ?_|refine Z5 ?_|refine Z9 (by assumption) rfl ?_|refine ZA (by assumption) rfl ?_|refine ZB (by assumption) rfl ?_|refine Z6 ?_|refine Z7 ?_|refine Z8 ?_)|((with_reducible refine ZM ?_ ?_);(focus rfl)));(conv=>whnf)))
      refine w3.sl.cells ?_
      refine Own.grow (w2.ext x3) (by have := x2.1; have := x3.1; omega) rfl rfl (by intro v hv; simp only [List.mem_singleton] at hv; subst hv; rfl) (by omega) ?_
      intro h4 a4 c4 w4 g4
      have ew : ((List.range i).filter (fun i => (d.waits i).isSome)).map natV ++ [natV i] = ((List.range (i + 1)).filter (fun i => (d.waits i).isSome)).map natV := by rw [ef, List.map_append]; rfl
      have el : ((List.range i).filter (fun i => (d.waits i).isSome)).length + 1 = ((List.range (i + 1)).filter (fun i => (d.waits i).isSome)).length := by rw [ef, List.length_append]; rfl
      rw [ew, el] at w4
      ((conv=>whnf);repeat((first|(with_reducible first|refine Z1 ?_|refine Z2 ?_|refine Z3 ?_|refine Z4 ?_|refine Z5 ?_|refine Z9 (by assumption) rfl ?_|refine ZA (by assumption) rfl ?_|refine ZB (by assumption) rfl ?_|refine Z6 ?_|refine Z7 ?_|refine Z8 ?_)|((with_reducible refine ZM ?_ ?_);(focus rfl)));(conv=>whnf)))
      refine ⟨⟨i + 1, a4, c4, ?_, by omega, w4, (x2.trans x3).keep (g4.kept (by have := x2.1; have := x3.1; omega) fun p ep => (w2.lt p ep).1)⟩, hmu⟩
      rw [← el]; rfl
  · have hge := of_decide_eq_false hlt
    obtain rfl : i = d.many := by omega
    rw [keysOf_many k] at *
    ((conv=>whnf);repeat((first|(with_reducible first|refine Z1 ?_|refine Z2 ?_|refine Z3 ?_|refine Z4 ?_|refine Z5 ?_|refine Z9 (by assumption) rfl ?_|refine ZA (by assumption) rfl ?_|refine ZB (by assumption) rfl ?_|refine Z6 ?_|refine Z7 ?_|refine Z8 ?_)|((with_reducible refine ZM ?_ ?_);(focus rfl)));(conv=>whnf)))
    exact ⟨a', c', rfl, w2, x2⟩
theorem rwrite_spec {h : Heap} {b fb wb : Nat} {d : DK} (x : RR h b fb wb d) (ha : d.acts ≤ 999999) (i : Int) {a : Option Addr} {c : Nat} {l : List UInt8} (s : Sl h 1 a l.length c (l.map byteV)) (hsa : ∀ p, a = some p → p.block ∉ [b, fb, wb] ∧ p.block < h.size) :
    HCalls Try.prog 28 #[.pointer (some ⟨b, 0, none⟩), .int .i64 i, .slice a l.length c] h fun e h' => e = .returned (.int .i64 (d.write i ⟨l.toArray⟩).1) ∧ RR h' b fb wb (d.write i ⟨l.toArray⟩).2 ∧ OffS [b, fb, wb] h h' := by
  have hwo := DK.write_ok x.ok ha i ⟨l.toArray⟩
  have hls : (⟨l.toArray⟩ : ByteArray).size = l.length := rfl
  obtain ⟨fc, wc, o, f, w⟩ := x.fc
  refine c28 (by simp) ?_
  unfold DK.write at hwo ⊢
  rcases d.refused_cases i with ⟨h1, h2⟩ | ⟨h1, h2, h3⟩ | ⟨h1, h2, h3⟩
  · rw [h1] at o
    rw [h2, if_pos (by decide)]
    ((conv=>whnf);repeat((first|(with_reducible first|refine Z1 ?_|refine Z2 ?_|refine Z3 ?_|refine Z4 ?_|refine Z5 ?_|refine Z9 (by assumption) rfl ?_|refine ZA (by assumption) rfl ?_|refine ZB (by assumption) rfl ?_|refine Z6 ?_|refine Z7 ?_|refine Z8 ?_)|((with_reducible refine ZM ?_ ?_);(focus rfl)));(conv=>whnf)))
    exact ⟨rfl, x, OffS.refl _ _⟩
  · rw [h1] at o
    rw [h3, if_pos (by decide)]
    by_cases hi : i < 0
    · have q : decide (i < 0) = true := decide_eq_true hi
      ((conv=>whnf);repeat((first|(with_reducible first|refine Z1 ?_|refine Z2 ?_|refine Z3 ?_|refine Z4 ?_|refine Z5 ?_|refine Z9 (by assumption) rfl ?_|refine ZA (by assumption) rfl ?_|refine ZB (by assumption) rfl ?_|refine Z6 ?_|refine Z7 ?_|refine Z8 ?_)|((with_reducible refine ZM ?_ ?_);(focus rfl)));(conv=>whnf)))
      exact ⟨rfl, x, OffS.refl _ _⟩
    · have q : decide (i < 0) = false := decide_eq_false hi
      have q2 : decide (i ≥ (d.many : Int)) = true := decide_eq_true (by omega)
      ((conv=>whnf);repeat((first|(with_reducible first|refine Z1 ?_|refine Z2 ?_|refine Z3 ?_|refine Z4 ?_|refine Z5 ?_|refine Z9 (by assumption) rfl ?_|refine ZA (by assumption) rfl ?_|refine ZB (by assumption) rfl ?_|refine Z6 ?_|refine Z7 ?_|refine Z8 ?_)|((with_reducible refine ZM ?_ ?_);(focus rfl)));(conv=>whnf)))
      exact ⟨rfl, x, OffS.refl _ _⟩
  rw [h1] at o
  rw [h3, if_neg (by decide)] at hwo ⊢
  obtain ⟨n, rfl⟩ := Int.eq_ofNat_of_zero_le h2.1
  simp only [Int.toNat_natCast] at hwo ⊢
  have hn : n < d.many := by omega
  have q : decide ((n : Int) < 0) = false := decide_eq_false (by omega)
  have q2 : decide ((n : Int) ≥ (d.many : Int)) = false := decide_eq_false (by omega)
  by_cases hl : l.length = 4096
  rotate_left
  · have q3 : ((l.length : Int) != 4096) = true := bne_iff_ne.2 (by omega)
    rw [if_pos (by rw [hls]; exact hl)] at hwo ⊢
    ((conv=>whnf);repeat((first|(with_reducible first|refine Z1 ?_|refine Z2 ?_|refine Z3 ?_|refine Z4 ?_|refine Z5 ?_|refine Z9 (by assumption) rfl ?_|refine ZA (by assumption) rfl ?_|refine ZB (by assumption) rfl ?_|refine Z6 ?_|refine Z7 ?_|refine Z8 ?_)|((with_reducible refine ZM ?_ ?_);(focus rfl)));(conv=>whnf)))
    exact ⟨rfl, x, OffS.refl _ _⟩
  have q3 : ((l.length : Int) != 4096) = false := by rw [hl]; rfl
  rw [if_neg (by rw [hls]; simpa using hl)] at hwo ⊢
  ((conv=>whnf);repeat((first|(with_reducible first|refine Z1 ?_|refine Z2 ?_|refine Z3 ?_|refine Z4 ?_|refine Z5 ?_|refine Z9 (by assumption) rfl ?_|refine ZA (by assumption) rfl ?_|refine ZB (by assumption) rfl ?_|refine Z6 ?_|refine Z7 ?_|refine Z8 ?_)|((with_reducible refine ZM ?_ ?_);(focus rfl)));(conv=>whnf)))
  refine HCall.mk ((ract_spec x ha).mono ?_)
  rintro e h2 ⟨rfl, x2, f2⟩
  clear o f w
  obtain ⟨fc, wc, o, f, w⟩ := x2.fc
  have hmany := (act_fields d).2.2
  by_cases h0 : d.act.1 = 0
  rotate_left
  · have q4 : (!(d.act.1 == 0)) = true := by rw [beq_eq_false_iff_ne.2 h0]; rfl
    have e160 : d.act.1 = 160 := by unfold DK.act at h0 ⊢; split <;> simp_all
    rw [if_neg h0, e160]
    ((conv=>whnf);repeat((first|(with_reducible first|refine Z1 ?_|refine Z2 ?_|refine Z3 ?_|refine Z4 ?_|refine Z5 ?_|refine Z9 (by assumption) rfl ?_|refine ZA (by assumption) rfl ?_|refine ZB (by assumption) rfl ?_|refine Z6 ?_|refine Z7 ?_|refine Z8 ?_)|((with_reducible refine ZM ?_ ?_);(focus rfl)));(conv=>whnf)))
    exact ⟨rfl, x2, f2⟩
  have q4 : (!(d.act.1 == 0)) = false := by rw [h0]; rfl
  rw [if_pos h0] at hwo ⊢
  have s2 : Sl h2 1 a l.length c (l.map byteV) := s.fr (S := fun k => k ∉ [b, fb, wb] ∧ k < h.size) hsa h2 (fun k hk => f2.2 k hk.2 hk.1)
  have hn2 : n < d.act.2.many := by rw [hmany]; exact hn
  ((conv=>whnf);repeat((first|(with_reducible first|refine Z1 ?_|refine Z2 ?_|refine Z3 ?_|refine Z4 ?_|refine Z5 ?_|refine Z9 (by assumption) rfl ?_|refine ZA (by assumption) rfl ?_|refine ZB (by assumption) rfl ?_|refine Z6 ?_|refine Z7 ?_|refine Z8 ?_)|((with_reducible refine ZM ?_ ?_);(focus rfl)));(conv=>whnf)))
  refine s2.bytes ?_
  ((conv=>whnf);repeat((first|(with_reducible first|refine Z1 ?_|refine Z2 ?_|refine Z3 ?_|refine Z4 ?_|refine Z5 ?_|refine Z9 (by assumption) rfl ?_|refine ZA (by assumption) rfl ?_|refine ZB (by assumption) rfl ?_|refine Z6 ?_|refine Z7 ?_|refine Z8 ?_)|((with_reducible refine ZM ?_ ?_);(focus rfl)));(conv=>whnf)))
  refine HIdx.mk n rfl hn2 ?_
  refine sl_some w.sl hn2 fun p ep => ?_
  cases ep
  ((conv=>whnf);repeat((first|(with_reducible first|refine Z1 ?_|refine Z2 ?_|refine Z3 ?_|refine Z4 ?_|refine Z5 ?_|refine Z9 (by assumption) rfl ?_|refine ZA (by assumption) rfl ?_|refine ZB (by assumption) rfl ?_|refine Z6 ?_|refine Z7 ?_|refine Z8 ?_)|((with_reducible refine ZM ?_ ?_);(focus rfl)));(conv=>whnf)))
  refine Own.store w rfl hn2 rfl ?_
  intro h3 f3 hge z3 w3
  replace w3 : Own h3 0 9 1 (some ⟨wb, 0, none⟩) d.act.2.many wc ((tab d.act.2.many d.act.2.wV).set n (.string ⟨l.toArray⟩)) := w3
  rw [tab_set] at w3
  have wn : tab d.act.2.many (fun j => if j = n then (⟨l.toArray⟩ : ByteArray) else d.act.2.wV j) = tab d.act.2.many (DK.wV { d.act.2 with waits := setG d.act.2.waits n ⟨l.toArray⟩ }) := by
    apply tab_congr
    intro j hj
    show _ = ((setG d.act.2.waits n ⟨l.toArray⟩ j).getD ⟨#[]⟩)
    unfold setG
    split <;> rfl
  rw [wn] at w3
  ((conv=>whnf);repeat((first|(with_reducible first|refine Z1 ?_|refine Z2 ?_|refine Z3 ?_|refine Z4 ?_|refine Z5 ?_|refine Z9 (by assumption) rfl ?_|refine ZA (by assumption) rfl ?_|refine ZB (by assumption) rfl ?_|refine Z6 ?_|refine Z7 ?_|refine Z8 ?_)|((with_reducible refine ZM ?_ ?_);(focus rfl)));(conv=>whnf)))
  exact ⟨rfl, ⟨hwo, ⟨fc, wc, o.offk f3 x.n2, own_off f f3 x.n3, w3⟩, x.n1, x.n2, x.n3⟩, f2.trans (OffS.of_off f3 (by simp))⟩

theorem rflush_spec {h : Heap} {b fb wb : Nat} {d : DK} (x : RR h b fb wb d) (ha : d.acts ≤ 999999) :
    HCalls Try.prog 29 #[.pointer (some ⟨b, 0, none⟩)] h fun e h' => e = .returned (.int .i64 d.flush.1) ∧ RR h' b fb wb d.flush.2 ∧ OffS [b, fb, wb] h h' := by
  have hwo := DK.flush_ok x.ok ha
  obtain ⟨fc, wc, o, f, w⟩ := x.fc
  refine c29 (by simp) ?_
  unfold DK.flush at hwo ⊢
  cases hoff : d.off
  rotate_left
  · rw [hoff] at o
    ((conv=>whnf);repeat((first|(with_reducible first|refine Z1 ?_|refine Z2 ?_|refine Z3 ?_|refine Z4 ?_|refine Z5 ?_|refine Z9 (by assumption) rfl ?_|refine ZA (by assumption) rfl ?_|refine ZB (by assumption) rfl ?_|refine Z6 ?_|refine Z7 ?_|refine Z8 ?_)|((with_reducible refine ZM ?_ ?_);(focus rfl)));(conv=>whnf)))
    rw [if_pos rfl]
    exact ⟨rfl, x, OffS.refl _ _⟩
  rw [hoff] at o hwo
  rw [if_neg (by simp)] at hwo ⊢
  ((conv=>whnf);repeat((first|(with_reducible first|refine Z1 ?_|refine Z2 ?_|refine Z3 ?_|refine Z4 ?_|refine Z5 ?_|refine Z9 (by assumption) rfl ?_|refine ZA (by assumption) rfl ?_|refine ZB (by assumption) rfl ?_|refine Z6 ?_|refine Z7 ?_|refine Z8 ?_)|((with_reducible refine ZM ?_ ?_);(focus rfl)));(conv=>whnf)))
  refine HCall.mk ((ract_spec x ha).mono ?_)
  rintro e h2 ⟨rfl, x2, f2⟩
  clear o f w
  obtain ⟨fc, wc, o, f, w⟩ := x2.fc
  have k2 := x2.ok
  have km := k2.m2
  by_cases h0 : d.act.1 = 0
  rotate_left
  · have q4 : (!(d.act.1 == 0)) = true := by rw [beq_eq_false_iff_ne.2 h0]; rfl
    have e160 : d.act.1 = 160 := by unfold DK.act at h0 ⊢; split <;> simp_all
    rw [if_neg h0, e160]
    ((conv=>whnf);repeat((first|(with_reducible first|refine Z1 ?_|refine Z2 ?_|refine Z3 ?_|refine Z4 ?_|refine Z5 ?_|refine Z9 (by assumption) rfl ?_|refine ZA (by assumption) rfl ?_|refine ZB (by assumption) rfl ?_|refine Z6 ?_|refine Z7 ?_|refine Z8 ?_)|((with_reducible refine ZM ?_ ?_);(focus rfl)));(conv=>whnf)))
    exact ⟨rfl, x2, f2⟩
  have q4 : (!(d.act.1 == 0)) = false := by rw [h0]; rfl
  rw [if_pos h0] at hwo ⊢
  generalize d.act.2 = dd at *
  ((conv=>whnf);repeat((first|(with_reducible first|refine Z1 ?_|refine Z2 ?_|refine Z3 ?_|refine Z4 ?_|refine Z5 ?_|refine Z9 (by assumption) rfl ?_|refine ZA (by assumption) rfl ?_|refine ZB (by assumption) rfl ?_|refine Z6 ?_|refine Z7 ?_|refine Z8 ?_)|((with_reducible refine ZM ?_ ?_);(focus rfl)));(conv=>whnf)))
  refine loop_rule [19] (fun vs h' => ∃ (i : Nat), vs = [.int .i64 i] ∧ i ≤ dd.many ∧ OffS [fb, wb] h2 h' ∧ Own h' 0 9 1 (some ⟨fb, 0, none⟩) dd.many fc (tab dd.many fun j => if j < i then (mergeG dd.firm dd.waits j).getD zeroB else dd.fV j) ∧
      Own h' 0 9 1 (some ⟨wb, 0, none⟩) dd.many wc (tab dd.many fun j => if j < i then ⟨#[]⟩ else dd.wV j))
    (fun vs _ => match vs with | [.int _ i] => dd.many - i.toNat | _ => 0) rfl ?_ ?_
  · refine ⟨0, rfl, by omega, OffS.refl _ _, ?_, ?_⟩
    · rw [show (tab dd.many fun j => if j < 0 then (mergeG dd.firm dd.waits j).getD zeroB else dd.fV j) = tab dd.many dd.fV from tab_congr fun j _ => if_neg (by omega)]; exact f
    · rw [show (tab dd.many fun j => if j < 0 then ⟨#[]⟩ else dd.wV j) = tab dd.many dd.wV from tab_congr fun j _ => if_neg (by omega)]; exact w
  clear f w
  intro u h3 v19
  rintro ⟨i, e, hi, of, f, w⟩
  cases e
  have o3 := BlkW.offS o of (by simp; exact ⟨x2.n1, x2.n2⟩)
  ((conv=>whnf);repeat((first|(with_reducible first|refine Z1 ?_|refine Z2 ?_|refine Z3 ?_|refine Z4 ?_|refine Z5 ?_|refine Z9 (by assumption) rfl ?_|refine ZA (by assumption) rfl ?_|refine ZB (by assumption) rfl ?_|refine Z6 ?_|refine Z7 ?_|refine Z8 ?_)|((with_reducible refine ZM ?_ ?_);(focus rfl)));(conv=>whnf)))
  refine HIf.mk (fun hlt => ?_) (fun hlt => ?_)
  · have hi1 : i < dd.many := by have := of_decide_eq_true hlt; omega
    have hmu : dd.many - ((i : Int) + 1).toNat < dd.many - ((i : Int)).toNat := by omega
    have hwe := DK.wV_eq k2 i
    ((conv=>whnf);repeat((first|(with_reducible first|refine Z1 ?_|refine Z2 ?_|refine Z3 ?_|refine Z4 ?_|refine Z5 ?_|refine Z9 (by assumption) rfl ?_|refine ZA (by assumption) rfl ?_|refine ZB (by assumption) rfl ?_|refine Z6 ?_|refine Z7 ?_|refine Z8 ?_)|((with_reducible refine ZM ?_ ?_);(focus rfl)));(conv=>whnf)))
    refine HIdx.mk i rfl hi1 ?_
    refine sl_some w.sl hi1 fun p ep => ?_
    cases ep
    ((conv=>whnf);repeat((first|(with_reducible first|refine Z1 ?_|refine Z2 ?_|refine Z3 ?_|refine Z4 ?_|refine Z5 ?_|refine Z9 (by assumption) rfl ?_|refine ZA (by assumption) rfl ?_|refine ZB (by assumption) rfl ?_|refine Z6 ?_|refine Z7 ?_|refine Z8 ?_)|((with_reducible refine ZM ?_ ?_);(focus rfl)));(conv=>whnf)))
    refine w.sl.load rfl (by rw [tab_len]; exact hi1) ?_
    rw [tab_get, if_neg (by omega)]
    cases hw : dd.waits i with
    | none =>
      have q : (!strEq (dd.wV i) ⟨#[]⟩) = false := by rw [hwe, hw]; rfl
      ((conv=>whnf);repeat((first|(with_reducible first|refine Z1 ?_|refine Z2 ?_|refine Z3 ?_|refine Z4 ?_|refine Z5 ?_|refine Z9 (by assumption) rfl ?_|refine ZA (by assumption) rfl ?_|refine ZB (by assumption) rfl ?_|refine Z6 ?_|refine Z7 ?_|refine Z8 ?_)|((with_reducible refine ZM ?_ ?_);(focus rfl)));(conv=>whnf)))
      refine ⟨⟨i + 1, rfl, by omega, of, ?_, ?_⟩, hmu⟩
      · rw [show (tab dd.many fun j => if j < i + 1 then (mergeG dd.firm dd.waits j).getD zeroB else dd.fV j) = tab dd.many (fun j => if j < i then (mergeG dd.firm dd.waits j).getD zeroB else dd.fV j) from tab_congr fun j _ => ?_]
        · exact f
        · by_cases e : j = i
          · subst e; rw [if_pos (by omega), if_neg (by omega)]; unfold mergeG DK.fV; rw [hw]
          · by_cases e2 : j < i
            · rw [if_pos (by omega), if_pos e2]
            · rw [if_neg (by omega), if_neg e2]
      · rw [show (tab dd.many fun j => if j < i + 1 then ⟨#[]⟩ else dd.wV j) = tab dd.many (fun j => if j < i then ⟨#[]⟩ else dd.wV j) from tab_congr fun j _ => ?_]
        · exact w
        · by_cases e : j = i
          · subst e; rw [if_pos (by omega), if_neg (by omega)]; exact (DK.wV_none hw).symm
          · by_cases e2 : j < i
            · rw [if_pos (by omega), if_pos e2]
            · rw [if_neg (by omega), if_neg e2]
    | some s =>
      have q : (!strEq (dd.wV i) ⟨#[]⟩) = true := by rw [hwe, hw]; rfl
      ((conv=>whnf);repeat((first|(with_reducible first|refine Z1 ?_|refine Z2 ?_|refine Z3 ?_|refine Z4 ?_|refine Z5 ?_|refine Z9 (by assumption) rfl ?_|refine ZA (by assumption) rfl ?_|refine ZB (by assumption) rfl ?_|refine Z6 ?_|refine Z7 ?_|refine Z8 ?_)|((with_reducible refine ZM ?_ ?_);(focus rfl)));(conv=>whnf)))
      refine HIdx.mk i rfl hi1 ?_
      refine sl_some f.sl hi1 fun p ep => ?_
      cases ep
      ((conv=>whnf);repeat((first|(with_reducible first|refine Z1 ?_|refine Z2 ?_|refine Z3 ?_|refine Z4 ?_|refine Z5 ?_|refine Z9 (by assumption) rfl ?_|refine ZA (by assumption) rfl ?_|refine ZB (by assumption) rfl ?_|refine Z6 ?_|refine Z7 ?_|refine Z8 ?_)|((with_reducible refine ZM ?_ ?_);(focus rfl)));(conv=>whnf)))
      refine Own.store f rfl hi1 rfl ?_
      intro h4 f4 hge z4 w4
      have o4 := o3.offk f4 x2.n1
      have ww := own_off w f4 (Ne.symm x2.n3)
      replace w4 : Own h4 0 9 1 (some ⟨fb, 0, none⟩) dd.many fc ((tab dd.many fun j => if j < i then (mergeG dd.firm dd.waits j).getD zeroB else dd.fV j).set i (.string (dd.wV i))) := w4
      rw [tab_set] at w4
      clear o3 w f
      ((conv=>whnf);repeat((first|(with_reducible first|refine Z1 ?_|refine Z2 ?_|refine Z3 ?_|refine Z4 ?_|refine Z5 ?_|refine Z9 (by assumption) rfl ?_|refine ZA (by assumption) rfl ?_|refine ZB (by assumption) rfl ?_|refine Z6 ?_|refine Z7 ?_|refine Z8 ?_)|((with_reducible refine ZM ?_ ?_);(focus rfl)));(conv=>whnf)))
      refine HIdx.mk i rfl hi1 ?_
      refine sl_some ww.sl hi1 fun p ep => ?_
      cases ep
      ((conv=>whnf);repeat((first|(with_reducible first|refine Z1 ?_|refine Z2 ?_|refine Z3 ?_|refine Z4 ?_|refine Z5 ?_|refine Z9 (by assumption) rfl ?_|refine ZA (by assumption) rfl ?_|refine ZB (by assumption) rfl ?_|refine Z6 ?_|refine Z7 ?_|refine Z8 ?_)|((with_reducible refine ZM ?_ ?_);(focus rfl)));(conv=>whnf)))
      refine Own.store ww rfl hi1 rfl ?_
      intro h5 f5 hge5 z5 w5
      replace w5 : Own h5 0 9 1 (some ⟨wb, 0, none⟩) dd.many wc ((tab dd.many fun j => if j < i then ⟨#[]⟩ else dd.wV j).set i (.string ⟨#[]⟩)) := w5
      rw [tab_set] at w5
      ((conv=>whnf);repeat((first|(with_reducible first|refine Z1 ?_|refine Z2 ?_|refine Z3 ?_|refine Z4 ?_|refine Z5 ?_|refine Z9 (by assumption) rfl ?_|refine ZA (by assumption) rfl ?_|refine ZB (by assumption) rfl ?_|refine Z6 ?_|refine Z7 ?_|refine Z8 ?_)|((with_reducible refine ZM ?_ ?_);(focus rfl)));(conv=>whnf)))
      refine ⟨⟨i + 1, rfl, by omega, of.trans ((OffS.of_off f4 (by simp)).trans (OffS.of_off f5 (by simp))), ?_, ?_⟩, hmu⟩
      · rw [show (tab dd.many fun j => if j < i + 1 then (mergeG dd.firm dd.waits j).getD zeroB else dd.fV j) = tab dd.many (fun j => if j = i then dd.wV i else if j < i then (mergeG dd.firm dd.waits j).getD zeroB else dd.fV j) from tab_congr fun j _ => ?_]
        · exact own_off w4 f5 x2.n3
        · by_cases e : j = i
          · subst e; rw [if_pos (by omega), if_pos rfl]; unfold mergeG; rw [hw]; exact (DK.wV_some hw).symm
          · rw [if_neg e]
            by_cases e2 : j < i
            · rw [if_pos (by omega), if_pos e2]
            · rw [if_neg (by omega), if_neg e2]
      · rw [show (tab dd.many fun j => if j < i + 1 then ⟨#[]⟩ else dd.wV j) = tab dd.many (fun j => if j = i then ⟨#[]⟩ else if j < i then ⟨#[]⟩ else dd.wV j) from tab_congr fun j _ => ?_]
        · exact w5
        · by_cases e : j = i
          · subst e; rw [if_pos (by omega), if_pos rfl]
          · rw [if_neg e]
            by_cases e2 : j < i
            · rw [if_pos (by omega), if_pos e2]
            · rw [if_neg (by omega), if_neg e2]
  · have hge := of_decide_eq_false hlt
    obtain rfl : i = dd.many := by omega
    ((conv=>whnf);repeat((first|(with_reducible first|refine Z1 ?_|refine Z2 ?_|refine Z3 ?_|refine Z4 ?_|refine Z5 ?_|refine Z9 (by assumption) rfl ?_|refine ZA (by assumption) rfl ?_|refine ZB (by assumption) rfl ?_|refine Z6 ?_|refine Z7 ?_|refine Z8 ?_)|((with_reducible refine ZM ?_ ?_);(focus rfl)));(conv=>whnf)))
    refine ⟨by rw [h0]; rfl, ⟨hwo, ⟨fc, wc, o3, ?_, ?_⟩, x2.n1, x2.n2, x2.n3⟩, f2.trans (of.mono (by simp))⟩
    · show Own h3 0 9 1 _ dd.many fc (tab dd.many fun j => (mergeG dd.firm dd.waits j).getD zeroB)
      rw [show (tab dd.many fun j => (mergeG dd.firm dd.waits j).getD zeroB) = tab dd.many (fun j => if j < dd.many then (mergeG dd.firm dd.waits j).getD zeroB else dd.fV j) from tab_congr fun j hj => (if_pos hj).symm]
      exact f
    · show Own h3 0 9 1 _ dd.many wc (tab dd.many fun j => ⟨#[]⟩)
      rw [show (tab dd.many fun j => (⟨#[]⟩ : ByteArray)) = tab dd.many (fun j => if j < dd.many then ⟨#[]⟩ else dd.wV j) from tab_congr fun j hj => (if_pos hj).symm]
      exact w

end Go.Proofs.Ytlbmhpjefpdekaa.Hc
