import Derived.Test.YtadkdfecmpjmdaaGreatDoorPb
import Derived.Shelf.Strings.OnBuilder
import Derived.Ground.NamesProg
import Derived.Test.YtadkdfecmpjmdaaGreatDoorProg
set_option linter.unusedVariables false
set_option linter.unusedSimpArgs false
namespace Go.Proofs.YtadkdfecmpjmdaaGreatDoor.Hc
open Go Go.H Go.Proofs
set_option maxRecDepth 100000
open Go Go.H Go.Proofs
set_option maxRecDepth 100000
set_option maxHeartbeats 4000000

theorem rcheckU_spec (l : List UInt8) (hl : l.length ≤ 2097152) (h : Heap) : HCalls Tryz.prog 43 #[.string ⟨l.toArray⟩] h fun e h' => e = .returned (.bool (decide (l.length % 2 = 0))) ∧ h' = h := by
  have hs : (⟨l.toArray⟩ : ByteArray).size = l.length := rfl
  have e2 : ((l.length : Nat) : Int).tmod 2 = ((l.length % 2 : Nat) : Int) := (Int.ofNat_tmod l.length 2).symm
  refine c43 (by simp) ?_
  refine gA ?_
  refine ⟨?_, rfl⟩
  show Ending.returned (.bool (((l.length : Nat) : Int).tmod 2 == 0)) = _
  rw [e2]
  by_cases h : l.length % 2 = 0
  · rw [h]; rfl
  · rw [decide_eq_false h]
    congr 2
    rw [beq_eq_false_iff_ne]; omega
theorem rlist_spec (l : List UInt8) (hl : l.length ≤ 2097152) (h : Heap) : HCalls Tryz.prog 89 #[.string ⟨l.toArray⟩] h fun e h' =>
    ∃ a c, e = .returned (.slice a (ulist l).length c) ∧ Sl h' 1 a (ulist l).length c ((ulist l).map natV) ∧ Ext h h' := by
  have hs : (⟨l.toArray⟩ : ByteArray).size = l.length := rfl
  have hll := ulist_len l
  refine c89 (by simp) ?_
  refine gA ?_
  refine loop_rule [3, 4] (fun vs h' => ∃ (i : Nat) (a : Option Addr) (c : Nat), vs = [.slice a i c, .int .i64 (2 * i : Nat)] ∧ i ≤ (ulist l).length ∧ Own h' h.size 3 1 a i c (((ulist l).take i).map natV) ∧ Ext h h')
    (fun vs _ => match vs with | [_, .int _ i] => l.length - i.toNat | _ => 0) rfl ?_ ?_
  · exact ⟨0, none, 0, rfl, by omega, Own.nil _ _ _ _, Ext.refl _⟩
  intro u h2 v3 v4
  rintro ⟨i, a, c, e, hi, w2, x2⟩
  cases e
  refine gA ?_
  refine HIf.mk (fun hlt => ?_) (fun hlt => ?_)
  · have hi1 : i < (ulist l).length := by have := of_decide_eq_true hlt; omega
    have h1 : 2 * i + 1 < l.length := by omega
    have h0 : 2 * i < l.length := by omega
    have eg := ulist_get l i hi1 h1
    have y0 := idx_txt l h0
    have y1 := idx_txt l h1
    have b0 := (l[2 * i]).toNat_lt
    have b1 := (l[2 * i + 1]).toNat_lt
    refine gA ?_
    refine HIdx.mk (2 * i) rfl h0 ?_
    rw [y0]
    refine gA ?_
    refine HIdx.mk (2 * i + 1) (by omega) h1 ?_
    rw [y1]
    refine gA ?_
    refine new_own (e := 3) 1 1 [natV (ulist l)[i]] (by rw [eg]; unfold natV; rw [show ((l[2 * i].toNat * 256 + l[2 * i + 1].toNat : Nat) : Int) = (l[2 * i].toNat : Int) * 256 + (l[2 * i + 1].toNat : Int) by omega]) rfl ?_
    intro h3 b3 w3 x3 z3 hb3
    refine gA ?_
    refine w3.sl.cells ?_
    refine Own.grow (w2.ext x3) (by have := x2.1; have := x3.1; omega) rfl rfl (by intro v hv; simp only [List.mem_singleton] at hv; subst hv; rfl) (by omega) ?_
    intro h4 a4 c4 w4 g4
    have htk : (ulist l).take (i + 1) = (ulist l).take i ++ [(ulist l)[i]] := by rw [List.take_add_one, List.getElem?_eq_getElem hi1]; rfl
    have ew : ((ulist l).take i).map natV ++ [natV (ulist l)[i]] = ((ulist l).take (i + 1)).map natV := by rw [htk, List.map_append]; rfl
    rw [ew] at w4
    refine gA ?_
    refine ⟨⟨i + 1, a4, c4, ?_, by omega, w4, (x2.trans x3).keep (g4.kept (by have := x2.1; have := x3.1; omega) fun p ep => (w2.lt p ep).1)⟩, ?_⟩
    · rfl
    · show l.length - (((2 * i : Nat) : Int) + 2).toNat < l.length - ((2 * i : Nat) : Int).toNat
      omega
  have hge := of_decide_eq_false hlt
  obtain rfl : i = (ulist l).length := by omega
  rw [List.take_length] at w2
  refine gA ?_
  exact ⟨a, c, rfl, w2.sl, x2⟩

set_option maxHeartbeats 4000000

set_option maxHeartbeats 4000000

set_option maxHeartbeats 16000000
theorem rindex_spec (l : List UInt8) (hl : l.length ≤ 2097152) (h : Heap) : HCalls Tryz.prog 119 #[.string ⟨l.toArray⟩] h fun e h' => e = .returned (idxR (idxL (ulist l))) ∧ Ext h h' := by
  have hul := ulist_len l
  have hlt := ulist_lt l
  refine c119 (by simp) ?_
  refine gA ?_
  refine HCall.mk ((rlist_spec l hl h).mono ?_)
  rintro e h1 ⟨a, c, rfl, sl, x1⟩
  generalize hm : ulist l = m at hlt sl ⊢
  have hml : m.length = l.length / 2 := by rw [← hm]; exact hul
  have hmx : ∀ i (hi : i < m.length), m[i] < 65536 := fun i hi => hlt _ (List.getElem_mem hi)
  refine gB ?_
  refine cut_rule [] (fun _ h' => h' = h1 ∧ 0 < m.length ∧ m.length ≤ 9 ∧ ¬ (m.head? = some 48 ∧ 1 < m.length)) rfl ?_ ?_
  · by_cases h0 : m.length = 0
    · have q1 : decide ((m.length : Int) < 1) = true := decide_eq_true (by omega)
      have e : idxL m = none := by unfold idxL; rw [if_pos (.inl (List.length_eq_zero_iff.1 h0))]
      rw [e]
      refine gA ?_
      exact ⟨rfl, x1⟩
    have q1 : decide ((m.length : Int) < 1) = false := decide_eq_false (by omega)
    by_cases h9 : 9 < m.length
    · have q2 : decide ((m.length : Int) > 9) = true := decide_eq_true (by omega)
      have e : idxL m = none := by unfold idxL; rw [if_pos (.inr (.inl h9))]
      rw [e]
      refine gA ?_
      exact ⟨rfl, x1⟩
    have q2 : decide ((m.length : Int) > 9) = false := decide_eq_false (by omega)
    have hm0 : 0 < m.length := by omega
    have hh0 : m.head? = some m[0] := by cases m with | nil => simp at hm0 | cons a b => rfl
    have h65 := hmx 0 hm0
    refine gA ?_
    refine HIdx.mk 0 rfl hm0 ?_
    refine sl_some sl hm0 fun p ep => ?_
    refine gA ?_
    refine Sl.load sl ep (by simpa using hm0) ?_
    rw [List.getElem_map]
    by_cases h48 : m[0] = 48
    · have q3 : ((m[0] : Int) == 48) = true := by rw [h48]; rfl
      by_cases h1l : 1 < m.length
      · have q4 : decide ((m.length : Int) > 1) = true := decide_eq_true (by omega)
        have e : idxL m = none := by unfold idxL; rw [if_pos (.inr (.inr ⟨by rw [hh0, h48], h1l⟩))]
        rw [e]
        refine gA ?_
        exact ⟨rfl, x1⟩
      · have q4 : decide ((m.length : Int) > 1) = false := decide_eq_false (by omega)
        refine gA ?_
        exact ⟨rfl, hm0, by omega, fun c => h1l c.2⟩
    · have q3 : ((m[0] : Int) == 48) = false := beq_eq_false_iff_ne.2 (by omega)
      refine gA ?_
      exact ⟨rfl, hm0, by omega, by rw [hh0]; exact fun c => h48 (Option.some.inj c.1)⟩
  intro u h2
  rintro ⟨rfl, hm0, h9, hh⟩
  have er : idxL m = if m.all isDig = true then some (digV m) else none := by
    unfold idxL
    rw [if_neg]
    rintro (c | c | c)
    · rw [c] at hm0; simp at hm0
    · omega
    · exact hh c
  rw [er]
  refine gA ?_
  refine loop_rule [31, 5] (fun us h' => ∃ i : Nat, us = [.int .i64 i, .int .i64 (digV (m.take i) : Nat)] ∧ i ≤ m.length ∧ (m.take i).all isDig = true ∧ digV (m.take i) < 10 ^ i ∧ h' = h2) (fun us _ => match us with | [.int _ i, _] => m.length - i.toNat | _ => 0) rfl ?_ ?_
  · exact ⟨0, by rw [List.take_zero]; rfl, by omega, by simp, by simp [digV], rfl⟩
  intro u h3 v31 v5
  rintro ⟨i, e, hi, hall, hdv, rfl⟩
  cases e
  refine gA ?_
  refine HIf.mk (fun hlt2 => ?_) (fun hlt2 => ?_)
  · have hi1 : i < m.length := by have := of_decide_eq_true hlt2; omega
    have hmu : m.length - ((i : Int) + 1).toNat < m.length - ((i : Int)).toNat := by omega
    have h65 := hmx i hi1
    have hp9 : 10 ^ i ≤ 10 ^ 8 := Nat.pow_le_pow_right (by omega) (by omega)
    have ht := take_snoc hi1
    refine gA ?_
    refine HIdx.mk i rfl hi1 ?_
    refine sl_some sl hi1 fun p ep => ?_
    refine gA ?_
    refine Sl.load sl ep (by simpa using hi1) ?_
    rw [List.getElem_map]
    by_cases hlo : m[i] < 48
    · have q5 : decide ((m[i] : Int) < 48) = true := decide_eq_true (by omega)
      have e2 : ¬ m.all isDig = true := fun c => by
        have := of_decide_eq_true (List.all_eq_true.1 c _ (List.getElem_mem hi1)); omega
      rw [if_neg e2]
      refine gA ?_
      exact ⟨rfl, x1⟩
    · have q5 : decide ((m[i] : Int) < 48) = false := decide_eq_false (by omega)
      by_cases hhi : 57 < m[i]
      · have q6 : decide ((m[i] : Int) > 57) = true := decide_eq_true (by omega)
        have e2 : ¬ m.all isDig = true := fun c => by
          have := of_decide_eq_true (List.all_eq_true.1 c _ (List.getElem_mem hi1)); omega
        rw [if_neg e2]
        refine gA ?_
        exact ⟨rfl, x1⟩
      · have q6 : decide ((m[i] : Int) > 57) = false := decide_eq_false (by omega)
        have hdig : isDig m[i] = true := decide_eq_true (by omega)
        have ed : digV (m.take (i + 1)) = 10 * digV (m.take i) + (m[i] - 48) := by rw [ht, digV_snoc]
        refine gA ?_
        refine ⟨⟨i + 1, ?_, by omega, by rw [ht, List.all_append, hall]; simp [hdig], by rw [ed, Nat.pow_succ]; omega, rfl⟩, hmu⟩
        have ei : (10 : Int) * (digV (m.take i) : Nat) + ((m[i] : Nat) - 48) = ((digV (m.take (i + 1)) : Nat) : Int) := by rw [ed]; omega
        rw [← ei]
        try rfl
  · have hge := of_decide_eq_false hlt2
    obtain rfl : i = m.length := by omega
    rw [List.take_length] at hall
    rw [if_pos hall, List.take_length]
    refine gA ?_
    exact ⟨rfl, x1⟩
def digB : List UInt8 → Bool
  | _ :: c :: _ => decide (48 ≤ c.toNat ∧ c.toNat ≤ 57)
  | _ => false
theorem rdigit_spec (l : List UInt8) (hl : l.length ≤ 2097152) (h : Heap) : HCalls Tryz.prog 118 #[.string ⟨l.toArray⟩] h fun e h' => e = .returned (.bool (digB l)) ∧ h' = h := by
  refine c118 (by simp) ?_
  have hs : (⟨l.toArray⟩ : ByteArray).size = l.length := rfl
  match l, hl, hs with
  | [], _, _ =>
    refine gA ?_
    exact ⟨rfl, rfl⟩
  | [a], _, _ =>
    have q : decide (((⟨[a].toArray⟩ : ByteArray).size : Int) > 1) = false := rfl
    refine gA ?_
    exact ⟨rfl, rfl⟩
  | a :: c :: r, hl, hs =>
    have q : decide (((⟨(a :: c :: r).toArray⟩ : ByteArray).size : Int) > 1) = true := decide_eq_true (by rw [hs]; simp; omega)
    refine gA ?_
    refine HIdx.mk 1 rfl (by rw [hs]; simp) ?_
    refine gA ?_
    have e1 : (⟨(a :: c :: r).toArray⟩ : ByteArray).data[1]!.toNat = c.toNat := rfl
    by_cases h1 : 48 ≤ c.toNat
    · have q1 : decide (((⟨(a :: c :: r).toArray⟩ : ByteArray).data[1]!.toNat : Int) ≥ 48) = true := decide_eq_true (by rw [e1]; omega)
      refine gA ?_
      refine HIdx.mk 1 rfl (by rw [hs]; simp) ?_
      by_cases h2 : c.toNat ≤ 57
      · have q2 : decide (((⟨(a :: c :: r).toArray⟩ : ByteArray).data[1]!.toNat : Int) ≤ 57) = true := decide_eq_true (by rw [e1]; omega)
        have ed : digB (a :: c :: r) = true := decide_eq_true ⟨h1, h2⟩
        rw [ed]
        refine gA ?_
        exact ⟨congrArg (fun b => Ending.returned (.bool b)) q2, rfl⟩
      · have q2 : decide (((⟨(a :: c :: r).toArray⟩ : ByteArray).data[1]!.toNat : Int) ≤ 57) = false := decide_eq_false (by rw [e1]; omega)
        have ed : digB (a :: c :: r) = false := decide_eq_false (fun h => h2 h.2)
        rw [ed]
        refine gA ?_
        exact ⟨congrArg (fun b => Ending.returned (.bool b)) q2, rfl⟩
    · have q1 : decide (((⟨(a :: c :: r).toArray⟩ : ByteArray).data[1]!.toNat : Int) ≥ 48) = false := decide_eq_false (by rw [e1]; omega)
      have ed : digB (a :: c :: r) = false := decide_eq_false (fun h => h1 h.1)
      rw [ed]
      refine gA ?_
      exact ⟨rfl, rfl⟩
def isLenV (H : PH) (v : VV) (key : ByteArray) : Bool := match findP H v with
  | none => false
  | some o => isLenP o key
theorem cls_arr {H : PH} {v : VV} : (clsP H v = arrS) ↔ ∃ o, findP H v = some o ∧ isArr o = true := by
  unfold clsP
  cases hf : findP H v with
  | none => simp
  | some o =>
    simp only [Option.some.injEq, exists_eq_left']
    unfold isArr
    rw [strEq_iff]
theorem risLen_spec {h : Heap} {b : Nat} {H : PH} {Z : YZ} (x : YR h b H Z) (v : VV) (hn : i64 v.n) (hl : H.objs.length ≤ 1000000) (key : ByteArray) :
    HCalls Tryz.prog 68 #[.pointer (some ⟨b, 0, none⟩), .agg (cellsV v).toArray, .string key] h fun e h' => e = .returned (.bool (isLenV H v key)) ∧ Ext h h' := by
  refine c68 (by simp) ?_
  refine gA ?_
  refine new_var (e := 24) (cellsV v) rfl ?_
  intro h1 b4 o4 x1 z1 hb4
  refine gA ?_
  refine HCall.mk ((rclass_spec (x.ext x1) v hn hl).mono ?_)
  rintro e h2 ⟨rfl, x2⟩
  unfold isLenV
  by_cases hc : clsP H v = arrS
  · have q : strEq (clsP H v) ⟨#[65, 114, 114, 97, 121]⟩ = true := (strEq_iff _ _).2 hc
    obtain ⟨o, ho, ha⟩ := cls_arr.1 hc
    rw [ho]
    refine gA ?_
    refine HCall.mk ((u_spec [108, 101, 110, 103, 116, 104] (by unfold plainL; decide) (by decide) h2).mono ?_)
    rintro e h3 ⟨rfl, x3⟩
    have el : isLenP o key = strEq key lenK := by unfold isLenP; rw [ha]; rfl
    refine gA ?_
    exact ⟨by show Ending.returned (.bool (strEq key _)) = Ending.returned (.bool (isLenP o key)); rw [el]; rfl, (x1.trans x2).trans x3⟩
  · have q : strEq (clsP H v) ⟨#[65, 114, 114, 97, 121]⟩ = false := (strEq_no _ _).2 hc
    have e0 : (match findP H v with | none => false | some o => isLenP o key) = false := by
      cases hf : findP H v with
      | none => rfl
      | some o =>
        have : isArr o = false := by
          cases ha : isArr o with
          | false => rfl
          | true => exact absurd (cls_arr.2 ⟨o, hf, ha⟩) hc
        show isLenP o key = false
        unfold isLenP; rw [this]; rfl
    rw [e0]
    refine gA ?_
    exact ⟨by first | rfl | exact congrArg (fun b => Ending.returned (.bool b)) q, x1.trans x2⟩
def propI (H : PH) (v : VV) (key : ByteArray) : Option Nat := (findP H v).bind fun o => findI key o.props
theorem rprop_spec {h : Heap} {b : Nat} {H : PH} {Z : YZ} (x : YR h b H Z) (g : Good H) (v : VV) (hn : i64 v.n) (key : ByteArray) (hk : key.size ≤ 2097152) :
    HCalls Tryz.prog 69 #[.pointer (some ⟨b, 0, none⟩), .agg (cellsV v).toArray, .string key] h fun e h' => e = .returned (.int .i64 (atR (propI H v key))) ∧ Ext h h' := by
  refine c69 (by simp) ?_
  have hlen := x.len
  refine gA ?_
  refine new_var (e := 24) (cellsV v) rfl ?_
  intro h1 b4 o4 x1 z1 hb4
  refine gA ?_
  refine HCall.mk ((rat_spec (x.ext x1) v hn g.few.len).mono ?_)
  rintro e h2 ⟨rfl, x2⟩
  have x02 := x1.trans x2
  unfold propI
  cases ha : atP H v with
  | none =>
    rw [findP_none ha]
    refine gA ?_
    exact ⟨rfl, x02⟩
  | some i =>
    have hi := atP_lt ha
    have hz : i < Z.os.length := by omega
    rw [findP_some ha, Option.bind_some]
    have hov : H.objs[i] ∈ H.objs := List.getElem_mem hi
    have knd := (g.keys _ hov).nd
    have y2 := x.ext x02
    have o := y2.b
    have q : decide (atR (some i) < 0) = false := decide_eq_false (by show ¬ (i : Int) < 0; omega)
    have wp := y2.all _ (List.getElem_mem hz)
    have e1 := x.at hi hz
    have hpl := g.few.props _ hov
    have hvs := g.vals _ hov
    refine gA ?_
    refine HIdx.mk i rfl hz ?_
    refine sl_some y2.o.sl hz fun p ep => ?_
    refine gA ?_
    refine Sl.loadGF cellsO_len y2.o.sl ep hz (by decide) rfl ?_
    rw [e1] at wp ⊢
    generalize Z.os[i].2.1 = pa at wp
    generalize Z.os[i].2.2 = pc at wp
    generalize H.objs[i].props = ps at *
    obtain ⟨⟨kl⟩⟩ := key
    have hkl : kl.length ≤ 2097152 := hk
    refine gB ?_
    refine cut_rule [] (fun us h' => us = [] ∧ Ext h2 h') rfl ?_ ?_
    · refine gA ?_
      refine HCall.mk ((rdigit_spec kl hkl h2).mono ?_)
      rintro e h3 ⟨rfl, rfl⟩
      cases hd : digB kl with
      | false =>
        refine gA ?_
        exact ⟨rfl, Ext.refl _⟩
      | true =>
        refine gA ?_
        refine HCall.mk ((rindex_spec kl hkl h3).mono ?_)
        rintro e h4 ⟨rfl, x4⟩
        unfold idxR
        cases hx : idxL (ulist kl) with
        | none =>
          have q : (none : Option Nat).isSome = false := rfl
          refine gA ?_
          exact ⟨rfl, x4⟩
        | some j =>
          have q : (some j).isSome = true := rfl
          by_cases hjn : j < ps.length
          · have q2 : decide ((((some j).getD 0 : Nat) : Int) < (ps.length : Int)) = true := decide_eq_true (by show ((j : Nat) : Int) < ps.length; omega)
            have w4 := wp.ext x4
            refine gA ?_
            refine HIdx.mk j rfl hjn ?_
            refine sl_some w4.sl hjn fun p ep => ?_
            refine gA ?_
            refine Sl.loadF (f := 0) w4.sl ep hjn (by decide) rfl ?_
            by_cases hke : ps[j].1 = ⟨⟨kl⟩⟩
            · have q3 : strEq ps[j].1 ⟨⟨kl⟩⟩ = true := (strEq_iff _ _).2 hke
              have ef : findI ⟨⟨kl⟩⟩ ps = some j := by rw [← hke]; exact findI_at knd hjn
              rw [ef]
              refine gA ?_
              exact ⟨rfl, x02.trans x4⟩
            · have q3 : strEq ps[j].1 ⟨⟨kl⟩⟩ = false := (strEq_no _ _).2 hke
              refine gA ?_
              exact ⟨rfl, x4⟩
          · have q2 : decide ((((some j).getD 0 : Nat) : Int) < (ps.length : Int)) = false := decide_eq_false (by show ¬ ((j : Nat) : Int) < ps.length; omega)
            refine gA ?_
            exact ⟨rfl, x4⟩
    intro u h5
    rintro ⟨_, x5⟩
    have w5 := wp.ext x5
    have x05 := x02.trans x5
    refine gA ?_
    refine loop_rule [52] (fun us h' => ∃ k : Nat, us = [.int .i64 k] ∧ k ≤ ps.length ∧ Ext h5 h' ∧ findI ⟨⟨kl⟩⟩ ps = (findI ⟨⟨kl⟩⟩ (ps.drop k)).map (· + k)) (fun us _ => match us with | [.int _ k] => ps.length - k.toNat | _ => 0) rfl ?_ ?_
    · exact ⟨0, rfl, by omega, Ext.refl _, by simp⟩
    intro u h6 v52
    rintro ⟨k, e, hk', x6, G⟩
    cases e
    have w6 := w5.ext x6
    refine gA ?_
    refine HIf.mk (fun hlt => ?_) (fun hlt => ?_)
    · have hk1 : k < ps.length := by have := of_decide_eq_true hlt; omega
      have hmu : ps.length - ((k : Int) + 1).toNat < ps.length - ((k : Int)).toNat := by omega
      rw [List.drop_eq_getElem_cons hk1] at G
      refine gA ?_
      refine HIdx.mk k rfl hk1 ?_
      refine sl_some w6.sl hk1 fun p ep => ?_
      refine gA ?_
      refine Sl.loadK w6.sl ep hk1 ?_
      generalize ps[k] = pk at G
      refine gA ?_
      refine new_var (e := 53) zeroK rfl ?_
      intro h7 b12 o12 x7 z7 hb12
      refine gA ?_
      refine store_blk o12 (by simp [cellsK]) (by intro y hy; exact cellsKs_one [pk] y (by simpa [cellsKs] using hy)) ?_
      intro h8 f8 z8 o8
      replace o8 : BlkW h8 b12 53 (cellsK pk) := by simpa [cellsK] using o8
      replace o8 : BlkW h8 b12 53 [.string pk.1, .int .i64 pk.2.k, .int .i64 pk.2.n, .string pk.2.s, .bool true, .bool true, .bool true] := o8
      have x8 : Ext h6 h8 := x7.offNew f8 (by omega)
      by_cases hke : pk.1 = ⟨⟨kl⟩⟩
      · have q3 : strEq pk.1 ⟨⟨kl⟩⟩ = true := (strEq_iff _ _).2 hke
        have ef : findI ⟨⟨kl⟩⟩ ps = some k := by rw [G]; unfold findI; rw [if_pos hke]; simp
        rw [ef]
        refine gA ?_
        exact ⟨rfl, (x05.trans x6).trans x8⟩
      · have q3 : strEq pk.1 ⟨⟨kl⟩⟩ = false := (strEq_no _ _).2 hke
        have G2 : findI ⟨⟨kl⟩⟩ ps = (findI ⟨⟨kl⟩⟩ (ps.drop (k + 1))).map (· + (k + 1)) := by
          rw [G]
          conv => lhs; unfold findI; rw [if_neg hke]
          rw [Option.map_map]
          congr 1
          funext y
          show y + 1 + k = y + (k + 1)
          omega
        refine gA ?_
        exact ⟨⟨k + 1, rfl, by omega, x6.trans x8, G2⟩, hmu⟩
    · have hge := of_decide_eq_false hlt
      obtain rfl : k = ps.length := by omega
      rw [List.drop_length] at G
      have ef : findI ⟨⟨kl⟩⟩ ps = none := G
      rw [ef]
      refine gA ?_
      exact ⟨rfl, x05.trans x6⟩
set_option maxHeartbeats 16000000
def ownV (H : PH) (v : VV) (key : ByteArray) : Option VV := (findP H v).bind fun o => ownP o key
def propX (H : PH) (v : VV) (key : ByteArray) : List Value := propC key (!isLenV H v key) (!isLenV H v key) (ownV H v key)
theorem rown_spec {h : Heap} {b : Nat} {H : PH} {Z : YZ} (x : YR h b H Z) (g : Good H) (v : VV) (hn : i64 v.n) (key : ByteArray) (hk : key.size ≤ 2097152) :
    HCalls Tryz.prog 25 #[.pointer (some ⟨b, 0, none⟩), .agg (cellsV v).toArray, .string key] h fun e h' => e = .returned (.tuple #[.agg (propX H v key).toArray, .bool (ownV H v key).isSome]) ∧ Ext h h' := by
  refine c25 (by simp) ?_
  have hlen := x.len
  have few := g.few
  refine gA ?_
  refine new_var (e := 24) (cellsV v) rfl ?_
  intro h1 b4 o4 x1 z1 hb4
  refine gA ?_
  refine new_var (e := 53) zeroK rfl ?_
  intro h2 b6 o6 x2 z2 hb6
  replace o4 := o4.ext x2
  have hx1 := x1.1
  refine gA ?_
  refine HCall.mk ((risLen_spec (x.ext (x1.trans x2)) v hn few.len key).mono ?_)
  rintro e h3 ⟨rfl, x3⟩
  replace o4 := o4.ext x3
  replace o6 := o6.ext x3
  have x03 := (x1.trans x2).trans x3
  unfold propX
  cases hl : isLenV H v key with
  | true =>
    have hfo : ∃ o, findP H v = some o ∧ isLenP o key = true := by
      unfold isLenV at hl
      cases hf : findP H v with
      | none => rw [hf] at hl; cases hl
      | some o => rw [hf] at hl; exact ⟨o, rfl, hl⟩
    obtain ⟨o, hfo, hlo⟩ := hfo
    have ha : ∃ i, ∃ hi : i < H.objs.length, atP H v = some i ∧ H.objs[i] = o := by
      cases ha : atP H v with
      | none => rw [findP_none ha] at hfo; cases hfo
      | some i => rw [findP_some ha] at hfo; exact ⟨i, atP_lt ha, rfl, Option.some.inj hfo⟩
    obtain ⟨i, hi, ha, rfl⟩ := ha
    have hz : i < Z.os.length := by omega
    have eo : ownV H v key = some ⟨3, H.objs[i].long, noS⟩ := by unfold ownV; rw [hfo, Option.bind_some]; unfold ownP; rw [if_pos hlo]
    rw [eo]
    have e1 := x.at hi hz
    have X := Ext.refl h3
    refine gB ?_
    refine cut_rule [8] (fun us h' => ∃ b8, us = [.pointer (some ⟨b8, 0, none⟩)] ∧ BlkW h' b8 105 (cellsO Z.os[i]) ∧ Ext h3 h' ∧ h3.size ≤ b8) rfl ?_ ?_
    · have oo := (x.ext x03).b
      refine gA ?_
      repeat' (first
        | (refine HAlt.mk ?_ ?_ <;> refine gA ?_)
        | (refine new_var (e := 105) [.string ⟨#[]⟩, .int .i64 0, .int .i64 0, .string ⟨#[]⟩, .slice none 0 0, .bool false, .int .i64 0, .bool false] rfl ?_
           intro hn' b8 o8 xn zn hb8
           have lb8 : h3.size ≤ b8 := by have := X.1; omega
           have X := X.trans xn
           have o4 := o4.ext xn
           have oo := oo.ext xn
           refine gA ?_)
        | (refine HCall.mk ((rat_spec (x.ext (x03.trans X)) v hn few.len).mono ?_)
           rintro e hn' ⟨rfl, xn⟩
           have X := X.trans xn
           have o4 := o4.ext xn
           have oo := oo.ext xn
           try have o8 := o8.ext xn
           rw [ha]
           refine gA ?_)
        | (refine HIdx.mk i rfl hz ?_
           have yy := x.ext (x03.trans X)
           refine sl_some yy.o.sl hz fun p ep => ?_
           refine gA ?_
           refine Sl.loadG cellsO_len yy.o.sl ep hz ?_
           refine gA ?_)
        | (refine store_blk o8 (by simp) (ro_one Z.os[i]) ?_
           intro hn' fn zn on
           replace on : BlkW hn' b8 105 (cellsO Z.os[i]) := by simpa using on
           refine gA ?_
           exact ⟨b8, rfl, on, X.offNew fn lb8, lb8⟩))
    intro u h4 v8
    rintro ⟨b8, e, o8, x4, lb8⟩
    cases e
    replace o6 := o6.ext x4
    have l6 := o6.lt
    have e8 : cellsO Z.os[i] = [.string H.objs[i].cls, .int .i64 H.objs[i].proto.k, .int .i64 H.objs[i].proto.n, .string H.objs[i].proto.s, .slice Z.os[i].2.1 H.objs[i].props.length Z.os[i].2.2, .bool false, .int .i64 H.objs[i].long, .bool true] := by rw [← e1]
    rw [e8] at o8
    refine gA ?_
    refine store_blk o6 (by simp) (by simp [isOne]) ?_
    intro h5 f5 z5 o5
    replace o5 : BlkW h5 b6 53 [.string key, .int .i64 3, .int .i64 H.objs[i].long, .string noS, .bool true, .bool false, .bool false] := by simpa using o5
    refine gA ?_
    exact ⟨rfl, (x03.trans x4).offNew f5 (by omega)⟩
  | false =>
    refine gA ?_
    refine HCall.mk ((rprop_spec (x.ext x03) g v hn key hk).mono ?_)
    rintro e h4 ⟨rfl, x4⟩
    replace o4 := o4.ext x4
    replace o6 := o6.ext x4
    have x04 := x03.trans x4
    cases hp : propI H v key with
    | none =>
      have q : decide (atR none < 0) = true := rfl
      have eo : ownV H v key = none := by
        unfold ownV
        unfold propI at hp
        cases hf : findP H v with
        | none => rfl
        | some o =>
          rw [hf, Option.bind_some] at hp
          have hll : isLenP o key = false := by unfold isLenV at hl; rw [hf] at hl; exact hl
          rw [Option.bind_some]
          unfold ownP
          rw [hll, if_neg (by simp)]
          exact (findI_none hp).1
      rw [eo]
      refine gA ?_
      refine store_blk o6 (by simp) (by simp [isOne]) ?_
      intro h5 f5 z5 o5
      replace o5 : BlkW h5 b6 53 zeroK := by simpa using o5
      refine gA ?_
      exact ⟨rfl, x04.offNew f5 (by omega)⟩
    | some k =>
      have q : decide (atR (some k) < 0) = false := decide_eq_false (by show ¬ (k : Int) < 0; omega)
      obtain ⟨i, hi, ha, hf⟩ : ∃ i, ∃ hi : i < H.objs.length, atP H v = some i ∧ findI key H.objs[i].props = some k := by
        unfold propI at hp
        cases ha : atP H v with
        | none => rw [findP_none ha] at hp; cases hp
        | some i => rw [findP_some ha, Option.bind_some] at hp; exact ⟨i, atP_lt ha, rfl, hp⟩
      have hz : i < Z.os.length := by omega
      obtain ⟨hkl, hkk, hlk⟩ := findI_some hf
      have eo : ownV H v key = some H.objs[i].props[k].2 := by
        unfold ownV
        rw [findP_some ha, Option.bind_some]
        have hll : isLenP H.objs[i] key = false := by unfold isLenV at hl; rw [findP_some ha] at hl; exact hl
        unfold ownP
        rw [hll, if_neg (by simp), hlk]
      rw [eo]
      have e1 := x.at hi hz
      have oo := (x.ext x04).b
      refine gA ?_
      refine HAlt.mk ?_ ?_
      all_goals
        refine gA ?_
        refine HCall.mk ((rat_spec (x.ext x04) v hn few.len).mono ?_)
        rintro e h5 ⟨rfl, x5⟩
        replace oo := oo.ext x5
        replace o6 := o6.ext x5
        have x05 := x04.trans x5
        rw [ha]
        have yy := x.ext x05
        have wp := yy.all _ (List.getElem_mem hz)
        rw [e1] at wp
        refine gA ?_
        refine HIdx.mk i rfl hz ?_
        refine sl_some yy.o.sl hz fun p ep => ?_
        refine gA ?_
        refine Sl.loadGF cellsO_len yy.o.sl ep hz (by decide) rfl ?_
        rw [e1]
        refine gA ?_
        refine HIdx.mk k rfl hkl ?_
        refine sl_some wp.sl hkl fun p ep => ?_
        refine gA ?_
        refine Sl.loadK wp.sl ep hkl ?_
        refine gA ?_
        refine store_blk o6 (by simp [cellsK]) (by intro y hy; exact cellsKs_one [H.objs[i].props[k]] y (by simpa [cellsKs] using hy)) ?_
        intro h6 f6 z6 o66
        replace o66 : BlkW h6 b6 53 (cellsK H.objs[i].props[k]) := by simpa [cellsK] using o66
        replace o66 : BlkW h6 b6 53 [.string key, .int .i64 H.objs[i].props[k].2.k, .int .i64 H.objs[i].props[k].2.n, .string H.objs[i].props[k].2.s, .bool true, .bool true, .bool true] := by rw [← hkk]; exact o66
        refine gA ?_
        exact ⟨rfl, x05.offNew f6 (by omega)⟩
theorem rused_spec {h : Heap} {b : Nat} {H : PH} {Z : YZ} (x : YR h b H Z) : HCalls Tryz.prog 27 #[.pointer (some ⟨b, 0, none⟩)] h fun e h' => e = .returned (.int .i64 H.used) ∧ h' = h := by
  refine c27 (by simp) ?_
  have o := x.b
  refine gA ?_
  exact ⟨rfl, rfl⟩
theorem chainP_some {H : PH} (w : Wf H) {v : VV} {i : Nat} (h : atP H v = some i) : chainP H v = (H.objs[i]'(atP_lt h)) :: chainP H (H.objs[i]'(atP_lt h)).proto := by
  unfold chainP
  rw [chainX_some w h, List.filterMap_cons, List.getElem?_eq_getElem (atP_lt h)]
theorem chainP_none {H : PH} {v : VV} (h : atP H v = none) : chainP H v = [] := by unfold chainP; rw [chainX_none h]; rfl
theorem rfind_spec {h : Heap} {b : Nat} {H : PH} {Z : YZ} (x : YR h b H Z) (g : Good H) (v : VV) (hn : i64 v.n) (key : ByteArray) (hk : key.size ≤ 2097152) :
    HCalls Tryz.prog 87 #[.pointer (some ⟨b, 0, none⟩), .agg (cellsV v).toArray, .string key] h fun e h' => ∃ e1 e2, e = .returned (.tuple #[.agg (propC key e1 e2 (seekL key (chainP H v))).toArray, .bool (seekL key (chainP H v)).isSome]) ∧ Ext h h' := by
  refine c87 (by simp) ?_
  have hlen := x.len
  have few := g.few
  refine gA ?_
  refine new_var (e := 24) (cellsV v) rfl ?_
  intro h1 b4 o4 x1 z1 hb4
  refine gA ?_
  refine new_var (e := 53) zeroK rfl ?_
  intro h2 b6 o6 x2 z2 hb6
  replace o4 := o4.ext x2
  have hx1 := x1.1
  have x02 := x1.trans x2
  have l4 := o4.lt
  have l6 := o6.lt
  refine gA ?_
  refine loop_ghost [] (fun (w : VV) us h' => us = [] ∧ i64 w.n ∧ BlkW h' b4 24 (cellsV w) ∧ BlkW h' b6 53 zeroK ∧ Ext h h' ∧ h2.size ≤ h'.size ∧ seekL key (chainP H v) = seekL key (chainP H w)) (fun w => (chainP H w).length) rfl ?_ ?_
  · exact ⟨v, rfl, hn, o4, o6, x02, Nat.le_refl _, rfl⟩
  clear o4 o6
  rintro w u h3 ⟨_, hw, o4, o6, x3, hz3, G⟩
  have y3 := x.ext x3
  refine gA ?_
  refine HCall.mk ((rat_spec y3 w hw few.len).mono ?_)
  rintro e h4 ⟨rfl, x4⟩
  replace o4 := o4.ext x4
  replace o6 := o6.ext x4
  have x04 := x3.trans x4
  have y4 := x.ext x04
  have hx4 := x4.1
  cases ha : atP H w with
  | none =>
    rw [chainP_none ha] at G
    rw [G]
    refine gA ?_
    refine store_blk o6 (by simp) (by simp [isOne]) ?_
    intro h5 f5 z5 o5
    replace o5 : BlkW h5 b6 53 zeroK := by simpa using o5
    refine gA ?_
    exact ⟨false, false, rfl, x04.offNew f5 (by omega)⟩
  | some i =>
    have hi := atP_lt ha
    have q : decide (atR (some i) ≥ 0) = true := decide_eq_true (by show (0 : Int) ≤ (i : Int); omega)
    have ec := chainP_some g.wf ha
    rw [ec] at G
    have eow : ownV H w key = ownP H.objs[i] key := by unfold ownV; rw [findP_some ha, Option.bind_some]
    refine gA ?_
    refine HCall.mk ((rown_spec y4 g w hw key hk).mono ?_)
    rintro e h5 ⟨rfl, x5⟩
    replace o4 := o4.ext x5
    replace o6 := o6.ext x5
    have x05 := x04.trans x5
    have hx5 := x5.1
    unfold propX
    rw [eow]
    generalize (!isLenV H w key) = fl
    have hl7 := propC_len key fl fl (ownP H.objs[i] key)
    refine gA ?_
    refine new_var (e := 53) zeroK rfl ?_
    intro h6 b8 o8 x6 z6 hb8
    replace o4 := o4.ext x6
    replace o6 := o6.ext x6
    refine gA ?_
    refine HMust.mk (by simp [propC_len]) ?_
    refine store_blk o8 (by simp [propC_len]) (by simpa using propC_one key fl fl (ownP H.objs[i] key)) ?_
    intro h7 f7 z7 o7
    replace o7 : BlkW h7 b8 53 (propC key fl fl (ownP H.objs[i] key)) := by simpa [propC_len] using o7
    replace o4 := o4.offk f7 (by omega)
    replace o6 := o6.offk f7 (by omega)
    have x07 : Ext h h7 := (x05.trans x6).offNew f7 (by have := x05.1; omega)
    have hx6 := x6.1
    have hf7 := f7.1
    cases ho : ownP H.objs[i] key with
    | some y =>
      rw [ho] at o7
      have eg : seekL key (chainP H v) = some y := by rw [G]; unfold seekL; rw [ho]
      rw [eg]
      have q2 : (some y).isSome = true := rfl
      refine gN ?_
      refine store_blk o6 (by simp [propC]) (by simpa using propC_one key fl fl (some y)) ?_
      intro h8 f8 z8 o68
      replace o68 : BlkW h8 b6 53 (propC key fl fl (some y)) := by simpa [propC] using o68
      refine gN ?_
      exact ⟨fl, fl, rfl, x07.offNew f8 (by omega)⟩
    | none =>
      have q2 : (none : Option VV).isSome = false := rfl
      have eg : seekL key (chainP H v) = seekL key (chainP H H.objs[i].proto) := by rw [G]; conv => lhs; unfold seekL; rw [ho]
      refine gA ?_
      refine HCall.mk ((rproto_spec (x.ext x07) w hw few.len).mono ?_)
      rintro e h8 ⟨rfl, x8⟩
      replace o4 := o4.ext x8
      replace o6 := o6.ext x8
      rw [findP_some ha]
      have hx8 := x8.1
      refine gA ?_
      refine store_blk o4 (by simp) (by simp [isOne]) ?_
      intro h9 f9 z9 o49
      replace o49 : BlkW h9 b4 24 (cellsV H.objs[i].proto) := by simpa using o49
      refine gA ?_
      exact ⟨H.objs[i].proto, ⟨rfl, g.wf.num i hi, o49, o6.offk f9 (by omega), (x07.trans x8).offNew f9 (by omega), by have := f9.1; omega, eg⟩, by show (chainP H H.objs[i].proto).length < (chainP H w).length; rw [ec]; simp⟩
set_option maxHeartbeats 16000000
set_option maxHeartbeats 16000000
theorem roB_nd (r : RO) : (roB r).Nodup := by unfold roB blk; cases r.2.1 <;> simp
theorem YR.upd {h h' : Heap} {b : Nat} {H : PH} {Z : YZ} (x : YR h b H Z) {i : Nat} (hz : i < Z.os.length) (r' : RO)
    (w : Own h' 0 105 8 Z.oa (Z.os.set i r').length Z.oc ((Z.os.set i r').flatMap cellsO))
    (wp : Own h' 0 53 7 r'.2.1 r'.1.props.length r'.2.2 (cellsKs r'.1.props))
    (hs : h.size ≤ h'.size) (kp : ∀ y, y < h.size → y ∉ blk Z.oa → y ∉ roB Z.os[i] → h'[y]? = h[y]?) (fr : ∀ y ∈ roB r', y ∈ roB Z.os[i] ∨ h.size ≤ y) :
    YR h' b (updP H i r'.1) ⟨Z.oa, Z.oc, Z.os.set i r'⟩ ∧ PassF (Z.bs b) (YZ.bs b ⟨Z.oa, Z.oc, Z.os.set i r'⟩) h h' := by
  have nds := x.nds
  have hlt := x.lt
  have inB : ∀ y ∈ Z.os.flatMap roB, y < h.size := fun y hy => hlt y (by simp only [YZ.bs, List.mem_cons, List.mem_append]; exact .inr (.inr hy))
  have bB : b < h.size := x.b.lt
  have memi : ∀ y ∈ roB Z.os[i], y ∈ Z.os.flatMap roB := fun y hy => List.mem_flatMap.2 ⟨_, List.getElem_mem hz, hy⟩
  have fresh : ∀ y ∈ roB r', y ∈ roB Z.os[i] ∨ y ∉ Z.os.flatMap roB := fun y hy => (fr y hy).imp id fun h1 h2 => by have := inB y h2; omega
  have sub : ∀ y ∈ (Z.os.set i r').flatMap roB, y ∈ Z.os.flatMap roB ∨ h.size ≤ y := by
    intro y hy
    rcases fm_set_mem hy with h1 | h1
    · exact (fr y h1).imp (memi y) id
    · exact .inl h1
  refine ⟨⟨?_, w, ?_, ?_, ?_⟩, hs, fun y hy hn => ?_, fun y hy => ?_⟩
  · show BlkW h' b 108 [.slice Z.oa (Z.os.set i r').length Z.oc, _, _]
    rw [List.length_set]
    exact x.b.of (kp b bB (fun hm => by obtain ⟨p, ep, e⟩ := blk_of hm; exact (nds.1 p ep).1 e) (fun hm => nds.2.1 (memi b hm)))
  · show (Z.os.set i r').map (·.1) = H.objs.set i r'.1
    rw [List.map_set, x.e]
  · intro r hr
    obtain ⟨j, hj, rfl⟩ := List.getElem_of_mem hr
    have hj' : j < Z.os.length := by simpa using hj
    rw [List.getElem_set]
    by_cases e : i = j
    · rw [if_pos e]; exact wp
    · rw [if_neg e]
      refine Own.same (x.all _ (List.getElem_mem hj')) fun y hy => ?_
      have hm : y ∈ Z.os.flatMap roB := List.mem_flatMap.2 ⟨_, List.getElem_mem hj', hy⟩
      refine kp y (inB y hm) (fun h1 => ?_) (fun h1 => fm_disj nds.2.2 hz hj' e h1 hy)
      obtain ⟨p, ep, rfl⟩ := blk_of h1
      exact (nds.1 p ep).2 hm
  · show (b :: (blk Z.oa ++ (Z.os.set i r').flatMap roB)).Nodup
    refine nodup_hz (fun p ep => ⟨(nds.1 p ep).1, fun hm => ?_⟩) (fun hm => ?_) (fm_set_nodup hz nds.2.2 (roB_nd r') fresh)
    · rcases sub _ hm with h1 | h1
      · exact (nds.1 p ep).2 h1
      · have := (x.o.lt p ep).2; omega
    · rcases sub _ hm with h1 | h1
      · exact nds.2.1 h1
      · omega
  · exact kp y hy (fun hm => hn (by simp only [YZ.bs, List.mem_cons, List.mem_append]; exact .inr (.inl hm))) (fun hm => hn (by simp only [YZ.bs, List.mem_cons, List.mem_append]; exact .inr (.inr (memi y hm))))
  · simp only [YZ.bs, List.mem_cons, List.mem_append] at hy ⊢
    rcases hy with rfl | hy | hy
    · exact .inl (.inl rfl)
    · exact .inl (.inr (.inl hy))
    · exact (sub y hy).imp (fun h1 => .inr (.inr h1)) id
theorem upd_upd (H : PH) (i : Nat) (o o' : PO) : updP (updP H i o) i o' = updP H i o' := by unfold updP; rw [List.set_set]
abbrev rowZ (Z : YZ) (i : Nat) (r : RO) : YZ := ⟨Z.oa, Z.oc, Z.os.set i r⟩
def lowQ (n : Nat) (p : KV) : Bool := match idxK p.1 with | some j => decide (j < n) | none => true
theorem rcut_spec {h : Heap} {b : Nat} {H : PH} {Z : YZ} (x : YR h b H Z) (g : Good H) {i : Nat} (hi : i < H.objs.length) (hz : i < Z.os.length) (n : Nat) (hn : n ≤ 1000) :
    HCalls Tryz.prog 134 #[.pointer (some ⟨b, 0, none⟩), .int .i64 i, .int .i64 n] h fun e h' => ∃ (m : Int) (Z' : YZ), e = .returned (.int .i64 m) ∧ YR h' b (updP H i (sizeP H.objs[i] n)) Z' ∧ PassF (Z.bs b) (Z'.bs b) h h' := by
  refine c134 (by simp) ?_
  have few := g.few
  have o := x.b
  have e1 := x.at hi hz
  have ho : H.objs[i] ∈ H.objs := List.getElem_mem hi
  have hpl := few.props _ ho
  have hvs := g.vals _ ho
  have kok := g.keys _ ho
  obtain ⟨p0, ep0⟩ : ∃ p0, Z.oa = some p0 := by
    cases ho : Z.oa with
    | none => have := x.o.2.2.1 ho; have := x.o.2.1; omega
    | some p => exact ⟨p, rfl⟩
  refine gA ?_
  refine HIdx.mk i rfl hz ?_
  refine sl_some x.o.sl hz fun p ep => ?_
  obtain rfl : p0 = p := by rw [ep0] at ep; exact Option.some.inj ep
  refine gA ?_
  refine loop_ghost [] (fun (r : RO) us h' => us = [] ∧ YR h' b (updP H i r.1) (rowZ Z i r) ∧ PassF (Z.bs b) ((rowZ Z i r).bs b) h h' ∧ r.1 = ⟨H.objs[i].cls, H.objs[i].proto, r.1.props, H.objs[i].long⟩ ∧ r.1.props.filter (lowQ n) = H.objs[i].props.filter (lowQ n) ∧ (∀ q ∈ r.1.props, q ∈ H.objs[i].props) ∧ r.1.props.length ≤ H.objs[i].props.length) (fun r => r.1.props.length) rfl ?_ ?_
  · have er : Z.os.set i Z.os[i] = Z.os := List.set_getElem_self _
    have eh : updP H i Z.os[i].1 = H := by unfold updP; rw [e1, List.set_getElem_self]
    refine ⟨Z.os[i], rfl, ?_, ?_, ?_, ?_, ?_, ?_⟩
    · rw [eh]; unfold rowZ; rw [er]; exact x
    · unfold rowZ; rw [er]; exact .refl _ _
    · rw [e1]
    · rw [e1]
    · rw [e1]; exact fun q hq => hq
    · rw [e1]; omega
  rintro ⟨⟨rc, rp, ps, rl⟩, pa, pc⟩ u h1 ⟨_, y1, P1, er, ef, sub, hlp⟩
  simp only [PO.mk.injEq] at er
  obtain ⟨rfl, rfl, _, rfl⟩ := er
  simp only at ef sub hlp
  have hzr : i < (Z.os.set i ((⟨H.objs[i].cls, H.objs[i].proto, ps, H.objs[i].long⟩, pa, pc) : RO)).length := by simpa using hz
  have egr : (Z.os.set i ((⟨H.objs[i].cls, H.objs[i].proto, ps, H.objs[i].long⟩, pa, pc) : RO))[i] = (⟨H.objs[i].cls, H.objs[i].proto, ps, H.objs[i].long⟩, pa, pc) := List.getElem_set_self _
  generalize hrr : ((⟨H.objs[i].cls, H.objs[i].proto, ps, H.objs[i].long⟩, pa, pc) : RO) = rr at y1 P1 hzr egr
  have wp : Own h1 0 53 7 pa ps.length pc (cellsKs ps) := by
    have := y1.all rr (List.mem_of_getElem egr)
    rw [← hrr] at this
    exact this
  have hP1 := P1.1
  refine gB ?_
  refine cut_rule [8, 9] (fun us h' => Ext h1 h' ∧ ((us = [.int .i64 (-1), .int .i64 (-1)] ∧ ∀ q ∈ ps, lowQ n q = true) ∨ ∃ (m k : Nat), us = [.int .i64 m, .int .i64 k] ∧ ∃ hk : k < ps.length, lowQ n ps[k] = false)) rfl ?_ ?_
  · refine gA ?_
    refine Sl.loadGF cellsO_len y1.o.sl ep hzr (by decide) rfl ?_
    rw [egr, ← hrr]
    refine gA ?_
    refine loop_rule [25, 8, 9] (fun us h' => Ext h1 h' ∧ ∃ t : Nat, t ≤ ps.length ∧ ((us = [.int .i64 t, .int .i64 (-1), .int .i64 (-1)] ∧ ∀ q ∈ ps.take t, lowQ n q = true) ∨ ∃ (m k : Nat), us = [.int .i64 t, .int .i64 m, .int .i64 k] ∧ ∃ hk : k < ps.length, lowQ n ps[k] = false)) (fun us _ => match us with | [.int _ k, _, _] => ps.length - k.toNat | _ => 0) rfl ?_ ?_
    · exact ⟨Ext.refl _, 0, by omega, .inl ⟨rfl, by simp⟩⟩
    intro u h2 v25 v8 v9
    rintro ⟨x2, t, ht, hc⟩
    have w2 := wp.ext x2
    have hx2 := x2.1
    obtain ⟨m, k, e, hmk⟩ : ∃ m k : Int, [v25, v8, v9] = [.int .i64 t, .int .i64 m, .int .i64 k] ∧ ((m = -1 ∧ k = -1 ∧ ∀ q ∈ ps.take t, lowQ n q = true) ∨ ∃ k' : Nat, k = k' ∧ 0 ≤ m ∧ ∃ hk : k' < ps.length, lowQ n ps[k'] = false) := by
      rcases hc with ⟨e, hall⟩ | ⟨m, k, e, hk⟩
      · exact ⟨-1, -1, e, .inl ⟨rfl, rfl, hall⟩⟩
      · exact ⟨m, k, e, .inr ⟨k, rfl, Int.natCast_nonneg m, hk⟩⟩
    clear hc
    cases e
    refine gA ?_
    refine HIf.mk (fun hlt => ?_) (fun hlt => ?_)
    · have ht1 : t < ps.length := by have : (t : Int) < (ps.length : Int) := of_decide_eq_true hlt; omega
      have hmu : ps.length - ((t : Int) + 1).toNat < ps.length - ((t : Int)).toNat := by omega
      have hq := hvs _ (sub _ (List.getElem_mem ht1))
      have etk : ps.take (t + 1) = ps.take t ++ [ps[t]] := by rw [List.take_add_one, List.getElem?_eq_getElem ht1]; rfl
      have hlow0 : lowQ n ps[t] = match idxK ps[t].1 with | some j => decide (j < n) | none => true := rfl
      have again : ∀ (h' : Heap), Ext h1 h' → lowQ n ps[t] = true → Ext h1 h' ∧ ∃ t' : Nat, t' ≤ ps.length ∧ (([Value.int .i64 ((t : Int) + 1), .int .i64 m, .int .i64 k] = [.int .i64 t', .int .i64 (-1), .int .i64 (-1)] ∧ ∀ q ∈ ps.take t', lowQ n q = true) ∨ ∃ (m' k' : Nat), [Value.int .i64 ((t : Int) + 1), .int .i64 m, .int .i64 k] = [.int .i64 t', .int .i64 m', .int .i64 k'] ∧ ∃ hk : k' < ps.length, lowQ n ps[k'] = false) := by
        intro h' X hl
        refine ⟨X, t + 1, by omega, ?_⟩
        rcases hmk with ⟨rfl, rfl, hall⟩ | ⟨k', rfl, hm, hk⟩
        · refine .inl ⟨rfl, fun q hq => ?_⟩
          rw [etk] at hq
          rcases List.mem_append.1 hq with h1 | h1
          · exact hall q h1
          · simp at h1; rw [h1]; exact hl
        · exact .inr ⟨m.toNat, k', by rw [Int.toNat_of_nonneg hm]; rfl, hk⟩
      generalize hp : ps[t] = p at hq hlow0 again
      refine gA ?_
      refine HIdx.mk t rfl ht1 ?_
      refine sl_some w2.sl ht1 fun a ea => ?_
      refine gA ?_
      refine Sl.loadK w2.sl ea ht1 ?_
      rw [hp]
      refine gA ?_
      refine new_var (e := 53) zeroK rfl ?_
      intro h10 b11 o11 x10 z10 hb11
      refine gA ?_
      refine store_blk o11 (by simp [cellsK]) (by intro y hy; exact cellsKs_one [p] y (by simpa [cellsKs] using hy)) ?_
      intro h11 f11 z11 o11
      replace o11 : BlkW h11 b11 53 (cellsK p) := by simpa [cellsK] using o11
      replace o11 : BlkW h11 b11 53 [.string p.1, .int .i64 p.2.k, .int .i64 p.2.n, .string p.2.s, .bool true, .bool true, .bool true] := o11
      have X11 : Ext h1 h11 := x2.trans (x10.offNew f11 (by omega))
      obtain ⟨⟨⟨pl⟩⟩, pv⟩ := p
      refine gA ?_
      refine HCall.mk ((rindex_spec pl hq.2 h11).mono ?_)
      rintro e h12 ⟨rfl, x12⟩
      have X12 := X11.trans x12
      have ei : idxK ⟨⟨pl⟩⟩ = idxL (ulist pl) := rfl
      unfold idxR
      rw [show (idxK ((⟨⟨pl⟩⟩ : ByteArray), pv).1) = idxL (ulist pl) from rfl] at hlow0
      cases hx : idxL (ulist pl) with
      | none =>
        rw [hx] at hlow0
        have q4 : (none : Option Nat).isSome = false := rfl
        refine gA ?_
        exact ⟨again _ X12 hlow0, hmu⟩
      | some j =>
        rw [hx] at hlow0
        have q4 : (some j).isSome = true := rfl
        by_cases hjn : j < n
        · have q5 : decide ((((some j).getD 0 : Nat) : Int) ≥ (n : Int)) = false := decide_eq_false (by show ¬ ((j : Nat) : Int) ≥ n; omega)
          refine gA ?_
          exact ⟨again _ X12 (by rw [hlow0]; exact decide_eq_true hjn), hmu⟩
        · have q5 : decide ((((some j).getD 0 : Nat) : Int) ≥ (n : Int)) = true := decide_eq_true (by show ((j : Nat) : Int) ≥ n; omega)
          have hl0 : lowQ n ps[t] = false := by rw [hp, hlow0]; exact decide_eq_false hjn
          by_cases hjm : (j : Int) > m
          · have q6 : decide ((((some j).getD 0 : Nat) : Int) > m) = true := decide_eq_true hjm
            refine gA ?_
            exact ⟨⟨X12, t + 1, by omega, .inr ⟨j, t, rfl, ht1, hl0⟩⟩, hmu⟩
          · have q6 : decide ((((some j).getD 0 : Nat) : Int) > m) = false := decide_eq_false hjm
            refine gA ?_
            refine ⟨⟨X12, t + 1, by omega, ?_⟩, hmu⟩
            rcases hmk with ⟨rfl, rfl, hall⟩ | ⟨k', rfl, hm, hk⟩
            · omega
            · exact .inr ⟨m.toNat, k', by rw [Int.toNat_of_nonneg hm]; rfl, hk⟩
    · have hge : ¬ (t : Int) < (ps.length : Int) := of_decide_eq_false hlt
      obtain rfl : t = ps.length := by omega
      refine gA ?_
      refine ⟨x2, ?_⟩
      rcases hmk with ⟨rfl, rfl, hall⟩ | ⟨k', rfl, hm, hk⟩
      · exact .inl ⟨rfl, by rw [List.take_length] at hall; exact hall⟩
      · exact .inr ⟨m.toNat, k', by rw [Int.toNat_of_nonneg hm]; rfl, hk⟩
  intro u h2 v8 v9
  rintro ⟨x2, hc⟩
  have y2 := y1.ext x2
  have w2 := wp.ext x2
  have hx2 := x2.1
  have P2 := P1.trans (.of_ext x2)
  rcases hc with ⟨e, hall⟩ | ⟨m, k, e, hk, hlow⟩
  · cases e
    have hps : ps = H.objs[i].props.filter (lowQ n) := by rw [← ef]; exact (List.filter_eq_self.2 hall).symm
    refine gA ?_
    refine Own.storeRow cellsO_len y2.o ep hzr ((⟨H.objs[i].cls, H.objs[i].proto, ps, n⟩, pa, pc) : RO) (j := 6) (vs := [.int .i64 n]) (by rw [egr, ← hrr]; rfl) (by simp) (by simp [isOne]) fun h3 f3 z3 w3 => ?_
    have ess : (rowZ Z i rr).os.set i ((⟨H.objs[i].cls, H.objs[i].proto, ps, n⟩, pa, pc) : RO) = Z.os.set i ((⟨H.objs[i].cls, H.objs[i].proto, ps, n⟩, pa, pc) : RO) := by show (Z.os.set i rr).set i _ = _; rw [List.set_set]
    have hz2 : i < (rowZ Z i rr).os.length := hzr
    have eg2 : (rowZ Z i rr).os[i] = rr := egr
    have ndr := y1.nds
    have hpn : ∀ p, pa = some p → p.block ≠ p0.block := by
      intro p ep' e
      refine (ndr.1 p0 ep0).2 (List.mem_flatMap.2 ⟨rr, List.mem_of_getElem egr, ?_⟩)
      rw [← e, ← hrr]
      exact blk_mem ep'
    obtain ⟨u1, u2⟩ := y2.upd hz2 ((⟨H.objs[i].cls, H.objs[i].proto, ps, n⟩, pa, pc) : RO) w3 (w2.off f3 hpn) f3.1 (fun y hy h1 h2 => f3.2 y hy (fun e => h1 (by rw [e]; exact blk_mem ep0))) (fun y hy => .inl (by rw [eg2, ← hrr]; exact hy))
    rw [upd_upd] at u1
    rw [ess] at u1 u2
    have esz : (⟨H.objs[i].cls, H.objs[i].proto, ps, n⟩ : PO) = sizeP H.objs[i] n := by
      rw [hps]; rfl
    rw [esz] at u1 u2
    refine gA ?_
    exact ⟨0, _, rfl, u1, P2.trans u2⟩
  · cases e
    have q1 : decide ((k : Int) < 0) = false := decide_eq_false (by omega)
    have hpc := w2.2.1
    have hkp : k < ps.length := hk
    refine gA ?_
    refine Sl.loadGF cellsO_len y2.o.sl ep hzr (by decide) rfl ?_
    rw [egr, ← hrr]
    refine gA ?_
    refine HIdx.mk k rfl hk ?_
    refine sl_some w2.sl hk fun a ea => ?_
    refine gA ?_
    refine Sl.loadF (f := 6) w2.sl ea hk (by decide) rfl ?_
    have q2 : (!true) = false := rfl
    refine gA ?_
    refine Sl.loadGF cellsO_len y2.o.sl ep hzr (by decide) rfl ?_
    rw [egr, ← hrr]
    refine gA ?_
    refine HBound.mk k rfl (show k ≤ pc by omega) ?_
    refine gA ?_
    refine Sl.loadGF cellsO_len y2.o.sl ep hzr (by decide) rfl ?_
    rw [egr, ← hrr]
    refine gA ?_
    refine HBound.mk (k + 1) (by omega) (show k + 1 ≤ ps.length by omega) ?_
    refine gA ?_
    have hkl := cellsKs_len ps
    have s1 := w2.sl.slice (i := 0) (j := k) (by omega) (by omega)
    rw [cellsKs_take ps k (by omega), Nat.zero_mul, List.drop_zero] at s1
    refine s1.cells ?_
    refine Own.none_app rfl (by rw [cellsKs_len, List.length_take, Nat.min_eq_left (by omega), Nat.sub_zero]) (cellsKs_one _) (by omega) ?_
    intro h3 a3 c3 w3 x3
    have w23 := w2.ext x3
    have y3 := y2.ext x3
    have hx3 := x3.1
    refine gA ?_
    have s2 := w23.sl.slice (i := k + 1) (j := ps.length) (by omega) (Nat.le_refl _)
    rw [← hkl, List.take_length, cellsKs_drop ps (k + 1) (by omega)] at s2
    refine s2.cells ?_
    refine Own.grow (m := ps.length - (k + 1)) w3 hx3 rfl (by rw [cellsKs_len, List.length_drop]) (cellsKs_one _) (by omega) ?_
    intro h4 a4 c4 w4 g4
    rw [← cellsKs_append, ← erase_split] at w4
    have hg4 := g4.1
    have fr3 : ∀ p, a3 = some p → h2.size ≤ p.block := fun p ep => (w3.lt p ep).1
    have fr4 : ∀ p, a4 = some p → h2.size ≤ p.block := fun p ep => (w4.lt p ep).1
    have k4 : ∀ y, y < h2.size → h4[y]? = h2[y]? := fun y hy => by rw [g4.2.1 y (by omega) (fun p ep => by have := fr3 p ep; omega), x3.2 y hy]
    have ndr := y1.nds
    have o4 : Own h4 0 105 8 (rowZ Z i rr).oa (rowZ Z i rr).os.length (rowZ Z i rr).oc ((rowZ Z i rr).os.flatMap cellsO) := Own.same y2.o fun y hy => k4 y (by obtain ⟨p, ep, rfl⟩ := blk_of hy; exact (y2.o.lt p ep).2)
    have hz2 : i < (rowZ Z i rr).os.length := hzr
    have eg2 : (rowZ Z i rr).os[i] = rr := egr
    have eln : (ps.eraseIdx k).length = (k - 0) + (ps.length - (k + 1)) := by rw [List.length_eraseIdx_of_lt hk]; omega
    refine gA ?_
    refine Own.storeRow cellsO_len o4 ep hz2 ((⟨H.objs[i].cls, H.objs[i].proto, ps.eraseIdx k, H.objs[i].long⟩, a4, c4) : RO) (j := 4) (vs := [.slice a4 (k - 0 + (ps.length - (k + 1))) c4]) (by rw [eg2, ← hrr, ← eln]; rfl) (by simp) (by simp [isOne]) fun h5 f5 z5 w5 => ?_
    have ess : (rowZ Z i rr).os.set i ((⟨H.objs[i].cls, H.objs[i].proto, ps.eraseIdx k, H.objs[i].long⟩, a4, c4) : RO) = Z.os.set i ((⟨H.objs[i].cls, H.objs[i].proto, ps.eraseIdx k, H.objs[i].long⟩, a4, c4) : RO) := by show (Z.os.set i rr).set i _ = _; rw [List.set_set]
    have p0l : p0.block < h2.size := (y2.o.lt p0 ep0).2
    have wp5 : Own h5 0 53 7 a4 (ps.eraseIdx k).length c4 (cellsKs (ps.eraseIdx k)) := by
      rw [eln]
      exact (w4.off f5 (fun p ep' => by have := fr4 p ep'; omega)).lower (Nat.zero_le _)
    obtain ⟨u1, u2⟩ := y2.upd hz2 ((⟨H.objs[i].cls, H.objs[i].proto, ps.eraseIdx k, H.objs[i].long⟩, a4, c4) : RO) w5 wp5 (by have := f5.1; omega) (fun y hy h1 h2 => by
      rw [f5.2 y (by omega) (fun e => h1 (by rw [e]; exact blk_mem ep0)), k4 y hy]) (fun y hy => .inr (by obtain ⟨p, ep', rfl⟩ := blk_of hy; exact fr4 p ep'))
    rw [upd_upd] at u1
    rw [ess] at u1 u2
    refine gA ?_
    refine ⟨((⟨H.objs[i].cls, H.objs[i].proto, ps.eraseIdx k, H.objs[i].long⟩, a4, c4) : RO), ⟨rfl, u1, P2.trans u2, rfl, ?_, fun q hq => sub q (List.mem_of_mem_eraseIdx hq), by show (ps.eraseIdx k).length ≤ _; omega⟩, by show (ps.eraseIdx k).length < ps.length; omega⟩
    show (ps.eraseIdx k).filter (lowQ n) = _
    rw [← ef, erase_split]
    conv => rhs; rw [← List.take_append_drop k ps, List.drop_eq_getElem_cons hk]
    rw [List.filter_append, List.filter_append, List.filter_cons_of_neg (by rw [hlow]; simp)]
set_option maxHeartbeats 16000000
theorem oa_some {h : Heap} {b : Nat} {H : PH} {Z : YZ} (x : YR h b H Z) {i : Nat} (hz : i < Z.os.length) : ∃ p0, Z.oa = some p0 := by
  cases ho : Z.oa with
  | none => have := x.o.2.2.1 ho; have := x.o.2.1; omega
  | some p => exact ⟨p, rfl⟩
theorem pa_ne {h : Heap} {b : Nat} {H : PH} {Z : YZ} (x : YR h b H Z) {i : Nat} (hz : i < Z.os.length) {p0 : Addr} (ep0 : Z.oa = some p0) : ∀ p, Z.os[i].2.1 = some p → p.block ≠ p0.block := by
  intro p ep e
  refine (x.nds.1 p0 ep0).2 (List.mem_flatMap.2 ⟨_, List.getElem_mem hz, ?_⟩)
  rw [← e]
  exact blk_mem ep
theorem rlength_spec {h : Heap} {b : Nat} {H : PH} {Z : YZ} (x : YR h b H Z) (g : Good H) {i : Nat} (hi : i < H.objs.length) (hz : i < Z.os.length) (har : isArr H.objs[i] = true) (v : VV) (hv : i64 v.n) :
    HCalls Tryz.prog 86 #[.pointer (some ⟨b, 0, none⟩), .int .i64 i, .agg (cellsV v).toArray] h fun e h' => ∃ (m : Int) (Z' : YZ), e = .returned (.int .i64 m) ∧ YR h' b (if v.k = 3 ∧ 0 ≤ v.n ∧ v.n ≤ 1000 then updP H i (sizeP H.objs[i] v.n.toNat) else H) Z' ∧ PassF (Z.bs b) (Z'.bs b) h h' := by
  obtain ⟨vk, vn, vs⟩ := v
  simp only at hv ⊢
  refine c86 (by simp) ?_
  have e1 := x.at hi hz
  have ho : H.objs[i] ∈ H.objs := List.getElem_mem hi
  have kok := g.keys _ ho
  obtain ⟨p0, ep0⟩ := oa_some x hz
  have hpn := pa_ne x hz ep0
  refine gA ?_
  refine new_var (e := 24) (cellsV ⟨vk, vn, vs⟩) rfl ?_
  intro h1 b5 o5 x1 z1 hb5
  have y1 := x.ext x1
  have o := y1.b
  by_cases k3 : vk = 3
  · have q1 : (vk != 3) = false := by rw [k3]; rfl
    by_cases n0 : vn < 0
    · have q2 : decide (vn < 0) = true := decide_eq_true n0
      rw [if_neg (by omega)]
      refine gA ?_
      exact ⟨_, Z, rfl, y1, .of_ext x1⟩
    have q2 : decide (vn < 0) = false := decide_eq_false n0
    by_cases n1 : vn > 1000
    · have q3 : decide (vn > 1000) = true := decide_eq_true n1
      rw [if_neg (by omega)]
      refine gA ?_
      exact ⟨_, Z, rfl, y1, .of_ext x1⟩
    have q3 : decide (vn > 1000) = false := decide_eq_false n1
    rw [if_pos ⟨k3, by omega, by omega⟩]
    obtain ⟨n, rfl⟩ : ∃ n : Nat, vn = n := ⟨vn.toNat, by omega⟩
    rw [Int.toNat_natCast]
    have hn : n ≤ 1000 := by omega
    refine gA ?_
    refine HIdx.mk i rfl hz ?_
    refine sl_some y1.o.sl hz fun p ep => ?_
    obtain rfl : p0 = p := by rw [ep0] at ep; exact Option.some.inj ep
    refine gA ?_
    refine Sl.loadGF cellsO_len y1.o.sl ep hz (by decide) rfl ?_
    rw [e1]
    by_cases hlt : n < H.objs[i].long
    · have q4 : decide ((n : Int) < (H.objs[i].long : Int)) = true := decide_eq_true (by omega)
      refine gA ?_
      refine HCall.mk ((rcut_spec y1 g hi hz n hn).mono ?_)
      rintro e h2 ⟨m, Z', rfl, y2, P2⟩
      refine gA ?_
      exact ⟨_, Z', rfl, y2, (PassF.of_ext x1).trans P2⟩
    · have q4 : decide ((n : Int) < (H.objs[i].long : Int)) = false := decide_eq_false (by omega)
      have esz : sizeP H.objs[i] n = ⟨H.objs[i].cls, H.objs[i].proto, H.objs[i].props, n⟩ := by
        unfold sizeP
        congr 1
        apply List.filter_eq_self.2
        intro p hp
        cases hx : idxK p.1 with
        | none => rfl
        | some j => exact decide_eq_true (by have := kok.low har p hp j hx; omega)
      rw [esz]
      have eZ : Z.os[i] = (H.objs[i], Z.os[i].2.1, Z.os[i].2.2) := by rw [← e1]
      refine gA ?_
      refine HIdx.mk i rfl hz ?_
      refine sl_some y1.o.sl hz fun p ep => ?_
      obtain rfl : p0 = p := by rw [ep0] at ep; exact Option.some.inj ep
      refine gA ?_
      refine Own.storeRow cellsO_len y1.o ep hz ((⟨H.objs[i].cls, H.objs[i].proto, H.objs[i].props, n⟩, Z.os[i].2.1, Z.os[i].2.2) : RO) (j := 6) (vs := [.int .i64 n]) (by rw [eZ]; rfl) (by simp) (by simp [isOne]) fun h3 f3 z3 w3 => ?_
      have wp := y1.all _ (List.getElem_mem hz)
      rw [e1] at wp
      obtain ⟨u1, u2⟩ := y1.upd hz ((⟨H.objs[i].cls, H.objs[i].proto, H.objs[i].props, n⟩, Z.os[i].2.1, Z.os[i].2.2) : RO) w3 (wp.off f3 hpn) f3.1 (fun y hy h1 h2 => f3.2 y hy (fun e => h1 (by rw [e]; exact blk_mem ep0))) (fun y hy => .inl hy)
      refine gA ?_
      exact ⟨0, _, rfl, u1, (PassF.of_ext x1).trans u2⟩
  · have q1 : (vk != 3) = true := by simp [k3]
    rw [if_neg (by omega)]
    refine gA ?_
    exact ⟨_, Z, rfl, y1, .of_ext x1⟩
theorem rhadd_spec {h : Heap} {b : Nat} {H : PH} {Z : YZ} (x : YR h b H Z) (g : Good H) (hu : 0 ≤ H.used) {i : Nat} (hi : i < H.objs.length) (hz : i < Z.os.length) (key : ByteArray) (v : VV) (hk : key.size ≤ 2097152) :
    HCalls Tryz.prog 88 #[.pointer (some ⟨b, 0, none⟩), .int .i64 i, .agg (cellsK (key, v)).toArray] h fun e h' => ∃ (m : Int) (Z' : YZ), e = .returned (.int .i64 m) ∧
      YR h' b (if farP H.objs[i] key = true then H else if H.most - H.used < 1 then H else ⟨H.objs.set i ⟨H.objs[i].cls, H.objs[i].proto, H.objs[i].props ++ [(key, v)], longP H.objs[i] key⟩, H.most, H.used + 1⟩) Z' ∧ PassF (Z.bs b) (Z'.bs b) h h' := by
  refine c88 (by simp) ?_
  have e1 := x.at hi hz
  have ho : H.objs[i] ∈ H.objs := List.getElem_mem hi
  have kok := g.keys _ ho
  have hpl := g.few.props _ ho
  have gm := g.most
  have gu := g.used
  have hlong := kok.long
  obtain ⟨p0, ep0⟩ := oa_some x hz
  have hpn := pa_ne x hz ep0
  have eZ : Z.os[i] = (H.objs[i], Z.os[i].2.1, Z.os[i].2.2) := by rw [← e1]
  refine gA ?_
  refine new_var (e := 53) (cellsK (key, v)) rfl ?_
  intro h1 b5 o5 x1 z1 hb5
  replace o5 : BlkW h1 b5 53 [.string key, .int .i64 v.k, .int .i64 v.n, .string v.s, .bool true, .bool true, .bool true] := o5
  have y1 := x.ext x1
  have o := y1.b
  have lb := x.b.lt
  refine gA ?_
  refine HIdx.mk i rfl hz ?_
  refine sl_some y1.o.sl hz fun p ep => ?_
  obtain rfl : p0 = p := by rw [ep0] at ep; exact Option.some.inj ep
  refine gA ?_
  refine Sl.loadGF cellsO_len y1.o.sl ep hz (by decide) rfl ?_
  refine gA ?_
  obtain ⟨⟨kl⟩⟩ := key
  refine HCall.mk ((rindex_spec kl hk h1).mono ?_)
  rintro e h2 ⟨rfl, x2⟩
  have y2 := y1.ext x2
  have x02 := x1.trans x2
  replace o5 := o5.ext x2
  have hx2 := x2.1
  have ei : idxK ⟨⟨kl⟩⟩ = idxL (ulist kl) := rfl
  unfold idxR
  cases hx : idxL (ulist kl) with
  | none =>
    have q4 : (none : Option Nat).isSome = false := rfl
    have ea : arrIx H.objs[i] ⟨⟨kl⟩⟩ = none := by unfold arrIx; rw [ei, hx]; split <;> rfl
    have ef : farP H.objs[i] ⟨⟨kl⟩⟩ = false := by unfold farP; rw [ea]
    have eL : longP H.objs[i] ⟨⟨kl⟩⟩ = H.objs[i].long := by unfold longP; rw [ea]
    rw [ef, eL, if_neg (show ¬ (false = true) by simp)]
    refine gA ?_
    refine HCall.mk ((rtake_spec y2 ⟨by omega, by omega⟩ hu (by omega)).mono ?_)
    rintro e h3 (⟨hc, rfl, rfl⟩ | ⟨hc, rfl, y3, f3⟩)
    · rw [if_pos hc]
      refine gA ?_
      exact ⟨_, Z, rfl, y2, .of_ext x02⟩
    rw [if_neg hc]
    replace o5 := o5.offk f3 (by omega)
    have P3 : PassF (Z.bs b) (Z.bs b) h h3 := (PassF.of_ext x02).trans (.of_off f3 (.inl (by simp [YZ.bs])))
    have hP3 := P3.1
    refine gA ?_
    refine Sl.loadGF cellsO_len y3.o.sl ep hz (by decide) rfl ?_
    rw [e1]
    refine gA ?_
    refine new_own (e := 53) 7 1 (cellsK (⟨⟨kl⟩⟩, v)) rfl rfl ?_
    intro h4 b64 w64 x4 z4 hb64
    have y4 := y3.ext x4
    have hx4 := x4.1
    have wp := y4.all _ (List.getElem_mem hz)
    rw [e1] at wp
    have P4 := P3.trans (.of_ext x4)
    refine gA ?_
    refine w64.sl.cells ?_
    refine Own.grow (m := 1) wp (Nat.zero_le _) rfl rfl (cellsKs_one [(⟨⟨kl⟩⟩, v)]) (by omega) ?_
    intro h6 a6 c6 w6 g6
    have hg6 := g6.1
    have p0l : p0.block < h4.size := (y4.o.lt p0 ep0).2
    have oo := Own.same y4.o (fun y hy => by
      obtain ⟨q, eq, rfl⟩ := blk_of hy
      obtain rfl : p0 = q := by rw [ep0] at eq; exact Option.some.inj eq
      exact g6.2.1 p0.block p0l hpn)
    have na6 : ∀ p, a6 = some p → p.block ≠ p0.block := by
      intro p ep6
      rcases g6.2.2 p ep6 with ⟨q, eq, e⟩ | hq
      · rw [e]; exact hpn q eq
      · omega
    have ewp : cellsKs H.objs[i].props ++ cellsK (⟨⟨kl⟩⟩, v) = cellsKs (H.objs[i].props ++ [(⟨⟨kl⟩⟩, v)]) := by rw [cellsKs_append]; rfl
    refine gA ?_
    refine Own.storeRow cellsO_len oo ep hz ((⟨H.objs[i].cls, H.objs[i].proto, H.objs[i].props ++ [(⟨⟨kl⟩⟩, v)], H.objs[i].long⟩, a6, c6) : RO) (j := 4) (vs := [.slice a6 (H.objs[i].props.length + 1) c6]) (by rw [eZ]; simp) (by simp) (by simp [isOne]) fun h7 f7 z7 w7 => ?_
    have w67 := w6.off f7 na6
    rw [ewp] at w67
    obtain ⟨u1, u2⟩ := y4.upd hz ((⟨H.objs[i].cls, H.objs[i].proto, H.objs[i].props ++ [(⟨⟨kl⟩⟩, v)], H.objs[i].long⟩, a6, c6) : RO) w7 (by rw [List.length_append]; exact w67) (by have := f7.1; omega) (fun y hy h1 h2 => by
      rw [f7.2 y (by omega) (fun e => h1 (by rw [e]; exact blk_mem ep0)), g6.2.1 y hy (fun p ep' e => h2 (by rw [← e]; exact blk_mem ep'))]) (fun y hy => by
      obtain ⟨p, ep', rfl⟩ := blk_of hy
      rcases g6.2.2 p ep' with ⟨q, eq, e⟩ | hq
      · exact .inl (by rw [e]; exact blk_mem eq)
      · exact .inr hq)
    refine gA ?_
    exact ⟨0, _, rfl, u1, P4.trans u2⟩
  | some j =>
    have q4 : (some j).isSome = true := rfl
    by_cases har : isArr H.objs[i] = true
    · have ea : arrIx H.objs[i] ⟨⟨kl⟩⟩ = some j := by unfold arrIx; rw [if_pos har, ei, hx]
      have eL : longP H.objs[i] ⟨⟨kl⟩⟩ = max H.objs[i].long (j + 1) := by unfold longP; rw [ea]
      have ef : farP H.objs[i] ⟨⟨kl⟩⟩ = decide (1000 ≤ j) := by unfold farP; rw [ea]
      have q5 : strEq H.objs[i].cls ⟨#[65, 114, 114, 97, 121]⟩ = true := har
      rw [ef, eL]
      refine gA ?_
      refine Sl.loadGF cellsO_len y2.o.sl ep hz (by decide) rfl ?_
      rw [e1]
      by_cases hj : 1000 ≤ j
      · have q6 : decide ((((some j).getD 0 : Nat) : Int) ≥ 1000) = true := decide_eq_true (by show ((j : Nat) : Int) ≥ 1000; omega)
        rw [if_pos (decide_eq_true hj)]
        refine gA ?_
        exact ⟨_, Z, rfl, y2, .of_ext x02⟩
      have q6 : decide ((((some j).getD 0 : Nat) : Int) ≥ 1000) = false := decide_eq_false (by show ¬ ((j : Nat) : Int) ≥ 1000; omega)
      rw [if_neg (by rw [decide_eq_true_eq]; exact hj)]
      refine gA ?_
      refine Sl.loadGF cellsO_len y2.o.sl ep hz (by decide) rfl ?_
      rw [e1]
      by_cases hjl : H.objs[i].long ≤ j
      · have q7 : decide ((((some j).getD 0 : Nat) : Int) ≥ (H.objs[i].long : Int)) = true := decide_eq_true (by show ((j : Nat) : Int) ≥ _; omega)
        have q8 : (!true) = false := rfl
        refine gA ?_
        refine Sl.loadGF cellsO_len y2.o.sl ep hz (by decide) rfl ?_
        refine gA ?_
        refine HCall.mk ((rtake_spec y2 ⟨by omega, by omega⟩ hu (by omega)).mono ?_)
        rintro e h3 (⟨hc, rfl, rfl⟩ | ⟨hc, rfl, y3, f3⟩)
        · rw [if_pos hc]
          refine gA ?_
          exact ⟨_, Z, rfl, y2, .of_ext x02⟩
        rw [if_neg hc]
        replace o5 := o5.offk f3 (by omega)
        have P3 : PassF (Z.bs b) (Z.bs b) h h3 := (PassF.of_ext x02).trans (.of_off f3 (.inl (by simp [YZ.bs])))
        have hP3 := P3.1
        refine gA ?_
        refine Sl.loadGF cellsO_len y3.o.sl ep hz (by decide) rfl ?_
        rw [e1]
        refine gA ?_
        refine new_own (e := 53) 7 1 (cellsK (⟨⟨kl⟩⟩, v)) rfl rfl ?_
        intro h4 b64 w64 x4 z4 hb64
        have y4 := y3.ext x4
        have hx4 := x4.1
        have wp := y4.all _ (List.getElem_mem hz)
        rw [e1] at wp
        have P4 := P3.trans (.of_ext x4)
        refine gA ?_
        refine w64.sl.cells ?_
        refine Own.grow (m := 1) wp (Nat.zero_le _) rfl rfl (cellsKs_one [(⟨⟨kl⟩⟩, v)]) (by omega) ?_
        intro h6 a6 c6 w6 g6
        have hg6 := g6.1
        have p0l : p0.block < h4.size := (y4.o.lt p0 ep0).2
        have oo := Own.same y4.o (fun y hy => by
          obtain ⟨q, eq, rfl⟩ := blk_of hy
          obtain rfl : p0 = q := by rw [ep0] at eq; exact Option.some.inj eq
          exact g6.2.1 p0.block p0l hpn)
        have na6 : ∀ p, a6 = some p → p.block ≠ p0.block := by
          intro p ep6
          rcases g6.2.2 p ep6 with ⟨q, eq, e⟩ | hq
          · rw [e]; exact hpn q eq
          · omega
        have ewp : cellsKs H.objs[i].props ++ cellsK (⟨⟨kl⟩⟩, v) = cellsKs (H.objs[i].props ++ [(⟨⟨kl⟩⟩, v)]) := by rw [cellsKs_append]; rfl
        refine gA ?_
        refine Own.storeRow cellsO_len oo ep hz ((⟨H.objs[i].cls, H.objs[i].proto, H.objs[i].props ++ [(⟨⟨kl⟩⟩, v)], H.objs[i].long⟩, a6, c6) : RO) (j := 4) (vs := [.slice a6 (H.objs[i].props.length + 1) c6]) (by rw [eZ]; simp) (by simp) (by simp [isOne]) fun h7 f7 z7 w7 => ?_
        have w67 := w6.off f7 na6
        rw [ewp] at w67
        have hz7 : i < (Z.os.set i ((⟨H.objs[i].cls, H.objs[i].proto, H.objs[i].props ++ [(⟨⟨kl⟩⟩, v)], H.objs[i].long⟩, a6, c6) : RO)).length := by simpa using hz
        have eg7 : (Z.os.set i ((⟨H.objs[i].cls, H.objs[i].proto, H.objs[i].props ++ [(⟨⟨kl⟩⟩, v)], H.objs[i].long⟩, a6, c6) : RO))[i] = (⟨H.objs[i].cls, H.objs[i].proto, H.objs[i].props ++ [(⟨⟨kl⟩⟩, v)], H.objs[i].long⟩, a6, c6) := List.getElem_set_self _
        refine gA ?_
        refine Sl.loadGF cellsO_len w7.sl ep hz7 (by decide) rfl ?_
        rw [eg7]
        refine gA ?_
        refine Z5 ?_ ⟨by show (-9223372036854775808 : Int) ≤ (j : Int) + 1; omega, by show (j : Int) + 1 ≤ (9223372036854775807 : Int); omega⟩
        refine gA ?_
        have emx : (if (j : Int) + 1 > (H.objs[i].long : Int) then (j : Int) + 1 else (H.objs[i].long : Int)) = ((max H.objs[i].long (j + 1) : Nat) : Int) := by split <;> omega
        refine Own.storeRow cellsO_len w7 ep hz7 ((⟨H.objs[i].cls, H.objs[i].proto, H.objs[i].props ++ [(⟨⟨kl⟩⟩, v)], max H.objs[i].long (j + 1)⟩, a6, c6) : RO) (j := 6) (vs := [.int .i64 (if (j : Int) + 1 > (H.objs[i].long : Int) then (j : Int) + 1 else (H.objs[i].long : Int))]) (by rw [eg7, emx]; simp) (by simp) (by simp [isOne]) fun h8 f8 z8 w8 => ?_
        rw [List.set_set] at w8
        have w68 := w67.off f8 na6
        obtain ⟨u1, u2⟩ := y4.upd hz ((⟨H.objs[i].cls, H.objs[i].proto, H.objs[i].props ++ [(⟨⟨kl⟩⟩, v)], max H.objs[i].long (j + 1)⟩, a6, c6) : RO) w8 (by rw [List.length_append]; exact w68) (by have := f7.1; have := f8.1; omega) (fun y hy h1 h2 => by
          rw [f8.2 y (by have := f7.1; omega) (fun e => h1 (by rw [e]; exact blk_mem ep0)), f7.2 y (by omega) (fun e => h1 (by rw [e]; exact blk_mem ep0)), g6.2.1 y hy (fun p ep' e => h2 (by rw [← e]; exact blk_mem ep'))]) (fun y hy => by
          obtain ⟨p, ep', rfl⟩ := blk_of hy
          rcases g6.2.2 p ep' with ⟨q, eq, e⟩ | hq
          · exact .inl (by rw [e]; exact blk_mem eq)
          · exact .inr hq)
        refine gA ?_
        exact ⟨0, _, rfl, u1, P4.trans u2⟩
      · have q7 : decide ((((some j).getD 0 : Nat) : Int) ≥ (H.objs[i].long : Int)) = false := decide_eq_false (by show ¬ ((j : Nat) : Int) ≥ _; omega)
        refine gA ?_
        refine HCall.mk ((rtake_spec y2 ⟨by omega, by omega⟩ hu (by omega)).mono ?_)
        rintro e h3 (⟨hc, rfl, rfl⟩ | ⟨hc, rfl, y3, f3⟩)
        · rw [if_pos hc]
          refine gA ?_
          exact ⟨_, Z, rfl, y2, .of_ext x02⟩
        rw [if_neg hc]
        replace o5 := o5.offk f3 (by omega)
        have P3 : PassF (Z.bs b) (Z.bs b) h h3 := (PassF.of_ext x02).trans (.of_off f3 (.inl (by simp [YZ.bs])))
        have hP3 := P3.1
        refine gA ?_
        refine Sl.loadGF cellsO_len y3.o.sl ep hz (by decide) rfl ?_
        rw [e1]
        refine gA ?_
        refine new_own (e := 53) 7 1 (cellsK (⟨⟨kl⟩⟩, v)) rfl rfl ?_
        intro h4 b64 w64 x4 z4 hb64
        have y4 := y3.ext x4
        have hx4 := x4.1
        have wp := y4.all _ (List.getElem_mem hz)
        rw [e1] at wp
        have P4 := P3.trans (.of_ext x4)
        refine gA ?_
        refine w64.sl.cells ?_
        refine Own.grow (m := 1) wp (Nat.zero_le _) rfl rfl (cellsKs_one [(⟨⟨kl⟩⟩, v)]) (by omega) ?_
        intro h6 a6 c6 w6 g6
        have hg6 := g6.1
        have p0l : p0.block < h4.size := (y4.o.lt p0 ep0).2
        have oo := Own.same y4.o (fun y hy => by
          obtain ⟨q, eq, rfl⟩ := blk_of hy
          obtain rfl : p0 = q := by rw [ep0] at eq; exact Option.some.inj eq
          exact g6.2.1 p0.block p0l hpn)
        have na6 : ∀ p, a6 = some p → p.block ≠ p0.block := by
          intro p ep6
          rcases g6.2.2 p ep6 with ⟨q, eq, e⟩ | hq
          · rw [e]; exact hpn q eq
          · omega
        have ewp : cellsKs H.objs[i].props ++ cellsK (⟨⟨kl⟩⟩, v) = cellsKs (H.objs[i].props ++ [(⟨⟨kl⟩⟩, v)]) := by rw [cellsKs_append]; rfl
        refine gA ?_
        refine Own.storeRow cellsO_len oo ep hz ((⟨H.objs[i].cls, H.objs[i].proto, H.objs[i].props ++ [(⟨⟨kl⟩⟩, v)], H.objs[i].long⟩, a6, c6) : RO) (j := 4) (vs := [.slice a6 (H.objs[i].props.length + 1) c6]) (by rw [eZ]; simp) (by simp) (by simp [isOne]) fun h7 f7 z7 w7 => ?_
        have w67 := w6.off f7 na6
        rw [ewp] at w67
        have hz7 : i < (Z.os.set i ((⟨H.objs[i].cls, H.objs[i].proto, H.objs[i].props ++ [(⟨⟨kl⟩⟩, v)], H.objs[i].long⟩, a6, c6) : RO)).length := by simpa using hz
        have eg7 : (Z.os.set i ((⟨H.objs[i].cls, H.objs[i].proto, H.objs[i].props ++ [(⟨⟨kl⟩⟩, v)], H.objs[i].long⟩, a6, c6) : RO))[i] = (⟨H.objs[i].cls, H.objs[i].proto, H.objs[i].props ++ [(⟨⟨kl⟩⟩, v)], H.objs[i].long⟩, a6, c6) := List.getElem_set_self _
        refine gA ?_
        refine Sl.loadGF cellsO_len w7.sl ep hz7 (by decide) rfl ?_
        rw [eg7]
        refine gA ?_
        refine Z5 ?_ ⟨by show (-9223372036854775808 : Int) ≤ (j : Int) + 1; omega, by show (j : Int) + 1 ≤ (9223372036854775807 : Int); omega⟩
        refine gA ?_
        have emx : (if (j : Int) + 1 > (H.objs[i].long : Int) then (j : Int) + 1 else (H.objs[i].long : Int)) = ((max H.objs[i].long (j + 1) : Nat) : Int) := by split <;> omega
        refine Own.storeRow cellsO_len w7 ep hz7 ((⟨H.objs[i].cls, H.objs[i].proto, H.objs[i].props ++ [(⟨⟨kl⟩⟩, v)], max H.objs[i].long (j + 1)⟩, a6, c6) : RO) (j := 6) (vs := [.int .i64 (if (j : Int) + 1 > (H.objs[i].long : Int) then (j : Int) + 1 else (H.objs[i].long : Int))]) (by rw [eg7, emx]; simp) (by simp) (by simp [isOne]) fun h8 f8 z8 w8 => ?_
        rw [List.set_set] at w8
        have w68 := w67.off f8 na6
        obtain ⟨u1, u2⟩ := y4.upd hz ((⟨H.objs[i].cls, H.objs[i].proto, H.objs[i].props ++ [(⟨⟨kl⟩⟩, v)], max H.objs[i].long (j + 1)⟩, a6, c6) : RO) w8 (by rw [List.length_append]; exact w68) (by have := f7.1; have := f8.1; omega) (fun y hy h1 h2 => by
          rw [f8.2 y (by have := f7.1; omega) (fun e => h1 (by rw [e]; exact blk_mem ep0)), f7.2 y (by omega) (fun e => h1 (by rw [e]; exact blk_mem ep0)), g6.2.1 y hy (fun p ep' e => h2 (by rw [← e]; exact blk_mem ep'))]) (fun y hy => by
          obtain ⟨p, ep', rfl⟩ := blk_of hy
          rcases g6.2.2 p ep' with ⟨q, eq, e⟩ | hq
          · exact .inl (by rw [e]; exact blk_mem eq)
          · exact .inr hq)
        refine gA ?_
        exact ⟨0, _, rfl, u1, P4.trans u2⟩
    · have ea : arrIx H.objs[i] ⟨⟨kl⟩⟩ = none := by unfold arrIx; rw [if_neg har]
      have ef : farP H.objs[i] ⟨⟨kl⟩⟩ = false := by unfold farP; rw [ea]
      have eL : longP H.objs[i] ⟨⟨kl⟩⟩ = H.objs[i].long := by unfold longP; rw [ea]
      have q5 : strEq H.objs[i].cls ⟨#[65, 114, 114, 97, 121]⟩ = false := by
        have : isArr H.objs[i] = false := by simpa using har
        exact this
      rw [ef, eL, if_neg (show ¬ (false = true) by simp)]
      refine gA ?_
      refine Sl.loadGF cellsO_len y2.o.sl ep hz (by decide) rfl ?_
      rw [e1]
      refine gA ?_
      refine HCall.mk ((rtake_spec y2 ⟨by omega, by omega⟩ hu (by omega)).mono ?_)
      rintro e h3 (⟨hc, rfl, rfl⟩ | ⟨hc, rfl, y3, f3⟩)
      · rw [if_pos hc]
        refine gA ?_
        exact ⟨_, Z, rfl, y2, .of_ext x02⟩
      rw [if_neg hc]
      replace o5 := o5.offk f3 (by omega)
      have P3 : PassF (Z.bs b) (Z.bs b) h h3 := (PassF.of_ext x02).trans (.of_off f3 (.inl (by simp [YZ.bs])))
      have hP3 := P3.1
      refine gA ?_
      refine Sl.loadGF cellsO_len y3.o.sl ep hz (by decide) rfl ?_
      rw [e1]
      refine gA ?_
      refine new_own (e := 53) 7 1 (cellsK (⟨⟨kl⟩⟩, v)) rfl rfl ?_
      intro h4 b64 w64 x4 z4 hb64
      have y4 := y3.ext x4
      have hx4 := x4.1
      have wp := y4.all _ (List.getElem_mem hz)
      rw [e1] at wp
      have P4 := P3.trans (.of_ext x4)
      refine gA ?_
      refine w64.sl.cells ?_
      refine Own.grow (m := 1) wp (Nat.zero_le _) rfl rfl (cellsKs_one [(⟨⟨kl⟩⟩, v)]) (by omega) ?_
      intro h6 a6 c6 w6 g6
      have hg6 := g6.1
      have p0l : p0.block < h4.size := (y4.o.lt p0 ep0).2
      have oo := Own.same y4.o (fun y hy => by
        obtain ⟨q, eq, rfl⟩ := blk_of hy
        obtain rfl : p0 = q := by rw [ep0] at eq; exact Option.some.inj eq
        exact g6.2.1 p0.block p0l hpn)
      have na6 : ∀ p, a6 = some p → p.block ≠ p0.block := by
        intro p ep6
        rcases g6.2.2 p ep6 with ⟨q, eq, e⟩ | hq
        · rw [e]; exact hpn q eq
        · omega
      have ewp : cellsKs H.objs[i].props ++ cellsK (⟨⟨kl⟩⟩, v) = cellsKs (H.objs[i].props ++ [(⟨⟨kl⟩⟩, v)]) := by rw [cellsKs_append]; rfl
      refine gA ?_
      refine Own.storeRow cellsO_len oo ep hz ((⟨H.objs[i].cls, H.objs[i].proto, H.objs[i].props ++ [(⟨⟨kl⟩⟩, v)], H.objs[i].long⟩, a6, c6) : RO) (j := 4) (vs := [.slice a6 (H.objs[i].props.length + 1) c6]) (by rw [eZ]; simp) (by simp) (by simp [isOne]) fun h7 f7 z7 w7 => ?_
      have w67 := w6.off f7 na6
      rw [ewp] at w67
      obtain ⟨u1, u2⟩ := y4.upd hz ((⟨H.objs[i].cls, H.objs[i].proto, H.objs[i].props ++ [(⟨⟨kl⟩⟩, v)], H.objs[i].long⟩, a6, c6) : RO) w7 (by rw [List.length_append]; exact w67) (by have := f7.1; omega) (fun y hy h1 h2 => by
        rw [f7.2 y (by omega) (fun e => h1 (by rw [e]; exact blk_mem ep0)), g6.2.1 y hy (fun p ep' e => h2 (by rw [← e]; exact blk_mem ep'))]) (fun y hy => by
        obtain ⟨p, ep', rfl⟩ := blk_of hy
        rcases g6.2.2 p ep' with ⟨q, eq, e⟩ | hq
        · exact .inl (by rw [e]; exact blk_mem eq)
        · exact .inr hq)
      refine gA ?_
      exact ⟨0, _, rfl, u1, P4.trans u2⟩
set_option maxHeartbeats 16000000
theorem flat_set_same {α : Type} {f : α → List Value} {l : List α} {i : Nat} (hi : i < l.length) {y : α} (e : f y = f l[i]) : (l.set i y).flatMap f = l.flatMap f := by
  rw [List.set_eq_take_append_cons_drop, if_pos hi, List.flatMap_append, List.flatMap_cons, e]
  conv => rhs; rw [← List.take_append_drop i l, List.drop_eq_getElem_cons hi, List.flatMap_append, List.flatMap_cons]
theorem rput_spec {h : Heap} {b : Nat} {H : PH} {Z : YZ} (x : YR h b H Z) (g : Good H) (hu : 0 ≤ H.used) (v : VV) (hn : i64 v.n) (key : ByteArray) (y : VV) (hy : i64 y.n) (hk : key.size ≤ 2097152) :
    HCalls Tryz.prog 45 #[.pointer (some ⟨b, 0, none⟩), .agg (cellsV v).toArray, .string key, .agg (cellsV y).toArray] h fun e h' => ∃ (m : Int) (Z' : YZ), e = .returned (.int .i64 m) ∧ YR h' b (putP H v key y) Z' ∧ PassF (Z.bs b) (Z'.bs b) h h' := by
  refine c45 (by simp) ?_
  have few := g.few
  have hlen := x.len
  refine gA ?_
  refine new_var (e := 24) (cellsV v) rfl ?_
  intro h1 b5 o5 x1 z1 hb5
  refine gA ?_
  refine new_var (e := 24) (cellsV y) rfl ?_
  intro h2 b7 o7 x2 z2 hb7
  replace o5 := o5.ext x2
  have x02 := x1.trans x2
  have hx1 := x1.1
  have lb := x.b.lt
  refine gA ?_
  refine HCall.mk ((rat_spec (x.ext x02) v hn few.len).mono ?_)
  rintro e h3 ⟨rfl, x3⟩
  replace o5 := o5.ext x3
  replace o7 := o7.ext x3
  have x03 := x02.trans x3
  cases ha : atP H v with
  | none =>
    have ei : putP H v key y = H := by unfold putP; rw [ha]
    rw [ei]
    have q : decide (atR none < 0) = true := rfl
    refine gA ?_
    exact ⟨_, Z, rfl, x.ext x03, .of_ext x03⟩
  | some i =>
    have hi := atP_lt ha
    have hz : i < Z.os.length := by omega
    have q : decide (atR (some i) < 0) = false := decide_eq_false (by show ¬ (i : Int) < 0; omega)
    have ei : putP H v key y = putO H i H.objs[i] key y := by
      unfold putP; rw [ha]
      show (match H.objs[i]? with | none => H | some o => putO H i o key y) = _
      rw [List.getElem?_eq_getElem hi]
    rw [ei]
    have e1 := x.at hi hz
    have ho : H.objs[i] ∈ H.objs := List.getElem_mem hi
    have hpl := few.props _ ho
    have kok := g.keys _ ho
    have eZ : Z.os[i] = (H.objs[i], Z.os[i].2.1, Z.os[i].2.2) := by rw [← e1]
    have elv : isLenV H v key = isLenP H.objs[i] key := by unfold isLenV; rw [findP_some ha]
    have epi : propI H v key = findI key H.objs[i].props := by unfold propI; rw [findP_some ha, Option.bind_some]
    refine gA ?_
    refine HCall.mk ((risLen_spec (x.ext x03) v hn few.len key).mono ?_)
    rintro e h4 ⟨rfl, x4⟩
    replace o5 := o5.ext x4
    replace o7 := o7.ext x4
    have x04 := x03.trans x4
    have y4 := x.ext x04
    have o := y4.b
    rw [elv]
    unfold putO
    cases hl : isLenP H.objs[i] key with
    | true =>
      rw [if_pos rfl]
      refine gA ?_
      refine HIdx.mk i rfl hz ?_
      refine sl_some y4.o.sl hz fun p ep => ?_
      refine gA ?_
      refine Sl.loadGF cellsO_len y4.o.sl ep hz (by decide) rfl ?_
      have q2 : (!true) = false := rfl
      refine gA ?_
      refine HCall.mk ((rlength_spec y4 g hi hz (ownP_len hl) y hy).mono ?_)
      rintro e h5 ⟨m, Z', rfl, y5, P5⟩
      refine gA ?_
      exact ⟨_, Z', rfl, y5, (PassF.of_ext x04).trans P5⟩
    | false =>
      rw [if_neg (show ¬ (false = true) by simp)]
      refine gA ?_
      refine HCall.mk ((rprop_spec y4 g v hn key hk).mono ?_)
      rintro e h5 ⟨rfl, x5⟩
      replace o5 := o5.ext x5
      replace o7 := o7.ext x5
      have x05 := x04.trans x5
      have y5 := x.ext x05
      have o' := y5.b
      rw [epi]
      have wp := y5.all _ (List.getElem_mem hz)
      rw [e1] at wp
      cases hf : findI key H.objs[i].props with
      | some k =>
        obtain ⟨hkl, hkk, hlk⟩ := findI_some hf
        have q2 : decide (atR (some k) ≥ 0) = true := decide_eq_true (by show (0 : Int) ≤ (k : Int); omega)
        rw [hlk]
        refine gA ?_
        refine HIdx.mk i rfl hz ?_
        refine sl_some y5.o.sl hz fun p ep => ?_
        refine gA ?_
        refine Sl.loadGF cellsO_len y5.o.sl ep hz (by decide) rfl ?_
        rw [e1]
        refine gA ?_
        refine HIdx.mk k rfl hkl ?_
        refine sl_some wp.sl hkl fun a ea => ?_
        refine gA ?_
        refine Sl.loadF (f := 4) wp.sl ea hkl (by decide) rfl ?_
        have q3 : (!true) = false := rfl
        refine gA ?_
        refine HIdx.mk i rfl hz ?_
        refine sl_some y5.o.sl hz fun p' ep' => ?_
        refine gA ?_
        refine Sl.loadGF cellsO_len y5.o.sl ep' hz (by decide) rfl ?_
        rw [e1]
        refine gA ?_
        refine HIdx.mk k rfl hkl ?_
        refine sl_some wp.sl hkl fun a' ea' => ?_
        refine gA ?_
        refine Own.setV wp ea' hkl y fun h8 f8 z8 w8 => ?_
        obtain ⟨p0, ep0⟩ := oa_some x hz
        have hpn := pa_ne x hz ep0
        have o8 := y5.o.off f8 (fun q eq => by rw [ep0] at eq; cases eq; exact (hpn a' ea').symm)
        have esame : cellsO ((⟨H.objs[i].cls, H.objs[i].proto, setP key y H.objs[i].props, H.objs[i].long⟩, Z.os[i].2.1, Z.os[i].2.2) : RO) = cellsO Z.os[i] := by
          rw [eZ, setP_at hf]
          simp only [cellsO, List.length_set]
        have w8' : Own h8 0 53 7 Z.os[i].2.1 (setP key y H.objs[i].props).length Z.os[i].2.2 (cellsKs (setP key y H.objs[i].props)) := by
          rw [setP_at hf, List.length_set]
          have : H.objs[i].props.set k (key, y) = H.objs[i].props.set k (H.objs[i].props[k].1, y) := by rw [hkk]
          rw [this]
          have w9 := w8
          rw [List.length_set] at w9
          exact w9
        obtain ⟨u1, u2⟩ := y5.upd hz ((⟨H.objs[i].cls, H.objs[i].proto, setP key y H.objs[i].props, H.objs[i].long⟩, Z.os[i].2.1, Z.os[i].2.2) : RO) (by rw [flat_set_same hz esame, List.length_set]; exact o8) w8' f8.1 (fun q hq h1 h2 => f8.2 q hq (fun e => h2 (by rw [e]; exact blk_mem ea'))) (fun q hq => .inl hq)
        refine gA ?_
        exact ⟨_, _, rfl, u1, (PassF.of_ext x05).trans u2⟩
      | none =>
        have q2 : decide (atR none ≥ 0) = false := rfl
        rw [(findI_none hf).1]
        have pr := g.wf.num i hi
        refine gA ?_
        refine HIdx.mk i rfl hz ?_
        refine sl_some y5.o.sl hz fun p ep => ?_
        refine gA ?_
        refine Sl.loadGN cellsO_len y5.o.sl ep hz (by decide) ?_
        have ev : (((cellsO Z.os[i]).drop 1).take 3) = cellsV H.objs[i].proto := by rw [← e1]; rfl
        rw [ev]
        refine gA ?_
        refine HCall.mk ((rfind_spec y5 g H.objs[i].proto pr key hk).mono ?_)
        rintro e h6 ⟨e1', e2', rfl, x6⟩
        replace o7 := o7.ext x6
        have hlc := propC_len key e1' e2' (seekL key (chainP H H.objs[i].proto))
        have x06 := x05.trans x6
        have hx06 := x06.1
        have l7 := o7.lt
        refine gA ?_
        refine new_var (e := 53) zeroK rfl ?_
        intro h7 b11 o11 x7 z7 hb11
        replace o7 := o7.ext x7
        refine gA ?_
        refine HMust.mk (by simp [propC_len]) ?_
        refine store_blk o11 (by simp [propC_len]) (by simpa using propC_one key e1' e2' (seekL key (chainP H H.objs[i].proto))) ?_
        intro h8 f8 z8 o8
        replace o8 : BlkW h8 b11 53 (propC key e1' e2' (seekL key (chainP H H.objs[i].proto))) := by simpa [propC_len] using o8
        replace o7 := o7.offk f8 (by omega)
        have x08 : Ext h h8 := (x06.trans x7).offNew f8 (by omega)
        have o8' : (seekL key (chainP H H.objs[i].proto)).isSome = false ∨ ((seekL key (chainP H H.objs[i].proto)).isSome = true ∧ ∃ w : VV, BlkW h8 b11 53 [.string key, .int .i64 w.k, .int .i64 w.n, .string w.s, .bool true, .bool e1', .bool e2']) := by
          cases hs : seekL key (chainP H H.objs[i].proto) with
          | none => exact .inl rfl
          | some w => rw [hs] at o8; exact .inr ⟨rfl, w, o8⟩
        clear o8
        have q9 : (!true) = false := rfl
        rcases o8' with q3 | ⟨q3, w, o8⟩
        all_goals
          refine gA ?_
          refine HCall.mk ((rhadd_spec (x.ext x08) g hu hi hz key y hk).mono ?_)
          rintro e h9 ⟨m, Z', rfl, y9, P9⟩
          refine gA ?_
          exact ⟨_, Z', rfl, y9, (PassF.of_ext x08).trans P9⟩
end Go.Proofs.YtadkdfecmpjmdaaGreatDoor.Hc
/-
  DERIVED: THE SHELF's CONTRACTS AT THIS DUMP, IN PLAIN WORDS (tools/lay-plain.mjs out of 'YtadkdfecmpjmdaaGreatDoorS3.lean', which tools/lay-shelf.mjs wrote): THE SAME DECLARATIONS UNDER THE SAME NAMES: 'import', 'namespace', 'open', 'def', 'theorem' AND NOTHING ELSE: no command of the shelf's: FOR A HAND-IN. Each laying: the table of numbers ('.._ren') and one theorem, a field a fact of the dump's own or the kernel's comparison; each contract: ONE APPLICATION.
-/
namespace Go.Proofs
open Go.Shelf
end Go.Proofs
namespace Go.Proofs
end Go.Proofs
namespace Go.Proofs.YtadkdfecmpjmdaaGreatDoor.Hc
open Go Go.H Go.Proofs
set_option maxRecDepth 100000
set_option maxHeartbeats 16000000
theorem rulen_spec (l : List UInt8) (hl : l.length ≤ 2097152) (h : Heap) : HCalls Tryz.prog 46 #[.string ⟨l.toArray⟩] h fun e h' => e = .returned (.int .i64 (l.length / 2 : Nat)) ∧ Ext h h' := by
  refine c46 (by simp) ?_
  refine gA ?_
  refine HCall.mk ((rlist_spec l hl h).mono ?_)
  rintro e h1 ⟨a, c, rfl, sl, x1⟩
  have := ulist_len l
  rw [← this]
  refine gA ?_
  exact ⟨rfl, x1⟩
set_option maxHeartbeats 16000000
set_option maxHeartbeats 16000000
set_option maxHeartbeats 16000000
theorem rbool_spec (c : Bool) (h : Heap) : HCalls Tryz.prog 38 #[.bool c] h fun e h' => e = .returned (.agg (cellsV (boolV c)).toArray) ∧ Ext h h' := by
  refine c38 (by simp) ?_
  refine gA ?_
  refine new_var (e := 24) [.int .i64 0, .int .i64 0, .string ⟨#[]⟩] rfl ?_
  intro h1 b2 o2 x1 z1 hb2
  cases c with
  | false =>
    refine gA ?_
    refine store_blk o2 (by simp) (by simp [isOne]) ?_
    intro hr fr zr orr
    replace orr : BlkW hr b2 24 [.int .i64 2, .int .i64 0, .string ⟨#[]⟩] := by simpa using orr
    refine gA ?_
    exact ⟨rfl, (x1).offNew fr (by omega)⟩
  | true =>
    refine gA ?_
    refine store_blk o2 (by simp) (by simp [isOne]) ?_
    intro hr fr zr orr
    replace orr : BlkW hr b2 24 [.int .i64 2, .int .i64 1, .string ⟨#[]⟩] := by simpa using orr
    refine gA ?_
    exact ⟨rfl, (x1).offNew fr (by omega)⟩
set_option maxHeartbeats 16000000
end Go.Proofs.YtadkdfecmpjmdaaGreatDoor.Hc
