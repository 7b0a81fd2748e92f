import Derived.Test.YtadkdfecmpjmdaaGreatDoorPc
import Derived.KernelRfl
import Derived.Test.YtadkdfecmpjmdaaGreatDoorPa
import Derived.ChangeArms
import Derived.Test.YtadkdfecmpjmdaaGreatDoorRows
import Derived.WalkKit
import Derived.ProofKit
import Derived.OpenShut
import Derived.Deep.DeepHandedRow
import Derived.Lib.LaidTab
import Derived.Lib.ItoaNum
set_option linter.unusedVariables false
set_option linter.unusedSimpArgs false
namespace Go.Proofs.YtadkdfecmpjmdaaGreatDoor.Hc
open Go Go.H Go.Proofs
set_option maxRecDepth 100000
open Go Go.H Go.Proofs
set_option maxRecDepth 100000
set_option maxHeartbeats 16000000
structure OI where
  c : Int
  p : Int
  ks : List ByteArray
  vs : List VV
structure OIOk (o : OI) : Prop where
  c : i64 o.c
  p : i64 o.p
  ks : o.ks.length ≤ 1048576
  vs : o.vs.length ≤ 1048576
  k : ∀ k ∈ o.ks, k.size ≤ 1048576
  v : ∀ v ∈ o.vs, i64 v.k ∧ i64 v.n ∧ v.s.size ≤ 1048576
def clsI (c : Int) : ByteArray :=
  if (c.tmod 4 + 4).tmod 4 = 0 then ⟨#[79, 98, 106, 101, 99, 116]⟩ else if (c.tmod 4 + 4).tmod 4 = 1 then arrS else if (c.tmod 4 + 4).tmod 4 = 2 then errS else funcS
def goodV (v : VV) (many : Nat) : VV :=
  if v.k = 1 then nullV
  else if v.k = 2 then ⟨2, (v.n.tmod 2 + 2).tmod 2, noS⟩
  else if v.k = 3 then (if -9007199254740991 ≤ v.n ∧ v.n ≤ 9007199254740991 then ⟨3, v.n, noS⟩ else undefV)
  else if v.k = 4 then (if v.s.size % 2 = 0 ∧ v.s.size / 2 ≤ 4096 then ⟨4, 0, v.s⟩ else undefV)
  else if v.k = 7 then (if 1 ≤ v.n ∧ v.n ≤ (many : Int) then ⟨7, v.n, noS⟩ else undefV)
  else undefV
theorem vok_goodV (v : VV) (many : Nat) (hm : many ≤ 1000000) : VOk (goodV v many) := by
  unfold goodV
  have z : VOk nullV := ⟨by decide, by decide, by decide, by decide, fun _ => rfl, fun _ _ _ => rfl, fun h => by cases h⟩
  split
  · exact z
  split
  · have h1 : (v.n.tmod 2 + 2).tmod 2 = 0 ∨ (v.n.tmod 2 + 2).tmod 2 = 1 := by
      have h1 := Int.tmod_lt_of_pos v.n (b := 2) (by decide)
      have h2 := Int.lt_tmod_of_pos v.n (b := 2) (by decide)
      rcases (show v.n.tmod 2 = -1 ∨ v.n.tmod 2 = 0 ∨ v.n.tmod 2 = 1 by omega) with e | e | e <;> rw [e] <;> decide
    exact ⟨⟨by show (0 : Int) ≤ 2; decide, by show (2 : Int) ≤ 7; decide⟩, ⟨by show _ ≤ (v.n.tmod 2 + 2).tmod 2; omega, by show (v.n.tmod 2 + 2).tmod 2 ≤ _; omega⟩, by show (0 : Nat) ≤ 8192; omega, rfl, fun _ => rfl, fun h => absurd rfl h, fun _ => h1⟩
  split
  · split
    · rename_i h1
      exact ⟨⟨by show (0 : Int) ≤ 3; decide, by show (3 : Int) ≤ 7; decide⟩, h1, by show (0 : Nat) ≤ 8192; omega, rfl, fun _ => rfl, fun _ h => absurd rfl h, fun h => by cases h⟩
    · exact vok_undef
  split
  · split
    · rename_i h1
      exact ⟨⟨by show (0 : Int) ≤ 4; decide, by show (4 : Int) ≤ 7; decide⟩, ⟨by show (-9007199254740991 : Int) ≤ 0; decide, by show (0 : Int) ≤ 9007199254740991; decide⟩, by show v.s.size ≤ 8192; omega, h1.1, fun h => absurd rfl h, fun _ _ _ => rfl, fun h => by cases h⟩
    · exact vok_undef
  split
  · split
    · rename_i h1
      exact ⟨⟨by show (0 : Int) ≤ 7; decide, by show (7 : Int) ≤ 7; decide⟩, ⟨by show (-9007199254740991 : Int) ≤ v.n; omega, by show v.n ≤ (9007199254740991 : Int); omega⟩, by show (0 : Nat) ≤ 8192; omega, rfl, fun _ => rfl, fun _ _ h => absurd rfl h, fun h => by cases h⟩
    · exact vok_undef
  · exact vok_undef
theorem clsI_ok (c : Int) : (clsI c).size ≤ 16 ∧ plainL (clsI c).data.toList := by
  unfold clsI
  split
  · exact ⟨by decide, by unfold plainL; decide⟩
  split
  · exact ⟨by decide, by unfold plainL; decide⟩
  split
  · exact ⟨by decide, by unfold plainL; decide⟩
  · exact ⟨by decide, by unfold plainL; decide⟩
structure Bld2 (H : PH) : Prop where
  g : Good H
  c : ClsOk H
  u : 0 ≤ H.used
theorem bld_new : Bld2 ⟨[], 3000, 0⟩ := ⟨good_new 3000 (by decide) (by decide), ⟨fun o ho => by simp at ho⟩, by decide⟩
theorem bld_make {H : PH} (x : Bld2 H) (c p : Int) : Bld2 (makeP H (clsI c) ⟨7, p, noS⟩) := by
  refine ⟨good_make x.g _ _, ⟨fun o ho => ?_⟩, ?_⟩
  · unfold makeP at ho
    split at ho
    · exact x.c.all o ho
    · rcases List.mem_append.1 ho with h1 | h1
      · exact x.c.all o h1
      · simp only [List.mem_cons, List.not_mem_nil, or_false] at h1
        rw [h1]
        exact clsI_ok c
  · unfold makeP
    have := x.u
    split
    · exact this
    · show (0 : Int) ≤ H.used + 1; omega
theorem upd_cls {H : PH} {i : Nat} {o : PO} {u : Int} (c : ClsOk H) (hi : i < H.objs.length) (e : o.cls = H.objs[i].cls) : ClsOk ⟨H.objs.set i o, H.most, u⟩ := by
  refine ⟨fun q hq => ?_⟩
  rcases List.mem_or_eq_of_mem_set hq with h1 | h1
  · exact c.all q h1
  · rw [h1, e]; exact c.all _ (List.getElem_mem hi)
theorem bld_put {H : PH} (x : Bld2 H) (v : VV) (key : ByteArray) (y : VV) (hy : VOk y) (he : key.size % 2 = 0) (hs : key.size ≤ 2097152) : Bld2 (putP H v key y) := by
  refine ⟨good_put x.g v key y hy he hs, ?_, ?_⟩
  · unfold putP
    cases ha : atP H v with
    | none => exact x.c
    | some i =>
      have hi := atP_lt ha
      show ClsOk (match H.objs[i]? with | none => H | some o => putO H i o key y)
      rw [List.getElem?_eq_getElem hi]
      show ClsOk (putO H i H.objs[i] key y)
      unfold putO
      split
      · split
        · exact upd_cls x.c hi rfl
        · exact x.c
      · split
        · exact upd_cls x.c hi rfl
        · split
          · exact x.c
          · split
            · exact x.c
            · exact upd_cls x.c hi rfl
  · unfold putP
    have hu := x.u
    cases ha : atP H v with
    | none => exact hu
    | some i =>
      have hi := atP_lt ha
      show (0 : Int) ≤ (match H.objs[i]? with | none => H | some o => putO H i o key y).used
      rw [List.getElem?_eq_getElem hi]
      show (0 : Int) ≤ (putO H i H.objs[i] key y).used
      unfold putO
      split
      · split <;> exact hu
      · split
        · exact hu
        · split
          · exact hu
          · split
            · exact hu
            · show (0 : Int) ≤ H.used + 1; omega
def makesP (H : PH) (l : List OI) : PH := l.foldl (fun H o => makeP H (clsI o.c) ⟨7, o.p, noS⟩) H
theorem makesP_snoc (H : PH) (l : List OI) (o : OI) : makesP H (l ++ [o]) = makeP (makesP H l) (clsI o.c) ⟨7, o.p, noS⟩ := by unfold makesP; rw [List.foldl_append]; rfl
theorem bld_makes {H : PH} (x : Bld2 H) (l : List OI) : Bld2 (makesP H l) := by
  induction l generalizing H with
  | nil => exact x
  | cons o r ih => exact ih (bld_make x o.c o.p)
def putK (many i : Nat) (vs : List VV) (H : PH) (k : Nat) (key : ByteArray) : PH :=
  if k < vs.length ∧ k < 60 ∧ key.size % 2 = 0 then putP H ⟨7, (i : Int) + 1, noS⟩ key (goodV (vs[k]?.getD undefV) many) else H
def putsK (many i : Nat) (vs : List VV) : List ByteArray → Nat → PH → PH
  | [], _, H => H
  | key :: r, k, H => putsK many i vs r (k + 1) (putK many i vs H k key)
def putsO (many : Nat) : List OI → Nat → PH → PH
  | [], _, H => H
  | o :: r, i, H => putsO many r (i + 1) (putsK many i o.vs o.ks 0 H)
def buildP (l : List OI) : PH := putsO l.length l 0 (makesP ⟨[], 3000, 0⟩ l)
theorem bld_putK {H : PH} (x : Bld2 H) (many i : Nat) (hm : many ≤ 1000000) (vs : List VV) (k : Nat) (key : ByteArray) (hs : key.size ≤ 1048576) : Bld2 (putK many i vs H k key) := by
  unfold putK
  split
  · rename_i h1
    exact bld_put x _ _ _ (vok_goodV _ _ hm) h1.2.2 (by omega)
  · exact x
theorem bld_putsK (many i : Nat) (hm : many ≤ 1000000) (vs : List VV) : ∀ (ks : List ByteArray) (k : Nat) (H : PH), (∀ key ∈ ks, key.size ≤ 1048576) → Bld2 H → Bld2 (putsK many i vs ks k H)
  | [], _, _, _, x => x
  | key :: r, k, H, h, x => bld_putsK many i hm vs r (k + 1) _ (fun q hq => h q (by simp [hq])) (bld_putK x many i hm vs k key (h key (by simp)))
theorem bld_putsO (many : Nat) (hm : many ≤ 1000000) : ∀ (l : List OI) (i : Nat) (H : PH), (∀ o ∈ l, OIOk o) → Bld2 H → Bld2 (putsO many l i H)
  | [], _, _, _, x => x
  | o :: r, i, H, h, x => bld_putsO many hm r (i + 1) _ (fun q hq => h q (by simp [hq])) (bld_putsK many i hm o.vs o.ks 0 H (h o (by simp)).k x)
theorem bld_build {l : List OI} (h : ∀ o ∈ l, OIOk o) (hl : l.length ≤ 1000000) : Bld2 (buildP l) := bld_putsO l.length hl l 0 _ h (bld_makes bld_new l)
set_option maxHeartbeats 16000000
theorem class_spec (c : Int) (hc : i64 c) (h : Heap) : HCalls Tryz.prog 41 #[.int .i64 c] h fun e h' => e = .returned (.string (clsI c)) ∧ h' = h := by
  refine c41 (by simp) ?_
  have h1 := Int.tmod_lt_of_pos c (b := 4) (by decide)
  have h2 := Int.lt_tmod_of_pos c (b := 4) (by decide)
  have h3 := Int.tmod_lt_of_pos (c.tmod 4 + 4) (b := 4) (by decide)
  have h4 : 0 ≤ (c.tmod 4 + 4).tmod 4 := Int.tmod_nonneg 4 (by omega)
  obtain ⟨i, hi⟩ : ∃ i : Nat, (c.tmod 4 + 4).tmod 4 = i := ⟨((c.tmod 4 + 4).tmod 4).toNat, by omega⟩
  have hi4 : i < 4 := by omega
  refine gA ?_
  refine raw_idx1 (v := .string (clsI c)) (cs := #[.string ⟨#[79, 98, 106, 101, 99, 116]⟩, .string ⟨#[65, 114, 114, 97, 121]⟩, .string ⟨#[69, 114, 114, 111, 114]⟩, .string ⟨#[70, 117, 110, 99, 116, 105, 111, 110]⟩]) i rfl ?_ ?_ Tryz.underlying120 hi4 (by kernel_rfl) (by kernel_rfl) ?_ ?_
  · rfl
  · show Value.int .i64 ((c.tmod 4 + 4).tmod 4) = _
    rw [hi]
  · unfold clsI
    rw [hi]
    rcases (show i = 0 ∨ i = 1 ∨ i = 2 ∨ i = 3 by omega) with rfl | rfl | rfl | rfl <;> rfl
  refine gA ?_
  exact ⟨rfl, rfl⟩
theorem good_spec (v : VV) (many : Nat) (hk : i64 v.k) (hn : i64 v.n) (hs : v.s.size ≤ 1048576) (h : Heap) : HCalls Tryz.prog 11 #[.agg (cellsV v).toArray, .int .i64 many] h fun e h' => e = .returned (.agg (cellsV (goodV v many)).toArray) ∧ Ext h h' := by
  refine c11 (by simp) ?_
  refine gA ?_
  refine new_var (e := 24) (cellsV v) rfl ?_
  intro h1 b2 o2 x1 z1 hb2
  refine gA ?_
  refine new_var (e := 24) [.int .i64 0, .int .i64 0, .string ⟨#[]⟩] rfl ?_
  intro h2 b4 o4 x2 z2 hb4
  replace o2 := o2.ext x2
  have x02 := x1.trans x2
  have hx1 := x1.1
  refine gA ?_
  by_cases k1 : v.k = 1
  · have q1 : (v.k == 1) = true := by rw [k1]; rfl
    have e : goodV v many = nullV := by unfold goodV; rw [if_pos k1]
    rw [e]
    refine gA ?_
    refine store_blk o4 (by simp) (by simp [isOne]) ?_
    intro hr fr zr orr
    replace orr : BlkW hr b4 24 (cellsV nullV) := by simpa using orr
    refine gA ?_
    exact ⟨rfl, (x02).offNew fr (by omega)⟩
  have q1 : (v.k == 1) = false := beq_eq_false_iff_ne.2 k1
  by_cases k2 : v.k = 2
  · have q2 : (v.k == 2) = true := by rw [k2]; rfl
    have e : goodV v many = ⟨2, (v.n.tmod 2 + 2).tmod 2, noS⟩ := by unfold goodV; rw [if_neg k1, if_pos k2]
    rw [e]
    have h1 := Int.tmod_lt_of_pos v.n (b := 2) (by decide)
    have h2 := Int.lt_tmod_of_pos v.n (b := 2) (by decide)
    have h3 := Int.tmod_lt_of_pos (v.n.tmod 2 + 2) (b := 2) (by decide)
    have h4 : 0 ≤ (v.n.tmod 2 + 2).tmod 2 := Int.tmod_nonneg 2 (by omega)
    refine gA ?_
    refine store_blk o4 (by simp) (by simp [isOne]) ?_
    intro hr fr zr orr
    replace orr : BlkW hr b4 24 (cellsV (⟨2, (v.n.tmod 2 + 2).tmod 2, noS⟩ : VV)) := by simpa using orr
    refine gA ?_
    exact ⟨rfl, (x02).offNew fr (by omega)⟩
  have q2 : (v.k == 2) = false := beq_eq_false_iff_ne.2 k2
  by_cases k3 : v.k = 3
  · have q3 : (v.k == 3) = true := by rw [k3]; rfl
    by_cases n1 : -9007199254740991 ≤ v.n
    · have q4 : decide (v.n ≥ -9007199254740991) = true := decide_eq_true n1
      by_cases n2 : v.n ≤ 9007199254740991
      · have q5 : decide (v.n ≤ 9007199254740991) = true := decide_eq_true n2
        have e : goodV v many = ⟨3, v.n, noS⟩ := by unfold goodV; rw [if_neg k1, if_neg k2, if_pos k3, if_pos ⟨n1, n2⟩]
        rw [e]
        refine gA ?_
        refine store_blk o4 (by simp) (by simp [isOne]) ?_
        intro hr fr zr orr
        replace orr : BlkW hr b4 24 (cellsV (⟨3, v.n, noS⟩ : VV)) := by simpa using orr
        refine gA ?_
        exact ⟨rfl, (x02).offNew fr (by omega)⟩
      · have q5 : decide (v.n ≤ 9007199254740991) = false := decide_eq_false n2
        have e : goodV v many = undefV := by unfold goodV; rw [if_neg k1, if_neg k2, if_pos k3, if_neg (fun h => n2 h.2)]
        rw [e]
        refine gA ?_
        refine store_blk o4 (by simp) (by simp [isOne]) ?_
        intro hr fr zr orr
        replace orr : BlkW hr b4 24 (cellsV undefV) := by simpa using orr
        refine gA ?_
        exact ⟨rfl, (x02).offNew fr (by omega)⟩
    · have q4 : decide (v.n ≥ -9007199254740991) = false := decide_eq_false n1
      have e : goodV v many = undefV := by unfold goodV; rw [if_neg k1, if_neg k2, if_pos k3, if_neg (fun h => n1 h.1)]
      rw [e]
      refine gA ?_
      refine store_blk o4 (by simp) (by simp [isOne]) ?_
      intro hr fr zr orr
      replace orr : BlkW hr b4 24 (cellsV undefV) := by simpa using orr
      refine gA ?_
      exact ⟨rfl, (x02).offNew fr (by omega)⟩
  have q3 : (v.k == 3) = false := beq_eq_false_iff_ne.2 k3
  by_cases k4 : v.k = 4
  · have q4 : (v.k == 4) = true := by rw [k4]; rfl
    obtain ⟨vk, vn, ⟨⟨sl⟩⟩⟩ := v
    have hsl : sl.length ≤ 1048576 := hs
    have esz : (⟨⟨sl⟩⟩ : ByteArray).size = sl.length := rfl
    refine gA ?_
    refine HCall.mk ((rcheckU_spec sl (by omega) h2).mono ?_)
    rintro e h3 ⟨rfl, rfl⟩
    by_cases he : sl.length % 2 = 0
    · have q5 : decide (sl.length % 2 = 0) = true := decide_eq_true he
      refine gA ?_
      refine HCall.mk ((rulen_spec sl (by omega) h3).mono ?_)
      rintro e h4 ⟨rfl, x4⟩
      replace o2 := o2.ext x4
      replace o4 := o4.ext x4
      by_cases hl : sl.length / 2 ≤ 4096
      · have q6 : decide (((sl.length / 2 : Nat) : Int) ≤ 4096) = true := decide_eq_true (by omega)
        have e : goodV ⟨vk, vn, ⟨⟨sl⟩⟩⟩ many = ⟨4, 0, ⟨⟨sl⟩⟩⟩ := by unfold goodV; rw [if_neg k1, if_neg k2, if_neg k3, if_pos k4, if_pos ⟨he, hl⟩]
        rw [e]
        refine gA ?_
        refine store_blk o4 (by simp) (by simp [isOne]) ?_
        intro hr fr zr orr
        replace orr : BlkW hr b4 24 (cellsV (⟨4, 0, ⟨⟨sl⟩⟩⟩ : VV)) := by simpa using orr
        refine gA ?_
        exact ⟨rfl, (x02.trans x4).offNew fr (by omega)⟩
      · have q6 : decide (((sl.length / 2 : Nat) : Int) ≤ 4096) = false := decide_eq_false (by omega)
        have e : goodV ⟨vk, vn, ⟨⟨sl⟩⟩⟩ many = undefV := by unfold goodV; rw [if_neg k1, if_neg k2, if_neg k3, if_pos k4, if_neg (fun h => hl h.2)]
        rw [e]
        refine gA ?_
        refine store_blk o4 (by simp) (by simp [isOne]) ?_
        intro hr fr zr orr
        replace orr : BlkW hr b4 24 (cellsV undefV) := by simpa using orr
        refine gA ?_
        exact ⟨rfl, (x02.trans x4).offNew fr (by omega)⟩
    · have q5 : decide (sl.length % 2 = 0) = false := decide_eq_false he
      have e : goodV ⟨vk, vn, ⟨⟨sl⟩⟩⟩ many = undefV := by unfold goodV; rw [if_neg k1, if_neg k2, if_neg k3, if_pos k4, if_neg (fun h => he h.1)]
      rw [e]
      refine gA ?_
      refine store_blk o4 (by simp) (by simp [isOne]) ?_
      intro hr fr zr orr
      replace orr : BlkW hr b4 24 (cellsV undefV) := by simpa using orr
      refine gA ?_
      exact ⟨rfl, (x02).offNew fr (by omega)⟩
  have q4 : (v.k == 4) = false := beq_eq_false_iff_ne.2 k4
  by_cases k7 : v.k = 7
  · have q7 : (v.k == 7) = true := by rw [k7]; rfl
    by_cases n1 : 1 ≤ v.n
    · have q5 : decide (v.n ≥ 1) = true := decide_eq_true n1
      by_cases n2 : v.n ≤ (many : Int)
      · have q6 : decide (v.n ≤ (many : Int)) = true := decide_eq_true n2
        have e : goodV v many = ⟨7, v.n, noS⟩ := by unfold goodV; rw [if_neg k1, if_neg k2, if_neg k3, if_neg k4, if_pos k7, if_pos ⟨n1, n2⟩]
        rw [e]
        refine gA ?_
        refine store_blk o4 (by simp) (by simp [isOne]) ?_
        intro hr fr zr orr
        replace orr : BlkW hr b4 24 (cellsV (⟨7, v.n, noS⟩ : VV)) := by simpa using orr
        refine gA ?_
        exact ⟨rfl, (x02).offNew fr (by omega)⟩
      · have q6 : decide (v.n ≤ (many : Int)) = false := decide_eq_false n2
        have e : goodV v many = undefV := by unfold goodV; rw [if_neg k1, if_neg k2, if_neg k3, if_neg k4, if_pos k7, if_neg (fun h => n2 h.2)]
        rw [e]
        refine gA ?_
        refine store_blk o4 (by simp) (by simp [isOne]) ?_
        intro hr fr zr orr
        replace orr : BlkW hr b4 24 (cellsV undefV) := by simpa using orr
        refine gA ?_
        exact ⟨rfl, (x02).offNew fr (by omega)⟩
    · have q5 : decide (v.n ≥ 1) = false := decide_eq_false n1
      have e : goodV v many = undefV := by unfold goodV; rw [if_neg k1, if_neg k2, if_neg k3, if_neg k4, if_pos k7, if_neg (fun h => n1 h.1)]
      rw [e]
      refine gA ?_
      refine store_blk o4 (by simp) (by simp [isOne]) ?_
      intro hr fr zr orr
      replace orr : BlkW hr b4 24 (cellsV undefV) := by simpa using orr
      refine gA ?_
      exact ⟨rfl, (x02).offNew fr (by omega)⟩
  have q7 : (v.k == 7) = false := beq_eq_false_iff_ne.2 k7
  have e : goodV v many = undefV := by unfold goodV; rw [if_neg k1, if_neg k2, if_neg k3, if_neg k4, if_neg k7]
  rw [e]
  refine gA ?_
  refine store_blk o4 (by simp) (by simp [isOne]) ?_
  intro hr fr zr orr
  replace orr : BlkW hr b4 24 (cellsV undefV) := by simpa using orr
  refine gA ?_
  exact ⟨rfl, (x02).offNew fr (by omega)⟩
theorem lnum_spec (n : Int) (h : Heap) : HCalls Tryz.prog 36 #[.int .i64 n] h fun e h' => e = .returned (.agg (cellsV (numV n)).toArray) ∧ Ext h h' := by
  refine c36 (by simp) ?_
  refine gA ?_
  refine new_var (e := 24) [.int .i64 0, .int .i64 0, .string ⟨#[]⟩] rfl ?_
  intro h1 b2 o2 x1 z1 hb2
  refine gA ?_
  refine store_blk o2 (by simp) (by simp [isOne]) ?_
  intro hr fr zr orr
  replace orr : BlkW hr b2 24 (cellsV (numV n)) := by simpa using orr
  refine gA ?_
  exact ⟨rfl, (x1).offNew fr (by omega)⟩
theorem ltext_spec (l : List UInt8) (pl : plainL l) (hl : l.length ≤ 1048576) (h : Heap) : HCalls Tryz.prog 37 #[.string ⟨l.toArray⟩] h fun e h' => e = .returned (.agg (cellsV (strV (uS l))).toArray) ∧ Ext h h' := by
  refine c37 (by simp) ?_
  refine gA ?_
  refine new_var (e := 24) [.int .i64 0, .int .i64 0, .string ⟨#[]⟩] rfl ?_
  intro h1 b2 o2 x1 z1 hb2
  refine gA ?_
  refine HCall.mk ((u_spec l pl hl h1).mono ?_)
  rintro e h2 ⟨rfl, x2⟩
  replace o2 := o2.ext x2
  refine gA ?_
  refine store_blk o2 (by simp) (by simp [isOne]) ?_
  intro hr fr zr orr
  replace orr : BlkW hr b2 24 [.int .i64 4, .int .i64 0, .string ⟨(unitsL l).toArray⟩] := by simpa using orr
  refine gA ?_
  exact ⟨rfl, (x1.trans x2).offNew fr (by omega)⟩
set_option maxHeartbeats 16000000
abbrev H9 : PH := ⟨[], 9, 0⟩
theorem itoa1 : Lib.itoa 1 = [49] := by kernel_rfl
theorem live1 : binaryP H9 oAdd (numV 1) (strV (uS [50])) = (strV (uS [49, 50]), 0) := by
  unfold binaryP
  rw [if_pos rfl, if_pos (.inr rfl)]
  have e1 : textT H9 (numV 1) = some (uS [49]) := by
    unfold textT
    rw [textP_num rfl]
    unfold textN
    rw [itoa1]
    try rfl
  have e2 : textT H9 (strV (uS [50])) = some (uS [50]) := by
    unfold textT
    rw [textP_str rfl]
    try rfl
  unfold joinR
  rw [e1, e2]
  try rfl
theorem live2 : binaryP H9 oAdd (numV 1) (numV 2) = (numV 3, 0) := by kernel_rfl
theorem live3 : binaryP H9 oLt (strV (uS [49, 48])) (strV (uS [57])) = (boolV true, 0) := by kernel_rfl
theorem live4 : (binaryP H9 oSub (strV (uS [97])) (numV 1)).2 = 100 := by kernel_rfl
theorem vok_num {n : Int} (h : -9007199254740991 ≤ n ∧ n ≤ 9007199254740991) : VOk (numV n) := ⟨⟨by show (0 : Int) ≤ 3; decide, by show (3 : Int) ≤ 7; decide⟩, h, by show (0 : Nat) ≤ 8192; omega, rfl, fun _ => rfl, fun _ h => absurd rfl h, fun h => by cases h⟩
theorem vEq_self (a : VV) : vEq a a = true := decide_eq_true ⟨rfl, rfl, rfl⟩
theorem live_spec (h : Heap) (gl : Glob h) : HCalls Tryz.prog 9 #[] h fun e h' => e = .returned (.bool true) ∧ Ext h h' := by
  refine c9 (by simp) ?_
  have gd : Good H9 := good_new 9 (by decide) (by decide)
  have cl : ClsOk H9 := ⟨fun o ho => by simp at ho⟩
  have n1 : VOk (numV 1) := vok_num ⟨by decide, by decide⟩
  have n2 : VOk (numV 2) := vok_num ⟨by decide, by decide⟩
  have tk : ∀ l : List UInt8, l.length ≤ 4096 → VOk (strV (uS l)) := fun l hl => vok_str (uS_ok hl)
  refine gA ?_
  refine HCall.mk ((new_spec h 9 (by decide) (by decide)).mono ?_)
  rintro e h1 ⟨bh, rfl, r, _, x1⟩
  have q0 : (bif false then !(some (⟨bh, 0, none⟩ : Addr)).isNone else (some (⟨bh, 0, none⟩ : Addr)).isNone) = false := rfl
  refine gA ?_
  refine HCall.mk ((lnum_spec 1 h1).mono ?_)
  rintro e h2 ⟨rfl, x2⟩
  refine gA ?_
  refine HCall.mk ((ltext_spec [50] (by unfold plainL; decide) (by decide) h2).mono ?_)
  rintro e h3 ⟨rfl, x3⟩
  have x03 := (x1.trans x2).trans x3
  refine gA ?_
  refine HCall.mk ((obinary_spec gd cl ⟨#[43]⟩ (numV 1) (strV (uS [50])) n1 (tk _ (by decide)) h3 (gl.ext x03) (r.ext (x2.trans x3))).mono ?_)
  rintro e h4 ⟨rfl, x4⟩
  rw [live1]
  have x04 := x03.trans x4
  have y4 := (x2.trans x3).trans x4
  refine gA ?_
  refine new_var (e := 24) [.int .i64 0, .int .i64 0, .string ⟨#[]⟩] rfl ?_
  intro h5 ba oa x5 z5 hba
  refine gA ?_
  refine store_blk oa (by simp) (by simp [isOne]) ?_
  intro h6 f6 z6 oa
  replace oa : BlkW h6 ba 24 (cellsV (strV (uS [49, 50]))) := by simpa using oa
  have hx4 := x04.1
  have x06 := (x04.trans x5).offNew f6 (by omega)
  have y6 := (y4.trans x5).offNew f6 (by have := y4.1; omega)
  refine gA ?_
  refine HCall.mk ((lnum_spec 1 h6).mono ?_)
  rintro e h7 ⟨rfl, x7⟩
  refine gA ?_
  refine HCall.mk ((lnum_spec 2 h7).mono ?_)
  rintro e h8 ⟨rfl, x8⟩
  replace oa := (oa.ext x7).ext x8
  have x08 := (x06.trans x7).trans x8
  have y8 := (y6.trans x7).trans x8
  refine gA ?_
  refine HCall.mk ((obinary_spec gd cl ⟨#[43]⟩ (numV 1) (numV 2) n1 n2 h8 (gl.ext x08) (r.ext y8)).mono ?_)
  rintro e h9 ⟨rfl, x9⟩
  rw [live2]
  replace oa := oa.ext x9
  have x09 := x08.trans x9
  have y9 := y8.trans x9
  refine gA ?_
  refine new_var (e := 24) [.int .i64 0, .int .i64 0, .string ⟨#[]⟩] rfl ?_
  intro h10 bb ob x10 z10 hbb
  replace oa := oa.ext x10
  have la := oa.lt
  have lab : ba < h9.size := by have := x9.1; have := x8.1; have := x7.1; have := f6.1; omega
  refine gA ?_
  refine store_blk ob (by simp) (by simp [isOne]) ?_
  intro h11 f11 z11 ob
  replace ob : BlkW h11 bb 24 (cellsV (numV 3)) := by simpa using ob
  replace oa := oa.offk f11 (by omega)
  have x011 := (x09.trans x10).offNew f11 (by have := x09.1; omega)
  have y11 := (y9.trans x10).offNew f11 (by have := y9.1; omega)
  refine gA ?_
  refine HCall.mk ((ltext_spec [49, 48] (by unfold plainL; decide) (by decide) h11).mono ?_)
  rintro e h12 ⟨rfl, x12⟩
  refine gA ?_
  refine HCall.mk ((ltext_spec [57] (by unfold plainL; decide) (by decide) h12).mono ?_)
  rintro e h13 ⟨rfl, x13⟩
  replace oa := (oa.ext x12).ext x13
  replace ob := (ob.ext x12).ext x13
  have x013 := (x011.trans x12).trans x13
  have y13 := (y11.trans x12).trans x13
  refine gA ?_
  refine HCall.mk ((obinary_spec gd cl ⟨#[60]⟩ (strV (uS [49, 48])) (strV (uS [57])) (tk _ (by decide)) (tk _ (by decide)) h13 (gl.ext x013) (r.ext y13)).mono ?_)
  rintro e h14 ⟨rfl, x14⟩
  rw [live3]
  replace oa := oa.ext x14
  replace ob := ob.ext x14
  have x014 := x013.trans x14
  have y14 := y13.trans x14
  have lb14 := ob.lt
  have la14 := oa.lt
  refine gA ?_
  refine new_var (e := 24) [.int .i64 0, .int .i64 0, .string ⟨#[]⟩] rfl ?_
  intro h15 bc oc x15 z15 hbc
  replace oa := oa.ext x15
  replace ob := ob.ext x15
  refine gA ?_
  refine store_blk oc (by simp) (by simp [isOne]) ?_
  intro h16 f16 z16 oc
  replace oc : BlkW h16 bc 24 (cellsV (boolV true)) := by simpa using oc
  replace oa := oa.offk f16 (by omega)
  replace ob := ob.offk f16 (by omega)
  have x016 := (x014.trans x15).offNew f16 (by have := x014.1; omega)
  have y16 := (y14.trans x15).offNew f16 (by have := y14.1; omega)
  refine gA ?_
  refine HCall.mk ((ltext_spec [97] (by unfold plainL; decide) (by decide) h16).mono ?_)
  rintro e h17 ⟨rfl, x17⟩
  refine gA ?_
  refine HCall.mk ((lnum_spec 1 h17).mono ?_)
  rintro e h18 ⟨rfl, x18⟩
  replace oa := (oa.ext x17).ext x18
  replace ob := (ob.ext x17).ext x18
  replace oc := (oc.ext x17).ext x18
  have x018 := (x016.trans x17).trans x18
  have y18 := (y16.trans x17).trans x18
  refine gA ?_
  refine HCall.mk ((obinary_spec gd cl ⟨#[45]⟩ (strV (uS [97])) (numV 1) (tk _ (by decide)) n1 h18 (gl.ext x018) (r.ext y18)).mono ?_)
  rintro e h19 ⟨rfl, x19⟩
  replace oa := oa.ext x19
  replace ob := ob.ext x19
  replace oc := oc.ext x19
  have x019 := x018.trans x19
  have ei : resR (binaryP H9 ⟨#[45]⟩ (strV (uS [97])) (numV 1)) = .tuple #[.agg (cellsV (binaryP H9 ⟨#[45]⟩ (strV (uS [97])) (numV 1)).1).toArray, .int .i64 100] := by unfold resR; rw [live4]
  rw [ei]
  generalize (binaryP H9 ⟨#[45]⟩ (strV (uS [97])) (numV 1)).1 = di
  have la19 := oa.lt
  have lb19 := ob.lt
  have lc19 := oc.lt
  refine gA ?_
  refine new_var (e := 24) [.int .i64 0, .int .i64 0, .string ⟨#[]⟩] rfl ?_
  intro h20 bd od x20 z20 hbd
  replace oa := oa.ext x20
  replace ob := ob.ext x20
  replace oc := oc.ext x20
  refine gA ?_
  refine store_blk od (by simp) (by simp [isOne]) ?_
  intro h21 f21 z21 od
  replace oa := oa.offk f21 (by omega)
  replace ob := ob.offk f21 (by omega)
  replace oc := oc.offk f21 (by omega)
  have X := (x019.trans x20).offNew f21 (by have := x019.1; omega)
  refine gA ?_
  refine HAlt.mk ?_ ?_
  all_goals
    refine gA ?_
    refine HCall.mk ((ltext_spec [49, 50] (by unfold plainL; decide) (by decide) h21).mono ?_)
    rintro e h22 ⟨rfl, x22⟩
    have oa := oa.ext x22
    have ob := ob.ext x22
    have oc := oc.ext x22
    have X := X.trans x22
    refine gA ?_
    refine raw_eqV (strV (uS [49, 50])) (strV (uS [49, 50])) rfl rfl rfl ?_
    rw [vEq_self]
    refine gA ?_
    refine HAlt.mk ?_ ?_
    all_goals
      refine gA ?_
      refine HCall.mk ((lnum_spec 3 h22).mono ?_)
      rintro e h23 ⟨rfl, x23⟩
      have oa := oa.ext x23
      have ob := ob.ext x23
      have oc := oc.ext x23
      have X := X.trans x23
      refine gA ?_
      refine raw_eqV (numV 3) (numV 3) rfl rfl rfl ?_
      rw [vEq_self]
      refine gA ?_
      refine HAlt.mk ?_ ?_
      all_goals
        refine gA ?_
        refine HCall.mk ((rbool_spec true h23).mono ?_)
        rintro e h24 ⟨rfl, x24⟩
        have oa := oa.ext x24
        have ob := ob.ext x24
        have oc := oc.ext x24
        have X := X.trans x24
        refine gA ?_
        refine raw_eqV (boolV true) (boolV true) rfl rfl rfl ?_
        rw [vEq_self]
        refine gA ?_
        refine HCall.mk ((lnum_spec 1 h24).mono ?_)
        rintro e h25 ⟨rfl, x25⟩
        have oa := oa.ext x25
        have X := X.trans x25
        refine gA ?_
        refine HCall.mk ((otruthy_spec (numV 1) h25).mono ?_)
        rintro e h26 ⟨rfl, x26⟩
        have oa := oa.ext x26
        have X := X.trans x26
        have et : truthP (numV 1) = true := rfl
        rw [et]
        refine gA ?_
        refine HCall.mk ((strict_spec (strV (uS [49, 50])) (strV (uS [49, 50])) h26).mono ?_)
        rintro e h27 ⟨rfl, x27⟩
        rw [vEq_self]
        refine gA ?_
        exact ⟨rfl, X.trans x27⟩
set_option maxHeartbeats 16000000
structure BW (h0 h : Heap) (bh b : Nat) (HP HR : PH) (Zh : HZ) (Zr : YZ) : Prop where
  x : Ext h0 h
  p : HeapR h bh HP Zh
  r : YR h b HR Zr
  fp : ∀ y ∈ Zh.bs bh, h0.size ≤ y
  fr : ∀ y ∈ Zr.bs b, h0.size ≤ y
  dj : ∀ y ∈ Zh.bs bh, y ∉ Zr.bs b
theorem BW.ext {h0 h h' : Heap} {bh b : Nat} {HP HR : PH} {Zh : HZ} {Zr : YZ} (w : BW h0 h bh b HP HR Zh Zr) (x : Ext h h') : BW h0 h' bh b HP HR Zh Zr := ⟨w.x.trans x, w.p.ext x, w.r.ext x, w.fp, w.fr, w.dj⟩
theorem BW.stepP {h0 h h' : Heap} {bh b : Nat} {HP HR HP' : PH} {Zh Zh' : HZ} {Zr : YZ} (w : BW h0 h bh b HP HR Zh Zr) (p' : HeapR h' bh HP' Zh') (P : PassF (Zh.bs bh) (Zh'.bs bh) h h') : BW h0 h' bh b HP' HR Zh' Zr := by
  have hx := w.x.1
  refine ⟨⟨by have := P.1; omega, fun y hy => ?_⟩, p', w.r.same fun y hy => ?_, fun y hy => ?_, w.fr, fun y hy hr => ?_⟩
  · rw [P.2.1 y (by omega) (fun hm => by have := w.fp y hm; omega), w.x.2 y hy]
  · exact P.2.1 y (w.r.lt y hy) (fun hm => w.dj y hm hy)
  · rcases P.2.2 y hy with h1 | h1
    · exact w.fp y h1
    · omega
  · rcases P.2.2 y hy with h1 | h1
    · exact w.dj y h1 hr
    · have := w.r.lt y hr; omega
theorem BW.stepR {h0 h h' : Heap} {bh b : Nat} {HP HR HR' : PH} {Zh : HZ} {Zr Zr' : YZ} (w : BW h0 h bh b HP HR Zh Zr) (r' : YR h' b HR' Zr') (P : PassF (Zr.bs b) (Zr'.bs b) h h') : BW h0 h' bh b HP HR' Zh Zr' := by
  have hx := w.x.1
  refine ⟨⟨by have := P.1; omega, fun y hy => ?_⟩, w.p.same fun y hy => ?_, r', w.fp, fun y hy => ?_, fun y hy hr => ?_⟩
  · rw [P.2.1 y (by omega) (fun hm => by have := w.fr y hm; omega), w.x.2 y hy]
  · exact P.2.1 y (w.p.lt y hy) (fun hm => w.dj y hy hm)
  · rcases P.2.2 y hy with h1 | h1
    · exact w.fr y h1
    · omega
  · rcases P.2.2 y hr with h1 | h1
    · exact w.dj y hy h1
    · have := w.p.lt y hy; omega
def OIRep (h : Heap) (o : OI) (cs : List Value) : Prop :=
  ∃ (ka : Option Addr) (kc : Nat) (va : Option Addr) (vc : Nat), cs = [.int .i64 o.c, .int .i64 o.p, .slice ka o.ks.length kc, .slice va o.vs.length vc] ∧ Sl h 1 ka o.ks.length kc (o.ks.map Value.string) ∧ Sl h 3 va o.vs.length vc (o.vs.flatMap cellsV) ∧ OIOk o
theorem OIRep.ext {h h' : Heap} {o : OI} {cs : List Value} (r : OIRep h o cs) (x : Ext h h') : OIRep h' o cs := by
  obtain ⟨ka, kc, va, vc, e, s1, s2, k⟩ := r
  exact ⟨ka, kc, va, vc, e, s1.ext x, s2.ext x, k⟩
theorem OIRep.len {h : Heap} : ∀ (o : OI) (cs : List Value), OIRep h o cs → cs.length = 4 := by
  rintro o cs ⟨ka, kc, va, vc, rfl, _⟩; rfl
theorem bld_makesT {l : List OI} (k : Nat) : Bld2 (makesP ⟨[], 3000, 0⟩ (l.take k)) := bld_makes bld_new _
theorem build_spec {h0 : Heap} {a : Option Addr} {c : Nat} {l : List OI} {xs : List Value} (sl : Sl h0 4 a l.length c xs) (el : Els OIRep h0 l xs) (hall : ∀ o ∈ l, OIOk o) :
    HCalls Tryz.prog 10 #[.slice a l.length c] h0 fun e h' =>
      (50 < l.length ∧ e = .returned (.tuple #[.pointer none, .pointer none, .bool false]) ∧ Ext h0 h') ∨
      (l.length ≤ 50 ∧ ∃ (bh b : Nat) (Zh : HZ) (Zr : YZ), e = .returned (.tuple #[.pointer (some ⟨bh, 0, none⟩), .pointer (some ⟨b, 0, none⟩), .bool true]) ∧ BW h0 h' bh b (buildP l) (buildP l) Zh Zr) := by
  refine c10 (by simp) ?_
  have el' : ∀ h', Els (fun _ o cs => OIRep h0 o cs) h' l xs := fun h' => Els.map (R := OIRep) (Q := fun _ o cs => OIRep h0 o cs) (h := h0) (h' := h') (fun o cs r => r) el
  refine gA ?_
  refine HCall.mk ((new_spec h0 3000 (by decide) (by decide)).mono ?_)
  rintro e h1 ⟨bh, rfl, r1, fb1, x1⟩
  refine gA ?_
  refine HCall.mk ((rnew_spec h1 3000 (by decide) (by decide)).mono ?_)
  rintro e h2 ⟨b, rfl, r2, fb2, x2⟩
  have lbh := r1.b.lt
  have w0 : BW h0 h2 bh b ⟨[], 3000, 0⟩ ⟨[], 3000, 0⟩ ⟨none, 0, []⟩ ⟨none, 0, []⟩ := by
    have hx := x1.1
    refine ⟨x1.trans x2, r1.ext x2, r2, fun y hy => ?_, fun y hy => ?_, fun y hy hr => ?_⟩
    · simp [HZ.bs, blk] at hy; omega
    · simp [YZ.bs, blk] at hy; omega
    · simp [HZ.bs, YZ.bs, blk] at hy hr; omega
  have q0 : (bif false then !(some (⟨bh, 0, none⟩ : Addr)).isNone else (some (⟨bh, 0, none⟩ : Addr)).isNone) = false := rfl
  by_cases h50 : 50 < l.length
  · have q1 : decide ((l.length : Int) > 50) = true := decide_eq_true (by omega)
    refine gA ?_
    exact .inl ⟨h50, rfl, w0.x⟩
  have q1 : decide ((l.length : Int) > 50) = false := decide_eq_false (by omega)
  refine gB ?_
  refine Z1 ?_
  refine gB ?_
  refine cut_rule [] (fun us h' => us = [] ∧ ∃ (Zh : HZ) (Zr : YZ), BW h0 h' bh b (makesP ⟨[], 3000, 0⟩ l) (makesP ⟨[], 3000, 0⟩ l) Zh Zr) rfl ?_ ?_
  · refine gA ?_
    refine loop_rule [26] (fun us h' => ∃ (k : Nat) (Zh : HZ) (Zr : YZ), us = [.int .i64 k] ∧ k ≤ l.length ∧ BW h0 h' bh b (makesP ⟨[], 3000, 0⟩ (l.take k)) (makesP ⟨[], 3000, 0⟩ (l.take k)) Zh Zr) (fun us _ => match us with | [.int _ k] => l.length - k.toNat | _ => 0) rfl ?_ ?_
    · exact ⟨0, _, _, rfl, by omega, w0⟩
    clear w0 r1 r2
    intro u h3 v26
    rintro ⟨k, Zh, Zr, e, hk, w⟩
    cases e
    refine gA ?_
    refine HIf.mk (fun hlt => ?_) (fun hlt => ?_)
    · have hk1 : k < l.length := by have := of_decide_eq_true hlt; omega
      have hmu : l.length - ((k : Int) + 1).toNat < l.length - ((k : Int)).toNat := by omega
      have etk : makesP ⟨[], 3000, 0⟩ (l.take (k + 1)) = makeP (makesP ⟨[], 3000, 0⟩ (l.take k)) (clsI l[k].c) ⟨7, l[k].p, noS⟩ := by
        rw [List.take_add_one, List.getElem?_eq_getElem hk1]
        exact makesP_snoc _ _ _
      have ok := hall _ (List.getElem_mem hk1)
      have bb := bld_makesT (l := l) k
      have gu := bb.g.used
      have gm := bb.g.most
      have gl := bb.g.len
      have hu := bb.u
      refine gA ?_
      refine HIdx.mk k rfl hk1 ?_
      refine sl_some (sl.ext w.x) hk1 fun p ep => ?_
      refine gA ?_
      refine Sl.loadEl (R := fun _ o cs => OIRep h0 o cs) OIRep.len (sl.ext w.x) (el' _) ep hk1 ?_
      rintro cs ⟨ka, kc, va, vc, rfl, s10, s20, _⟩
      have s1 := s10.ext w.x
      have s2 := s20.ext w.x
      have okl := ok.ks
      have okv := ok.vs
      generalize l[k] = o at etk ok s1 s2 s10 s20 okl okv
      refine gA ?_
      refine new_var (e := 71) [.int .i64 0, .int .i64 0, .slice none 0 0, .slice none 0 0] rfl ?_
      intro h4 b8 o8 x4 z4 hb8
      refine gA ?_
      refine store_blk o8 (by simp) (by simp [isOne]) ?_
      intro h5 f5 z5 o8
      replace o8 : BlkW h5 b8 71 [.int .i64 o.c, .int .i64 o.p, .slice ka o.ks.length kc, .slice va o.vs.length vc] := by simpa using o8
      have x35 : Ext h3 h5 := x4.offNew f5 (by omega)
      refine gA ?_
      refine new_var (e := 24) [.int .i64 0, .int .i64 0, .string ⟨#[]⟩] rfl ?_
      intro h6 b9 o9 x6 z6 hb9
      replace o8 := o8.ext x6
      have hx35 := x35.1
      have l8 := o8.lt
      refine gA ?_
      refine store_blk o9 (by simp) (by simp [isOne]) ?_
      intro h7 f7 z7 o9
      replace o9 : BlkW h7 b9 24 (cellsV ⟨7, o.p, noS⟩) := by simpa using o9
      replace o8 := o8.offk f7 (by omega)
      have w7 := w.ext ((x35.trans x6).offNew f7 (by omega))
      have n8 : ∀ y ∈ Zh.bs bh, y ≠ b8 := fun y hy e => by have := w.p.lt y hy; omega
      have n9 : ∀ y ∈ Zh.bs bh, y ≠ b9 := fun y hy e => by have := w.p.lt y hy; omega
      have l89 := o8.lt
      have l99 := o9.lt
      refine gB ?_
      refine cut_rule [] (fun us h' => us = [] ∧ BlkW h' b8 71 [.int .i64 o.c, .int .i64 o.p, .slice ka o.ks.length kc, .slice va o.vs.length vc] ∧ BlkW h' b9 24 (cellsV ⟨7, o.p, noS⟩) ∧ ∃ Zh' : HZ, BW h0 h' bh b (makeP (makesP ⟨[], 3000, 0⟩ (l.take k)) (clsI o.c) ⟨7, o.p, noS⟩) (makesP ⟨[], 3000, 0⟩ (l.take k)) Zh' Zr) rfl ?_ ?_
      · refine gA ?_
        refine HAlt.mk ?_ ?_
        all_goals
          refine gA ?_
          refine HCall.mk ((class_spec o.c ok.c h7).mono ?_)
          rintro e h8 ⟨rfl, rfl⟩
          refine gA ?_
          refine HCall.mk ((hMake_spec w7.p (clsI o.c) ⟨7, o.p, noS⟩ ok.p bb.g.few.len ⟨by omega, by omega⟩ hu (by omega) (by omega) (by omega)).mono ?_)
          rintro e h9 ⟨y, bo, Zh', rfl, p9, P9⟩
          refine gA ?_
          exact ⟨rfl, o8.of (P9.2.1 b8 l89 (fun hm => n8 b8 hm rfl)), o9.of (P9.2.1 b9 l99 (fun hm => n9 b9 hm rfl)), Zh', w7.stepP p9 P9⟩
      clear o8 o9
      intro u h8
      rintro ⟨_, o8, o9, Zh', w8⟩
      refine gA ?_
      refine HAlt.mk ?_ ?_
      all_goals
        refine gA ?_
        refine HCall.mk ((class_spec o.c ok.c h8).mono ?_)
        rintro e h9 ⟨rfl, rfl⟩
        refine gA ?_
        refine HCall.mk ((rMake_spec w8.r bb.g hu (clsI o.c) ⟨7, o.p, noS⟩ ok.p).mono ?_)
        rintro e h10 ⟨y, Zr', rfl, p10, P10⟩
        cases y
        all_goals
          refine gA ?_
          exact ⟨⟨k + 1, Zh', Zr', rfl, by omega, by rw [etk]; exact w8.stepR p10 P10⟩, hmu⟩
    · have hge := of_decide_eq_false hlt
      obtain rfl : k = l.length := by omega
      rw [List.take_length] at w
      refine gA ?_
      exact ⟨rfl, Zh, Zr, w⟩
  clear w0 r1 r2
  intro u h3
  rintro ⟨_, Zh, Zr, w⟩
  have b0 : Bld2 (makesP ⟨[], 3000, 0⟩ l) := bld_makes bld_new l
  have hl50 : l.length ≤ 50 := by omega
  have many : l.length ≤ 1000000 := by omega
  refine gB ?_
  refine cut_rule [] (fun us h' => us = [] ∧ ∃ (Zh : HZ) (Zr : YZ), BW h0 h' bh b (buildP l) (buildP l) Zh Zr) rfl ?_ ?_
  · refine gA ?_
    refine loop_rule [48] (fun us h' => ∃ (k : Nat) (H : PH) (Zh : HZ) (Zr : YZ), us = [.int .i64 k] ∧ k ≤ l.length ∧ Bld2 H ∧ putsO l.length (l.drop k) k H = buildP l ∧ BW h0 h' bh b H H Zh Zr) (fun us _ => match us with | [.int _ k] => l.length - k.toNat | _ => 0) rfl ?_ ?_
    · exact ⟨0, _, Zh, Zr, rfl, by omega, b0, rfl, w⟩
    clear w Zh Zr b0
    intro u h4 v48
    rintro ⟨i, H, Zh, Zr, e, hi, bb, eP, w⟩
    cases e
    refine gA ?_
    refine HIf.mk (fun hlt => ?_) (fun hlt => ?_)
    · have hi1 : i < l.length := by have := of_decide_eq_true hlt; omega
      have hmu : l.length - ((i : Int) + 1).toNat < l.length - ((i : Int)).toNat := by omega
      rw [List.drop_eq_getElem_cons hi1] at eP
      have ok := hall _ (List.getElem_mem hi1)
      refine gA ?_
      refine HIdx.mk i rfl hi1 ?_
      refine sl_some (sl.ext w.x) hi1 fun p ep => ?_
      refine gA ?_
      refine Sl.loadEl (R := fun _ o cs => OIRep h0 o cs) OIRep.len (sl.ext w.x) (el' _) ep hi1 ?_
      rintro cs ⟨ka, kc, va, vc, rfl, s10, s20, _⟩
      have s1 := s10.ext w.x
      have s2 := s20.ext w.x
      have okl := ok.ks
      have okv := ok.vs
      generalize l[i] = o at eP ok s1 s2 s10 s20 okl okv
      refine gA ?_
      refine new_var (e := 71) [.int .i64 0, .int .i64 0, .slice none 0 0, .slice none 0 0] rfl ?_
      intro h5 b11 o11 x5 z5 hb11
      refine gA ?_
      refine store_blk o11 (by simp) (by simp [isOne]) ?_
      intro h6 f6 z6 o11
      replace o11 : BlkW h6 b11 71 [.int .i64 o.c, .int .i64 o.p, .slice ka o.ks.length kc, .slice va o.vs.length vc] := by simpa using o11
      have x46 : Ext h4 h6 := x5.offNew f6 (by omega)
      have hx46 := x46.1
      refine gA ?_
      refine new_var (e := 24) [.int .i64 0, .int .i64 0, .string ⟨#[]⟩] rfl ?_
      intro h7 b12 o12 x7 z7 hb12
      replace o11 := o11.ext x7
      have l11 := o11.lt
      refine gA ?_
      refine store_blk o12 (by simp) (by simp [isOne]) ?_
      intro h8 f8 z8 o12
      replace o12 : BlkW h8 b12 24 (cellsV ⟨7, (i : Int) + 1, noS⟩) := by simpa using o12
      replace o11 := o11.offk f8 (by omega)
      have x48 : Ext h4 h8 := (x46.trans x7).offNew f8 (by omega)
      have w8 := w.ext x48
      have hpn := w.p.lt
      have hrn := w.r.lt
      have s1' := s1.ext x48
      have s2' := s2.ext x48
      have s1h : ∀ h', Ext h0 h' → Sl h' 1 ka o.ks.length kc (o.ks.map Value.string) := fun h' X => s10.ext X
      have s2h : ∀ h', Ext h0 h' → Sl h' 3 va o.vs.length vc (o.vs.flatMap cellsV) := fun h' X => s20.ext X
      have fb11 : h4.size ≤ b11 := by omega
      have fb12 : h4.size ≤ b12 := by omega
      refine gA ?_
      refine loop_rule [59] (fun us h' => ∃ (t : Nat) (H' : PH) (Zh' : HZ) (Zr' : YZ), us = [.int .i64 t] ∧ t ≤ o.ks.length ∧ Bld2 H' ∧ putsK l.length i o.vs (o.ks.drop t) t H' = putsK l.length i o.vs o.ks 0 H ∧ BW h0 h' bh b H' H' Zh' Zr' ∧
        BlkW h' b11 71 [.int .i64 o.c, .int .i64 o.p, .slice ka o.ks.length kc, .slice va o.vs.length vc] ∧ BlkW h' b12 24 (cellsV ⟨7, (i : Int) + 1, noS⟩) ∧ Sl h' 1 ka o.ks.length kc (o.ks.map Value.string) ∧ Sl h' 3 va o.vs.length vc (o.vs.flatMap cellsV) ∧
        (∀ y ∈ Zh'.bs bh, y ≠ b11 ∧ y ≠ b12) ∧ (∀ y ∈ Zr'.bs b, y ≠ b11 ∧ y ≠ b12)) (fun us _ => match us with | [.int _ t] => o.ks.length - t.toNat | _ => 0) rfl ?_ ?_
      · exact ⟨0, H, Zh, Zr, rfl, by omega, bb, rfl, w8, o11, o12, s1', s2', fun y hy => by have := hpn y hy; omega, fun y hy => by have := hrn y hy; omega⟩
      clear o11 o12 s1' s2' w8 w
      intro u h9 v59
      rintro ⟨t, H', Zh', Zr', e, ht, bb', eT, w9, o11, o12, s1, s2, dp, dr⟩
      cases e
      refine gA ?_
      refine HIf.mk (fun hlt2 => ?_) (fun hlt2 => ?_)
      · have ht1 : t < o.ks.length := by have := of_decide_eq_true hlt2; omega
        have hmt : o.ks.length - ((t : Int) + 1).toNat < o.ks.length - ((t : Int)).toNat := by omega
        rw [List.drop_eq_getElem_cons ht1] at eT
        replace eT : putsK l.length i o.vs (o.ks.drop (t + 1)) (t + 1) (putK l.length i o.vs H' t o.ks[t]) = putsK l.length i o.vs o.ks 0 H := eT
        have hks := ok.k _ (List.getElem_mem ht1)
        have bbn := bld_putK bb' l.length i many o.vs t o.ks[t] hks
        have o11l := o11.lt
        have o12l := o12.lt
        refine gA ?_
        refine HIdx.mk t rfl ht1 ?_
        refine sl_some s1 ht1 fun p ep => ?_
        refine gA ?_
        refine Sl.load s1 ep (by simpa using ht1) ?_
        rw [List.getElem_map]
        generalize o.ks[t] = key at eT hks bbn
        by_cases hv : t < o.vs.length
        · have q2 : decide ((t : Int) < (o.vs.length : Int)) = true := decide_eq_true (by omega)
          by_cases h60 : t < 60
          · have q3 : decide ((t : Int) < 60) = true := decide_eq_true (by omega)
            obtain ⟨⟨kl⟩⟩ := key
            have hkl : kl.length ≤ 1048576 := hks
            have ekl : (⟨⟨kl⟩⟩ : ByteArray).size = kl.length := rfl
            refine gA ?_
            refine HCall.mk ((rcheckU_spec kl (by omega) h9).mono ?_)
            rintro e h10 ⟨rfl, rfl⟩
            by_cases hev : kl.length % 2 = 0
            · have q4 : decide (kl.length % 2 = 0) = true := decide_eq_true hev
              have eK : putK l.length i o.vs H' t ⟨⟨kl⟩⟩ = putP H' ⟨7, (i : Int) + 1, noS⟩ ⟨⟨kl⟩⟩ (goodV o.vs[t] l.length) := by
                unfold putK
                rw [if_pos ⟨hv, h60, hev⟩, List.getElem?_eq_getElem hv]
                try rfl
              rw [eK] at eT bbn
              obtain ⟨vk, vn, vs⟩ := ok.v _ (List.getElem_mem hv)
              have hyv := vok_goodV o.vs[t] l.length many
              have gu := bb'.g.used
              have gm := bb'.g.most
              have hii : i64 ((i : Int) + 1) := ⟨by omega, by omega⟩
              refine gB ?_
              refine cut_rule [] (fun us h' => us = [] ∧ BlkW h' b11 71 [.int .i64 o.c, .int .i64 o.p, .slice ka o.ks.length kc, .slice va o.vs.length vc] ∧ BlkW h' b12 24 (cellsV ⟨7, (i : Int) + 1, noS⟩) ∧
                ∃ Zh'' : HZ, BW h0 h' bh b (putP H' ⟨7, (i : Int) + 1, noS⟩ ⟨⟨kl⟩⟩ (goodV o.vs[t] l.length)) H' Zh'' Zr' ∧ h10.size ≤ h'.size ∧ (∀ y ∈ Zh''.bs bh, y ≠ b11 ∧ y ≠ b12)) rfl ?_ ?_
              · refine gA ?_
                refine HIdx.mk t rfl hv ?_
                refine sl_some s2 hv fun p ep => ?_
                refine gA ?_
                refine Sl.loadV s2 ep hv ?_
                refine gA ?_
                refine HAlt.mk ?_ ?_
                all_goals
                  refine gA ?_
                  refine HCall.mk ((good_spec o.vs[t] l.length vk vn vs h10).mono ?_)
                  rintro e h11 ⟨rfl, x11⟩
                  have w11 := w9.ext x11
                  have o111 := o11.ext x11
                  have o121 := o12.ext x11
                  have hx11 := x11.1
                  refine gA ?_
                  refine HCall.mk ((put_spec w11.p bb'.g ⟨7, (i : Int) + 1, noS⟩ hii ⟨⟨kl⟩⟩ (goodV o.vs[t] l.length) hyv.i (by omega)).mono ?_)
                  rintro e h12 ⟨nn, Zh'', rfl, p12, P12⟩
                  have hP12 := P12.1
                  refine gA ?_
                  refine ⟨rfl, o111.of (P12.2.1 b11 o111.lt (fun hm => (dp b11 hm).1 rfl)), o121.of (P12.2.1 b12 o121.lt (fun hm => (dp b12 hm).2 rfl)), Zh'', w11.stepP p12 P12, by omega, fun y hy => ?_⟩
                  rcases P12.2.2 y hy with h1 | h1
                  · exact dp y h1
                  · omega
              clear o11 o12 w9
              intro u h11
              rintro ⟨_, o11, o12, Zh'', w11, hz11, dp''⟩
              have s21 : Sl h11 3 va o.vs.length vc (o.vs.flatMap cellsV) := s2h _ w11.x
              refine gA ?_
              refine HIdx.mk t rfl hv ?_
              refine sl_some s21 hv fun p ep => ?_
              refine gA ?_
              refine Sl.loadV s21 ep hv ?_
              refine gA ?_
              refine HAlt.mk ?_ ?_
              all_goals
                refine gA ?_
                refine HCall.mk ((good_spec o.vs[t] l.length vk vn vs h11).mono ?_)
                rintro e h12 ⟨rfl, x12⟩
                have w12 := w11.ext x12
                have o111 := o11.ext x12
                have o121 := o12.ext x12
                have hx12 := x12.1
                refine gA ?_
                refine HCall.mk ((rput_spec w12.r bb'.g bb'.u ⟨7, (i : Int) + 1, noS⟩ hii ⟨⟨kl⟩⟩ (goodV o.vs[t] l.length) hyv.i (by omega)).mono ?_)
                rintro e h13 ⟨nn, Zr'', rfl, p13, P13⟩
                have hP13 := P13.1
                have w13 := w12.stepR p13 P13
                refine gA ?_
                refine ⟨⟨t + 1, _, Zh'', Zr'', rfl, by omega, bbn, eT, w13, o111.of (P13.2.1 b11 o111.lt (fun hm => (dr b11 hm).1 rfl)), o121.of (P13.2.1 b12 o121.lt (fun hm => (dr b12 hm).2 rfl)), s1h _ w13.x, s2h _ w13.x, dp'', fun y hy => ?_⟩, hmt⟩
                rcases P13.2.2 y hy with h1 | h1
                · exact dr y h1
                · omega
            · have q4 : decide (kl.length % 2 = 0) = false := decide_eq_false hev
              have eK : putK l.length i o.vs H' t ⟨⟨kl⟩⟩ = H' := by unfold putK; rw [if_neg (fun h => hev h.2.2)]
              rw [eK] at eT
              refine gA ?_
              exact ⟨⟨t + 1, H', Zh', Zr', rfl, by omega, bb', eT, w9, o11, o12, s1, s2, dp, dr⟩, hmt⟩
          · have q3 : decide ((t : Int) < 60) = false := decide_eq_false (by omega)
            have eK : putK l.length i o.vs H' t key = H' := by unfold putK; rw [if_neg (fun h => h60 h.2.1)]
            rw [eK] at eT
            refine gA ?_
            exact ⟨⟨t + 1, H', Zh', Zr', rfl, by omega, bb', eT, w9, o11, o12, s1, s2, dp, dr⟩, hmt⟩
        · have q2 : decide ((t : Int) < (o.vs.length : Int)) = false := decide_eq_false (by omega)
          have eK : putK l.length i o.vs H' t key = H' := by unfold putK; rw [if_neg (fun h => hv h.1)]
          rw [eK] at eT
          refine gA ?_
          exact ⟨⟨t + 1, H', Zh', Zr', rfl, by omega, bb', eT, w9, o11, o12, s1, s2, dp, dr⟩, hmt⟩
      · have hge := of_decide_eq_false hlt2
        obtain rfl : t = o.ks.length := by omega
        rw [List.drop_length] at eT
        have eH : H' = putsK l.length i o.vs o.ks 0 H := eT
        refine gA ?_
        exact ⟨⟨i + 1, H', Zh', Zr', rfl, by omega, bb', by rw [eH]; exact eP, w9⟩, hmu⟩
    · have hge := of_decide_eq_false hlt
      obtain rfl : i = l.length := by omega
      rw [List.drop_length] at eP
      have eH : H = buildP l := eP
      rw [eH] at w
      refine gA ?_
      exact ⟨rfl, Zh, Zr, w⟩
  clear w Zh Zr
  intro u h4
  rintro ⟨_, Zh, Zr, w⟩
  refine gA ?_
  exact .inr ⟨hl50, bh, b, Zh, Zr, rfl, w⟩
set_option maxHeartbeats 16000000
def txtA : Option ByteArray → ByteArray × Int
  | none => (noS, 100)
  | some u => (u, 0)
theorem textR_eq (o : Option ByteArray) : textR o = .tuple #[.string (txtA o).1, .int .i64 (txtA o).2] := by cases o <;> rfl
theorem strEq_self (a : ByteArray) : strEq a a = true := (strEq_iff a a).2 rfl
structure BX (h : Heap) (bh b : Nat) (H : PH) (Zh : HZ) (Zr : YZ) : Prop where
  g : Glob h
  p : HeapR h bh H Zh
  r : YR h b H Zr
theorem BX.ext {h h' : Heap} {bh b : Nat} {H : PH} {Zh : HZ} {Zr : YZ} (w : BX h bh b H Zh Zr) (x : Ext h h') : BX h' bh b H Zh Zr := ⟨w.g.ext x, w.p.ext x, w.r.ext x⟩
theorem BX.off {h h' : Heap} {bh b k : Nat} {H : PH} {Zh : HZ} {Zr : YZ} (w : BX h bh b H Zh Zr) (f : Off k h h') (gl : Glob h') (np : k ∉ Zh.bs bh) (nr : k ∉ Zr.bs b) : BX h' bh b H Zh Zr :=
  ⟨gl, w.p.same fun y hy => f.2 y (w.p.lt y hy) (fun e => np (e ▸ hy)), w.r.same fun y hy => f.2 y (w.r.lt y hy) (fun e => nr (e ▸ hy))⟩
end Go.Proofs.YtadkdfecmpjmdaaGreatDoor.Hc
namespace Go.Proofs.YtadkdfecmpjmdaaGreatDoor.RU
open Go Go.H Go.Proofs Go.ChangeShapes Go.WideShapes Go.RowKit
set_option maxRecDepth 100000
theorem flat_get {α : Type} {n : Nat} : ∀ (l : List (List α)) (_ : ∀ x ∈ l, x.length = n) (i j : Nat) (hi : i < l.length) (_ : j < n), l.flatten[i * n + j]? = l[i][j]?
  | [], _, i, _, hi, _ => by simp at hi
  | a :: l, h, i, j, hi, hj => by
    have ha := h a (by simp)
    cases i with
    | zero => rw [List.flatten_cons, Nat.zero_mul, Nat.zero_add, List.getElem?_append_left (by omega)]; rfl
    | succ i =>
      rw [List.flatten_cons, List.getElem?_append_right (by rw [ha, Nat.add_mul]; omega), List.getElem_cons_succ, ← flat_get l (fun x hx => h x (by simp [hx])) i j (by simpa using hi) hj]
      congr 1; rw [ha, Nat.add_mul]; omega
theorem flat_len {α : Type} {n : Nat} : ∀ (l : List (List α)) (_ : ∀ x ∈ l, x.length = n), l.flatten.length = l.length * n
  | [], _ => by simp
  | a :: l, h => by rw [List.flatten_cons, List.length_append, h a (by simp), flat_len l (fun x hx => h x (by simp [hx])), List.length_cons, Nat.add_mul]; omega
theorem els_flat {α : Type} {R : Heap → α → List Value → Prop} {h : Heap} : ∀ (l : List α) (cs : List (List Value)), cs.length = l.length → (∀ i (hi : i < l.length) (hc : i < cs.length), R h l[i] cs[i]) → Els R h l cs.flatten
  | [], [], _, _ => by simp [Els]
  | d :: l, c :: cs, hl, hr => ⟨c, cs.flatten, by simp, hr 0 (by simp) (by simp), els_flat l cs (by simpa using hl) fun i hi hc => hr (i + 1) (by simpa using hi) (by simpa using hc)⟩
  | [], _ :: _, h, _ => by simp at h
  | _ :: _, [], h, _ => by simp at h
section
variable {H : Type} {enc : TypeId × Value → H} {P : Program} {W : World} {base : Nat} {spare : Nat → Bool} {held : Bool}
theorem open_els {α : Type} {R : Heap → α → List Value → Prop} {t e : TypeId} {m : Nat} (hu : P.underlying t = some (.slice e)) (hc : P.cellsOf e = m) (hm0 : 0 < m) (hn : ∀ d cs, R W.heap d cs → cs.length = m)
    (one : ∀ fuel cs x, DataW.trod enc P W base spare held fuel e cs = some x → Rows.uptoBulk x.1 ≤ 1048576 → ∃ d, R W.heap d cs) {fuel : Nat} {cs : List Value} {x : DataW H × List MemPlace} (h : DataW.trod enc P W base spare held fuel t cs = some x) (hbk : Rows.uptoBulk x.1 ≤ 1048576) :
    ∃ (a : Option Addr) (l : List α) (xs : List Value) (c : Nat), cs = [.slice a l.length c] ∧ Sl W.heap m a l.length c xs ∧ Els R W.heap l xs ∧ l.length ≤ 1048576 := by
  rcases DataW.trod_slice hu h with ⟨rfl, rfl⟩ | ⟨a, len, cap, elems, rest, n, _, rfl, rfl, hb, hl, hm, hlen, hel, _, _⟩
  · exact ⟨none, [], [], 0, rfl, Sl.nil _ _, by simp [Els], by simp⟩
  rw [hc] at hel
  simp only [Rows.uptoBulk] at hbk
  have hle := length_le (elems.map (·.1))
  rw [List.length_map] at hle
  have each : ∀ i (hi : i < elems.length), ∃ y : α × List Value, R W.heap y.1 y.2 ∧ (∀ j, j < m → hcell W.heap ((a.add (i * m)).add j) = y.2[j]?) := by
    intro i hi
    have h1 := hel i (by omega)
    rw [List.getElem?_eq_getElem hi, Option.bind_eq_some_iff] at h1
    obtain ⟨cs, h2, h3⟩ := h1
    have hbi : Rows.uptoBulk elems[i].1 ≤ 1048576 := by
      have := bulk_mem (elems.map (·.1)) elems[i].1 (List.mem_map.2 ⟨_, List.getElem_mem hi, rfl⟩)
      rw [List.length_map] at this
      omega
    obtain ⟨d, r⟩ := one _ cs _ h3 hbi
    have h4 := World.cells?_some h2
    refine ⟨(d, cs), r, fun j hj => ?_⟩
    have := h4.2.2 j hj
    rw [cell_eq] at this
    rw [this]
  obtain ⟨ys, k1, k2⟩ := list_ex elems (fun i y (z : α × List Value) => R W.heap z.1 z.2 ∧ (∀ j, j < m → hcell W.heap ((a.add (i * m)).add j) = z.2[j]?)) each
  have hall : ∀ x ∈ ys.map (·.2), x.length = m := by
    intro x hx
    obtain ⟨z, hz, rfl⟩ := List.mem_map.1 hx
    obtain ⟨i, hi, rfl⟩ := List.getElem_of_mem hz
    exact hn _ _ (k2 i (by omega) hi).1
  have hyl : (ys.map (·.1)).length = len := by rw [List.length_map]; omega
  refine ⟨some a, ys.map (·.1), (ys.map (·.2)).flatten, cap, by rw [hyl], ⟨by rw [flat_len _ hall]; simp, by omega, fun e => (by cases e), ?_⟩, els_flat _ _ (by simp) ?_, by omega⟩
  · intro p ep i hi
    cases ep
    rw [hyl] at hi
    have hq : i / m < ys.length := by
      have : i / m < len := Nat.div_lt_of_lt_mul (by rw [Nat.mul_comm]; exact hi)
      omega
    have h5 := (k2 (i / m) (by omega) hq).2 (i % m) (Nat.mod_lt _ hm0)
    have e1 : i / m * m + i % m = i := by rw [Nat.mul_comm]; exact Nat.div_add_mod i m
    rw [add_add, e1] at h5
    have h6 := flat_get (ys.map (·.2)) hall (i / m) (i % m) (by simpa using hq) (Nat.mod_lt _ hm0)
    rw [e1, List.getElem_map] at h6
    rw [h5, h6]
  · intro i hi hc'
    rw [List.getElem_map, List.getElem_map]
    exact (k2 i (by simpa [k1] using hi) (by simpa using hi)).1
end
end Go.Proofs.YtadkdfecmpjmdaaGreatDoor.RU
namespace Go.Proofs.YtadkdfecmpjmdaaGreatDoor.Hc
open Go Go.H Go.Proofs Go.ChangeShapes Go.WideShapes Go.RowKit
set_option maxRecDepth 100000
structure VIn (v : VV) (cs : List Value) : Prop where
  e : cs = cellsV v
  k : i64 v.k
  n : i64 v.n
  s : v.s.size ≤ 1048576
theorem vin_list {h : Heap} : ∀ {l : List VV} {xs : List Value}, Els (fun _ v cs => VIn v cs) h l xs → xs = l.flatMap cellsV ∧ ∀ v ∈ l, i64 v.k ∧ i64 v.n ∧ v.s.size ≤ 1048576
  | [], xs, r => ⟨by simpa [Els] using r, fun v hv => by cases hv⟩
  | d :: l, xs, r => by
    obtain ⟨a, b, rfl, r1, r2⟩ := r
    obtain ⟨rfl, h2⟩ := vin_list r2
    exact ⟨by rw [r1.e, List.flatMap_cons], fun v hv => by
      rcases List.mem_cons.1 hv with rfl | hv
      · exact ⟨r1.k, r1.n, r1.s⟩
      · exact h2 v hv⟩
theorem oirep_list {h : Heap} : ∀ {l : List OI} {xs : List Value}, Els OIRep h l xs → ∀ o ∈ l, OIOk o
  | [], xs, r => fun v hv => by cases hv
  | d :: l, xs, r => by
    obtain ⟨a, b, rfl, r1, r2⟩ := r
    intro v hv
    rcases List.mem_cons.1 hv with rfl | hv
    · obtain ⟨_, _, _, _, _, _, _, ok⟩ := r1; exact ok
    · exact oirep_list r2 v hv
section
variable {H : Type} {enc : TypeId × Value → H} {W : World} {base : Nat} {spare : Nat → Bool} {held : Bool}
theorem open_val (fuel : Nat) {cs : List Value} {x : DataW H × List MemPlace} (h : DataW.trod enc Tryz.prog W base spare held fuel 24 cs = some x) (hbk : Rows.uptoBulk x.1 ≤ 1048576) : ∃ v : VV, VIn v cs := by
  obtain ⟨xs, n, rfl, rfl, hl, hx, hf⟩ := DataW.trod_struct Tryz.underlying24 h
  have hc : Tryz.prog.cellsOf 24 = 3 := by kernel_rfl
  have c1 : Tryz.prog.cellsOf 3 = 1 := by kernel_rfl
  have c2 : Tryz.prog.cellsOf 2 = 1 := by kernel_rfl
  have c3 : Tryz.prog.cellsOf 9 = 1 := by kernel_rfl
  rw [hc] at hl
  have f0 := hf 0 _ rfl
  have f1 := hf 1 _ rfl
  have f2 := hf 2 _ rfl
  match cs, hl with
  | [v0, v1, v2], _ =>
  match xs, hx with
  | [x0, x1, x2], _ =>
  simp only [c1, c2, c3, List.drop_zero, List.drop_succ_cons, List.take_succ_cons, List.take_zero, List.getElem?_cons_zero, List.getElem?_cons_succ] at f0 f1 f2
  obtain ⟨k, e0, d0, w0⟩ := DataW.trod_int Tryz.underlying3 f0
  obtain ⟨m, e1, d1, w1⟩ := DataW.trod_int Tryz.underlying2 f1
  obtain ⟨s, e2, d2, w2⟩ := DataW.trod_string Tryz.underlying9 f2
  cases e0; cases e1; cases e2
  simp only [Rows.uptoBulk, List.map_cons, List.map_nil, Rows.uptoBulkAll] at hbk
  have ws : i64 m := by simpa [Lit.wf, IntKind.min, IntKind.max, IntKind.signed, IntKind.bits, i64] using w1
  have wk : i64 k := by simpa [Lit.wf, IntKind.min, IntKind.max, IntKind.signed, IntKind.bits, i64] using w0
  have hs := RU.string_len (H := H) s
  rw [d2] at hbk
  exact ⟨⟨k, m, s⟩, rfl, wk, ws, by show s.size ≤ _; simp only [Rows.uptoBulk] at hbk hs; omega⟩
theorem open_vals {fuel : Nat} {cs : List Value} {x : DataW H × List MemPlace} (h : DataW.trod enc Tryz.prog W base spare held fuel 69 cs = some x) (hbk : Rows.uptoBulk x.1 ≤ 1048576) :
    ∃ (a : Option Addr) (l : List VV) (c : Nat), cs = [.slice a l.length c] ∧ Sl W.heap 3 a l.length c (l.flatMap cellsV) ∧ l.length ≤ 1048576 ∧ ∀ v ∈ l, i64 v.k ∧ i64 v.n ∧ v.s.size ≤ 1048576 := by
  obtain ⟨a, l, xs, c, e, s, es, hl⟩ := RU.open_els Tryz.underlying69 (show Tryz.prog.cellsOf 24 = 3 by kernel_rfl) (by decide) (R := fun _ v cs => VIn v cs) (fun v cs r => by rw [r.e]; rfl) (fun fuel cs x hx hb => open_val fuel hx hb) h hbk
  obtain ⟨rfl, hall⟩ := vin_list es
  exact ⟨a, l, c, e, s, hl, hall⟩
theorem open_obj (fuel : Nat) {cs : List Value} {x : DataW H × List MemPlace} (h : DataW.trod enc Tryz.prog W base spare held fuel 71 cs = some x) (hbk : Rows.uptoBulk x.1 ≤ 1048576) : ∃ o : OI, OIRep W.heap o cs := by
  obtain ⟨xs, n, rfl, rfl, hl, hx, hf⟩ := DataW.trod_struct Tryz.underlying71 h
  have hc : Tryz.prog.cellsOf 71 = 4 := by kernel_rfl
  have c1 : Tryz.prog.cellsOf 3 = 1 := by kernel_rfl
  have c2 : Tryz.prog.cellsOf 2 = 1 := by kernel_rfl
  have c3 : Tryz.prog.cellsOf 50 = 1 := by kernel_rfl
  have c4 : Tryz.prog.cellsOf 69 = 1 := by kernel_rfl
  rw [hc] at hl
  have f0 := hf 0 _ rfl
  have f1 := hf 1 _ rfl
  have f2 := hf 2 _ rfl
  have f3 := hf 3 _ rfl
  match cs, hl with
  | [v0, v1, v2, v3], _ =>
  match xs, hx with
  | [x0, x1, x2, x3], _ =>
  simp only [c1, c2, c3, c4, List.drop_zero, List.drop_succ_cons, List.take_succ_cons, List.take_zero, List.getElem?_cons_zero, List.getElem?_cons_succ] at f0 f1 f2 f3
  obtain ⟨k, e0, d0, w0⟩ := DataW.trod_int Tryz.underlying3 f0
  obtain ⟨m, e1, d1, w1⟩ := DataW.trod_int Tryz.underlying2 f1
  cases e0; cases e1
  simp only [Rows.uptoBulk, List.map_cons, List.map_nil, Rows.uptoBulkAll] at hbk
  have ws : i64 m := by simpa [Lit.wf, IntKind.min, IntKind.max, IntKind.signed, IntKind.bits, i64] using w1
  have wk : i64 k := by simpa [Lit.wf, IntKind.min, IntKind.max, IntKind.signed, IntKind.bits, i64] using w0
  have g2 : DataW.trod enc Tryz.prog W base spare held n 50 [v2] = some x2 := f2
  have g3 : DataW.trod enc Tryz.prog W base spare held n 69 [v3] = some x3 := f3
  obtain ⟨ka, ks, kc, ek, ksl, hk1, hk2⟩ := RU.open_strs Tryz.underlying50 Tryz.underlying9 (by kernel_rfl) g2
  cases ek
  obtain ⟨va, vs, vc, ev, vsl, hv1, hv2⟩ := open_vals g3 (by omega)
  cases ev
  exact ⟨⟨k, m, ks, vs⟩, ka, kc, va, vc, rfl, ksl, vsl, wk, ws, by show ks.length ≤ _; omega, by show vs.length ≤ _; omega, fun y hy => by have := hk2 y hy; omega, fun y hy => hv2 y hy⟩
theorem open_objs {a : Option Addr} {len cap : Nat} {d : DataW H} {ps : List MemPlace} (h : DataW.Trod enc Tryz.prog W base spare held 22 (.slice a len cap) d ps) (hbk : Rows.uptoBulk d ≤ 1048576) :
    ∃ (l : List OI) (xs : List Value), len = l.length ∧ Sl W.heap 4 a l.length cap xs ∧ Els OIRep W.heap l xs := by
  obtain ⟨fuel, hf⟩ := h
  obtain ⟨a', l, xs, c, e, s, es, hl⟩ := RU.open_els Tryz.underlying22 (show Tryz.prog.cellsOf 71 = 4 by kernel_rfl) (by decide) (R := OIRep) OIRep.len (fun fuel cs x hx hb => open_obj fuel hx hb) hf hbk
  simp only [Value.cells] at e
  cases e
  exact ⟨l, xs, rfl, s, es⟩
end
theorem agg_of {c : Array Value} {v : VV} (x : VIn v c.toList) : Value.agg c = .agg (cellsV v).toArray := by rw [← x.e]
set_option maxHeartbeats 16000000
theorem app_noS (u : ByteArray) : u ++ noS = u := by
  obtain ⟨⟨l⟩⟩ := u
  show (⟨⟨l⟩⟩ : ByteArray).append noS = _
  exact ByteArray.append_empty
theorem texts_own {H : PH} {u : ByteArray} (h : TxtOk u) : textT H (strV u) = some u := by
  unfold textT
  rw [textP_str rfl]
  unfold limP
  rw [if_neg (by have := h.1; show ¬ 8192 < u.size; omega)]
theorem texts_join {H : PH} (v : VV) : binaryP H oAdd v (strV noS) = joinR H v (strV noS) := by
  unfold binaryP
  rw [if_pos rfl, if_pos (.inr rfl)]
theorem texts_none {H : PH} {v : VV} (h : textT H v = none) : binaryP H oAdd v (strV noS) = badR := by
  rw [texts_join]; unfold joinR; rw [h]
theorem texts_some {H : PH} {v : VV} {u : ByteArray} (h : textT H v = some u) (k : TxtOk u) : binaryP H oAdd v (strV noS) = (strV u, 0) := by
  rw [texts_join]
  have e : textT H (strV noS) = some noS := texts_own ⟨by decide, by decide⟩
  have e2 : limP (u ++ noS) = some u := by
    rw [app_noS]; unfold limP; rw [if_neg (by have := k.1; omega)]
  unfold joinR
  rw [h, e]
  show (match limP (u ++ noS) with | none => badR | some u => (strV u, 0)) = _
  rw [e2]
theorem texts_law {h0 : Heap} {a : Option Addr} {c : Nat} {l : List OI} {xs : List Value} (gl : Glob h0) (sl : Sl h0 4 a l.length c xs) (el : Els OIRep h0 l xs) (hall : ∀ o ∈ l, OIOk o) (v : VV) (hkv : i64 v.k) (hnv : i64 v.n) (hsv : v.s.size ≤ 1048576) : HCalls Tryz.prog 4 #[.slice a l.length c, .agg (cellsV v).toArray] h0 fun e h' => e = .returned (.bool true) ∧ Ext h0 h' := by
  refine c4 (by simp) ?_
  refine gA ?_
  refine new_var (e := 24) (cellsV v) rfl ?_
  intro k0 bv ov y0 z0 hbv
  have x1 := y0
  refine gA ?_
  refine HCall.mk ((live_spec k0 (gl.ext x1)).mono ?_)
  rintro e h2 ⟨rfl, x2⟩
  have x02 := x1.trans x2
  have el2 : Els OIRep h2 l xs := Els.map (R := OIRep) (Q := OIRep) (h := h0) (h' := h2) (fun o cs r => r.ext x02) el
  replace ov := ov.ext x2
  have lv := ov.lt
  have hx01 := y0.1
  refine gA ?_
  refine HCall.mk ((build_spec (sl.ext x02) el2 hall).mono ?_)
  rintro e h3 (⟨h50, rfl, x3⟩ | ⟨h50, bh, b, Zh, Zr, rfl, w⟩)
  · refine gA ?_
    exact ⟨rfl, x02.trans x3⟩
  have B := bld_build hall (by omega)
  have gd := B.g
  have cl := B.c
  have gg := gl.ext (x02.trans w.x)
  have u3 : BX h3 bh b (buildP l) Zh Zr := ⟨gg, w.p, w.r⟩
  have X3 := x02.trans w.x
  replace ov := ov.ext w.x
  have npv : bv ∉ Zh.bs bh := fun hm => by have := w.fp bv hm; omega
  have nrv : bv ∉ Zr.bs b := fun hm => by have := w.fr bv hm; omega
  have okv := vok_goodV v l.length (by omega)
  refine gA ?_
  refine HCall.mk ((good_spec v l.length hkv hnv hsv h3).mono ?_)
  rintro e h4 ⟨rfl, x4⟩
  replace ov := ov.ext x4
  generalize goodV v l.length = gv at okv
  refine gA ?_
  refine store_blk ov (by simp) (by simp [isOne]) ?_
  intro h5 f5 z5 ov
  replace ov : BlkW h5 bv 24 (cellsV gv) := by simpa using ov
  have X5 := (X3.trans x4).offNew f5 (by omega)
  have u5 := (u3.ext x4).off f5 (gl.ext X5) npv nrv
  clear u3 X3
  cases eT : textT (buildP l) gv with
  | none =>
    refine gA ?_
    refine HCall.mk ((otext_spec gd cl gv h5 u5.g.1 okv u5.p).mono ?_)
    rintro e h6 ⟨rfl, x6⟩
    replace ov := ov.ext x6
    have u6 := u5.ext x6
    have X6 := X5.trans x6
    rw [eT]
    refine gA ?_
    refine HCall.mk ((obinary_spec gd cl ⟨#[43]⟩ gv (strV noS) okv (vok_str ⟨by decide, by decide⟩) h6 u6.g u6.p).mono ?_)
    rintro e h7 ⟨rfl, x7⟩
    replace ov := ov.ext x7
    have u7 := u6.ext x7
    have X7 := X6.trans x7
    rw [texts_none eT]
    have lov7 := ov.lt
    refine gA ?_
    refine new_var (e := 24) [.int .i64 0, .int .i64 0, .string ⟨#[]⟩] rfl ?_
    intro h8 bp op1 x8 z8 hbp
    replace ov := ov.ext x8
    have hX7 := u7.p.lt
    have hR7 := u7.r.lt
    refine gA ?_
    refine store_blk op1 (by simp) (by simp [isOne]) ?_
    intro h9 f9 z9 op1
    replace op1 : BlkW h9 bp 24 (cellsV undefV) := by simpa using op1
    replace ov := ov.offk f9 (by omega)
    have w9 : Ext h7 h9 := x8.offNew f9 (by omega)
    have u9 := u7.ext w9
    have X9 := X7.trans w9
    refine gA ?_
    exact ⟨rfl, X9⟩
  | some u =>
    have ku : TxtOk u := text_ok gd cl 20 gv okv u eT
    refine gA ?_
    refine HCall.mk ((otext_spec gd cl gv h5 u5.g.1 okv u5.p).mono ?_)
    rintro e h6 ⟨rfl, x6⟩
    replace ov := ov.ext x6
    have u6 := u5.ext x6
    have X6 := X5.trans x6
    rw [eT]
    refine gA ?_
    refine HCall.mk ((obinary_spec gd cl ⟨#[43]⟩ gv (strV noS) okv (vok_str ⟨by decide, by decide⟩) h6 u6.g u6.p).mono ?_)
    rintro e h7 ⟨rfl, x7⟩
    replace ov := ov.ext x7
    have u7 := u6.ext x7
    have X7 := X6.trans x7
    rw [texts_some eT ku]
    have lov7 := ov.lt
    refine gA ?_
    refine new_var (e := 24) [.int .i64 0, .int .i64 0, .string ⟨#[]⟩] rfl ?_
    intro h8 bp op1 x8 z8 hbp
    replace ov := ov.ext x8
    have hX7 := u7.p.lt
    have hR7 := u7.r.lt
    refine gA ?_
    refine store_blk op1 (by simp) (by simp [isOne]) ?_
    intro h9 f9 z9 op1
    replace op1 : BlkW h9 bp 24 (cellsV (strV u)) := by simpa using op1
    replace ov := ov.offk f9 (by omega)
    have w9 : Ext h7 h9 := x8.offNew f9 (by omega)
    have u9 := u7.ext w9
    have X9 := X7.trans w9
    refine gA ?_
    refine HCall.mk ((otext_spec gd cl (strV u) h9 u9.g.1 (vok_str ku) u9.p).mono ?_)
    rintro e h10 ⟨rfl, x10⟩
    replace ov := ov.ext x10
    replace op1 := op1.ext x10
    have u10 := u9.ext x10
    have X10 := X9.trans x10
    rw [texts_own ku]
    have q9 : (((strV u, 0) : OpR).snd == 0) = true := rfl
    refine gA ?_
    refine raw_eqV (strV u) (strV u) rfl rfl rfl ?_
    rw [vEq_self]
    refine gA ?_
    exact ⟨congrArg (fun b => Ending.returned (.bool b)) (strEq_self u), X10⟩
theorem opsTexts_spec {h0 : Heap} {a : Option Addr} {c : Nat} {l : List OI} {xs : List Value} (sl : Sl h0 4 a l.length c xs) (el : Els OIRep h0 l xs) {w : Array Value} {v : VV} (x : VIn v w.toList) (gl : Glob h0) : HCalls Tryz.prog 4 #[.slice a l.length c, .agg w] h0 fun e h' => e = .returned (.bool true) ∧ Ext h0 h' := by
  rw [agg_of x]; exact texts_law gl sl el (oirep_list el) v x.k x.n x.s
open Go Go.H Go.Proofs Go.ChangeShapes Go.WideShapes Go.ChangeAt Go.RowKit

theorem pow_tab : Rows.laid_internal_strconv_uint64pow10 (H := Unit) = Lib.tabData .u64 Lib.pow10Tab := by kernel_rfl
def litV : DataW Unit → Value | .lit (.int k z) => .int k z | .lit (.string s) => .string ⟨s.toArray⟩ | _ => .int .u8 0
def aggV : DataW Unit → Array Value | .agg l => (l.map litV).toArray | .iface _ (.ptr (.agg l)) => (l.map litV).toArray | _ => #[]
noncomputable def laidWorld (os : Os) : World :=
  let w := World.holding Tryz.prog os ⟨#[.cells (aggV Rows.laid_strconv_ErrSyntax) 213, .cells (aggV Rows.laid_strconv_ErrRange) 213], #[], []⟩
  let n := (World.settled Tryz.prog os).heap.size
  let put (g : Nat) (c : Array Value) (h : Array Obj) : Array Obj := h.modify g fun | .cells _ t frozen => .cells c t frozen | o => o
  { w with heap := put 1 #[.iface 211 (.pointer (some ⟨n, 0, none⟩))] (put 2 #[.iface 211 (.pointer (some ⟨n + 1, 0, none⟩))] (put 3 (aggV Rows.laid_internal_strconv_uint64pow10) (put 4 (aggV Rows.laid_math_bits_deBruijn32tab) (put 5 (aggV Rows.laid_math_bits_deBruijn64tab) w.heap)))) }

theorem gS : Tryz.prog.globalNamed "strconv.ErrSyntax" = some 1 := by kernel_rfl
theorem gR : Tryz.prog.globalNamed "strconv.ErrRange" = some 2 := by kernel_rfl
theorem gP : Tryz.prog.globalNamed powName = some 3 := by kernel_rfl
theorem tS : (Tryz.prog.globals[1]?).map (·.type) = some 145 := by kernel_rfl
theorem tR : (Tryz.prog.globals[2]?).map (·.type) = some 145 := by kernel_rfl
theorem tP : (Tryz.prog.globals[3]?).map (·.type) = some 205 := by kernel_rfl
theorem trod_iface {w : World} {fuel : Nat} {cs : List Value} {u : String} {d : DataW Unit} {p : List MemPlace}
    (h : DataW.trod (fun _ => ()) Tryz.prog w 0 (fun _ => true) false fuel 145 cs = some (.iface u d, p)) : ∃ x y, cs = [.iface x y] := by
  cases fuel with
  | zero => cases h
  | succ fuel =>
    unfold DataW.trod at h
    rw [Tryz.underlying145] at h
    split at h <;> first
      | exact ⟨_, _, rfl⟩
      | (simp_all; done)
      | skip

theorem cell_of_var {w : World} {name : String} {g : Nat} {x : TypeId} {y : Value} {cs : Array Value} (hg : Tryz.prog.globalNamed name = some g) (hv : w.var? Tryz.prog name = some cs) (hc : cs.toList = [.iface x y]) :
    ∃ v, hcell w.heap ⟨g, 0, none⟩ = some v ∧ IfV v := by
  refine ⟨.iface x y, ?_, .inr ⟨_, _, rfl⟩⟩
  unfold World.var? at hv
  rw [hg] at hv
  simp only [Option.bind_some] at hv
  unfold hcell
  split at hv
  · next c t f e =>
    cases hv
    simp only [e]
    rw [← Array.getElem?_toList, hc]
    try rfl
  · cases hv

theorem glob_of {W : World} (h : laidMet Tryz.prog Rows.opsTurnRow.laid W) : Glob W.heap := by
  obtain ⟨ps, ⟨g0, t0, cs0, f0, p0, q0, _, _, _, _, ⟨g1, t1, cs1, f1, p1, q1, _, _, _, _, h2, _⟩, _⟩, _⟩ := h
  obtain ⟨g2, t2, cs2, f2, p2, q2, e2, y2, v2, r2, h3, _⟩ := h2
  obtain ⟨g3, t3, cs3, f3, p3, q3, e3, y3, v3, r3, h4, _⟩ := h3
  obtain ⟨g4, t4, cs4, f4, p4, q4, e4, y4, v4, r4, _, _⟩ := h4
  obtain rfl := Option.some.inj (gP.symm.trans e2)
  obtain rfl := Option.some.inj (gR.symm.trans e3)
  obtain rfl := Option.some.inj (gS.symm.trans e4)
  obtain rfl := Option.some.inj (tR.symm.trans y3)
  obtain rfl := Option.some.inj (tS.symm.trans y4)
  obtain ⟨x3, z3, c3⟩ := trod_iface r3
  obtain ⟨x4, z4, c4⟩ := trod_iface r4
  obtain rfl := Option.some.inj (tP.symm.trans y2)
  refine ⟨?_, cell_of_var gS v4 c4, cell_of_var gR v3 c3⟩
  intro w hw
  rw [pow_tab] at r2
  have := Lib.cells_of_tab Tryz.underlying205 Tryz.underlying161 (by kernel_rfl) (by kernel_rfl) r2
  unfold Lib.TabIs
  have hv : w.var? Tryz.prog powName = W.var? Tryz.prog powName := by unfold World.var?; rw [hw]
  rw [hv]
  refine (show W.var? Tryz.prog powName = some cs2 from v2).trans ?_
  rw [← this]

end Go.Proofs.YtadkdfecmpjmdaaGreatDoor.Hc
