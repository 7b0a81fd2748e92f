/- Get, spoil, the example, live. -/
import Derived.Test.YtmibnfjjlibpgaaDoorT8
import Derived.Test.YtmibnfjjlibpgaaDoorT6
set_option linter.unusedVariables false
set_option linter.unusedSimpArgs false
namespace Go.Proofs.YtmibnfjjlibpgaaDoor.Hc
open Go Go.H Go.Proofs
set_option maxRecDepth 100000
set_option maxHeartbeats 8000000

def zeroDT : DT := .mk 0 0 ⟨#[]⟩ [] []
theorem rep_zero (h : Heap) : Rep h zeroDT zeroD := by
  unfold zeroDT
  simp only [Rep]
  exact ⟨by unfold i64; omega, by unfold i64; omega, by decide, by simp, by simp, by simp, none, 0, none, 0, [], rfl, Sl.nil _ _, Sl.nil _ _, by simp [Reps]⟩
/-- What a key has. -/
def getP : List ByteArray → List DT → ByteArray → Option DT
  | k :: ks, d :: l, key => if k = key then some d else getP ks l key
  | _, _, _ => none
def getX (d : DT) (key : ByteArray) : DT × Bool := match getP d.keys d.list key with
  | some x => (x, true)
  | none => (zeroDT, false)
theorem getP_at : ∀ (ks : List ByteArray) (l : List DT) (key : ByteArray) (i : Nat) (hi : i < ks.length), ks[i] = key → (∀ x ∈ ks.take i, x ≠ key) → getP ks l key = l[i]?
  | [], _, _, i, hi, _, _ => by simp at hi
  | k :: ks, [], key, i, hi, _, _ => by simp [getP]
  | k :: ks, d :: l, key, 0, hi, e, _ => by simp at e; simp [getP, e]
  | k :: ks, d :: l, key, i + 1, hi, e, hn => by
    have h1 : k ≠ key := hn k (by simp)
    have := getP_at ks l key i (by simpa using hi) (by simpa using e) (fun x hx => hn x (by simp [hx]))
    simp [getP, h1, this]
theorem getP_none : ∀ (ks : List ByteArray) (l : List DT) (key : ByteArray), (∀ x ∈ ks, x ≠ key) → getP ks l key = none
  | [], _, _, _ => by simp [getP]
  | k :: ks, [], key, _ => by simp [getP]
  | k :: ks, d :: l, key, hn => by
    have h1 : k ≠ key := hn k (by simp)
    simp [getP, h1, getP_none ks l key (fun x hx => hn x (by simp [hx]))]
theorem ixs_spec {h : Heap} {a : Option Addr} {c : Nat} {ks : List ByteArray} (key : ByteArray) (x : Sl h 1 a ks.length c (ks.map .string)) (hl : ks.length ≤ 140737488351232) :
    HCalls Tryd.prog 27 #[.slice a ks.length c, .string key] h fun e h' => h' = h ∧ ((∃ i : Nat, ∃ hi : i < ks.length, e = .returned (.int .i64 i) ∧ ks[i] = key ∧ ∀ x ∈ ks.take i, x ≠ key) ∨ (e = .returned (.int .i64 (-1)) ∧ ∀ x ∈ ks, x ≠ key)) := by
  refine c27 (by simp) ?_
  ((conv=>whnf);repeat((first|(with_reducible first|refine Z1 ?_|refine Z2 ?_|refine Z3 ?_|refine Z4 ?_|refine Z5 ?_|refine Z9 (by assumption) rfl ?_|refine ZA (by assumption) rfl ?_|refine ZB (by assumption) rfl ?_|refine Z6 ?_|refine Z7 ?_|refine Z8 ?_)|((with_reducible refine ZM ?_ ?_);(focus rfl)));(conv=>whnf)))
  refine loop_rule [8] (fun vs h' => ∃ (i : Nat), vs = [.int .i64 i] ∧ i ≤ ks.length ∧ (∀ x ∈ ks.take i, x ≠ key) ∧ h' = h)
    (fun vs _ => match vs with | [.int _ i] => ks.length - i.toNat | _ => 0) rfl ?_ ?_
  · exact ⟨0, rfl, by omega, by simp, rfl⟩
  intro u h2 v8
  rintro ⟨i, e, hi, hn, rfl⟩
  cases e
  ((conv=>whnf);repeat((first|(with_reducible first|refine Z1 ?_|refine Z2 ?_|refine Z3 ?_|refine Z4 ?_|refine Z5 ?_|refine Z9 (by assumption) rfl ?_|refine ZA (by assumption) rfl ?_|refine ZB (by assumption) rfl ?_|refine Z6 ?_|refine Z7 ?_|refine Z8 ?_)|((with_reducible refine ZM ?_ ?_);(focus rfl)));(conv=>whnf)))
  refine HIf.mk (fun hb => ?_) (fun hb => ?_)
  · have hi1 : i < ks.length := by have := of_decide_eq_true hb; omega
    have hmu : ks.length - ((i : Int) + 1).toNat < ks.length - ((i : Int)).toNat := by omega
    ((conv=>whnf);repeat((first|(with_reducible first|refine Z1 ?_|refine Z2 ?_|refine Z3 ?_|refine Z4 ?_|refine Z5 ?_|refine Z9 (by assumption) rfl ?_|refine ZA (by assumption) rfl ?_|refine ZB (by assumption) rfl ?_|refine Z6 ?_|refine Z7 ?_|refine Z8 ?_)|((with_reducible refine ZM ?_ ?_);(focus rfl)));(conv=>whnf)))
    refine HIdx.mk i rfl hi1 ?_
    refine sl_some x hi1 fun p ep => ?_
    ((conv=>whnf);repeat((first|(with_reducible first|refine Z1 ?_|refine Z2 ?_|refine Z3 ?_|refine Z4 ?_|refine Z5 ?_|refine Z9 (by assumption) rfl ?_|refine ZA (by assumption) rfl ?_|refine ZB (by assumption) rfl ?_|refine Z6 ?_|refine Z7 ?_|refine Z8 ?_)|((with_reducible refine ZM ?_ ?_);(focus rfl)));(conv=>whnf)))
    refine x.load ep (by simpa using hi1) ?_
    rw [List.getElem_map]
    by_cases hk : ks[i] = key
    · have q : strEq key ks[i] = true := (strEq_iff _ _).2 hk.symm
      ((conv=>whnf);repeat((first|(with_reducible first|refine Z1 ?_|refine Z2 ?_|refine Z3 ?_|refine Z4 ?_|refine Z5 ?_|refine Z9 (by assumption) rfl ?_|refine ZA (by assumption) rfl ?_|refine ZB (by assumption) rfl ?_|refine Z6 ?_|refine Z7 ?_|refine Z8 ?_)|((with_reducible refine ZM ?_ ?_);(focus rfl)));(conv=>whnf)))
      exact ⟨rfl, .inl ⟨i, hi1, rfl, hk, hn⟩⟩
    · have q : strEq key ks[i] = false := (strEq_no _ _).2 fun e => hk e.symm
      ((conv=>whnf);repeat((first|(with_reducible first|refine Z1 ?_|refine Z2 ?_|refine Z3 ?_|refine Z4 ?_|refine Z5 ?_|refine Z9 (by assumption) rfl ?_|refine ZA (by assumption) rfl ?_|refine ZB (by assumption) rfl ?_|refine Z6 ?_|refine Z7 ?_|refine Z8 ?_)|((with_reducible refine ZM ?_ ?_);(focus rfl)));(conv=>whnf)))
      refine ⟨⟨i + 1, rfl, by omega, ?_, rfl⟩, hmu⟩
      intro y hy
      rw [take_succ' hi1] at hy
      rcases List.mem_append.1 hy with hy | hy
      · exact hn y hy
      · rw [List.mem_singleton] at hy; rw [hy]; exact hk
  · have hge := of_decide_eq_false hb
    rw [List.take_of_length_le (by omega)] at hn
    ((conv=>whnf);repeat((first|(with_reducible first|refine Z1 ?_|refine Z2 ?_|refine Z3 ?_|refine Z4 ?_|refine Z5 ?_|refine Z9 (by assumption) rfl ?_|refine ZA (by assumption) rfl ?_|refine ZB (by assumption) rfl ?_|refine Z6 ?_|refine Z7 ?_|refine Z8 ?_)|((with_reducible refine ZM ?_ ?_);(focus rfl)));(conv=>whnf)))
    exact ⟨rfl, .inr ⟨rfl, hn⟩⟩
theorem getN_spec (d : DT) (key : ByteArray) (h : Heap) (cs : List Value) (ra : Rep h d cs) (hvol : vol d ≤ 1073741824) :
    HCalls Tryd.prog 13 #[.agg cs.toArray, .string key] h fun e h' => ∃ ds : List Value, e = .returned (.tuple #[.agg ds.toArray, .bool (getX d key).2]) ∧ RepN h' h.size (getX d key).1 ds ∧ Ext h h' := by
  obtain ⟨k1, n1, s1, ks1, l1⟩ := d
  have ra0 := ra
  simp only [Rep] at ra
  obtain ⟨a1, a2, a3, a4, a5, a6, ka, kc, la, lc, xs, rfl, a7, a8, a9⟩ := ra
  simp only [vol] at hvol
  have eX : getX (.mk k1 n1 s1 ks1 l1) key = match getP ks1 l1 key with | some x => (x, true) | none => (zeroDT, false) := rfl
  refine c13 (by simp) ?_
  ((conv=>whnf);repeat((first|(with_reducible first|refine Z1 ?_|refine Z2 ?_|refine Z3 ?_|refine Z4 ?_|refine Z5 ?_|refine Z9 (by assumption) rfl ?_|refine ZA (by assumption) rfl ?_|refine ZB (by assumption) rfl ?_|refine Z6 ?_|refine Z7 ?_|refine Z8 ?_)|((with_reducible refine ZM ?_ ?_);(focus rfl)));(conv=>whnf)))
  refine new_var (e := 25) [.int .i64 k1, .int .i64 n1, .string s1, .slice ka ks1.length kc, .slice la l1.length lc] rfl ?_
  intro h1 bx ox x1 z1 hbx
  ((conv=>whnf);repeat((first|(with_reducible first|refine Z1 ?_|refine Z2 ?_|refine Z3 ?_|refine Z4 ?_|refine Z5 ?_|refine Z9 (by assumption) rfl ?_|refine ZA (by assumption) rfl ?_|refine ZB (by assumption) rfl ?_|refine Z6 ?_|refine Z7 ?_|refine Z8 ?_)|((with_reducible refine ZM ?_ ?_);(focus rfl)));(conv=>whnf)))
  refine new_var (e := 25) zeroD rfl ?_
  intro h2 b2 o2 x2 z2 hb2
  have ox2 := ox.ext x2
  have x12 := x1.trans x2
  clear ox
  ((conv=>whnf);repeat((first|(with_reducible first|refine Z1 ?_|refine Z2 ?_|refine Z3 ?_|refine Z4 ?_|refine Z5 ?_|refine Z9 (by assumption) rfl ?_|refine ZA (by assumption) rfl ?_|refine ZB (by assumption) rfl ?_|refine Z6 ?_|refine Z7 ?_|refine Z8 ?_)|((with_reducible refine ZM ?_ ?_);(focus rfl)));(conv=>whnf)))
  refine HCall.mk ((ixs_spec key (a7.ext x12) a4).mono ?_)
  rintro e h2 ⟨rfl, ⟨i, hi, rfl, hk, hn⟩ | ⟨rfl, hn⟩⟩
  · have eg := getP_at ks1 l1 key i hi hk hn
    have q1 : decide ((i : Int) < 0) = false := decide_eq_false (by omega)
    by_cases hil : i < l1.length
    · have q2 : decide ((i : Int) ≥ (l1.length : Int)) = false := decide_eq_false (by omega)
      have hvi := vols_mem l1 l1[i] (List.getElem_mem hil)
      rw [List.getElem?_eq_getElem hil] at eg
      rw [eX, eg]
      ((conv=>whnf);repeat((first|(with_reducible first|refine Z1 ?_|refine Z2 ?_|refine Z3 ?_|refine Z4 ?_|refine Z5 ?_|refine Z9 (by assumption) rfl ?_|refine ZA (by assumption) rfl ?_|refine ZB (by assumption) rfl ?_|refine Z6 ?_|refine Z7 ?_|refine Z8 ?_)|((with_reducible refine ZM ?_ ?_);(focus rfl)));(conv=>whnf)))
      refine HIdx.mk i rfl hil ?_
      refine sl_some a8 hil fun p ep => ?_
      ((conv=>whnf);repeat((first|(with_reducible first|refine Z1 ?_|refine Z2 ?_|refine Z3 ?_|refine Z4 ?_|refine Z5 ?_|refine Z9 (by assumption) rfl ?_|refine ZA (by assumption) rfl ?_|refine ZB (by assumption) rfl ?_|refine Z6 ?_|refine Z7 ?_|refine Z8 ?_)|((with_reducible refine ZM ?_ ?_);(focus rfl)));(conv=>whnf)))
      refine (a8.ext x12).loadRep (Reps.ext x12 _ _ a9) ep hil fun as' ra1 => ?_
      ((conv=>whnf);repeat((first|(with_reducible first|refine Z1 ?_|refine Z2 ?_|refine Z3 ?_|refine Z4 ?_|refine Z5 ?_|refine Z9 (by assumption) rfl ?_|refine ZA (by assumption) rfl ?_|refine ZB (by assumption) rfl ?_|refine Z6 ?_|refine Z7 ?_|refine Z8 ?_)|((with_reducible refine ZM ?_ ?_);(focus rfl)));(conv=>whnf)))
      refine HCall.mk ((copy_spec l1[i] h2 as' ra1 (by omega)).mono ?_)
      rintro e h3 ⟨ds, rfl, x3, ot⟩
      have rd := OT.rep _ _ _ _ ot
      have rd3 := OT.agree (h' := h3) _ _ _ _ ot (Agree.refl _ _)
      have o3 := o2.ext x3
      ((conv=>whnf);repeat((first|(with_reducible first|refine Z1 ?_|refine Z2 ?_|refine Z3 ?_|refine Z4 ?_|refine Z5 ?_|refine Z9 (by assumption) rfl ?_|refine ZA (by assumption) rfl ?_|refine ZB (by assumption) rfl ?_|refine Z6 ?_|refine Z7 ?_|refine Z8 ?_)|((with_reducible refine ZM ?_ ?_);(focus rfl)));(conv=>whnf)))
      refine HMust.mk (by simpa using rd.len) ?_
      refine store_new o3 (by simpa using rd.len) (by simpa using rd.one) ?_
      intro h4 f4 z4 o4
      have b2lt := o2.lt
      ((conv=>whnf);repeat((first|(with_reducible first|refine Z1 ?_|refine Z2 ?_|refine Z3 ?_|refine Z4 ?_|refine Z5 ?_|refine Z9 (by assumption) rfl ?_|refine ZA (by assumption) rfl ?_|refine ZB (by assumption) rfl ?_|refine Z6 ?_|refine Z7 ?_|refine Z8 ?_)|((with_reducible refine ZM ?_ ?_);(focus rfl)));(conv=>whnf)))
      refine blk_ldN o4 (by simpa using rd.len) ?_
      ((conv=>whnf);repeat((first|(with_reducible first|refine Z1 ?_|refine Z2 ?_|refine Z3 ?_|refine Z4 ?_|refine Z5 ?_|refine Z9 (by assumption) rfl ?_|refine ZA (by assumption) rfl ?_|refine ZB (by assumption) rfl ?_|refine Z6 ?_|refine Z7 ?_|refine Z8 ?_)|((with_reducible refine ZM ?_ ?_);(focus rfl)));(conv=>whnf)))
      have ot4 := OT.agree _ _ _ _ ot (f4.agree fun b hb => ⟨hb.2, by omega⟩)
      have hs1 := x1.1
      have hs2 := x2.1
      refine ⟨ds, rfl, fun hh ag => OT.rep _ _ _ _ (OT.agree _ _ _ _ ot4 (ag.mono fun b hb => ⟨by omega, by omega⟩)), ?_⟩
      exact (x12.trans x3).offNew f4 (by have := x1.1; omega)
    · have q2 : decide ((i : Int) ≥ (l1.length : Int)) = true := decide_eq_true (by omega)
      rw [List.getElem?_eq_none (by omega)] at eg
      rw [eX, eg]
      ((conv=>whnf);repeat((first|(with_reducible first|refine Z1 ?_|refine Z2 ?_|refine Z3 ?_|refine Z4 ?_|refine Z5 ?_|refine Z9 (by assumption) rfl ?_|refine ZA (by assumption) rfl ?_|refine ZB (by assumption) rfl ?_|refine Z6 ?_|refine Z7 ?_|refine Z8 ?_)|((with_reducible refine ZM ?_ ?_);(focus rfl)));(conv=>whnf)))
      refine store_new o2 rfl (by simp [isOne]) ?_
      intro h4 f4 z4 o4
      ((conv=>whnf);repeat((first|(with_reducible first|refine Z1 ?_|refine Z2 ?_|refine Z3 ?_|refine Z4 ?_|refine Z5 ?_|refine Z9 (by assumption) rfl ?_|refine ZA (by assumption) rfl ?_|refine ZB (by assumption) rfl ?_|refine Z6 ?_|refine Z7 ?_|refine Z8 ?_)|((with_reducible refine ZM ?_ ?_);(focus rfl)));(conv=>whnf)))
      refine ⟨zeroD, rfl, fun hh ag => rep_zero _, x12.offNew f4 (by have := x1.1; omega)⟩
  · have eg := getP_none ks1 l1 key hn
    rw [eX, eg]
    ((conv=>whnf);repeat((first|(with_reducible first|refine Z1 ?_|refine Z2 ?_|refine Z3 ?_|refine Z4 ?_|refine Z5 ?_|refine Z9 (by assumption) rfl ?_|refine ZA (by assumption) rfl ?_|refine ZB (by assumption) rfl ?_|refine Z6 ?_|refine Z7 ?_|refine Z8 ?_)|((with_reducible refine ZM ?_ ?_);(focus rfl)));(conv=>whnf)))
    refine store_new o2 rfl (by simp [isOne]) ?_
    intro h4 f4 z4 o4
    ((conv=>whnf);repeat((first|(with_reducible first|refine Z1 ?_|refine Z2 ?_|refine Z3 ?_|refine Z4 ?_|refine Z5 ?_|refine Z9 (by assumption) rfl ?_|refine ZA (by assumption) rfl ?_|refine ZB (by assumption) rfl ?_|refine Z6 ?_|refine Z7 ?_|refine Z8 ?_)|((with_reducible refine ZM ?_ ?_);(focus rfl)));(conv=>whnf)))
    refine ⟨zeroD, rfl, fun hh ag => rep_zero _, x12.offNew f4 (by have := x1.1; omega)⟩
theorem get_spec (d : DT) (key : ByteArray) (h : Heap) (cs : List Value) (ra : Rep h d cs) (hvol : vol d ≤ 1073741824) :
    HCalls Tryd.prog 13 #[.agg cs.toArray, .string key] h fun e h' => ∃ ds : List Value, e = .returned (.tuple #[.agg ds.toArray, .bool (getX d key).2]) ∧ Rep h' (getX d key).1 ds ∧ Ext h h' := by
  refine (getN_spec d key h cs ra hvol).mono ?_
  rintro e h' ⟨ds, he, r, x⟩
  exact ⟨ds, he, r.get, x⟩
theorem rget_spec (d : DT) (key : ByteArray) (h : Heap) (cs : List Value) (ra : Rep h d cs) (hvol : vol d ≤ 1073741824) :
    HCalls Tryd.prog 14 #[.agg cs.toArray, .string key] h fun e h' => ∃ ds : List Value, e = .returned (.tuple #[.agg ds.toArray, .bool (getX d key).2]) ∧ Rep h' (getX d key).1 ds ∧ Ext h h' := by
  obtain ⟨k1, n1, s1, ks1, l1⟩ := d
  simp only [Rep] at ra
  obtain ⟨a1, a2, a3, a4, a5, a6, ka, kc, la, lc, xs, rfl, a7, a8, a9⟩ := ra
  simp only [vol] at hvol
  have eX : getX (.mk k1 n1 s1 ks1 l1) key = match getP ks1 l1 key with | some x => (x, true) | none => (zeroDT, false) := rfl
  refine c14 (by simp) ?_
  ((conv=>whnf);repeat((first|(with_reducible first|refine Z1 ?_|refine Z2 ?_|refine Z3 ?_|refine Z4 ?_|refine Z5 ?_|refine Z9 (by assumption) rfl ?_|refine ZA (by assumption) rfl ?_|refine ZB (by assumption) rfl ?_|refine Z6 ?_|refine Z7 ?_|refine Z8 ?_)|((with_reducible refine ZM ?_ ?_);(focus rfl)));(conv=>whnf)))
  refine new_var (e := 25) [.int .i64 k1, .int .i64 n1, .string s1, .slice ka ks1.length kc, .slice la l1.length lc] rfl ?_
  intro h1 bx ox x1 z1 hbx
  ((conv=>whnf);repeat((first|(with_reducible first|refine Z1 ?_|refine Z2 ?_|refine Z3 ?_|refine Z4 ?_|refine Z5 ?_|refine Z9 (by assumption) rfl ?_|refine ZA (by assumption) rfl ?_|refine ZB (by assumption) rfl ?_|refine Z6 ?_|refine Z7 ?_|refine Z8 ?_)|((with_reducible refine ZM ?_ ?_);(focus rfl)));(conv=>whnf)))
  refine new_var (e := 25) zeroD rfl ?_
  intro h2 b2 o2 x2 z2 hb2
  have ox2 := ox.ext x2
  have x12 := x1.trans x2
  clear ox
  ((conv=>whnf);repeat((first|(with_reducible first|refine Z1 ?_|refine Z2 ?_|refine Z3 ?_|refine Z4 ?_|refine Z5 ?_|refine Z9 (by assumption) rfl ?_|refine ZA (by assumption) rfl ?_|refine ZB (by assumption) rfl ?_|refine Z6 ?_|refine Z7 ?_|refine Z8 ?_)|((with_reducible refine ZM ?_ ?_);(focus rfl)));(conv=>whnf)))
  refine loop_rule [11] (fun vs h' => ∃ (i : Nat), vs = [.int .i64 i] ∧ i ≤ ks1.length ∧ (∀ x ∈ ks1.take i, x ≠ key) ∧ h' = h2)
    (fun vs _ => match vs with | [.int _ i] => ks1.length - i.toNat | _ => 0) rfl ?_ ?_
  · exact ⟨0, rfl, by omega, by simp, rfl⟩
  intro u h3 v11
  rintro ⟨i, e, hi, hn, rfl⟩
  cases e
  have x := a7.ext x12
  ((conv=>whnf);repeat((first|(with_reducible first|refine Z1 ?_|refine Z2 ?_|refine Z3 ?_|refine Z4 ?_|refine Z5 ?_|refine Z9 (by assumption) rfl ?_|refine ZA (by assumption) rfl ?_|refine ZB (by assumption) rfl ?_|refine Z6 ?_|refine Z7 ?_|refine Z8 ?_)|((with_reducible refine ZM ?_ ?_);(focus rfl)));(conv=>whnf)))
  refine HIf.mk (fun hb => ?_) (fun hb => ?_)
  · have hi1 : i < ks1.length := by have := of_decide_eq_true hb; omega
    have hmu : ks1.length - ((i : Int) + 1).toNat < ks1.length - ((i : Int)).toNat := by omega
    ((conv=>whnf);repeat((first|(with_reducible first|refine Z1 ?_|refine Z2 ?_|refine Z3 ?_|refine Z4 ?_|refine Z5 ?_|refine Z9 (by assumption) rfl ?_|refine ZA (by assumption) rfl ?_|refine ZB (by assumption) rfl ?_|refine Z6 ?_|refine Z7 ?_|refine Z8 ?_)|((with_reducible refine ZM ?_ ?_);(focus rfl)));(conv=>whnf)))
    refine HIdx.mk i rfl hi1 ?_
    refine sl_some x hi1 fun p ep => ?_
    ((conv=>whnf);repeat((first|(with_reducible first|refine Z1 ?_|refine Z2 ?_|refine Z3 ?_|refine Z4 ?_|refine Z5 ?_|refine Z9 (by assumption) rfl ?_|refine ZA (by assumption) rfl ?_|refine ZB (by assumption) rfl ?_|refine Z6 ?_|refine Z7 ?_|refine Z8 ?_)|((with_reducible refine ZM ?_ ?_);(focus rfl)));(conv=>whnf)))
    refine x.load ep (by simpa using hi1) ?_
    rw [List.getElem_map]
    by_cases hk : ks1[i] = key
    · have q : strEq ks1[i] key = true := (strEq_iff _ _).2 hk
      have eg := getP_at ks1 l1 key i hi1 hk hn
      by_cases hil : i < l1.length
      · have q2 : decide ((i : Int) < (l1.length : Int)) = true := decide_eq_true (by omega)
        have hvi := vols_mem l1 l1[i] (List.getElem_mem hil)
        rw [List.getElem?_eq_getElem hil] at eg
        rw [eX, eg]
        ((conv=>whnf);repeat((first|(with_reducible first|refine Z1 ?_|refine Z2 ?_|refine Z3 ?_|refine Z4 ?_|refine Z5 ?_|refine Z9 (by assumption) rfl ?_|refine ZA (by assumption) rfl ?_|refine ZB (by assumption) rfl ?_|refine Z6 ?_|refine Z7 ?_|refine Z8 ?_)|((with_reducible refine ZM ?_ ?_);(focus rfl)));(conv=>whnf)))
        refine HIdx.mk i rfl hil ?_
        refine sl_some a8 hil fun p ep => ?_
        ((conv=>whnf);repeat((first|(with_reducible first|refine Z1 ?_|refine Z2 ?_|refine Z3 ?_|refine Z4 ?_|refine Z5 ?_|refine Z9 (by assumption) rfl ?_|refine ZA (by assumption) rfl ?_|refine ZB (by assumption) rfl ?_|refine Z6 ?_|refine Z7 ?_|refine Z8 ?_)|((with_reducible refine ZM ?_ ?_);(focus rfl)));(conv=>whnf)))
        refine (a8.ext x12).loadRep (Reps.ext x12 _ _ a9) ep hil fun as' ra1 => ?_
        ((conv=>whnf);repeat((first|(with_reducible first|refine Z1 ?_|refine Z2 ?_|refine Z3 ?_|refine Z4 ?_|refine Z5 ?_|refine Z9 (by assumption) rfl ?_|refine ZA (by assumption) rfl ?_|refine ZB (by assumption) rfl ?_|refine Z6 ?_|refine Z7 ?_|refine Z8 ?_)|((with_reducible refine ZM ?_ ?_);(focus rfl)));(conv=>whnf)))
        refine HCall.mk ((rcopy_spec l1[i] h3 as' ra1 (by omega)).mono ?_)
        rintro e h5 ⟨ds, rfl, x3, rn⟩
        have rd := rn.get
        have o3 := o2.ext x3
        ((conv=>whnf);repeat((first|(with_reducible first|refine Z1 ?_|refine Z2 ?_|refine Z3 ?_|refine Z4 ?_|refine Z5 ?_|refine Z9 (by assumption) rfl ?_|refine ZA (by assumption) rfl ?_|refine ZB (by assumption) rfl ?_|refine Z6 ?_|refine Z7 ?_|refine Z8 ?_)|((with_reducible refine ZM ?_ ?_);(focus rfl)));(conv=>whnf)))
        refine HMust.mk (by simpa using rd.len) ?_
        refine store_new o3 (by simpa using rd.len) (by simpa using rd.one) ?_
        intro h4 f4 z4 o4
        have b2lt := o2.lt
        ((conv=>whnf);repeat((first|(with_reducible first|refine Z1 ?_|refine Z2 ?_|refine Z3 ?_|refine Z4 ?_|refine Z5 ?_|refine Z9 (by assumption) rfl ?_|refine ZA (by assumption) rfl ?_|refine ZB (by assumption) rfl ?_|refine Z6 ?_|refine Z7 ?_|refine Z8 ?_)|((with_reducible refine ZM ?_ ?_);(focus rfl)));(conv=>whnf)))
        refine blk_ldN o4 (by simpa using rd.len) ?_
        ((conv=>whnf);repeat((first|(with_reducible first|refine Z1 ?_|refine Z2 ?_|refine Z3 ?_|refine Z4 ?_|refine Z5 ?_|refine Z9 (by assumption) rfl ?_|refine ZA (by assumption) rfl ?_|refine ZB (by assumption) rfl ?_|refine Z6 ?_|refine Z7 ?_|refine Z8 ?_)|((with_reducible refine ZM ?_ ?_);(focus rfl)));(conv=>whnf)))
        refine ⟨ds, rfl, (rn.offk f4 (by omega)).get, ?_⟩
        exact (x12.trans x3).offNew f4 (by have := x1.1; omega)
      · have q2 : decide ((i : Int) < (l1.length : Int)) = false := decide_eq_false (by omega)
        rw [List.getElem?_eq_none (by omega)] at eg
        rw [eX, eg]
        ((conv=>whnf);repeat((first|(with_reducible first|refine Z1 ?_|refine Z2 ?_|refine Z3 ?_|refine Z4 ?_|refine Z5 ?_|refine Z9 (by assumption) rfl ?_|refine ZA (by assumption) rfl ?_|refine ZB (by assumption) rfl ?_|refine Z6 ?_|refine Z7 ?_|refine Z8 ?_)|((with_reducible refine ZM ?_ ?_);(focus rfl)));(conv=>whnf)))
        refine store_new o2 rfl (by simp [isOne]) ?_
        intro h4 f4 z4 o4
        ((conv=>whnf);repeat((first|(with_reducible first|refine Z1 ?_|refine Z2 ?_|refine Z3 ?_|refine Z4 ?_|refine Z5 ?_|refine Z9 (by assumption) rfl ?_|refine ZA (by assumption) rfl ?_|refine ZB (by assumption) rfl ?_|refine Z6 ?_|refine Z7 ?_|refine Z8 ?_)|((with_reducible refine ZM ?_ ?_);(focus rfl)));(conv=>whnf)))
        refine ⟨zeroD, rfl, rep_zero _, x12.offNew f4 (by have := x1.1; omega)⟩
    · have q : strEq ks1[i] key = false := (strEq_no _ _).2 hk
      ((conv=>whnf);repeat((first|(with_reducible first|refine Z1 ?_|refine Z2 ?_|refine Z3 ?_|refine Z4 ?_|refine Z5 ?_|refine Z9 (by assumption) rfl ?_|refine ZA (by assumption) rfl ?_|refine ZB (by assumption) rfl ?_|refine Z6 ?_|refine Z7 ?_|refine Z8 ?_)|((with_reducible refine ZM ?_ ?_);(focus rfl)));(conv=>whnf)))
      refine ⟨⟨i + 1, rfl, by omega, ?_, rfl⟩, hmu⟩
      intro y hy
      rw [take_succ' hi1] at hy
      rcases List.mem_append.1 hy with hy | hy
      · exact hn y hy
      · rw [List.mem_singleton] at hy; rw [hy]; exact hk
  · have hge := of_decide_eq_false hb
    rw [List.take_of_length_le (by omega)] at hn
    have eg := getP_none ks1 l1 key hn
    rw [eX, eg]
    ((conv=>whnf);repeat((first|(with_reducible first|refine Z1 ?_|refine Z2 ?_|refine Z3 ?_|refine Z4 ?_|refine Z5 ?_|refine Z9 (by assumption) rfl ?_|refine ZA (by assumption) rfl ?_|refine ZB (by assumption) rfl ?_|refine Z6 ?_|refine Z7 ?_|refine Z8 ?_)|((with_reducible refine ZM ?_ ?_);(focus rfl)));(conv=>whnf)))
    refine store_new o2 rfl (by simp [isOne]) ?_
    intro h4 f4 z4 o4
    ((conv=>whnf);repeat((first|(with_reducible first|refine Z1 ?_|refine Z2 ?_|refine Z3 ?_|refine Z4 ?_|refine Z5 ?_|refine Z9 (by assumption) rfl ?_|refine ZA (by assumption) rfl ?_|refine ZB (by assumption) rfl ?_|refine Z6 ?_|refine Z7 ?_|refine Z8 ?_)|((with_reducible refine ZM ?_ ?_);(focus rfl)));(conv=>whnf)))
    refine ⟨zeroD, rfl, rep_zero _, x12.offNew f4 (by have := x1.1; omega)⟩

end Go.Proofs.YtmibnfjjlibpgaaDoor.Hc
