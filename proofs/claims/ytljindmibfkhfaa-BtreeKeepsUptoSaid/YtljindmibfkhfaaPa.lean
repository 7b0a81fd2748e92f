/- Proof texts, laid together. -/
import Derived.Test.YtljindmibfkhfaaRows
import Derived.Test.YtljindmibfkhfaaHH
import Derived.Test.YtljindmibfkhfaaHU
import Derived.Test.YtljindmibfkhfaaC0
import Derived.Test.YtljindmibfkhfaaHT
import Derived.Test.YtljindmibfkhfaaHM
import Derived.Test.YtljindmibfkhfaaHV
/- Of the second form: what its bound says of the bytes that came in. -/
set_option linter.unusedVariables false
namespace Go.Proofs.Ytljindmibfkhfaa.RU
open Go Go.ChangeShapes Go.WideShapes Go.RowKit

theorem one_le {H : Type} (d : DataW H) : 1 ≤ Rows.uptoBulk d := by
  cases d with
  | lit l => cases l <;> simp only [Rows.uptoBulk] <;> omega
  | nil => simp only [Rows.uptoBulk]; omega
  | ptr d => simp only [Rows.uptoBulk]; omega
  | slice a b => simp only [Rows.uptoBulk]; omega
  | agg a => simp only [Rows.uptoBulk]; omega
  | iface t d => simp only [Rows.uptoBulk]; omega
  | map a => simp only [Rows.uptoBulk]; omega
  | held a => simp only [Rows.uptoBulk]; omega
theorem length_le {H : Type} : ∀ l : List (DataW H), l.length ≤ Rows.uptoBulkAll l
  | [] => by simp
  | d :: r => by
    have h1 := one_le d
    have h2 := length_le r
    simp only [Rows.uptoBulkAll, List.length_cons]
    omega
theorem string_len {H : Type} (s : ByteArray) : s.size < Rows.uptoBulk (DataW.lit (H := H) (.string s.data.toList)) := by
  simp only [Rows.uptoBulk]
  exact Nat.lt_succ_self _
theorem ints_len {H : Type} {enc : TypeId × Value → H} {P : Program} {W : World} {base : Nat} {spare : Nat → Bool} {held : Bool} {t e : TypeId} {k : IntKind} {a : Option Addr} {len cap : Nat} {d : DataW H} {ps : List MemPlace}
    (hu : P.underlying t = some (.slice e)) (he : P.underlying e = some (.int k)) (hc : P.cellsOf e = 1)
    (h : DataW.Trod enc P W base spare held t (.slice a len cap) d ps) : len ≤ Rows.uptoBulk d := by
  obtain ⟨fuel, hf⟩ := h
  rcases open_ints hu he hc hf with ⟨hcs, _⟩ | ⟨x, l, c, zs, hcs, _, hl, _, hz, hx, _, _⟩
  · simp [Value.cells] at hcs
    obtain ⟨rfl, rfl, rfl⟩ := hcs
    exact Nat.zero_le _
  · simp [Value.cells] at hcs
    obtain ⟨rfl, rfl, rfl⟩ := hcs
    obtain ⟨hx, _⟩ := Prod.mk.inj hx
    subst hx
    have hl2 : len ≤ zs.length := by
      rw [hz]
      split
      · exact hl
      · exact Nat.le_refl _
    have h1 := length_le (lits (H := H) k (zs.take len))
    have h2 : (lits (H := H) k (zs.take len)).length = len := by simp [lits]; omega
    simp only [Rows.uptoBulk]
    omega

end Go.Proofs.Ytljindmibfkhfaa.RU
/- api.Node of trees on disk: node.Check, node.Child (printed by tools/mkD1.py from N1, N7). -/
set_option linter.unusedVariables false
set_option linter.unusedSimpArgs false
namespace Go.Proofs.Ytljindmibfkhfaa.Hc
open Go Go.H Go.Proofs
set_option maxRecDepth 100000
set_option maxHeartbeats 4000000

structure ND where
  keys : List ByteArray
  vals : List ByteArray
  kids : List Int

/-- Three cells hold a node. -/
def NRep (h : Heap) (d : ND) (cs : List Value) : Prop :=
  d.keys.length ≤ 1048576 ∧ d.vals.length ≤ 1048576 ∧ d.kids.length ≤ 1048576 ∧ (∀ x ∈ d.keys, x.size ≤ 1048576) ∧ (∀ x ∈ d.vals, x.size ≤ 1048576) ∧ (∀ x ∈ d.kids, i64 x) ∧
    ∃ ka kc va vc ia ic, cs = [.slice ka d.keys.length kc, .slice va d.vals.length vc, .slice ia d.kids.length ic] ∧
      Sl h 1 ka d.keys.length kc (d.keys.map .string) ∧ Sl h 1 va d.vals.length vc (d.vals.map .string) ∧ Sl h 1 ia d.kids.length ic (d.kids.map (.int .i64))
theorem NRep.ext {h h' : Heap} {d : ND} {cs : List Value} (x : NRep h d cs) (k : Ext h h') : NRep h' d cs := by
  obtain ⟨h1, h2, h3, h4, h5, h6, ka, kc, va, vc, ia, ic, e, s1, s2, s3⟩ := x
  exact ⟨h1, h2, h3, h4, h5, h6, ka, kc, va, vc, ia, ic, e, s1.ext k, s2.ext k, s3.ext k⟩
theorem NRep.len {h : Heap} {d : ND} {cs : List Value} (x : NRep h d cs) : cs.length = 3 := by
  obtain ⟨h1, h2, h3, h4, h5, h6, ka, kc, va, vc, ia, ic, rfl, s1, s2, s3⟩ := x; rfl
theorem NRep.one {h : Heap} {d : ND} {cs : List Value} (x : NRep h d cs) : ∀ v ∈ cs, isOne v = true := by
  obtain ⟨h1, h2, h3, h4, h5, h6, ka, kc, va, vc, ia, ic, rfl, s1, s2, s3⟩ := x
  intro v hv
  simp only [List.mem_cons, List.not_mem_nil, or_false] at hv
  rcases hv with rfl | rfl | rfl <;> rfl

/-- A key that may stand in its place. -/
def KeyOk (ks : List ByteArray) (j : Nat) : Prop := ∀ hj : j < ks.length, ks[j].size ≤ 256 ∧ (0 < j → strLt (ks[j - 1]'(by omega)) ks[j] = true)
/-- How many there may be. -/
def Many (d : ND) : Prop := (d.kids = [] ∧ d.keys.length ≤ 3 ∧ d.vals.length = d.keys.length) ∨ (2 ≤ d.kids.length ∧ d.kids.length ≤ 12 ∧ d.keys.length + 1 = d.kids.length ∧ d.vals = [])
/-- A node that may be. -/
def NMay (d : ND) : Prop := Many d ∧ (∀ j, j < d.keys.length → KeyOk d.keys j) ∧ (∀ v ∈ d.vals, v.size ≤ 1024) ∧ (∀ k ∈ d.kids, 1 ≤ k ∧ k ≤ 2147483647)
def errN (r : Bool) : Int := match r with | true => 0 | false => 190
theorem errN_same {d : ND} {r s : Bool} (x : r = true ↔ NMay d) (y : s = true ↔ NMay d) : r = s := by rw [Bool.eq_iff_iff, x, y]

theorem checkN_spec {d : ND} {h : Heap} {cs : List Value} (ra : NRep h d cs) :
    HCalls Try.prog 21 #[.agg cs.toArray] h fun e h' => ∃ r, e = .returned (.int .i64 (errN r)) ∧ (r = true ↔ NMay d) ∧ Ext h h' := by
  obtain ⟨a1, a2, a3, a4, a5, a6, ka, kc, va, vc, ia, ic, rfl, s1, s2, s3⟩ := ra
  refine c21 (by simp) ?_
  (conv => whnf)
  refine new_var (e := 41) [.slice ka d.keys.length kc, .slice va d.vals.length vc, .slice ia d.kids.length ic] rfl ?_
  intro h1 bx ox x1 z1 hbx
  have t1 := s1.ext x1
  have t2 := s2.ext x1
  have t3 := s3.ext x1
  have t1 := s1.ext x1
  refine gB ?_
  refine cut_rule [3, 4] (fun vs h' => ∃ (n : Nat) (b : Bool), vs = [.int .i64 n, .bool b] ∧ ((b = true ∧ d.vals.length = n) ↔ Many d) ∧ h' = h1) rfl ?_ ?_
  · have hk0 : d.kids = [] ↔ d.kids.length = 0 := List.length_eq_zero_iff.symm
    have hv0 : d.vals = [] ↔ d.vals.length = 0 := List.length_eq_zero_iff.symm
    ((conv=>whnf);repeat'(first|((with_reducible refine ZM ?_ ?_);(focus rfl);(conv=>whnf))|((with_reducible first|refine Z1 ?_|refine Z2 ?_|refine Z3 ?_|refine Z4 ?_|refine Z9 (by assumption) rfl ?_|refine Z5 ?_);(conv=>whnf))|((with_reducible refine HIf.mk (fun q=> ?_) (fun q=> ?_))<;>(conv=>whnf))))
    all_goals first
      | (refine ⟨0, _, rfl, ?_, rfl⟩; clear a4 a5 a6 s1 s2 s3 t1 t2 t3 ox x1 z1 hbx; simp only [decide_eq_true_eq, decide_eq_false_iff_not, beq_iff_eq, beq_eq_false_iff_ne, Bool.false_eq_true, false_and, ne_eq] at *; unfold Many; rw [hk0, hv0]; refine ⟨fun hh => ?_, fun hh => ?_⟩ <;> first | omega | exact hh.elim | (exfalso; omega))
      | (refine ⟨d.keys.length, _, rfl, ?_, rfl⟩; clear a4 a5 a6 s1 s2 s3 t1 t2 t3 ox x1 z1 hbx; simp only [decide_eq_true_eq, decide_eq_false_iff_not, beq_iff_eq, beq_eq_false_iff_ne, Bool.false_eq_true, false_and, ne_eq] at *; unfold Many; rw [hk0, hv0]; refine ⟨fun hh => ?_, fun hh => ?_⟩ <;> first | omega | exact hh.elim | (exfalso; omega))
      | trace_state
  · intro u h1 v3 v4
    rintro ⟨n, b, e, hb, rfl⟩
    cases e
    cases b
    · have hm : (false = true ↔ Many d) := by rw [← hb]; simp
      refine gB ?_
      refine cut_rule [6] (fun vs h' => ∃ b : Bool, vs = [.bool b] ∧ (b = true ↔ Many d ∧ ∀ j, j < d.keys.length → KeyOk d.keys j) ∧ h' = h1) rfl ?_ ?_
      · refine gA ?_
        refine loop_rule [6, 50] (fun vs h' => ∃ (i : Nat) (b : Bool), vs = [.bool b, .int .i64 i] ∧ i ≤ d.keys.length ∧ (b = true ↔ Many d ∧ ∀ j, j < i → KeyOk d.keys j) ∧ h' = h1)
          (fun vs _ => match vs with | [_, .int _ i] => d.keys.length - i.toNat | _ => 0) rfl ?_ ?_
        · exact ⟨0, _, rfl, by omega, by rw [hm]; simp, rfl⟩
        · intro u h1 v6 v50
          rintro ⟨i, b, e, hi, hbk, rfl⟩
          cases e
          refine gA ?_
          refine HIf.mk (fun hlt => ?_) (fun hlt => ?_)
          · have hi1 : i < d.keys.length := by have := of_decide_eq_true hlt; omega
            have hcnt : ((((i : Int) + 1)).toNat : Nat) = i + 1 := by omega
            have hsp : (∀ j, j < i + 1 → KeyOk d.keys j) ↔ (∀ j, j < i → KeyOk d.keys j) ∧ KeyOk d.keys i := by
              constructor
              · exact fun h => ⟨fun j hj => h j (by omega), h i (by omega)⟩
              · rintro ⟨h, h'⟩ j hj
                rcases Nat.lt_succ_iff_lt_or_eq.1 hj with hj | rfl
                · exact h j hj
                · exact h'
            have fin : ∀ b' : Bool, (b' = true ↔ b = true ∧ KeyOk d.keys i) → (b' = true ↔ Many d ∧ ∀ j, j < i + 1 → KeyOk d.keys j) := by
              intro b' hb'
              rw [hb', hbk, hsp, and_assoc]
            have hmu : d.keys.length - ((i : Int) + 1).toNat < d.keys.length - ((i : Int)).toNat := by omega
            refine gA ?_
            refine HIdx.mk i rfl hi1 ?_
            refine sl_some t1 hi1 fun p ep => ?_
            refine gA ?_
            refine t1.load ep (by simpa using hi1) ?_
            rw [List.getElem_map]
            cases b
            · refine gA ?_
              exact ⟨⟨i + 1, false, rfl, by omega, fin false (by simp), rfl⟩, hmu⟩
            by_cases hsz : d.keys[i].size ≤ 256
            · have q2 : decide ((d.keys[i].size : Int) ≤ 256) = true := decide_eq_true (by omega)
              by_cases hz : i = 0
              · subst hz
                have q3 : (((0 : Nat) : Int) == 0) = true := rfl
                refine gA ?_
                refine ⟨⟨1, true, rfl, by omega, fin true ?_, rfl⟩, hmu⟩
                simp only [true_and, true_iff]
                exact fun hj => ⟨hsz, fun h => absurd h (by omega)⟩
              · have q3 : ((i : Int) == 0) = false := by rw [beq_eq_false_iff_ne]; omega
                have hi0 : i - 1 < d.keys.length := by omega
                refine gA ?_
                refine HIdx.mk (i - 1) (by omega) hi0 ?_
                refine sl_some t1 hi0 fun p2 ep2 => ?_
                refine gA ?_
                refine t1.load ep2 (by simpa using hi0) ?_
                rw [List.getElem_map]
                refine gA ?_
                refine ⟨⟨i + 1, _, rfl, by omega, fin _ ?_, rfl⟩, hmu⟩
                simp only [true_and]
                constructor
                · exact fun h hj => ⟨hsz, fun _ => h⟩
                · exact fun h => (h hi1).2 (by omega)
            · have q2 : decide ((d.keys[i].size : Int) ≤ 256) = false := decide_eq_false (by omega)
              refine gA ?_
              refine ⟨⟨i + 1, false, rfl, by omega, fin false ?_, rfl⟩, hmu⟩
              simp only [true_and, Bool.false_eq_true, false_iff]
              exact fun h => hsz (h hi1).1
          · have hge := of_decide_eq_false hlt
            obtain rfl : i = d.keys.length := by omega
            refine gA ?_
            exact ⟨b, rfl, hbk, rfl⟩
      intro u h1 v6
      rintro ⟨b1, e, hb1, rfl⟩
      cases e
      refine gB ?_
      refine cut_rule [6] (fun vs h' => ∃ b : Bool, vs = [.bool b] ∧ (b = true ↔ b1 = true ∧ ∀ v ∈ d.vals, v.size ≤ 1024) ∧ h' = h1) rfl ?_ ?_
      · refine gA ?_
        refine loop_rule [6, 79] (fun vs h' => ∃ (i : Nat) (b : Bool), vs = [.bool b, .int .i64 i] ∧ i ≤ d.vals.length ∧ (b = true ↔ b1 = true ∧ ∀ v ∈ d.vals.take i, v.size ≤ 1024) ∧ h' = h1)
          (fun vs _ => match vs with | [_, .int _ i] => d.vals.length - i.toNat | _ => 0) rfl ?_ ?_
        · exact ⟨0, _, rfl, by omega, by simp, rfl⟩
        · intro u h1 v6 v50
          rintro ⟨i, b, e, hi, hbk, rfl⟩
          cases e
          refine gA ?_
          refine HIf.mk (fun hlt => ?_) (fun hlt => ?_)
          · have hi1 : i < d.vals.length := by have := of_decide_eq_true hlt; omega
            have fin : ∀ b' : Bool, (b' = true ↔ b = true ∧ d.vals[i].size ≤ 1024) → (b' = true ↔ b1 = true ∧ ∀ v ∈ d.vals.take (i + 1), v.size ≤ 1024) := by
              intro b' hb'
              rw [hb', hbk, List.take_add_one, List.getElem?_eq_getElem hi1]
              simp only [Option.toList_some, List.mem_append, List.mem_singleton]
              constructor
              · rintro ⟨⟨h1, h2⟩, h3⟩
                exact ⟨h1, fun v hv => hv.elim (h2 v) (fun e => e ▸ h3)⟩
              · rintro ⟨h1, h2⟩
                exact ⟨⟨h1, fun v hv => h2 v (.inl hv)⟩, h2 _ (.inr rfl)⟩
            have hmu : d.vals.length - ((i : Int) + 1).toNat < d.vals.length - ((i : Int)).toNat := by omega
            refine gA ?_
            refine HIdx.mk i rfl hi1 ?_
            refine sl_some t2 hi1 fun p ep => ?_
            refine gA ?_
            refine t2.load ep (by simpa using hi1) ?_
            rw [List.getElem_map]
            cases b
            · refine gA ?_
              exact ⟨⟨i + 1, false, rfl, by omega, fin false (by simp), rfl⟩, hmu⟩
            · refine gA ?_
              refine ⟨⟨i + 1, _, rfl, by omega, fin _ ?_, rfl⟩, hmu⟩
              simp only [true_and]
              show decide ((d.vals[i].size : Int) ≤ 1024) = true ↔ _
              rw [decide_eq_true_eq]; omega
          · have hge := of_decide_eq_false hlt
            rw [List.take_of_length_le (by omega)] at hbk
            refine gA ?_
            exact ⟨b, rfl, hbk, rfl⟩
      intro u h1 v6
      rintro ⟨b2, e, hb2, rfl⟩
      cases e
      refine gB ?_
      refine cut_rule [6] (fun vs h' => ∃ b : Bool, vs = [.bool b] ∧ (b = true ↔ b2 = true ∧ ∀ k ∈ d.kids, 1 ≤ k ∧ k ≤ 2147483647) ∧ h' = h1) rfl ?_ ?_
      · refine gA ?_
        refine loop_rule [6, 93] (fun vs h' => ∃ (i : Nat) (b : Bool), vs = [.bool b, .int .i64 i] ∧ i ≤ d.kids.length ∧ (b = true ↔ b2 = true ∧ ∀ k ∈ d.kids.take i, 1 ≤ k ∧ k ≤ 2147483647) ∧ h' = h1)
          (fun vs _ => match vs with | [_, .int _ i] => d.kids.length - i.toNat | _ => 0) rfl ?_ ?_
        · exact ⟨0, _, rfl, by omega, by simp, rfl⟩
        · intro u h1 v6 v50
          rintro ⟨i, b, e, hi, hbk, rfl⟩
          cases e
          refine gA ?_
          refine HIf.mk (fun hlt => ?_) (fun hlt => ?_)
          · have hi1 : i < d.kids.length := by have := of_decide_eq_true hlt; omega
            have fin : ∀ b' : Bool, (b' = true ↔ b = true ∧ (1 ≤ d.kids[i] ∧ d.kids[i] ≤ 2147483647)) → (b' = true ↔ b2 = true ∧ ∀ k ∈ d.kids.take (i + 1), 1 ≤ k ∧ k ≤ 2147483647) := by
              intro b' hb'
              rw [hb', hbk, List.take_add_one, List.getElem?_eq_getElem hi1]
              simp only [Option.toList_some, List.mem_append, List.mem_singleton]
              constructor
              · rintro ⟨⟨h1, h2⟩, h3⟩
                exact ⟨h1, fun v hv => hv.elim (h2 v) (fun e => e ▸ h3)⟩
              · rintro ⟨h1, h2⟩
                exact ⟨⟨h1, fun v hv => h2 v (.inl hv)⟩, h2 _ (.inr rfl)⟩
            have hmu : d.kids.length - ((i : Int) + 1).toNat < d.kids.length - ((i : Int)).toNat := by omega
            refine gA ?_
            refine HIdx.mk i rfl hi1 ?_
            refine sl_some t3 hi1 fun p ep => ?_
            refine gA ?_
            refine t3.load ep (by simpa using hi1) ?_
            rw [List.getElem_map]
            cases b
            · refine gA ?_
              exact ⟨⟨i + 1, false, rfl, by omega, fin false (by simp), rfl⟩, hmu⟩
            by_cases hk1 : 1 ≤ d.kids[i]
            · have q2 : decide (d.kids[i] ≥ 1) = true := decide_eq_true hk1
              refine gA ?_
              refine ⟨⟨i + 1, _, rfl, by omega, fin _ ?_, rfl⟩, hmu⟩
              simp only [true_and]
              show decide (d.kids[i] ≤ 2147483647) = true ↔ _
              rw [decide_eq_true_eq]; omega
            · have q2 : decide (d.kids[i] ≥ 1) = false := decide_eq_false hk1
              refine gA ?_
              refine ⟨⟨i + 1, false, rfl, by omega, fin false ?_, rfl⟩, hmu⟩
              simp only [true_and, Bool.false_eq_true, false_iff]
              omega
          · have hge := of_decide_eq_false hlt
            rw [List.take_of_length_le (by omega)] at hbk
            refine gA ?_
            exact ⟨b, rfl, hbk, rfl⟩
      intro u h1 v6
      rintro ⟨b3, e, hb3, rfl⟩
      cases e
      have hall : b3 = true ↔ NMay d := by unfold NMay; rw [hb3, hb2, hb1]; simp only [and_assoc]
      cases b3
      · refine gA ?_
        exact ⟨false, rfl, hall, x1⟩
      · refine gA ?_
        exact ⟨true, rfl, hall, x1⟩
    · have hm : (((d.vals.length : Int) == (n : Int)) = true ↔ Many d) := by rw [← hb, beq_iff_eq]; simp only [true_and]; omega
      refine gB ?_
      refine cut_rule [6] (fun vs h' => ∃ b : Bool, vs = [.bool b] ∧ (b = true ↔ Many d ∧ ∀ j, j < d.keys.length → KeyOk d.keys j) ∧ h' = h1) rfl ?_ ?_
      · refine gA ?_
        refine loop_rule [6, 50] (fun vs h' => ∃ (i : Nat) (b : Bool), vs = [.bool b, .int .i64 i] ∧ i ≤ d.keys.length ∧ (b = true ↔ Many d ∧ ∀ j, j < i → KeyOk d.keys j) ∧ h' = h1)
          (fun vs _ => match vs with | [_, .int _ i] => d.keys.length - i.toNat | _ => 0) rfl ?_ ?_
        · exact ⟨0, _, rfl, by omega, by rw [hm]; simp, rfl⟩
        · intro u h1 v6 v50
          rintro ⟨i, b, e, hi, hbk, rfl⟩
          cases e
          refine gA ?_
          refine HIf.mk (fun hlt => ?_) (fun hlt => ?_)
          · have hi1 : i < d.keys.length := by have := of_decide_eq_true hlt; omega
            have hcnt : ((((i : Int) + 1)).toNat : Nat) = i + 1 := by omega
            have hsp : (∀ j, j < i + 1 → KeyOk d.keys j) ↔ (∀ j, j < i → KeyOk d.keys j) ∧ KeyOk d.keys i := by
              constructor
              · exact fun h => ⟨fun j hj => h j (by omega), h i (by omega)⟩
              · rintro ⟨h, h'⟩ j hj
                rcases Nat.lt_succ_iff_lt_or_eq.1 hj with hj | rfl
                · exact h j hj
                · exact h'
            have fin : ∀ b' : Bool, (b' = true ↔ b = true ∧ KeyOk d.keys i) → (b' = true ↔ Many d ∧ ∀ j, j < i + 1 → KeyOk d.keys j) := by
              intro b' hb'
              rw [hb', hbk, hsp, and_assoc]
            have hmu : d.keys.length - ((i : Int) + 1).toNat < d.keys.length - ((i : Int)).toNat := by omega
            refine gA ?_
            refine HIdx.mk i rfl hi1 ?_
            refine sl_some t1 hi1 fun p ep => ?_
            refine gA ?_
            refine t1.load ep (by simpa using hi1) ?_
            rw [List.getElem_map]
            cases b
            · refine gA ?_
              exact ⟨⟨i + 1, false, rfl, by omega, fin false (by simp), rfl⟩, hmu⟩
            by_cases hsz : d.keys[i].size ≤ 256
            · have q2 : decide ((d.keys[i].size : Int) ≤ 256) = true := decide_eq_true (by omega)
              by_cases hz : i = 0
              · subst hz
                have q3 : (((0 : Nat) : Int) == 0) = true := rfl
                refine gA ?_
                refine ⟨⟨1, true, rfl, by omega, fin true ?_, rfl⟩, hmu⟩
                simp only [true_and, true_iff]
                exact fun hj => ⟨hsz, fun h => absurd h (by omega)⟩
              · have q3 : ((i : Int) == 0) = false := by rw [beq_eq_false_iff_ne]; omega
                have hi0 : i - 1 < d.keys.length := by omega
                refine gA ?_
                refine HIdx.mk (i - 1) (by omega) hi0 ?_
                refine sl_some t1 hi0 fun p2 ep2 => ?_
                refine gA ?_
                refine t1.load ep2 (by simpa using hi0) ?_
                rw [List.getElem_map]
                refine gA ?_
                refine ⟨⟨i + 1, _, rfl, by omega, fin _ ?_, rfl⟩, hmu⟩
                simp only [true_and]
                constructor
                · exact fun h hj => ⟨hsz, fun _ => h⟩
                · exact fun h => (h hi1).2 (by omega)
            · have q2 : decide ((d.keys[i].size : Int) ≤ 256) = false := decide_eq_false (by omega)
              refine gA ?_
              refine ⟨⟨i + 1, false, rfl, by omega, fin false ?_, rfl⟩, hmu⟩
              simp only [true_and, Bool.false_eq_true, false_iff]
              exact fun h => hsz (h hi1).1
          · have hge := of_decide_eq_false hlt
            obtain rfl : i = d.keys.length := by omega
            refine gA ?_
            exact ⟨b, rfl, hbk, rfl⟩
      intro u h1 v6
      rintro ⟨b1, e, hb1, rfl⟩
      cases e
      refine gB ?_
      refine cut_rule [6] (fun vs h' => ∃ b : Bool, vs = [.bool b] ∧ (b = true ↔ b1 = true ∧ ∀ v ∈ d.vals, v.size ≤ 1024) ∧ h' = h1) rfl ?_ ?_
      · refine gA ?_
        refine loop_rule [6, 79] (fun vs h' => ∃ (i : Nat) (b : Bool), vs = [.bool b, .int .i64 i] ∧ i ≤ d.vals.length ∧ (b = true ↔ b1 = true ∧ ∀ v ∈ d.vals.take i, v.size ≤ 1024) ∧ h' = h1)
          (fun vs _ => match vs with | [_, .int _ i] => d.vals.length - i.toNat | _ => 0) rfl ?_ ?_
        · exact ⟨0, _, rfl, by omega, by simp, rfl⟩
        · intro u h1 v6 v50
          rintro ⟨i, b, e, hi, hbk, rfl⟩
          cases e
          refine gA ?_
          refine HIf.mk (fun hlt => ?_) (fun hlt => ?_)
          · have hi1 : i < d.vals.length := by have := of_decide_eq_true hlt; omega
            have fin : ∀ b' : Bool, (b' = true ↔ b = true ∧ d.vals[i].size ≤ 1024) → (b' = true ↔ b1 = true ∧ ∀ v ∈ d.vals.take (i + 1), v.size ≤ 1024) := by
              intro b' hb'
              rw [hb', hbk, List.take_add_one, List.getElem?_eq_getElem hi1]
              simp only [Option.toList_some, List.mem_append, List.mem_singleton]
              constructor
              · rintro ⟨⟨h1, h2⟩, h3⟩
                exact ⟨h1, fun v hv => hv.elim (h2 v) (fun e => e ▸ h3)⟩
              · rintro ⟨h1, h2⟩
                exact ⟨⟨h1, fun v hv => h2 v (.inl hv)⟩, h2 _ (.inr rfl)⟩
            have hmu : d.vals.length - ((i : Int) + 1).toNat < d.vals.length - ((i : Int)).toNat := by omega
            refine gA ?_
            refine HIdx.mk i rfl hi1 ?_
            refine sl_some t2 hi1 fun p ep => ?_
            refine gA ?_
            refine t2.load ep (by simpa using hi1) ?_
            rw [List.getElem_map]
            cases b
            · refine gA ?_
              exact ⟨⟨i + 1, false, rfl, by omega, fin false (by simp), rfl⟩, hmu⟩
            · refine gA ?_
              refine ⟨⟨i + 1, _, rfl, by omega, fin _ ?_, rfl⟩, hmu⟩
              simp only [true_and]
              show decide ((d.vals[i].size : Int) ≤ 1024) = true ↔ _
              rw [decide_eq_true_eq]; omega
          · have hge := of_decide_eq_false hlt
            rw [List.take_of_length_le (by omega)] at hbk
            refine gA ?_
            exact ⟨b, rfl, hbk, rfl⟩
      intro u h1 v6
      rintro ⟨b2, e, hb2, rfl⟩
      cases e
      refine gB ?_
      refine cut_rule [6] (fun vs h' => ∃ b : Bool, vs = [.bool b] ∧ (b = true ↔ b2 = true ∧ ∀ k ∈ d.kids, 1 ≤ k ∧ k ≤ 2147483647) ∧ h' = h1) rfl ?_ ?_
      · refine gA ?_
        refine loop_rule [6, 93] (fun vs h' => ∃ (i : Nat) (b : Bool), vs = [.bool b, .int .i64 i] ∧ i ≤ d.kids.length ∧ (b = true ↔ b2 = true ∧ ∀ k ∈ d.kids.take i, 1 ≤ k ∧ k ≤ 2147483647) ∧ h' = h1)
          (fun vs _ => match vs with | [_, .int _ i] => d.kids.length - i.toNat | _ => 0) rfl ?_ ?_
        · exact ⟨0, _, rfl, by omega, by simp, rfl⟩
        · intro u h1 v6 v50
          rintro ⟨i, b, e, hi, hbk, rfl⟩
          cases e
          refine gA ?_
          refine HIf.mk (fun hlt => ?_) (fun hlt => ?_)
          · have hi1 : i < d.kids.length := by have := of_decide_eq_true hlt; omega
            have fin : ∀ b' : Bool, (b' = true ↔ b = true ∧ (1 ≤ d.kids[i] ∧ d.kids[i] ≤ 2147483647)) → (b' = true ↔ b2 = true ∧ ∀ k ∈ d.kids.take (i + 1), 1 ≤ k ∧ k ≤ 2147483647) := by
              intro b' hb'
              rw [hb', hbk, List.take_add_one, List.getElem?_eq_getElem hi1]
              simp only [Option.toList_some, List.mem_append, List.mem_singleton]
              constructor
              · rintro ⟨⟨h1, h2⟩, h3⟩
                exact ⟨h1, fun v hv => hv.elim (h2 v) (fun e => e ▸ h3)⟩
              · rintro ⟨h1, h2⟩
                exact ⟨⟨h1, fun v hv => h2 v (.inl hv)⟩, h2 _ (.inr rfl)⟩
            have hmu : d.kids.length - ((i : Int) + 1).toNat < d.kids.length - ((i : Int)).toNat := by omega
            refine gA ?_
            refine HIdx.mk i rfl hi1 ?_
            refine sl_some t3 hi1 fun p ep => ?_
            refine gA ?_
            refine t3.load ep (by simpa using hi1) ?_
            rw [List.getElem_map]
            cases b
            · refine gA ?_
              exact ⟨⟨i + 1, false, rfl, by omega, fin false (by simp), rfl⟩, hmu⟩
            by_cases hk1 : 1 ≤ d.kids[i]
            · have q2 : decide (d.kids[i] ≥ 1) = true := decide_eq_true hk1
              refine gA ?_
              refine ⟨⟨i + 1, _, rfl, by omega, fin _ ?_, rfl⟩, hmu⟩
              simp only [true_and]
              show decide (d.kids[i] ≤ 2147483647) = true ↔ _
              rw [decide_eq_true_eq]; omega
            · have q2 : decide (d.kids[i] ≥ 1) = false := decide_eq_false hk1
              refine gA ?_
              refine ⟨⟨i + 1, false, rfl, by omega, fin false ?_, rfl⟩, hmu⟩
              simp only [true_and, Bool.false_eq_true, false_iff]
              omega
          · have hge := of_decide_eq_false hlt
            rw [List.take_of_length_le (by omega)] at hbk
            refine gA ?_
            exact ⟨b, rfl, hbk, rfl⟩
      intro u h1 v6
      rintro ⟨b3, e, hb3, rfl⟩
      cases e
      have hall : b3 = true ↔ NMay d := by unfold NMay; rw [hb3, hb2, hb1]; simp only [and_assoc]
      cases b3
      · refine gA ?_
        exact ⟨false, rfl, hall, x1⟩
      · refine gA ?_
        exact ⟨true, rfl, hall, x1⟩

set_option maxRecDepth 100000
set_option maxHeartbeats 4000000

/-- How many keys are not above. -/
def childN (ks : List ByteArray) (key : ByteArray) : Nat := ks.countP fun k => strLe k key
theorem childN_step {ks : List ByteArray} {key : ByteArray} {i : Nat} (hi : i < ks.length) : childN (ks.take (i + 1)) key = childN (ks.take i) key + (if strLe ks[i] key = true then 1 else 0) := by
  unfold childN
  rw [List.take_add_one, List.getElem?_eq_getElem hi, Option.toList_some, List.countP_append, List.countP_singleton]
theorem childN_le (ks : List ByteArray) (key : ByteArray) : childN ks key ≤ ks.length := List.countP_le_length
theorem childN_at {ks : List ByteArray} {key : ByteArray} {j : Nat} (hj : j ≤ ks.length) (h1 : ∀ i (hi : i < ks.length), i < j → strLe ks[i] key = true) (h2 : ∀ i (hi : i < ks.length), j ≤ i → strLe ks[i] key = false) : childN ks key = j := by
  have key1 : ∀ i, i ≤ ks.length → childN (ks.take i) key = min i j := by
    intro i
    induction i with
    | zero => intro _; simp [childN]
    | succ i ih =>
      intro hi
      rw [childN_step (by omega), ih (by omega)]
      by_cases h : i < j
      · rw [h1 i (by omega) h, if_pos rfl]; omega
      · rw [h2 i (by omega) (by omega), if_neg (by simp)]; omega
  have := key1 ks.length (Nat.le_refl _)
  rw [List.take_length] at this
  rw [this]; omega

/-- Rising keys. -/
def RiseLe (ks : List ByteArray) : Prop := ∀ i (hi : i + 1 < ks.length), strLe ks[i] ks[i + 1] = true
theorem RiseLe.le {ks : List ByteArray} (r : RiseLe ks) {i : Nat} : ∀ (k : Nat) (h : i + k < ks.length), strLe (ks[i]'(by omega)) ks[i + k] = true
  | 0, h => strLe_refl _
  | k + 1, h => strLe_trans (RiseLe.le r k (by omega)) (r (i + k) h)

theorem less_spec (a b : ByteArray) (h : Heap) : HCalls Try.prog 48 #[.string a, .string b] h fun e h' => e = .returned (.bool (strLt a b)) ∧ h' = h := by
  have nan : ∀ s : ByteArray, HCalls Try.prog 51 #[.string s] h fun e h' => e = .returned (.bool false) ∧ h' = h := by
    intro s
    refine c51 (by simp) ?_
    have q : (!strEq s s) = false := by rw [(strEq_iff s s).2 rfl]; rfl
    refine gA ?_
    generalize he : (!strEq s s) = b at q ⊢
    subst q
    exact ⟨rfl, rfl⟩
  refine c48 (by simp) ?_
  refine gA ?_
  refine HCall.mk ((nan a).mono ?_)
  rintro e _ ⟨rfl, rfl⟩
  refine gA ?_
  exact ⟨rfl, rfl⟩

theorem isSorted_spec {a : Option Addr} {n c : Nat} {l : List ByteArray} {h : Heap} (x : Sl h 1 a n c (l.map .string)) (hn : n ≤ 1048576) :
    HCalls Try.prog 37 #[.slice a n c] h fun e h' => ∃ r, e = .returned (.bool r) ∧ (r = true → RiseLe l) ∧ h' = h := by
  have hl : l.length = n := by simpa using x.1
  refine c37 (by simp) ?_
  refine gA ?_
  refine loop_rule [3] (fun vs h' => ∃ (m : Int), vs = [.int .i64 m] ∧ m < n ∧ -1 ≤ m ∧ (∀ i (hi : i + 1 < l.length), m ≤ i → strLe l[i] l[i + 1] = true) ∧ h' = h)
    (fun vs _ => match vs with | [.int _ i] => i.toNat | _ => 0) rfl ?_ ?_
  · exact ⟨_, rfl, by omega, by omega, by intro i hi hm; omega, rfl⟩
  intro u h1 v3
  rintro ⟨m, e, h2, h3, hs, rfl⟩
  cases e
  refine gA ?_
  refine HIf.mk (fun hlt => ?_) (fun hlt => ?_)
  · have hm := of_decide_eq_true hlt
    obtain ⟨i, rfl⟩ : ∃ i : Nat, m = ((i + 1 : Nat) : Int) := ⟨m.toNat - 1, by omega⟩
    have hi1 : i + 1 < n := by omega
    have i1 : i + 1 < l.length := by omega
    have i0 : i < l.length := by omega
    have hmu : (((i + 1 : Nat) : Int) - 1).toNat < (((i + 1 : Nat) : Int)).toNat := by omega
    refine gA ?_
    refine HIdx.mk (i + 1) rfl hi1 ?_
    refine sl_some x hi1 fun p ep => ?_
    refine gA ?_
    refine x.load ep (by simpa using i1) ?_
    rw [List.getElem_map]
    refine gA ?_
    refine HIdx.mk i (by omega) (by omega) ?_
    refine sl_some x (i := i) (by omega) fun p ep => ?_
    refine gA ?_
    refine x.load ep (by simpa using i0) ?_
    rw [List.getElem_map]
    refine gA ?_
    refine HCall.mk ((less_spec l[i + 1] l[i] _).mono ?_)
    rintro e _ ⟨rfl, rfl⟩
    cases hb : strLt l[i + 1] l[i]
    · refine gA ?_
      refine ⟨⟨_, rfl, by omega, by omega, ?_, rfl⟩, hmu⟩
      intro j hj hm
      by_cases e : j = i
      · subst e; unfold strLe; rw [hb]; rfl
      · exact hs j hj (by omega)
    · refine gA ?_
      exact ⟨false, rfl, by simp, rfl⟩
  · have hm := of_decide_eq_false hlt
    refine gA ?_
    exact ⟨true, rfl, fun _ i hi => hs i hi (by omega), rfl⟩

theorem shr1_64 (n : Nat) : ((n : Int)).fdiv (2 ^ (min (Int.toNat 1) (IntKind.bits .u64))) = ((n / 2 : Nat) : Int) := by
  have e : min (Int.toNat 1) (IntKind.bits .u64) = 1 := by decide
  rw [e, Int.fdiv_eq_ediv_of_nonneg _ (by decide)]; rfl

theorem closure_spec {d : ND} {h : Heap} {cs : List Value} {b1 b2 e1 e2 i : Nat} {key : ByteArray} (ra : NRep h d cs) (o1 : BlkW h b1 e1 cs) (o2 : BlkW h b2 e2 [.string key]) (hi : i < d.keys.length) :
    HCalls Try.prog 39 #[.int .i64 i, .pointer (some ⟨b1, 0, none⟩), .pointer (some ⟨b2, 0, none⟩)] h fun e h' => e = .returned (.bool (!strLe d.keys[i] key)) ∧ h' = h := by
  obtain ⟨a1, a2, a3, a4, a5, a6, ka, kc, va, vc, ia, ic, rfl, s1, s2, s3⟩ := ra
  refine c39 (by simp) ?_
  refine gA ?_
  refine HIdx.mk i rfl hi ?_
  refine sl_some s1 hi fun p ep => ?_
  refine gA ?_
  refine s1.load ep (by simpa using hi) ?_
  rw [List.getElem_map]
  have q : (!(strLt d.keys[i] key || strEq d.keys[i] key)) = !strLe d.keys[i] key := by rw [strLe_not]; rfl
  refine gA ?_
  generalize he : (!(strLt d.keys[i] key || strEq d.keys[i] key)) = b at q ⊢
  subst q
  exact ⟨rfl, rfl⟩

theorem search_spec {d : ND} {h : Heap} {cs : List Value} {b1 b2 e1 e2 : Nat} {key : ByteArray} (ra : NRep h d cs) (o1 : BlkW h b1 e1 cs) (o2 : BlkW h b2 e2 [.string key]) (hr : RiseLe d.keys) :
    HCalls Try.prog 38 #[.int .i64 d.keys.length, .func (.func 39) #[] #[.pointer (some ⟨b1, 0, none⟩), .pointer (some ⟨b2, 0, none⟩)]] h
      fun e h' => e = .returned (.int .i64 (childN d.keys key : Nat)) ∧ h' = h := by
  have hk : d.keys.length ≤ 1048576 := ra.1
  refine c38 (by simp) ?_
  refine gB ?_
  refine cut_rule [5] (fun vs h' => vs = [.int .i64 (childN d.keys key : Nat)] ∧ h' = h) rfl ?_ ?_
  · refine gA ?_
    refine loop_rule [5, 6] (fun vs h' => ∃ (i j : Nat), vs = [.int .i64 i, .int .i64 j] ∧ i ≤ j ∧ j ≤ d.keys.length ∧ (∀ m (hm : m < d.keys.length), m < i → strLe d.keys[m] key = true) ∧ (∀ m (hm : m < d.keys.length), j ≤ m → strLe d.keys[m] key = false) ∧ h' = h)
      (fun vs _ => match vs with | [.int _ i, .int _ j] => (j - i).toNat | _ => 0) rfl ?_ ?_
    · exact ⟨0, d.keys.length, rfl, by omega, by omega, by intro m hm h; omega, by intro m hm h; omega, rfl⟩
    intro u h1 v5 v6
    rintro ⟨i, j, e, hij, hj, lo, hi, rfl⟩
    cases e
    refine gA ?_
    refine HIf.mk (fun hlt => ?_) (fun hlt => ?_)
    · have hlt' := of_decide_eq_true hlt
      generalize hm : (i + j) / 2 = m
      have hm1 : m < d.keys.length := by omega
      have hmu1 : ((j : Int) - ((m : Int) + 1)).toNat < ((j : Int) - (i : Int)).toNat := by omega
      have hmu2 : ((m : Int) - (i : Int)).toNat < ((j : Int) - (i : Int)).toNat := by omega
      refine gA ?_
      refine HInt.mk m ?_ ?_
      · have := shr1_64 (i + j)
        rw [hm] at this
        rw [Int.natCast_add] at this
        rw [this]
        exact wrap_i64 (by omega)
      refine gA ?_
      refine HCall.mk ((closure_spec ra o1 o2 hm1).mono ?_)
      rintro e _ ⟨rfl, rfl⟩
      cases hb : strLe d.keys[m] key
      · refine gA ?_
        refine ⟨⟨i, m, rfl, by omega, by omega, lo, ?_, rfl⟩, hmu2⟩
        intro m' hm' hle
        cases hb' : strLe d.keys[m'] key
        · rfl
        · have := hr.le (i := m) (m' - m) (by omega)
          have e3 : m + (m' - m) = m' := by omega
          simp only [e3] at this
          have := strLe_trans this hb'
          rw [hb] at this; cases this
      · refine gA ?_
        refine ⟨⟨m + 1, j, rfl, by omega, by omega, ?_, hi, rfl⟩, hmu1⟩
        intro m' hm' hle
        have := hr.le (i := m') (m - m') (by omega)
        have e3 : m' + (m - m') = m := by omega
        simp only [e3] at this
        exact strLe_trans this hb
    · have hge := of_decide_eq_false hlt
      obtain rfl : i = j := by omega
      refine gA ?_
      refine ⟨?_, rfl⟩
      rw [childN_at hj lo hi]
      rfl
  intro u h1 v5
  rintro ⟨e, rfl⟩
  cases e
  refine gA ?_
  exact ⟨rfl, rfl⟩

theorem childN_spec {d : ND} {h : Heap} {cs : List Value} (key : ByteArray) (ra : NRep h d cs) :
    HCalls Try.prog 26 #[.agg cs.toArray, .string key] h fun e h' => e = .returned (.int .i64 (childN d.keys key : Nat)) ∧ Ext h h' := by
  have ra0 := ra
  obtain ⟨a1, a2, a3, a4, a5, a6, ka, kc, va, vc, ia, ic, rfl, s1, s2, s3⟩ := ra
  refine c26 (by simp) ?_
  (conv => whnf)
  refine new_var (e := 41) [.slice ka d.keys.length kc, .slice va d.vals.length vc, .slice ia d.kids.length ic] rfl ?_
  intro h1 bx ox x1 z1 hbx
  refine gA ?_
  refine new_var (e := 9) [.string key] rfl ?_
  intro h2 b2 o2 x2 z2 hb2
  have ox2 := ox.ext x2
  have x02 := x1.trans x2
  have t1 := s1.ext x02
  refine gA ?_
  refine HCall.mk ((isSorted_spec t1 a1).mono ?_)
  rintro e h2 ⟨r, rfl, hr, rfl⟩
  cases r
  · refine gA ?_
    refine loop_rule [5, 19] (fun vs h' => ∃ (i : Nat), vs = [.int .i64 (childN (d.keys.take i) key : Nat), .int .i64 i] ∧ i ≤ d.keys.length ∧ h' = h2)
      (fun vs _ => match vs with | [_, .int _ i] => d.keys.length - i.toNat | _ => 0) rfl ?_ ?_
    · exact ⟨0, rfl, by omega, rfl⟩
    intro u h2 v5 v11
    rintro ⟨i, e, hi, rfl⟩
    cases e
    refine gA ?_
    refine HIf.mk (fun hlt => ?_) (fun hlt => ?_)
    · have hi1 : i < d.keys.length := by have := of_decide_eq_true hlt; omega
      have hmu : d.keys.length - ((i : Int) + 1).toNat < d.keys.length - ((i : Int)).toNat := by omega
      have hc := childN_le (d.keys.take i) key
      rw [List.length_take] at hc
      have hst := childN_step (key := key) hi1
      refine gA ?_
      refine HIdx.mk i rfl hi1 ?_
      refine sl_some t1 hi1 fun p ep => ?_
      refine gA ?_
      refine t1.load ep (by simpa using hi1) ?_
      rw [List.getElem_map]
      have hle := strLe_not d.keys[i] key
      unfold strLe at hst
      cases hb : strLt key d.keys[i]
      · rw [hb] at hst hle
        simp only [Bool.not_false, if_true] at hst
        have q : (strLt d.keys[i] key || strEq d.keys[i] key) = true := hle
        refine gA ?_
        refine ⟨⟨i + 1, ?_, by omega, rfl⟩, hmu⟩
        rw [hst]; rfl
      · rw [hb] at hst hle
        simp only [Bool.not_true, Bool.false_eq_true, if_false, Nat.add_zero] at hst
        have q : (strLt d.keys[i] key || strEq d.keys[i] key) = false := hle
        refine gA ?_
        refine ⟨⟨i + 1, ?_, by omega, rfl⟩, hmu⟩
        rw [hst]; rfl
    · have hge := of_decide_eq_false hlt
      obtain rfl : i = d.keys.length := by omega
      refine gA ?_
      refine ⟨?_, x02⟩
      rw [List.take_length]; rfl
  · refine gA ?_
    refine HCall.mk ((search_spec (ra0.ext x02) ox2 o2 (hr rfl)).mono ?_)
    rintro e _ ⟨rfl, rfl⟩
    refine gA ?_
    exact ⟨rfl, x02⟩

end Go.Proofs.Ytljindmibfkhfaa.Hc
/- Trees of pairs over a map of nodes: what putting does, as plain functions; what a whole tree is. No program in sight. -/
set_option linter.unusedVariables false
set_option linter.unusedSimpArgs false
namespace Go.Proofs.Ytljindmibfkhfaa.Hc
open Go Go.H Go.Proofs
set_option maxRecDepth 100000
abbrev Pr := ByteArray × ByteArray
abbrev Nodes := List (Int × ND)
abbrev ndE : ND := ⟨[], [], []⟩
def nodeOf (l : Nodes) (i : Int) : ND := (getA i l).getD ndE
/-- A text put in at a place. -/
def insAt {α : Type} (l : List α) (i : Nat) (x : α) : List α := l.take i ++ x :: l.drop i
/-- How many keys are below. -/
def lowerN (ks : List ByteArray) (key : ByteArray) : Nat := ks.countP fun k => strLt k key
def insLeaf (n : ND) (key val : ByteArray) : ND :=
  if n.keys[lowerN n.keys key]? = some key then ⟨n.keys, n.vals.set (lowerN n.keys key) val, n.kids⟩
  else ⟨insAt n.keys (lowerN n.keys key) key, insAt n.vals (lowerN n.keys key) val, n.kids⟩
def halvesF (n : ND) : List ND × ByteArray :=
  if 12 < n.kids.length then
    ([⟨n.keys.take (n.kids.length / 2 - 1), [], n.kids.take (n.kids.length / 2)⟩, ⟨n.keys.drop (n.kids.length / 2), [], n.kids.drop (n.kids.length / 2)⟩], n.keys.getD (n.kids.length / 2 - 1) ⟨#[]⟩)
  else if n.kids = [] ∧ 3 < n.keys.length then
    ([⟨n.keys.take (n.keys.length / 2), n.vals.take (n.keys.length / 2), []⟩, ⟨n.keys.drop (n.keys.length / 2), n.vals.drop (n.keys.length / 2), []⟩], n.keys.getD (n.keys.length / 2) ⟨#[]⟩)
  else ([n], ⟨#[]⟩)
/-- The nodes that there are, and where a free number is looked for. -/
structure TS where
  l : Nodes
  nx : Int
def freeF : Nat → Nodes → Int → Int
  | 0, l, i => i
  | f + 1, l, i => if getA i l = none then i else freeF f l (i + 1)
def mkF (s : TS) (n : ND) : TS × Int := (⟨putA (freeF (s.l.length + 1) s.l s.nx) n s.l, freeF (s.l.length + 1) s.l s.nx⟩, freeF (s.l.length + 1) s.l s.nx)
def mksF : TS → List ND → TS × List Int
  | s, [] => (s, [])
  | s, n :: r => ((mksF (mkF s n).1 r).1, (mkF s n).2 :: (mksF (mkF s n).1 r).2)
def putF : Nat → TS → Int → ByteArray → ByteArray → TS × List Int × ByteArray
  | 0, s, i, key, val => (s, [i], ⟨#[]⟩)
  | f + 1, s, i, key, val =>
    let n := nodeOf s.l i
    if n.kids = [] then
      let q := halvesF (insLeaf n key val)
      let m := mksF s q.1
      (m.1, m.2, q.2)
    else
      let j := childN n.keys key
      let p := putF f s (n.kids.getD j 0) key val
      let q := halvesF ⟨if 1 < p.2.1.length then insAt n.keys j p.2.2 else n.keys, n.vals, n.kids.take j ++ p.2.1 ++ n.kids.drop (j + 1)⟩
      let m := mksF p.1 q.1
      (m.1, m.2, q.2)
/-- A tree: its number, its keys, its values, its kids. -/
inductive BT where
  | mk : Int → List ByteArray → List ByteArray → List BT → BT
def BT.id : BT → Int | .mk i _ _ _ => i
mutual
/-- Its pairs. -/
def toL : BT → List Pr
  | .mk _ ks vs kids => toLs kids ++ ks.zip vs
def toLs : List BT → List Pr
  | [] => []
  | t :: r => toL t ++ toLs r
end
mutual
def idsT : BT → List Int
  | .mk i _ _ kids => i :: idsL kids
def idsL : List BT → List Int
  | [] => []
  | t :: r => idsT t ++ idsL r
end
mutual
/-- These nodes hold the tree. -/
def Hold (l : Nodes) : BT → Prop
  | .mk i ks vs kids => nodeOf l i = ⟨ks, vs, kids.map BT.id⟩ ∧ HoldL l kids
def HoldL (l : Nodes) : List BT → Prop
  | [] => True
  | t :: r => Hold l t ∧ HoldL l r
end
def Above (lo : Option ByteArray) (k : ByteArray) : Prop := match lo with | none => True | some a => strLe a k = true
def Over (lo : Option ByteArray) (k : ByteArray) : Prop := match lo with | none => True | some a => strLt a k = true
def Below (hi : Option ByteArray) (k : ByteArray) : Prop := match hi with | none => True | some b => strLt k b = true
mutual
/-- Keys rise, and stand where they must. -/
def Ord (lo hi : Option ByteArray) : BT → Prop
  | .mk _ ks vs [] => ks.Pairwise (fun a b => strLt a b = true) ∧ (∀ k ∈ ks, Above lo k ∧ Below hi k) ∧ vs.length = ks.length
  | .mk _ ks vs (t :: r) => vs = [] ∧ OrdL lo hi ks (t :: r)
def OrdL (lo hi : Option ByteArray) : List ByteArray → List BT → Prop
  | _, [] => False
  | [], t :: r => r = [] ∧ Ord lo hi t
  | k :: ks, t :: r => Over lo k ∧ Below hi k ∧ Ord lo (some k) t ∧ OrdL (some k) hi ks r
end
/-- All leaves are as deep; as many kids as must be (b, e: the least of the topmost node's kids, of a leaf's keys). -/
def UniT : Nat → Nat → Nat → BT → Prop
  | 0, b, e, .mk _ ks _ kids => kids = [] ∧ e ≤ ks.length ∧ ks.length ≤ 3
  | n + 1, b, e, .mk _ _ _ kids => b ≤ kids.length ∧ kids.length ≤ 12 ∧ ∀ t ∈ kids, UniT n 6 1 t
/-- A pair put in among others, by rising keys. -/
def insP (l : List Pr) (key val : ByteArray) : List Pr := l.filter (fun p => strLt p.1 key) ++ (key, val) :: l.filter (fun p => strLt key p.1)
theorem insP_mid {a m c : List Pr} {key val : ByteArray} (ha : ∀ p ∈ a, strLt p.1 key = true) (hc : ∀ p ∈ c, strLt key p.1 = true) : insP (a ++ m ++ c) key val = a ++ insP m key val ++ c := by
  have a1 : a.filter (fun p => strLt p.1 key) = a := List.filter_eq_self.2 ha
  have a2 : a.filter (fun p => strLt key p.1) = [] := List.filter_eq_nil_iff.2 fun p hp => by rw [strLt_asymm (ha p hp)]; simp
  have c1 : c.filter (fun p => strLt p.1 key) = [] := List.filter_eq_nil_iff.2 fun p hp => by rw [strLt_asymm (hc p hp)]; simp
  have c2 : c.filter (fun p => strLt key p.1) = c := List.filter_eq_self.2 hc
  unfold insP
  simp only [List.filter_append, a1, a2, c1, c2, List.append_assoc, List.nil_append, List.append_nil, List.cons_append]
theorem toLs_append : ∀ a b : List BT, toLs (a ++ b) = toLs a ++ toLs b
  | [], b => rfl
  | t :: a, b => by simp only [List.cons_append, toLs, toLs_append a b, List.append_assoc]
theorem idsL_append : ∀ a b : List BT, idsL (a ++ b) = idsL a ++ idsL b
  | [], b => rfl
  | t :: a, b => by simp only [List.cons_append, idsL, idsL_append a b, List.append_assoc]
theorem holdL_append {l : Nodes} : ∀ a b : List BT, HoldL l (a ++ b) ↔ HoldL l a ∧ HoldL l b
  | [], b => by simp [HoldL]
  | t :: a, b => by simp only [List.cons_append, HoldL, holdL_append a b, and_assoc]
theorem Above.le {lo : Option ByteArray} {a b : ByteArray} (h : Above lo a) (k : strLe a b = true) : Above lo b := by
  cases lo with
  | none => trivial
  | some x => exact strLe_trans h k
theorem lt_of_le_lt' {a b c : ByteArray} (h : strLe a b = true) (k : strLt b c = true) : strLt a c = true := by
  rcases strLt_tri a b with t | rfl | t
  · exact strLt_trans t k
  · exact k
  · unfold strLe at h; rw [t] at h; cases h
theorem Over.above {lo : Option ByteArray} {a : ByteArray} (h : Over lo a) : Above lo a := by
  cases lo with
  | none => trivial
  | some x => exact strLe_of_lt h
theorem Over.le {lo : Option ByteArray} {a b : ByteArray} (h : Above lo a) (k : strLt a b = true) : Over lo b := by
  cases lo with
  | none => trivial
  | some x => exact lt_of_le_lt' h k
theorem lt_of_lt_le {a b c : ByteArray} (h : strLt a b = true) (k : strLe b c = true) : strLt a c = true := by
  rcases strLt_tri b c with t | rfl | t
  · exact strLt_trans h t
  · exact h
  · unfold strLe at k; rw [t] at k; cases k
theorem lt_of_le_lt {a b c : ByteArray} (h : strLe a b = true) (k : strLt b c = true) : strLt a c = true := by
  rcases strLt_tri a b with t | rfl | t
  · exact strLt_trans t k
  · exact k
  · unfold strLe at h; rw [t] at h; cases h
theorem Below.lt {hi : Option ByteArray} {a b : ByteArray} (h : Below hi b) (k : strLe a b = true) : Below hi a := by
  cases hi with
  | none => trivial
  | some x => exact lt_of_le_lt k h
theorem zip_mem {ks vs : List ByteArray} {p : Pr} (h : p ∈ ks.zip vs) : p.1 ∈ ks := (List.of_mem_zip (a := p.1) (b := p.2) h).1
mutual
/-- A tree's keys stand where they must. -/
theorem ord_within {lo hi : Option ByteArray} : ∀ t : BT, Ord lo hi t → ∀ p ∈ toL t, Above lo p.1 ∧ Below hi p.1
  | .mk _ ks vs [], h, p, hp => by
    simp only [Ord] at h
    simp only [toL, toLs, List.nil_append] at hp
    exact h.2.1 _ (zip_mem hp)
  | .mk _ ks vs (t :: r), h, p, hp => by
    simp only [Ord] at h
    rw [toL, h.1, List.zip_nil_right, List.append_nil] at hp
    exact ordL_within (t :: r) h.2 p hp
theorem ordL_within {lo hi : Option ByteArray} : ∀ {ks : List ByteArray} (l : List BT), OrdL lo hi ks l → ∀ p ∈ toLs l, Above lo p.1 ∧ Below hi p.1
  | _, [], h, p, hp => by simp [OrdL] at h
  | [], t :: r, h, p, hp => by
    simp only [OrdL] at h
    rw [h.1] at hp
    simp only [toLs, List.append_nil] at hp
    exact ord_within t h.2 p hp
  | k :: ks, t :: r, h, p, hp => by
    simp only [OrdL] at h
    simp only [toLs, List.mem_append] at hp
    rcases hp with hp | hp
    · have := ord_within t h.2.2.1 p hp
      exact ⟨this.1, h.2.1.lt (strLe_of_lt this.2)⟩
    · have := ordL_within r h.2.2.2 p hp
      exact ⟨h.1.above.le this.1, this.2⟩
end
theorem ordL_keys {hi : Option ByteArray} : ∀ {lo : Option ByteArray} {ks : List ByteArray} (l : List BT), OrdL lo hi ks l → ∀ x ∈ ks, Over lo x ∧ Below hi x
  | lo, _, [], h, x, hx => by simp [OrdL] at h
  | lo, [], t :: r, h, x, hx => by simp at hx
  | lo, k :: ks, t :: r, h, x, hx => by
    simp only [OrdL] at h
    rcases List.mem_cons.1 hx with rfl | hx
    · exact ⟨h.1, h.2.1⟩
    · have := ordL_keys r h.2.2.2 x hx
      exact ⟨Over.le h.1.above this.1, this.2⟩
theorem ordL_append {hi : Option ByteArray} {k : ByteArray} {ks : List ByteArray} {r : List BT} (hr : OrdL (some k) hi ks r) (hb : Below hi k) : ∀ {lo : Option ByteArray} {ks' : List ByteArray} (ts : List BT), OrdL lo (some k) ks' ts → Over lo k → OrdL lo hi (ks' ++ k :: ks) (ts ++ r)
  | lo, _, [], h, ha => by simp [OrdL] at h
  | lo, [], t :: r', h, ha => by
    simp only [OrdL] at h
    obtain ⟨rfl, h⟩ := h
    simp only [List.nil_append, List.cons_append, OrdL]
    exact ⟨ha, hb, h, hr⟩
  | lo, k' :: ks', t :: r', h, ha => by
    simp only [OrdL] at h
    obtain ⟨a1, a2, a3, a4⟩ := h
    simp only [List.cons_append, OrdL]
    exact ⟨a1, hb.lt (strLe_of_lt a2), a3, ordL_append hr hb r' a4 a2⟩
theorem ordL_cut {hi : Option ByteArray} {k : ByteArray} {ks2 : List ByteArray} {l2 : List BT} : ∀ {lo : Option ByteArray} (ks1 : List ByteArray) (l1 : List BT), l1.length = ks1.length + 1 → OrdL lo hi (ks1 ++ k :: ks2) (l1 ++ l2) →
    OrdL lo (some k) ks1 l1 ∧ OrdL (some k) hi ks2 l2 ∧ Over lo k ∧ Below hi k
  | lo, [], [t], _, h => by
    simp only [List.nil_append, List.cons_append, OrdL] at h ⊢
    exact ⟨⟨trivial, h.2.2.1⟩, h.2.2.2, h.1, h.2.1⟩
  | lo, k' :: ks1, t :: l1, hl, h => by
    simp only [List.cons_append, OrdL] at h ⊢
    obtain ⟨a1, a2, a3, a4⟩ := h
    obtain ⟨b1, b2, b3, b4⟩ := ordL_cut ks1 l1 (by simpa using hl) a4
    exact ⟨⟨a1, b3, a3, b1⟩, b2, Over.le a1.above b3, b4⟩
  | lo, [], [], hl, h => by simp at hl
  | lo, [], _ :: _ :: _, hl, h => by simp at hl
  | lo, _ :: _, [], hl, h => by simp at hl
theorem ordL_len {hi : Option ByteArray} : ∀ {lo : Option ByteArray} {ks : List ByteArray} (l : List BT), OrdL lo hi ks l → ks.length + 1 = l.length
  | lo, _, [], h => by simp [OrdL] at h
  | lo, [], t :: r, h => by simp only [OrdL] at h; rw [h.1]; rfl
  | lo, k :: ks, t :: r, h => by
    simp only [OrdL] at h
    have := ordL_len r h.2.2.2
    simp only [List.length_cons]; omega
/-- Where a key belongs among kids: before it all is below, behind it all is above; what is laid there instead keeps the order. -/
theorem ordL_split {hi : Option ByteArray} {key : ByteArray} (h2 : Below hi key) : ∀ {lo : Option ByteArray} {ks : List ByteArray} (l : List BT), OrdL lo hi ks l → Above lo key →
    ∃ A t B ka kb lo' hi', l = A ++ t :: B ∧ ks = ka ++ kb ∧ A.length = childN ks key ∧ ka.length = A.length ∧ Ord lo' hi' t ∧ Above lo' key ∧ Below hi' key ∧
      (∀ p ∈ toLs A, strLt p.1 key = true) ∧ (∀ p ∈ toLs B, strLt key p.1 = true) ∧ ∀ ks' ts, OrdL lo' hi' ks' ts → OrdL lo hi (ka ++ ks' ++ kb) (A ++ ts ++ B)
  | lo, _, [], h, _ => by simp [OrdL] at h
  | lo, [], t :: r, h, h1 => by
    simp only [OrdL] at h
    obtain ⟨rfl, h⟩ := h
    exact ⟨[], t, [], [], [], lo, hi, rfl, rfl, rfl, rfl, h, h1, h2, by simp [toLs], by simp [toLs], fun ks' ts o => by simpa using o⟩
  | lo, k :: ks, t :: r, h, h1 => by
    simp only [OrdL] at h
    obtain ⟨a1, a2, a3, a4⟩ := h
    by_cases hk : strLe k key = true
    · obtain ⟨A, t', B, ka, kb, lo', hi', rfl, rfl, e1, e2, o, b1, b2, c1, c2, rep⟩ := ordL_split h2 r a4 hk
      refine ⟨t :: A, t', B, k :: ka, kb, lo', hi', rfl, rfl, ?_, by simp [e2], o, b1, b2, ?_, c2, ?_⟩
      · unfold childN at e1 ⊢
        rw [List.countP_cons_of_pos (p := fun x => strLe x key) hk, ← e1]; rfl
      · intro p hp
        simp only [toLs, List.mem_append] at hp
        rcases hp with hp | hp
        · exact lt_of_lt_le (ord_within t a3 p hp).2 hk
        · exact c1 p hp
      · intro ks' ts o'
        have := rep ks' ts o'
        simp only [List.cons_append, OrdL]
        exact ⟨a1, a2, a3, this⟩
    · have hk' : strLt key k = true := by
        unfold strLe at hk
        simpa using hk
      have all : ∀ x ∈ k :: ks, strLe x key = false := by
        intro x hx
        have hkx : strLe k x = true := by
          rcases List.mem_cons.1 hx with rfl | hx
          · exact strLe_refl _
          · exact strLe_of_lt (ordL_keys r a4 x hx).1
        unfold strLe
        rw [lt_of_lt_le hk' hkx]; rfl
      refine ⟨[], t, r, [], k :: ks, lo, some k, rfl, rfl, ?_, rfl, a3, h1, hk', by simp [toLs], ?_, ?_⟩
      · unfold childN
        rw [List.countP_eq_zero.2 (fun x hx => by rw [all x hx]; simp)]; rfl
      · intro p hp
        exact lt_of_lt_le hk' (ordL_within r a4 p hp).1
      · intro ks' ts o'
        exact ordL_append a4 a2 ts o' a1
end Go.Proofs.Ytljindmibfkhfaa.Hc
/- What putting does to a whole tree. No program in sight. -/
set_option linter.unusedVariables false
set_option linter.unusedSimpArgs false
namespace Go.Proofs.Ytljindmibfkhfaa.Hc
open Go Go.H Go.Proofs
set_option maxRecDepth 100000
abbrev Rising (ks : List ByteArray) : Prop := ks.Pairwise fun a b => strLt a b = true
/-- Rising keys, cut where a key belongs. -/
theorem lower_split (key : ByteArray) : ∀ ks : List ByteArray, Rising ks → ∃ a b, ks = a ++ b ∧ a.length = lowerN ks key ∧ (∀ x ∈ a, strLt x key = true) ∧ (∀ x ∈ b, strLe key x = true)
  | [], _ => ⟨[], [], rfl, rfl, by simp, by simp⟩
  | k :: ks, h => by
    have hp := List.pairwise_cons.1 h
    by_cases hk : strLt k key = true
    · obtain ⟨a, b, rfl, e, h1, h2⟩ := lower_split key ks hp.2
      refine ⟨k :: a, b, rfl, ?_, ?_, h2⟩
      · unfold lowerN at e ⊢
        rw [List.countP_cons_of_pos (p := fun x => strLt x key) hk, ← e]; rfl
      · intro x hx
        rcases List.mem_cons.1 hx with rfl | hx
        · exact hk
        · exact h1 x hx
    · have hk' : strLe key k = true := by unfold strLe; simpa using hk
      have all : ∀ x ∈ k :: ks, strLe key x = true := by
        intro x hx
        rcases List.mem_cons.1 hx with rfl | hx
        · exact hk'
        · exact strLe_trans hk' (strLe_of_lt (hp.1 x hx))
      refine ⟨[], k :: ks, rfl, ?_, by simp, all⟩
      unfold lowerN
      rw [List.countP_eq_zero.2 ?_]; rfl
      intro x hx
      have := all x hx
      unfold strLe at this
      simpa using this
theorem insAt_len {α : Type} {a b : List α} {x : α} : insAt (a ++ b) a.length x = a ++ x :: b := by
  unfold insAt; rw [List.take_left, List.drop_left]
theorem zip_below {a : List ByteArray} {va : List ByteArray} {q : ByteArray → Bool} (h : ∀ x ∈ a, q x = true) : ∀ p ∈ a.zip va, q p.1 = true := fun p hp => h _ (zip_mem hp)
/-- A pair put into a leaf. -/
theorem insLeaf_law {ks vs : List ByteArray} {key val : ByteArray} (hr : Rising ks) (hl : vs.length = ks.length) :
    ∃ ks' vs', insLeaf ⟨ks, vs, []⟩ key val = ⟨ks', vs', []⟩ ∧ Rising ks' ∧ vs'.length = ks'.length ∧ (∀ x ∈ ks', x = key ∨ x ∈ ks) ∧ (∀ x ∈ vs', x = val ∨ x ∈ vs) ∧ ks'.zip vs' = insP (ks.zip vs) key val ∧ 1 ≤ ks'.length ∧ ks'.length ≤ ks.length + 1 := by
  obtain ⟨a, b, rfl, e, h1, h2⟩ := lower_split key ks hr
  have hp := List.pairwise_append.1 hr
  obtain ⟨va, vb, rfl, hva⟩ : ∃ va vb, vs = va ++ vb ∧ va.length = a.length := ⟨vs.take a.length, vs.drop a.length, (List.take_append_drop _ _).symm, by rw [List.length_take, hl, List.length_append]; omega⟩
  have hvb : vb.length = b.length := by simp only [List.length_append] at hl; omega
  have hz : (a ++ b).zip (va ++ vb) = a.zip va ++ b.zip vb := List.zip_append hva.symm
  have fa1 : (a.zip va).filter (fun p => strLt p.1 key) = a.zip va := List.filter_eq_self.2 (zip_below (q := fun x => strLt x key) h1)
  have fa2 : (a.zip va).filter (fun p => strLt key p.1) = [] := List.filter_eq_nil_iff.2 fun p hp => by rw [strLt_asymm (h1 _ (zip_mem hp))]; simp
  have fb1 : (b.zip vb).filter (fun p => strLt p.1 key) = [] := List.filter_eq_nil_iff.2 fun p hp => by
    have := h2 _ (zip_mem hp); unfold strLe at this; simpa using this
  unfold insLeaf
  simp only [← e]
  cases b with
  | nil =>
    rw [if_neg (by simp), insAt_len, ← hva, insAt_len]
    cases vb with
    | cons _ _ => simp at hvb
    | nil =>
    refine ⟨_, _, rfl, ?_, by simp [hva], ?_, ?_, ?_, by simp, by simp⟩
    · show List.Pairwise _ _
      rw [List.pairwise_append]
      exact ⟨hp.1, by simp, fun x hx y hy => by simp only [List.mem_singleton] at hy; subst hy; exact h1 x hx⟩
    · intro x hx; simp only [List.append_nil, List.mem_append, List.mem_singleton] at hx ⊢; exact hx.symm
    · intro x hx; simp only [List.append_nil, List.mem_append, List.mem_singleton] at hx ⊢; exact hx.symm
    · rw [List.append_nil, List.append_nil, List.zip_append hva.symm]
      unfold insP; rw [fa1, fa2]; rfl
  | cons k b =>
    cases vb with
    | nil => simp at hvb
    | cons v vb =>
    have hpb := List.pairwise_cons.1 hp.2.1
    by_cases hk : k = key
    · subst hk
      rw [if_pos (by simp)]
      have fb2 : (b.zip vb).filter (fun p => strLt k p.1) = b.zip vb := List.filter_eq_self.2 (zip_below (q := fun x => strLt k x) hpb.1)
      have fb3 : (b.zip vb).filter (fun p => strLt p.1 k) = [] := List.filter_eq_nil_iff.2 fun p hp => by rw [strLt_asymm (hpb.1 _ (zip_mem hp))]; simp
      refine ⟨_, _, rfl, hr, by rw [List.length_set]; exact hl, fun x hx => .inr hx, ?_, ?_, by simp; omega, by omega⟩
      · intro x hx
        rcases List.mem_or_eq_of_mem_set hx with h | h
        · exact .inr h
        · exact .inl h
      · rw [← hva, List.set_append_right _ _ (Nat.le_refl _), Nat.sub_self, List.set_cons_zero, List.zip_append hva.symm, List.zip_append hva.symm]
        unfold insP
        simp only [List.zip_cons_cons, List.filter_append, fa1, fa2, List.filter_cons, strLt_irrefl, fb2, fb3]
        simp
    · have hlt : strLt key k = true := by
        have := h2 k (by simp)
        rcases strLt_tri key k with t | t | t
        · exact t
        · exact absurd t.symm hk
        · unfold strLe at this; rw [t] at this; cases this
      have allb : ∀ x ∈ k :: b, strLt key x = true := by
        intro x hx
        rcases List.mem_cons.1 hx with rfl | hx
        · exact hlt
        · exact strLt_trans hlt (hpb.1 x hx)
      have fb2 : ((k :: b).zip (v :: vb)).filter (fun p => strLt key p.1) = (k :: b).zip (v :: vb) := List.filter_eq_self.2 (zip_below (q := fun x => strLt key x) allb)
      rw [if_neg (by simpa using hk), insAt_len, ← hva, insAt_len]
      refine ⟨_, _, rfl, ?_, by simp only [List.length_append, List.length_cons] at hl ⊢; omega, ?_, ?_, ?_, by simp; omega, by simp; omega⟩
      · show List.Pairwise _ _
        rw [List.pairwise_append, List.pairwise_cons]
        refine ⟨hp.1, ⟨allb, hp.2.1⟩, ?_⟩
        intro x hx y hy
        rcases List.mem_cons.1 hy with rfl | hy
        · exact h1 x hx
        · exact hp.2.2 x hx y hy
      · intro x hx; simp only [List.mem_append, List.mem_cons] at hx ⊢; rcases hx with h | h | h | h <;> simp [h]
      · intro x hx; simp only [List.mem_append, List.mem_cons] at hx ⊢; rcases hx with h | h | h | h <;> simp [h]
      · rw [List.zip_append hva.symm, List.zip_append hva.symm]
        unfold insP
        rw [List.filter_append, List.filter_append, fa1, fa2, fb1, fb2]; simp
/-- Numbers that are taken. -/
theorem taken_le : ∀ (n : Nat) (l : Nodes) (i : Int), (∀ j : Nat, j < n → getA (i + j) l ≠ none) → n ≤ l.length
  | 0, l, i, h => Nat.zero_le _
  | n + 1, l, i, h => by
    have hm : i + n ∈ l.map (·.1) := by
      have := h n (by omega)
      rw [ne_eq, getA_none] at this
      exact Classical.not_not.1 this
    have ih := taken_le n (l.filter fun p => p.1 != i + n) i fun j hj => by
      have := h j (by omega)
      rw [ne_eq, getA_none] at this ⊢
      have := Classical.not_not.1 this
      obtain ⟨p, hp, e⟩ := List.mem_map.1 this
      refine fun hn => hn (List.mem_map.2 ⟨p, List.mem_filter.2 ⟨hp, ?_⟩, e⟩)
      rw [bne_iff_ne, e]; omega
    obtain ⟨p, hp, e⟩ := List.mem_map.1 hm
    have : (l.filter fun p => p.1 != i + n).length < l.length := by
      rw [List.length_filter_lt_length_iff_exists]
      exact ⟨p, hp, by rw [e]; simp⟩
    omega
theorem freeF_at : ∀ (f : Nat) (l : Nodes) (i : Int), (getA (freeF f l i) l = none ∨ ∀ j : Nat, j < f → getA (i + j) l ≠ none) ∧ i ≤ freeF f l i ∧ freeF f l i ≤ i + f
  | 0, l, i => ⟨.inr fun j hj => by omega, by simp [freeF], by simp [freeF]⟩
  | f + 1, l, i => by
    unfold freeF
    by_cases h : getA i l = none
    · rw [if_pos h]; exact ⟨.inl h, by omega, by omega⟩
    · rw [if_neg h]
      obtain ⟨h1, h2, h3⟩ := freeF_at f l (i + 1)
      refine ⟨h1.imp id fun h1 j hj => ?_, by omega, by omega⟩
      cases j with
      | zero => simpa using h
      | succ j => have := h1 j (by omega); rw [show i + 1 + (j : Int) = i + ((j + 1 : Nat) : Int) by omega] at this; exact this
theorem mkF_free (s : TS) (n : ND) : getA (mkF s n).2 s.l = none ∧ s.nx ≤ (mkF s n).2 ∧ (mkF s n).1.nx = (mkF s n).2 ∧ (mkF s n).2 ≤ s.nx + (s.l.length + 1 : Nat) := by
  obtain ⟨h1, h2, h3⟩ := freeF_at (s.l.length + 1) s.l s.nx
  refine ⟨?_, h2, rfl, h3⟩
  rcases h1 with h1 | h1
  · exact h1
  · have := taken_le _ _ _ h1; omega
theorem mkF_has (s : TS) (n : ND) (i : Int) : getA i (mkF s n).1.l = if (mkF s n).2 = i then some n else getA i s.l := getA_put _ _ _ _
theorem mkF_node (s : TS) (n : ND) : nodeOf (mkF s n).1.l (mkF s n).2 = n := by unfold nodeOf; rw [mkF_has, if_pos rfl]; rfl
/-- What was there abides. -/
def Keeps (l l' : Nodes) : Prop := ∀ i, getA i l ≠ none → getA i l' = getA i l
theorem Keeps.refl (l : Nodes) : Keeps l l := fun _ _ => rfl
theorem Keeps.trans {a b c : Nodes} (x : Keeps a b) (y : Keeps b c) : Keeps a c := fun i h => by rw [y i (by rw [x i h]; exact h), x i h]
theorem mkF_keeps (s : TS) (n : ND) : Keeps s.l (mkF s n).1.l := fun i h => by
  rw [mkF_has, if_neg]
  rintro rfl
  exact h (mkF_free s n).1
end Go.Proofs.Ytljindmibfkhfaa.Hc
/- Putting keeps a tree whole. No program in sight. -/
set_option linter.unusedVariables false
set_option linter.unusedSimpArgs false
namespace Go.Proofs.Ytljindmibfkhfaa.Hc
open Go Go.H Go.Proofs
set_option maxRecDepth 100000
mutual
theorem hold_keeps {l l' : Nodes} (k : Keeps l l') : ∀ t : BT, (∀ i ∈ idsT t, getA i l ≠ none) → Hold l t → Hold l' t
  | .mk i ks vs kids, hp, h => by
    simp only [Hold] at h ⊢
    refine ⟨?_, holdL_keeps k kids (fun j hj => hp j (by simp [idsT, hj])) h.2⟩
    have := h.1
    unfold nodeOf at this ⊢
    rw [k i (hp i (by simp [idsT]))]; exact this
theorem holdL_keeps {l l' : Nodes} (k : Keeps l l') : ∀ r : List BT, (∀ i ∈ idsL r, getA i l ≠ none) → HoldL l r → HoldL l' r
  | [], hp, h => trivial
  | t :: r, hp, h => by
    simp only [HoldL] at h ⊢
    exact ⟨hold_keeps k t (fun j hj => hp j (by simp [idsL, hj])) h.1, holdL_keeps k r (fun j hj => hp j (by simp [idsL, hj])) h.2⟩
end
/-- What a put came to: one tree or two. -/
structure Done (s s' : TS) (lo hi : Option ByteArray) (n b : Nat) (old : List Int) (l : List Pr) (ts : List BT) (bt : ByteArray) : Prop where
  many : (ts.length = 1 ∧ ∀ t ∈ ts, UniT n b 1 t) ∨ (ts.length = 2 ∧ ∀ t ∈ ts, UniT n 6 1 t)
  ord : OrdL lo hi (if 1 < ts.length then [bt] else []) ts
  hold : HoldL s'.l ts
  pairs : toLs ts = l
  nd : (idsL ts).Nodup
  ids : ∀ i ∈ idsL ts, (i ∈ old ∨ getA i s.l = none) ∧ getA i s'.l ≠ none
  keeps : Keeps s.l s'.l
theorem here_of_node {s : TS} {n : ND} : getA (mkF s n).2 (mkF s n).1.l ≠ none := by rw [mkF_has, if_pos rfl]; simp
theorem Keeps.here {l l' : Nodes} (k : Keeps l l') {i : Int} (h : getA i l ≠ none) : getA i l' ≠ none := by rw [k i h]; exact h
theorem Keeps.node {l l' : Nodes} (k : Keeps l l') {i : Int} (h : getA i l ≠ none) : nodeOf l' i = nodeOf l i := by unfold nodeOf; rw [k i h]
theorem Keeps.none {l l' : Nodes} (k : Keeps l l') {i : Int} (h : getA i l' = none) : getA i l = none := by
  cases hg : getA i l with
  | none => rfl
  | some d => rw [k i (by rw [hg]; simp), hg] at h; cases h
theorem getD_of {α : Type} {l : List α} {i : Nat} (h : i < l.length) (d : α) : l.getD i d = l[i] := by
  rw [List.getD_eq_getElem?_getD, List.getElem?_eq_getElem h]; rfl
/-- A node that is not a leaf is made, cut in two if it has too much. -/
theorem half_in {s s1 : TS} {lo hi : Option ByteArray} {n b : Nat} {old : List Int} {l : List Pr} {K : List ByteArray} {X : List BT} (hb : b ≤ 6) (kp : Keeps s.l s1.l) (o : OrdL lo hi K X) (u : ∀ x ∈ X, UniT n 6 1 x) (h : HoldL s1.l X)
    (hl : b ≤ X.length) (hl2 : X.length ≤ 13) (nd : (idsL X).Nodup) (ids : ∀ i ∈ idsL X, (i ∈ old ∨ getA i s.l = none) ∧ getA i s1.l ≠ none) (pr : toLs X = l) :
    ∃ ts, (mksF s1 (halvesF ⟨K, [], X.map BT.id⟩).1).2 = ts.map BT.id ∧ Done s (mksF s1 (halvesF ⟨K, [], X.map BT.id⟩).1).1 lo hi (n + 1) b old l ts (halvesF ⟨K, [], X.map BT.id⟩).2 := by
  have kl := ordL_len X o
  have hX0 : X ≠ [] := by rintro rfl; simp at kl
  by_cases hc : 12 < X.length
  · have h13 : X.length = 13 := by omega
    have e : halvesF ⟨K, [], X.map BT.id⟩ = ([⟨K.take 5, [], (X.take 6).map BT.id⟩, ⟨K.drop 6, [], (X.drop 6).map BT.id⟩], K.getD 5 ⟨#[]⟩) := by
      unfold halvesF
      simp only [List.length_map]
      rw [if_pos hc, h13, List.map_take, List.map_drop]
    rw [e]
    have hk5 : 5 < K.length := by omega
    have eK : K = K.take 5 ++ K.getD 5 ⟨#[]⟩ :: K.drop 6 := by
      rw [getD_of hk5]
      conv => lhs; rw [← List.take_append_drop 5 K, List.drop_eq_getElem_cons hk5]
    have eX : X = X.take 6 ++ X.drop 6 := (List.take_append_drop 6 X).symm
    have o' := o
    rw [eK, eX] at o'
    obtain ⟨o1, o2, o3, o4⟩ := ordL_cut (K.take 5) (X.take 6) (by rw [List.length_take, List.length_take]; omega) o'
    generalize hg : K.getD 5 ⟨#[]⟩ = bt at *
    rw [eX, holdL_append] at h
    rw [eX, idsL_append] at nd ids
    rw [eX, toLs_append] at pr
    have uX1 : ∀ x ∈ X.take 6, UniT n 6 1 x := fun x hx => u x (List.mem_of_mem_take hx)
    have uX2 : ∀ x ∈ X.drop 6, UniT n 6 1 x := fun x hx => u x (List.mem_of_mem_drop hx)
    have l1 : (X.take 6).length = 6 := by rw [List.length_take]; omega
    have l2 : (X.drop 6).length = 7 := by rw [List.length_drop]; omega
    generalize X.take 6 = X1 at *
    generalize X.drop 6 = X2 at *
    generalize K.take 5 = K1 at *
    generalize K.drop 6 = K2 at *
    obtain ⟨f1, _⟩ := mkF_free s1 ⟨K1, [], X1.map BT.id⟩
    have k1 := mkF_keeps s1 ⟨K1, [], X1.map BT.id⟩
    have n1 := mkF_node s1 ⟨K1, [], X1.map BT.id⟩
    have g1 : getA (mkF s1 ⟨K1, [], X1.map BT.id⟩).2 (mkF s1 ⟨K1, [], X1.map BT.id⟩).1.l ≠ none := here_of_node
    simp only [mksF]
    generalize mkF s1 ⟨K1, [], X1.map BT.id⟩ = m1 at *
    obtain ⟨f2, _⟩ := mkF_free m1.1 ⟨K2, [], X2.map BT.id⟩
    have k2 := mkF_keeps m1.1 ⟨K2, [], X2.map BT.id⟩
    have n2 := mkF_node m1.1 ⟨K2, [], X2.map BT.id⟩
    have g2 : getA (mkF m1.1 ⟨K2, [], X2.map BT.id⟩).2 (mkF m1.1 ⟨K2, [], X2.map BT.id⟩).1.l ≠ none := here_of_node
    generalize mkF m1.1 ⟨K2, [], X2.map BT.id⟩ = m2 at *
    have k12 := k1.trans k2
    have f2' := k1.none f2
    have hne : m1.2 ≠ m2.2 := by intro e; rw [e] at g1; exact g1 f2
    have ndp := List.nodup_append.1 nd
    have no1 : ∀ i ∈ idsL X1 ++ idsL X2, i ≠ m1.2 ∧ i ≠ m2.2 := by
      intro i hi
      have := (ids i hi).2
      exact ⟨by rintro rfl; exact this f1, by rintro rfl; exact this f2'⟩
    refine ⟨[.mk m1.2 K1 [] X1, .mk m2.2 K2 [] X2], rfl, ?_⟩
    have hx1 : X1 ≠ [] := by intro e; rw [e] at l1; simp at l1
    have hx2 : X2 ≠ [] := by intro e; rw [e] at l2; simp at l2
    obtain ⟨a1, r1, rfl⟩ := List.exists_cons_of_ne_nil hx1
    obtain ⟨a2, r2, rfl⟩ := List.exists_cons_of_ne_nil hx2
    refine ⟨.inr ⟨rfl, ?_⟩, ?_, ?_, ?_, ?_, ?_, kp.trans k12⟩
    · intro t ht
      simp only [List.mem_cons, List.not_mem_nil, or_false] at ht
      rcases ht with rfl | rfl
      · exact ⟨by omega, by omega, uX1⟩
      · exact ⟨by omega, by omega, uX2⟩
    · show OrdL lo hi [bt] [_, _]
      simp only [OrdL, Ord]
      exact ⟨o3, o4, ⟨by trivial, o1⟩, by trivial, by trivial, o2⟩
    · simp only [HoldL, Hold]
      refine ⟨⟨?_, ?_⟩, ⟨n2, ?_⟩, trivial⟩
      · rw [k2.node g1]; exact n1
      · have := holdL_keeps k12 (a1 :: r1) (fun i hi => (ids i (List.mem_append_left _ hi)).2) h.1
        exact this
      · have := holdL_keeps k12 (a2 :: r2) (fun i hi => (ids i (List.mem_append_right _ hi)).2) h.2
        exact this
    · rw [← pr]; simp only [toLs, toL, List.zip_nil_right, List.append_nil]
    · show ((m1.2 :: idsL (a1 :: r1)) ++ ((m2.2 :: idsL (a2 :: r2)) ++ [])).Nodup
      rw [List.append_nil, List.nodup_append]
      refine ⟨List.nodup_cons.2 ⟨fun hh => (no1 _ (List.mem_append_left _ hh)).1 rfl, ndp.1⟩, List.nodup_cons.2 ⟨fun hh => (no1 _ (List.mem_append_right _ hh)).2 rfl, ndp.2.1⟩, ?_⟩
      intro i hi j hj
      rcases List.mem_cons.1 hi with rfl | hi <;> rcases List.mem_cons.1 hj with rfl | hj
      · exact hne
      · exact fun e => (no1 _ (List.mem_append_right _ hj)).1 e.symm
      · exact (no1 _ (List.mem_append_left _ hi)).2
      · exact ndp.2.2 i hi j hj
    · intro i hi
      have hi : i ∈ (m1.2 :: idsL (a1 :: r1)) ++ ((m2.2 :: idsL (a2 :: r2)) ++ []) := hi
      simp only [List.append_nil, List.mem_append, List.mem_cons] at hi
      rcases hi with (rfl | hi) | rfl | hi
      · exact ⟨.inr (kp.none f1), k2.here g1⟩
      · have := ids i (List.mem_append_left _ hi); exact ⟨this.1, k12.here this.2⟩
      · exact ⟨.inr (kp.none f2'), g2⟩
      · have := ids i (List.mem_append_right _ hi); exact ⟨this.1, k12.here this.2⟩
  · have hXm : X.map BT.id ≠ [] := by simpa using hX0
    have e : halvesF ⟨K, [], X.map BT.id⟩ = ([⟨K, [], X.map BT.id⟩], ⟨#[]⟩) := by
      unfold halvesF
      simp only [List.length_map]
      rw [if_neg hc, if_neg (by rintro ⟨h1, _⟩; exact hXm h1)]
    rw [e]
    obtain ⟨f1, _⟩ := mkF_free s1 ⟨K, [], X.map BT.id⟩
    have k1 := mkF_keeps s1 ⟨K, [], X.map BT.id⟩
    have n1 := mkF_node s1 ⟨K, [], X.map BT.id⟩
    have g1 : getA (mkF s1 ⟨K, [], X.map BT.id⟩).2 (mkF s1 ⟨K, [], X.map BT.id⟩).1.l ≠ none := here_of_node
    simp only [mksF]
    generalize mkF s1 ⟨K, [], X.map BT.id⟩ = m1 at *
    obtain ⟨a1, r1, rfl⟩ := List.exists_cons_of_ne_nil hX0
    refine ⟨[.mk m1.2 K [] (a1 :: r1)], rfl, .inl ⟨rfl, ?_⟩, ?_, ?_, ?_, ?_, ?_, kp.trans k1⟩
    · intro t ht
      simp only [List.mem_singleton] at ht
      subst ht
      exact ⟨hl, by omega, u⟩
    · show OrdL lo hi [] [_]
      simp only [OrdL, Ord]
      exact ⟨by trivial, by trivial, o⟩
    · simp only [HoldL, Hold]
      exact ⟨⟨n1, holdL_keeps k1 (a1 :: r1) (fun i hi => (ids i hi).2) h⟩, trivial⟩
    · rw [← pr]; simp only [toLs, toL, List.zip_nil_right, List.append_nil]
    · show ((m1.2 :: idsL (a1 :: r1)) ++ []).Nodup
      rw [List.append_nil]
      exact List.nodup_cons.2 ⟨fun hh => (ids _ hh).2 f1, nd⟩
    · intro i hi
      have hi : i ∈ (m1.2 :: idsL (a1 :: r1)) ++ [] := hi
      rw [List.append_nil, List.mem_cons] at hi
      rcases hi with rfl | hi
      · exact ⟨.inr (kp.none f1), g1⟩
      · have := ids i hi; exact ⟨this.1, k1.here this.2⟩
end Go.Proofs.Ytljindmibfkhfaa.Hc
/- Putting keeps a tree whole: leaves, and all. No program in sight. -/
set_option linter.unusedVariables false
set_option linter.unusedSimpArgs false
namespace Go.Proofs.Ytljindmibfkhfaa.Hc
open Go Go.H Go.Proofs
set_option maxRecDepth 100000
theorem half_leaf {s : TS} {lo hi : Option ByteArray} {b : Nat} {old : List Int} {l : List Pr} {ks vs : List ByteArray} (hr : Rising ks) (hw : ∀ k ∈ ks, Above lo k ∧ Below hi k) (hl : vs.length = ks.length) (h1 : 1 ≤ ks.length) (h4 : ks.length ≤ 4) (pr : ks.zip vs = l) :
    ∃ ts, (mksF s (halvesF ⟨ks, vs, []⟩).1).2 = ts.map BT.id ∧ Done s (mksF s (halvesF ⟨ks, vs, []⟩).1).1 lo hi 0 b old l ts (halvesF ⟨ks, vs, []⟩).2 := by
  by_cases hc : 3 < ks.length
  · have h4' : ks.length = 4 := by omega
    have e : halvesF ⟨ks, vs, []⟩ = ([⟨ks.take 2, vs.take 2, []⟩, ⟨ks.drop 2, vs.drop 2, []⟩], ks.getD 2 ⟨#[]⟩) := by
      unfold halvesF
      simp only [List.length_nil]
      rw [if_neg (by omega), if_pos ⟨trivial, hc⟩, h4']
    rw [e]
    match ks, vs, h4', hl with
    | [k0, k1, k2, k3], [v0, v1, v2, v3], _, _ =>
    simp only [List.take_succ_cons, List.take_zero, List.drop_succ_cons, List.drop_zero]
    show ∃ ts, _ ∧ Done s _ lo hi 0 b old l ts k2
    simp only [List.pairwise_cons, List.mem_cons, List.not_mem_nil, or_false, forall_eq_or_imp, forall_eq] at hr hw
    obtain ⟨⟨r01, r02, r03⟩, ⟨r12, r13⟩, r23, _⟩ := hr
    obtain ⟨w0, w1, w2, w3⟩ := hw
    obtain ⟨f1, _⟩ := mkF_free s ⟨[k0, k1], [v0, v1], []⟩
    have e1 := mkF_keeps s ⟨[k0, k1], [v0, v1], []⟩
    have n1 := mkF_node s ⟨[k0, k1], [v0, v1], []⟩
    have g1 : getA (mkF s ⟨[k0, k1], [v0, v1], []⟩).2 (mkF s ⟨[k0, k1], [v0, v1], []⟩).1.l ≠ none := here_of_node
    simp only [mksF]
    generalize mkF s ⟨[k0, k1], [v0, v1], []⟩ = m1 at *
    obtain ⟨f2, _⟩ := mkF_free m1.1 ⟨[k2, k3], [v2, v3], []⟩
    have e2 := mkF_keeps m1.1 ⟨[k2, k3], [v2, v3], []⟩
    have n2 := mkF_node m1.1 ⟨[k2, k3], [v2, v3], []⟩
    have g2 : getA (mkF m1.1 ⟨[k2, k3], [v2, v3], []⟩).2 (mkF m1.1 ⟨[k2, k3], [v2, v3], []⟩).1.l ≠ none := here_of_node
    generalize mkF m1.1 ⟨[k2, k3], [v2, v3], []⟩ = m2 at *
    have k12 := e1.trans e2
    have f2' := e1.none f2
    have hne : m1.2 ≠ m2.2 := by intro e; rw [e] at g1; exact g1 f2
    refine ⟨[.mk m1.2 [k0, k1] [v0, v1] [], .mk m2.2 [k2, k3] [v2, v3] []], rfl, .inr ⟨rfl, ?_⟩, ?_, ?_, ?_, ?_, ?_, k12⟩
    · intro t ht
      simp only [List.mem_cons, List.not_mem_nil, or_false] at ht
      rcases ht with rfl | rfl
      · exact ⟨rfl, by simp, by simp⟩
      · exact ⟨rfl, by simp, by simp⟩
    · show OrdL lo hi [k2] [_, _]
      simp only [OrdL, Ord, List.pairwise_cons, List.mem_cons, List.not_mem_nil, or_false, forall_eq_or_imp, forall_eq]
      refine ⟨Over.le w0.1 r02, w2.2, ⟨⟨r01, by simp⟩, ⟨⟨w0.1, r02⟩, w1.1, r12⟩, by simp⟩, by trivial, ⟨r23, by simp⟩, ⟨⟨strLe_refl _, w2.2⟩, strLe_of_lt r23, w3.2⟩, by simp⟩
    · simp only [HoldL, Hold]
      exact ⟨⟨by rw [e2.node g1]; exact n1, trivial⟩, ⟨n2, trivial⟩, trivial⟩
    · rw [← pr]; rfl
    · show [m1.2, m2.2].Nodup
      simp [hne]
    · intro i hi
      have hi : i ∈ [m1.2, m2.2] := hi
      simp only [List.mem_cons, List.not_mem_nil, or_false] at hi
      rcases hi with rfl | rfl
      · exact ⟨.inr f1, e2.here g1⟩
      · exact ⟨.inr f2', g2⟩
  · have e : halvesF ⟨ks, vs, []⟩ = ([⟨ks, vs, []⟩], ⟨#[]⟩) := by
      unfold halvesF
      simp only [List.length_nil]
      rw [if_neg (by omega), if_neg (by rintro ⟨_, h⟩; exact hc h)]
    rw [e]
    obtain ⟨f1, _⟩ := mkF_free s ⟨ks, vs, []⟩
    have k1 := mkF_keeps s ⟨ks, vs, []⟩
    have n1 := mkF_node s ⟨ks, vs, []⟩
    have g1 : getA (mkF s ⟨ks, vs, []⟩).2 (mkF s ⟨ks, vs, []⟩).1.l ≠ none := here_of_node
    simp only [mksF]
    generalize mkF s ⟨ks, vs, []⟩ = m1 at *
    refine ⟨[.mk m1.2 ks vs []], rfl, .inl ⟨rfl, ?_⟩, ?_, ?_, ?_, ?_, ?_, k1⟩
    · intro t ht
      simp only [List.mem_singleton] at ht
      subst ht
      exact ⟨rfl, h1, by omega⟩
    · show OrdL lo hi [] [_]
      simp only [OrdL, Ord]
      exact ⟨by trivial, hr, hw, hl⟩
    · simp only [HoldL, Hold]
      exact ⟨⟨n1, trivial⟩, trivial⟩
    · rw [← pr]; simp only [toLs, toL, List.nil_append, List.append_nil]
    · show [m1.2].Nodup
      simp
    · intro i hi
      have hi : i ∈ [m1.2] := hi
      simp only [List.mem_singleton] at hi
      subst hi
      exact ⟨.inr f1, g1⟩
/-- The numbers below a tree's topmost node are there. -/
def Under (l : Nodes) : BT → Prop
  | .mk _ _ _ kids => ∀ i ∈ idsL kids, getA i l ≠ none
theorem idsT_kids {t : BT} {l : Nodes} (h : ∀ i ∈ idsT t, getA i l ≠ none) : Under l t := by
  cases t with
  | mk i ks vs kids => exact fun j hj => h j (by simp [idsT, hj])
theorem putF_law : ∀ (n f : Nat), n < f → ∀ (s : TS) (T : BT) (key val : ByteArray) (lo hi : Option ByteArray) (b e : Nat), b ≤ 6 → 1 ≤ b → Hold s.l T → Under s.l T → UniT n b e T → Ord lo hi T → Above lo key → Below hi key → (idsT T).Nodup →
    ∃ ts, (putF f s T.id key val).2.1 = ts.map BT.id ∧ Done s (putF f s T.id key val).1 lo hi n b (idsT T) (insP (toL T) key val) ts (putF f s T.id key val).2.2 := by
  intro n
  induction n with
  | zero =>
    intro f hf s T key val lo hi b e hb6 hb1 hh hu u o ha hbl nd
    obtain ⟨f, rfl⟩ : ∃ g, f = g + 1 := ⟨f - 1, by omega⟩
    cases T with
    | mk i ks vs kids =>
    obtain ⟨rfl, u1, u2⟩ := u
    simp only [Hold] at hh
    simp only [Ord] at o
    obtain ⟨ks', vs', e1, r', l', m1, m2, z, c1, c2⟩ := insLeaf_law (key := key) (val := val) o.1 o.2.2
    have hn : nodeOf s.l (BT.id (.mk i ks vs [])) = ⟨ks, vs, []⟩ := hh.1
    unfold putF
    simp only [hn, if_pos, e1]
    refine half_leaf r' ?_ l' c1 (by omega) ?_
    · intro k hk
      rcases m1 k hk with rfl | hk
      · exact ⟨ha, hbl⟩
      · exact o.2.1 k hk
    · rw [z]; simp only [toL, toLs, List.nil_append]
  | succ n ih =>
    intro f hf s T key val lo hi b e hb6 hb1 hh hu u o ha hbl nd
    obtain ⟨f, rfl⟩ : ∃ g, f = g + 1 := ⟨f - 1, by omega⟩
    cases T with
    | mk i ks vs kids =>
    obtain ⟨u1, u2, u3⟩ := u
    cases hk : kids with
    | nil => rw [hk] at u1; simp at u1; omega
    | cons t0 r0 =>
    rw [hk] at o
    simp only [Ord] at o
    obtain ⟨rfl, o⟩ := o
    rw [← hk] at o ⊢
    simp only [Hold] at hh
    obtain ⟨A, t, B, ka, kb, lo', hi', rfl, rfl, jl, kal, ot, at1, at2, ca, cb, rep⟩ := ordL_split hbl kids o ha
    have hn : nodeOf s.l (BT.id (.mk i (ka ++ kb) [] (A ++ t :: B))) = ⟨ka ++ kb, [], (A ++ t :: B).map BT.id⟩ := hh.1
    have hh2 := (holdL_append A (t :: B)).1 hh.2
    simp only [HoldL] at hh2
    have hu' : ∀ j ∈ idsL (A ++ t :: B), getA j s.l ≠ none := hu
    have nd' : (idsL (A ++ t :: B)).Nodup := (List.nodup_cons.1 (show (i :: idsL (A ++ t :: B)).Nodup from nd)).2
    rw [idsL_append] at hu' nd'
    simp only [idsL] at hu' nd'
    have hut : ∀ j ∈ idsT t, getA j s.l ≠ none := fun j hj => hu' j (by simp [hj])
    have ndp := List.nodup_append.1 nd'
    have ndq := List.nodup_append.1 ndp.2.1
    obtain ⟨ts, e1, d⟩ := ih f (by omega) s t key val lo' hi' 6 1 (Nat.le_refl _) (by omega) hh2.2.1 (idsT_kids hut) (u3 t (by simp)) ot at1 at2 ndq.1
    have hj : ((A ++ t :: B).map BT.id).getD (childN (ka ++ kb) key) 0 = t.id := by
      rw [← jl, List.map_append, getD_of (by simp)]
      simp
    unfold putF
    simp only [hn]
    rw [if_neg (by simp)]
    simp only [hj]
    have d' := d
    obtain ⟨dm, dord, dh, dp, dn, di, dk⟩ := d
    generalize putF f s t.id key val = p at *
    have hkids : List.take (childN (ka ++ kb) key) ((A ++ t :: B).map BT.id) ++ p.2.1 ++ List.drop (childN (ka ++ kb) key + 1) ((A ++ t :: B).map BT.id) = (A ++ ts ++ B).map BT.id := by
      have hA : A.length = (A.map BT.id).length := by simp
      have e2 : (A ++ t :: B).map BT.id = (A.map BT.id ++ [t.id]) ++ B.map BT.id := by simp
      have e3 : (A ++ t :: B).map BT.id = A.map BT.id ++ (t.id :: B.map BT.id) := by simp
      have e4 : A.length + 1 = (A.map BT.id ++ [t.id]).length := by simp
      rw [e1, ← jl]
      conv => lhs; rhs; rw [e2, e4, List.drop_left]
      conv => lhs; lhs; lhs; rw [e3, hA, List.take_left]
      simp
    have hkeys : (if 1 < p.2.1.length then insAt (ka ++ kb) (childN (ka ++ kb) key) p.2.2 else ka ++ kb) = ka ++ (if 1 < ts.length then [p.2.2] else []) ++ kb := by
      have hl : p.2.1.length = ts.length := by rw [e1, List.length_map]
      rw [hl, ← jl, ← kal]
      split
      · rw [insAt_len]; simp
      · simp
    rw [hkids, hkeys]
    have hlen : ts.length = 1 ∨ ts.length = 2 := dm.imp (·.1) (·.1)
    have hlt : (A ++ t :: B).length = A.length + B.length + 1 := by simp; omega
    have inT : ∀ j, (j ∈ idsL A ∨ j ∈ idsT t ∨ j ∈ idsL B) → j ∈ idsT (.mk i (ka ++ kb) [] (A ++ t :: B)) := by
      intro j hj
      show j ∈ i :: idsL (A ++ t :: B)
      rw [idsL_append]
      simp only [idsL, List.mem_cons, List.mem_append]
      exact .inr hj
    have out : ∀ j, (j ∈ idsL A ∨ j ∈ idsL B) → j ∉ idsL ts := by
      intro j hj hm
      rcases (di j hm).1 with h | h
      · rcases hj with hj | hj
        · exact ndp.2.2 j hj j (List.mem_append_left _ h) rfl
        · exact ndq.2.2 j h j hj rfl
      · rcases hj with hj | hj
        · exact hu' j (by simp [hj]) h
        · exact hu' j (by simp [hj]) h
    refine half_in (s := s) (n := n) (b := b) hb6 dk (rep _ _ dord) ?_ ?_ ?_ ?_ ?_ ?_ ?_
    · intro x hx
      simp only [List.mem_append] at hx
      rcases hx with (hx | hx) | hx
      · exact u3 x (by simp [hx])
      · rcases dm with ⟨_, h⟩ | ⟨_, h⟩
        · exact h x hx
        · exact h x hx
      · exact u3 x (by simp [hx])
    · rw [holdL_append, holdL_append]
      exact ⟨⟨holdL_keeps dk A (fun j hj => hu' j (by simp [hj])) hh2.1, dh⟩, holdL_keeps dk B (fun j hj => hu' j (by simp [hj])) hh2.2.2⟩
    · simp only [List.length_append] at hlt u1 ⊢; simp only [List.length_cons] at u1; omega
    · simp only [List.length_append] at hlt u2 ⊢; simp only [List.length_cons] at u2; omega
    · rw [idsL_append, idsL_append, List.nodup_append, List.nodup_append]
      refine ⟨⟨ndp.1, dn, fun x hx y hy e => out x (.inl hx) (e ▸ hy)⟩, ndq.2.1, ?_⟩
      intro x hx y hy e
      rcases List.mem_append.1 hx with hx | hx
      · exact ndp.2.2 x hx y (List.mem_append_right _ hy) e
      · exact out y (.inr hy) (e ▸ hx)
    · intro j hj
      rw [idsL_append, idsL_append] at hj
      simp only [List.mem_append] at hj
      rcases hj with (hj | hj) | hj
      · exact ⟨.inl (inT j (.inl hj)), dk.here (hu' j (by simp [hj]))⟩
      · have := di j hj
        exact ⟨this.1.imp (fun h => inT j (.inr (.inl h))) id, this.2⟩
      · exact ⟨.inl (inT j (.inr (.inr hj))), dk.here (hu' j (by simp [hj]))⟩
    · rw [toLs_append, toLs_append, dp, toL, List.zip_nil_right, List.append_nil, toLs_append]
      simp only [toLs]
      rw [← List.append_assoc]
      exact (insP_mid ca cb).symm
end Go.Proofs.Ytljindmibfkhfaa.Hc
/- Going through a whole tree's pairs: rising from a key on, falling. No program in sight. -/
set_option linter.unusedVariables false
set_option linter.unusedSimpArgs false
namespace Go.Proofs.Ytljindmibfkhfaa.Hc
open Go Go.H Go.Proofs
set_option maxRecDepth 100000
abbrev noT : ByteArray := ⟨#[]⟩
def fromP (key : ByteArray) (l : List Pr) : List Pr := l.filter fun p => strLe key p.1
mutual
/-- What is told, rising, from a key on. -/
def riseT (key : ByteArray) : BT → List Pr
  | .mk _ ks vs kids => riseK key (childN ks key) kids ++ fromP key (ks.zip vs)
/-- Of kids: some are passed over, the first one of the others is asked from the key on, the others wholly. -/
def riseK (key : ByteArray) : Nat → List BT → List Pr
  | _, [] => []
  | 0, t :: r => riseT key t ++ toLs r
  | i + 1, t :: r => riseK key i r
end
theorem bl_nil (x : List UInt8) : Op.bytesLess x [] = false := by cases x <;> rfl
theorem noT_le (a : ByteArray) : strLe noT a = true := by
  unfold strLe strLt
  rw [show noT.toList = [] from by decide +kernel, bl_nil]; rfl
theorem fromP_none (l : List Pr) : fromP noT l = l := List.filter_eq_self.2 fun p _ => noT_le _
theorem fromP_append (key : ByteArray) (a b : List Pr) : fromP key (a ++ b) = fromP key a ++ fromP key b := List.filter_append _ _
theorem fromP_lt {key : ByteArray} {l : List Pr} (h : ∀ p ∈ l, strLt p.1 key = true) : fromP key l = [] := List.filter_eq_nil_iff.2 fun p hp => by unfold strLe; rw [h p hp]; simp
theorem fromP_ge {key : ByteArray} {l : List Pr} (h : ∀ p ∈ l, strLe key p.1 = true) : fromP key l = l := List.filter_eq_self.2 h
theorem childN_above {ks : List ByteArray} {key : ByteArray} (h : ∀ k ∈ ks, strLt key k = true) : childN ks key = 0 := by
  unfold childN
  rw [List.countP_eq_zero]
  intro k hk
  unfold strLe
  rw [h k hk]; simp
mutual
theorem rise_law {key : ByteArray} {lo hi : Option ByteArray} : ∀ t : BT, Ord lo hi t → riseT key t = fromP key (toL t)
  | .mk _ ks vs [], h => by simp only [riseT, riseK, toL, toLs, List.nil_append]
  | .mk _ ks vs (t :: r), h => by
    simp only [Ord] at h
    obtain ⟨rfl, h⟩ := h
    rw [riseT, toL, List.zip_nil_right, List.append_nil, riseK_law (t :: r) h]
    simp [fromP]
theorem riseK_law {key : ByteArray} {hi : Option ByteArray} : ∀ {lo : Option ByteArray} {ks : List ByteArray} (l : List BT), OrdL lo hi ks l → riseK key (childN ks key) l = fromP key (toLs l)
  | lo, _, [], h => by simp [OrdL] at h
  | lo, [], t :: r, h => by
    simp only [OrdL] at h
    obtain ⟨rfl, h⟩ := h
    show riseK key 0 [t] = _
    simp only [riseK, toLs, List.append_nil]
    exact rise_law t h
  | lo, k :: ks, t :: r, h => by
    simp only [OrdL] at h
    obtain ⟨a1, a2, a3, a4⟩ := h
    by_cases hk : strLe k key = true
    · have e : childN (k :: ks) key = childN ks key + 1 := by
        unfold childN
        rw [List.countP_cons_of_pos (p := fun x => strLe x key) hk]
      rw [e, riseK, riseK_law r a4, toLs, fromP_append, fromP_lt (l := toL t) (fun p hp => lt_of_lt_le (ord_within t a3 p hp).2 hk)]; rfl
    · have hk' : strLt key k = true := by unfold strLe at hk; simpa using hk
      have e : childN (k :: ks) key = 0 := childN_above fun x hx => by
        rcases List.mem_cons.1 hx with rfl | hx
        · exact hk'
        · exact strLt_trans hk' (ordL_keys r a4 x hx).1
      rw [e, riseK, toLs, fromP_append, rise_law t a3, fromP_ge (l := toLs r) (fun p hp => strLe_of_lt (lt_of_lt_le hk' (ordL_within r a4 p hp).1))]
end
mutual
theorem toL_rising {lo hi : Option ByteArray} : ∀ t : BT, Ord lo hi t → (toL t).Pairwise fun p q => strLt p.1 q.1 = true
  | .mk _ ks vs [], h => by
    simp only [Ord] at h
    simp only [toL, toLs, List.nil_append]
    have : ((ks.zip vs).map (·.1)).Pairwise (fun a b => strLt a b = true) := by
      rw [List.map_fst_zip (by omega)]; exact h.1
    exact List.pairwise_map.1 this
  | .mk _ ks vs (t :: r), h => by
    simp only [Ord] at h
    obtain ⟨rfl, h⟩ := h
    rw [toL, List.zip_nil_right, List.append_nil]
    exact toLs_rising (t :: r) h
theorem toLs_rising {hi : Option ByteArray} : ∀ {lo : Option ByteArray} {ks : List ByteArray} (l : List BT), OrdL lo hi ks l → (toLs l).Pairwise fun p q => strLt p.1 q.1 = true
  | lo, _, [], h => by simp [OrdL] at h
  | lo, [], t :: r, h => by
    simp only [OrdL] at h
    obtain ⟨rfl, h⟩ := h
    simp only [toLs, List.append_nil]
    exact toL_rising t h
  | lo, k :: ks, t :: r, h => by
    simp only [OrdL] at h
    obtain ⟨a1, a2, a3, a4⟩ := h
    rw [toLs, List.pairwise_append]
    exact ⟨toL_rising t a3, toLs_rising r a4, fun p hp q hq => lt_of_lt_le (ord_within t a3 p hp).2 (ordL_within r a4 q hq).1⟩
end
/-- How many pairs a whole tree has at the least. -/
theorem uni_many : ∀ (n : Nat) (t : BT) (lo hi : Option ByteArray), Ord lo hi t → UniT n 6 1 t → 6 ^ n ≤ (toL t).length
  | 0, .mk _ ks vs kids, lo, hi, o, u => by
    obtain ⟨rfl, u1, u2⟩ := u
    simp only [Ord] at o
    simp only [toL, toLs, List.nil_append, List.length_zip]; omega
  | n + 1, .mk _ ks vs kids, lo, hi, o, u => by
    obtain ⟨u1, u2, u3⟩ := u
    cases kids with
    | nil => simp at u1
    | cons t r =>
    simp only [Ord] at o
    have h := uni_manyL n (t :: r) o.2 u3
    simp only [toL, List.length_append]
    have : 6 ^ n * 6 ≤ 6 ^ n * (t :: r).length := Nat.mul_le_mul_left _ u1
    rw [Nat.pow_succ]; omega
where uni_manyL (n : Nat) : ∀ (l : List BT) {lo hi : Option ByteArray} {ks : List ByteArray}, OrdL lo hi ks l → (∀ t ∈ l, UniT n 6 1 t) → 6 ^ n * l.length ≤ (toLs l).length
  | [], lo, hi, _, o, u => by simp
  | t :: r, lo, hi, [], o, u => by
    simp only [OrdL] at o
    obtain ⟨rfl, o⟩ := o
    have := uni_many n t _ _ o (u t (by simp))
    simp only [toLs, List.append_nil, List.length_cons, List.length_nil, Nat.zero_add, Nat.mul_one]; exact this
  | t :: r, lo, hi, k :: ks, o, u => by
    simp only [OrdL] at o
    have h1 := uni_many n t _ _ o.2.2.1 (u t (by simp))
    have h2 := uni_manyL n r o.2.2.2 fun x hx => u x (by simp [hx])
    simp only [toLs, List.length_append, List.length_cons, Nat.mul_add, Nat.mul_one]; omega
end Go.Proofs.Ytljindmibfkhfaa.Hc
/- A tree in memory: nodes, each in memory of its own; btree.own, has, Node. -/
set_option linter.unusedVariables false
set_option linter.unusedSimpArgs false
namespace Go.Proofs.Ytljindmibfkhfaa.Hc
open Go Go.H Go.Proofs
set_option maxRecDepth 100000
set_option maxHeartbeats 4000000
theorem one_map {α : Type} {f : α → Value} (h : ∀ a, isOne (f a) = true) {l : List α} : ∀ v ∈ l.map f, isOne v = true := by
  intro v hv
  obtain ⟨a, _, rfl⟩ := List.mem_map.1 hv
  exact h a
theorem cloneS_spec {h : Heap} {a : Option Addr} {c n : Nat} {xs : List Value} (x : Sl h 1 a n c xs) (one : ∀ v ∈ xs, isOne v = true) (hl : n ≤ 1048576) :
    HCalls Try.prog 31 #[.slice a n c] h fun e h' => ∃ (a' : Option Addr) (c' : Nat), e = .returned (.slice a' n c') ∧ Own h' h.size 9 1 a' n c' xs ∧ Ext h h' := by
  refine c31 (by simp) ?_
  cases a with
  | none =>
    have h0 : n = 0 := by have := x.2.2.1 rfl; have := x.2.1; omega
    subst h0
    obtain rfl : xs = [] := List.length_eq_zero_iff.1 (by simpa using x.1)
    refine gA ?_
    exact ⟨none, 0, rfl, Own.nil _ _ _ _, Ext.refl _⟩
  | some p =>
    refine gA ?_
    refine HIf.no rfl ?_
    refine gA ?_
    refine new_own (e := 9) 1 0 [] rfl rfl ?_
    intro h1 b1 w1 x1 z1 hb1
    refine gA ?_
    refine (x.ext x1).cells ?_
    refine Own.append w1 (m := n) (by omega) rfl x.1 one (by omega) ?_
    intro h2 a2 c2 w2 k2 _ _
    rw [Nat.zero_add, List.nil_append] at w2
    rw [Nat.zero_add]
    refine gA ?_
    exact ⟨a2, c2, rfl, w2, x1.keep k2⟩
theorem cloneI_spec {h : Heap} {a : Option Addr} {c n : Nat} {xs : List Value} (x : Sl h 1 a n c xs) (one : ∀ v ∈ xs, isOne v = true) (hl : n ≤ 1048576) :
    HCalls Try.prog 32 #[.slice a n c] h fun e h' => ∃ (a' : Option Addr) (c' : Nat), e = .returned (.slice a' n c') ∧ Own h' h.size 3 1 a' n c' xs ∧ Ext h h' := by
  refine c32 (by simp) ?_
  cases a with
  | none =>
    have h0 : n = 0 := by have := x.2.2.1 rfl; have := x.2.1; omega
    subst h0
    obtain rfl : xs = [] := List.length_eq_zero_iff.1 (by simpa using x.1)
    refine gA ?_
    exact ⟨none, 0, rfl, Own.nil _ _ _ _, Ext.refl _⟩
  | some p =>
    refine gA ?_
    refine HIf.no rfl ?_
    refine gA ?_
    refine new_own (e := 3) 1 0 [] rfl rfl ?_
    intro h1 b1 w1 x1 z1 hb1
    refine gA ?_
    refine (x.ext x1).cells ?_
    refine Own.append w1 (m := n) (by omega) rfl x.1 one (by omega) ?_
    intro h2 a2 c2 w2 k2 _ _
    rw [Nat.zero_add, List.nil_append] at w2
    rw [Nat.zero_add]
    refine gA ?_
    exact ⟨a2, c2, rfl, w2, x1.keep k2⟩
/-- Two slices in memory apart. -/
def Apart (a b : Option Addr) : Prop := ∀ p q, a = some p → b = some q → p.block ≠ q.block
/-- A node in memory of its own, from a bound on. -/
structure NOwn (h : Heap) (B : Nat) (d : ND) (ka : Option Addr) (kc : Nat) (va : Option Addr) (vc : Nat) (ia : Option Addr) (ic : Nat) : Prop where
  k : Own h B 9 1 ka d.keys.length kc (d.keys.map .string)
  v : Own h B 9 1 va d.vals.length vc (d.vals.map .string)
  i : Own h B 3 1 ia d.kids.length ic (d.kids.map (.int .i64))
  kv : Apart ka va
  ki : Apart ka ia
  vi : Apart va ia
abbrev cells3 (d : ND) (ka : Option Addr) (kc : Nat) (va : Option Addr) (vc : Nat) (ia : Option Addr) (ic : Nat) : List Value := [.slice ka d.keys.length kc, .slice va d.vals.length vc, .slice ia d.kids.length ic]
theorem own_spec {h : Heap} {d : ND} {cs : List Value} (r : NRep h d cs) : HCalls Try.prog 20 #[.agg cs.toArray] h fun e h' =>
    ∃ ka kc va vc ia ic, e = .returned (.agg (cells3 d ka kc va vc ia ic).toArray) ∧ NOwn h' h.size d ka kc va vc ia ic ∧ Ext h h' := by
  obtain ⟨b1, b2, b3, b4, b5, b6, ka, kc, va, vc, ia, ic, rfl, s1, s2, s3⟩ := r
  refine c20 (by simp) ?_
  refine gA ?_
  refine new_var (e := 41) [.slice ka d.keys.length kc, .slice va d.vals.length vc, .slice ia d.kids.length ic] rfl ?_
  intro h1 bn o1 x1 z1 hbn
  refine gA ?_
  refine new_var (e := 41) [.slice none 0 0, .slice none 0 0, .slice none 0 0] rfl ?_
  intro h2 br o2 x2 z2 hbr
  have o1 := o1.ext x2
  have X := x1.trans x2
  have hx1 := x1.1
  have hx2 := x2.1
  refine gA ?_
  repeat' ((with_reducible refine HAlt.mk ?_ ?_) <;> refine gA ?_)
  all_goals
    refine HCall.mk ((cloneS_spec (s1.ext X) (one_map fun _ => rfl) (by omega)).mono ?_)
    rintro e h3 ⟨ka', kc', rfl, w1, x3⟩
    have o1 := o1.ext x3
    have o2 := o2.ext x3
    have X3 := X.trans x3
    have hx3 := x3.1
    have l1 := w1.lt
    refine gA ?_
    repeat' ((with_reducible refine HAlt.mk ?_ ?_) <;> refine gA ?_)
  all_goals
    refine HCall.mk ((cloneS_spec (s2.ext X3) (one_map fun _ => rfl) (by omega)).mono ?_)
    rintro e h4 ⟨va', vc', rfl, w2, x4⟩
    have o1 := o1.ext x4
    have o2 := o2.ext x4
    have X4 := X3.trans x4
    have hx4 := x4.1
    have l2 := w2.lt
    have w1 := w1.ext x4
    refine gA ?_
    refine HCall.mk ((cloneI_spec (s3.ext X4) (one_map fun _ => rfl) (by omega)).mono ?_)
    rintro e h5 ⟨ia', ic', rfl, w3, x5⟩
    have o2 := o2.ext x5
    have X5 := X4.trans x5
    have hx5 := x5.1
    have l3 := w3.lt
    have w1 := w1.ext x5
    have w2 := w2.ext x5
    refine gA ?_
    refine store_blk o2 (by simp) (by simp [isOne]) ?_
    intro h6 f6 z6 o6
    replace o6 : BlkW h6 br 41 (cells3 d ka' kc' va' vc' ia' ic') := by simpa using o6
    refine gN ?_
    refine ⟨ka', kc', va', vc', ia', ic', rfl, ⟨?_, ?_, ?_, ?_, ?_, ?_⟩, X5.offNew f6 (by omega)⟩
    · exact (w1.off f6 (fun p ep => by have := l1 p ep; omega)).lower (by omega)
    · exact (w2.off f6 (fun p ep => by have := l2 p ep; omega)).lower (by omega)
    · exact (w3.off f6 (fun p ep => by have := l3 p ep; omega)).lower (by omega)
    · intro p q ep eq; have := l1 p ep; have := l2 q eq; omega
    · intro p q ep eq; have := l1 p ep; have := l3 q eq; omega
    · intro p q ep eq; have := l2 p ep; have := l3 q eq; omega
end Go.Proofs.Ytljindmibfkhfaa.Hc
/- A tree in memory: its map of nodes; has, Node, New. -/
set_option linter.unusedVariables false
set_option linter.unusedSimpArgs false
namespace Go.Proofs.Ytljindmibfkhfaa.Hc
open Go Go.H Go.Proofs
set_option maxRecDepth 100000
set_option maxHeartbeats 4000000
/-- All but some blocks are as they were. -/
def OffS (S : List Nat) (h h' : Heap) : Prop := h.size ≤ h'.size ∧ ∀ b, b < h.size → b ∉ S → h'[b]? = h[b]?
theorem OffS.refl (S : List Nat) (h : Heap) : OffS S h h := ⟨Nat.le_refl _, fun _ _ _ => rfl⟩
theorem OffS.trans {S : List Nat} {a b c : Heap} (x : OffS S a b) (y : OffS S b c) : OffS S a c := ⟨Nat.le_trans x.1 y.1, fun k hk hn => by rw [y.2 k (by have := x.1; omega) hn, x.2 k hk hn]⟩
theorem OffS.of_ext {S : List Nat} {h h' : Heap} (x : Ext h h') : OffS S h h' := ⟨x.1, fun k hk _ => x.2 k hk⟩
theorem OffS.of_off {S : List Nat} {k : Nat} {h h' : Heap} (x : Off k h h') (hk : k ∈ S) : OffS S h h' := ⟨x.1, fun b hb hn => x.2 b hb (fun e => hn (e ▸ hk))⟩
abbrev NV := ND × List Value
def pureL (L : List (Int × NV)) : Nodes := L.map fun p => (p.1, p.2.1)
theorem getA_pure (i : Int) : ∀ L : List (Int × NV), getA i (pureL L) = (getA i L).map (·.1)
  | [] => rfl
  | p :: r => by
    show getA i ((p.1, p.2.1) :: pureL r) = _
    simp only [getA]
    split
    · rfl
    · exact getA_pure i r
theorem putA_pure (i : Int) (v : NV) : ∀ L : List (Int × NV), putA i v.1 (pureL L) = pureL (putA i v L)
  | [] => rfl
  | p :: r => by
    show putA i v.1 ((p.1, p.2.1) :: pureL r) = _
    simp only [putA]
    split
    · rfl
    · show _ = (p.1, p.2.1) :: pureL (putA i v r)
      rw [putA_pure i v r]
theorem pureL_len (L : List (Int × NV)) : (pureL L).length = L.length := by unfold pureL; simp
theorem getA_mem {κ ν : Type} [DecidableEq κ] {k : κ} {v : ν} : ∀ {l : List (κ × ν)}, getA k l = some v → (k, v) ∈ l
  | [], h => by simp [getA] at h
  | p :: r, h => by
    simp only [getA] at h
    split at h
    · rename_i e; simp only [Option.some.injEq] at h; subst h; subst e; simp
    · exact List.mem_cons_of_mem _ (getA_mem h)
abbrev veN (p : NV) : Value := .agg p.2.toArray
/-- A node that stays whatever becomes of some blocks. -/
def NFix (h : Heap) (S : List Nat) (d : ND) (cs : List Value) : Prop := ∀ h', OffS S h h' → NRep h' d cs
theorem NFix.off {h h' : Heap} {S : List Nat} {d : ND} {cs : List Value} (x : NFix h S d cs) (o : OffS S h h') : NFix h' S d cs := fun h'' o' => x h'' (o.trans o')
theorem NFix.rep {h : Heap} {S : List Nat} {d : ND} {cs : List Value} (x : NFix h S d cs) : NRep h d cs := x h (.refl _ _)
theorem Own.offS {h h' : Heap} {B e size n c : Nat} {a : Option Addr} {xs : List Value} {S : List Nat} (x : Own h B e size a n c xs) (o : OffS S h h') (hk : ∀ p, a = some p → p.block ∉ S) : Own h' B e size a n c xs :=
  ⟨x.1, x.2.1, x.2.2.1, fun p ep => let ⟨b, s, h1, h2, h3, h4⟩ := x.2.2.2 p ep; ⟨b, s, h1, h2, h3, h4.of (o.2 _ h4.lt (by have := hk p ep; rw [h1] at this; exact this))⟩⟩
/-- A node's own bounds. -/
structure NSmall (d : ND) : Prop where
  k : d.keys.length ≤ 1048576
  v : d.vals.length ≤ 1048576
  i : d.kids.length ≤ 1048576
  ks : ∀ x ∈ d.keys, x.size ≤ 1048576
  vs : ∀ x ∈ d.vals, x.size ≤ 1048576
  is : ∀ x ∈ d.kids, i64 x
theorem NRep.small {h : Heap} {d : ND} {cs : List Value} (x : NRep h d cs) : NSmall d := by
  obtain ⟨h1, h2, h3, h4, h5, h6, _⟩ := x; exact ⟨h1, h2, h3, h4, h5, h6⟩
theorem NOwn.fix {h : Heap} {B : Nat} {d : ND} {ka va ia : Option Addr} {kc vc ic : Nat} {S : List Nat} (w : NOwn h B d ka kc va vc ia ic) (sm : NSmall d) (hs : ∀ b ∈ S, b < B) : NFix h S d (cells3 d ka kc va vc ia ic) := by
  intro h' o
  have hk := w.k.lt
  have hv := w.v.lt
  have hi := w.i.lt
  exact ⟨sm.k, sm.v, sm.i, sm.ks, sm.vs, sm.is, ka, kc, va, vc, ia, ic, rfl,
    (Own.offS w.k o (fun p ep hm => by have := hs _ hm; have := hk p ep; omega)).sl, (Own.offS w.v o (fun p ep hm => by have := hs _ hm; have := hv p ep; omega)).sl, (Own.offS w.i o (fun p ep hm => by have := hs _ hm; have := hi p ep; omega)).sl⟩
theorem OffS.sub {S T : List Nat} {h h' : Heap} (x : OffS S h h') (k : ∀ b ∈ S, b ∈ T) : OffS T h h' := ⟨x.1, fun b hb hn => x.2 b hb fun hm => hn (k b hm)⟩
theorem OffS.to {S : List Nat} {t r : Nat} {h h' : Heap} (x : OffS [t, r] h h') (ts : t ∈ S) (rs : r ∈ S) : OffS S h h' := x.sub fun b hb => by
  rcases List.mem_cons.1 hb with rfl | hb
  · exact ts
  · rw [List.mem_singleton.1 hb]; exact rs
/-- A tree in memory; its nodes stay whatever becomes of the blocks of S. -/
structure TRp (S : List Nat) (h : Heap) (t r : Nat) (s : TS) : Prop where
  o : BlkW h t 49 [.map (some r), .int .i64 s.nx]
  m : ∃ L, MapR h r (Value.int .i64) veN L ∧ pureL L = s.l ∧ ∀ p ∈ L, NFix h S p.2.1 p.2.2
  ne : t ≠ r
  ts : t ∈ S
  rs : r ∈ S
theorem TRp.ext {S : List Nat} {h h' : Heap} {t r : Nat} {s : TS} (x : TRp S h t r s) (k : Ext h h') : TRp S h' t r s :=
  ⟨x.o.ext k, let ⟨L, m, e, n⟩ := x.m; ⟨L, m.ext k, e, fun p hp => (n p hp).off (.of_ext k)⟩, x.ne, x.ts, x.rs⟩
theorem TRp.rlt {S : List Nat} {h : Heap} {t r : Nat} {s : TS} (x : TRp S h t r s) : r < h.size := let ⟨L, m, _⟩ := x.m; m.lt
/-- Other blocks are to stay away from. -/
theorem TRp.more {S N : List Nat} {h h' : Heap} {t r : Nat} {s : TS} (x : TRp S h t r s) (k : Ext h h') (hN : ∀ b ∈ N, h.size ≤ b) : TRp (S ++ N) h' t r s :=
  ⟨x.o.ext k, let ⟨L, m, e, n⟩ := x.m; ⟨L, m.ext k, e, fun p hp h'' o => n p hp h'' ⟨Nat.le_trans k.1 o.1, fun b hb hn => by
    rw [o.2 b (Nat.lt_of_lt_of_le hb k.1) fun hm => (List.mem_append.1 hm).elim hn fun hm => by have := hN b hm; omega, k.2 b hb]⟩⟩, x.ne, List.mem_append_left _ x.ts, List.mem_append_left _ x.rs⟩
theorem TRp.less {S T : List Nat} {h : Heap} {t r : Nat} {s : TS} (x : TRp T h t r s) (hs : ∀ b ∈ S, b ∈ T) (ts : t ∈ S) (rs : r ∈ S) : TRp S h t r s :=
  ⟨x.o, let ⟨L, m, e, n⟩ := x.m; ⟨L, m, e, fun p hp h' o => n p hp h' (o.sub hs)⟩, x.ne, ts, rs⟩
theorem TRp.offN {S : List Nat} {h h' : Heap} {t r : Nat} {s : TS} (x : TRp S h t r s) (o : OffS S h h') (et : h'[t]? = h[t]?) (er : h'[r]? = h[r]?) : TRp S h' t r s :=
  ⟨x.o.of et, let ⟨L, m, e, n⟩ := x.m; ⟨L, m.of er, e, fun p hp => (n p hp).off o⟩, x.ne, x.ts, x.rs⟩
theorem ndE_rep (h : Heap) : NRep h ndE [.slice none 0 0, .slice none 0 0, .slice none 0 0] :=
  ⟨by simp, by simp, by simp, by simp, by simp, by simp, none, 0, none, 0, none, 0, rfl, Sl.nil _ _, Sl.nil _ _, Sl.nil _ _⟩
/-- What a tree has for a number. -/
theorem TRp.look {S : List Nat} {h : Heap} {t r : Nat} {s : TS} (x : TRp S h t r s) (i : Int) {K : Array MapEntry → Nat → Option (Nat × Value) → Prop}
    (k0 : getA i s.l = none → ∀ es clock, K es clock none) (k1 : ∀ d cs, getA i s.l = some d → NFix h S d cs → ∀ es clock j, K es clock (some (j, .agg cs.toArray))) : HMapF h r (.int .i64) (.int .i64 i) K := by
  obtain ⟨L, m, e, n⟩ := x.m
  have hg := getA_pure i L
  rw [e] at hg
  refine m.look keyOk_int i (fun hn => k0 (by rw [hg, hn]; rfl)) (fun v hv => ?_)
  exact k1 v.1 v.2 (by rw [hg, hv]; rfl) (n _ (getA_mem hv))
theorem has_spec {S : List Nat} {h : Heap} {t r : Nat} {s : TS} (x : TRp S h t r s) (i : Int) : HCalls Try.prog 28 #[.pointer (some ⟨t, 0, none⟩), .int .i64 i] h fun e h' => e = .returned (.bool (getA i s.l).isSome) ∧ Ext h h' := by
  refine c28 (by simp) ?_
  have o := x.o
  refine gA ?_
  refine x.look i (fun hn es clock => ?_) (fun d cs hd fx es clock j => ?_)
  · rw [hn]
    refine gA ?_
    refine new_var (e := 41) [.slice none 0 0, .slice none 0 0, .slice none 0 0] rfl ?_
    intro h1 b1 o1 x1 z1 hb1
    refine gA ?_
    refine store_blk o1 (by simp) (by simp [isOne]) ?_
    intro h2 f2 z2 o2
    refine gA ?_
    exact ⟨rfl, x1.offNew f2 (by omega)⟩
  · rw [hd]
    have rn := fx.rep
    obtain ⟨b1, b2, b3, b4, b5, b6, ka, kc, va, vc, ia, ic, rfl, s1, s2, s3⟩ := rn
    refine gA ?_
    refine new_var (e := 41) [.slice none 0 0, .slice none 0 0, .slice none 0 0] rfl ?_
    intro h1 b1 o1 x1 z1 hb1
    refine gA ?_
    refine store_blk o1 (by simp) (by simp [isOne]) ?_
    intro h2 f2 z2 o2
    refine gA ?_
    exact ⟨rfl, x1.offNew f2 (by omega)⟩
end Go.Proofs.Ytljindmibfkhfaa.Hc
/- btree.Node, make, New. -/
set_option linter.unusedVariables false
set_option linter.unusedSimpArgs false
namespace Go.Proofs.Ytljindmibfkhfaa.Hc
open Go Go.H Go.Proofs
set_option maxRecDepth 100000
set_option maxHeartbeats 4000000
theorem node_spec {S : List Nat} {h : Heap} {t r : Nat} {s : TS} (x : TRp S h t r s) (i : Int) : HCalls Try.prog 11 #[.pointer (some ⟨t, 0, none⟩), .int .i64 i] h fun e h' =>
    ∃ ka kc va vc ia ic, e = .returned (.tuple #[.agg (cells3 (nodeOf s.l i) ka kc va vc ia ic).toArray, .bool (getA i s.l).isSome]) ∧ NOwn h' h.size (nodeOf s.l i) ka kc va vc ia ic ∧ Ext h h' := by
  refine c11 (by simp) ?_
  have o := x.o
  refine gA ?_
  refine new_var (e := 41) [.slice none 0 0, .slice none 0 0, .slice none 0 0] rfl ?_
  intro h1 b1 o1 x1 z1 hb1
  have o := o.ext x1
  have hx1 := x1.1
  have xt := x.ext x1
  refine gA ?_
  refine xt.look i (fun hn es clock => ?_) (fun d cs hd fx es clock j => ?_)
  · have hd : nodeOf s.l i = ndE := by unfold nodeOf; rw [hn]; rfl
    rw [hn, hd]
    refine gA ?_
    refine new_var (e := 41) [.slice none 0 0, .slice none 0 0, .slice none 0 0] rfl ?_
    intro h2 b2 o2 x2 z2 hb2
    have o1 := o1.ext x2
    have hx2 := x2.1
    refine gA ?_
    refine store_blk o2 (by simp) (by simp [isOne]) ?_
    intro h3 f3 z3 o3
    replace o3 : BlkW h3 b2 41 [.slice none 0 0, .slice none 0 0, .slice none 0 0] := by simpa using o3
    have X3 : Ext h h3 := (x1.trans x2).offNew f3 (by omega)
    have o1 := o1.offk f3 (by omega)
    have hf3 := f3.1
    refine gN ?_
    refine HCall.mk ((own_spec (ndE_rep h3)).mono ?_)
    rintro e h4 ⟨ka, kc, va, vc, ia, ic, rfl, w, x4⟩
    have o1 := o1.ext x4
    have hx4 := x4.1
    refine gA ?_
    refine store_blk o1 (by simp) (by simp [isOne]) ?_
    intro h5 f5 z5 o5
    replace o5 : BlkW h5 b1 41 (cells3 ndE ka kc va vc ia ic) := by simpa using o5
    refine gN ?_
    have lk := w.k.lt
    have lv := w.v.lt
    have li := w.i.lt
    exact ⟨ka, kc, va, vc, ia, ic, rfl, ⟨(w.k.off f5 (fun p ep => by have := lk p ep; omega)).lower (by omega), (w.v.off f5 (fun p ep => by have := lv p ep; omega)).lower (by omega), (w.i.off f5 (fun p ep => by have := li p ep; omega)).lower (by omega), w.kv, w.ki, w.vi⟩, (X3.trans x4).offNew f5 (by omega)⟩
  · have hdn : nodeOf s.l i = d := by unfold nodeOf; rw [hd]; rfl
    rw [hd, hdn]
    have fx2 := fx
    obtain ⟨c1, c2, c3, c4, c5, c6, ka0, kc0, va0, vc0, ia0, ic0, rfl, _⟩ := fx.rep
    refine gA ?_
    refine new_var (e := 41) [.slice none 0 0, .slice none 0 0, .slice none 0 0] rfl ?_
    intro h2 b2 o2 x2 z2 hb2
    have o1 := o1.ext x2
    have hx2 := x2.1
    refine gA ?_
    refine store_blk o2 (by simp) (by simp [isOne]) ?_
    intro h3 f3 z3 o3
    replace o3 : BlkW h3 b2 41 [.slice ka0 d.keys.length kc0, .slice va0 d.vals.length vc0, .slice ia0 d.kids.length ic0] := by simpa using o3
    have X3 : Ext h h3 := (x1.trans x2).offNew f3 (by omega)
    have o1 := o1.offk f3 (by omega)
    have hf3 := f3.1
    have rn : NRep h3 d [.slice ka0 d.keys.length kc0, .slice va0 d.vals.length vc0, .slice ia0 d.kids.length ic0] := (fx2.off (.of_ext (x2.offNew f3 (by omega)))).rep
    refine gN ?_
    refine HCall.mk ((own_spec rn).mono ?_)
    rintro e h4 ⟨ka, kc, va, vc, ia, ic, rfl, w, x4⟩
    have o1 := o1.ext x4
    have hx4 := x4.1
    refine gA ?_
    refine store_blk o1 (by simp) (by simp [isOne]) ?_
    intro h5 f5 z5 o5
    replace o5 : BlkW h5 b1 41 (cells3 d ka kc va vc ia ic) := by simpa using o5
    refine gN ?_
    have lk := w.k.lt
    have lv := w.v.lt
    have li := w.i.lt
    exact ⟨ka, kc, va, vc, ia, ic, rfl, ⟨(w.k.off f5 (fun p ep => by have := lk p ep; omega)).lower (by omega), (w.v.off f5 (fun p ep => by have := lv p ep; omega)).lower (by omega), (w.i.off f5 (fun p ep => by have := li p ep; omega)).lower (by omega), w.kv, w.ki, w.vi⟩, (X3.trans x4).offNew f5 (by omega)⟩
end Go.Proofs.Ytljindmibfkhfaa.Hc
/- btree.make, New. -/
set_option linter.unusedVariables false
set_option linter.unusedSimpArgs false
namespace Go.Proofs.Ytljindmibfkhfaa.Hc
open Go Go.H Go.Proofs
set_option maxRecDepth 100000
set_option maxHeartbeats 4000000
theorem freeF_eq : ∀ (j f : Nat) (l : Nodes) (i : Int), (∀ k : Nat, k < j → getA (i + k) l ≠ none) → getA (i + j) l = none → j < f → freeF f l i = i + j
  | 0, f + 1, l, i, h, h0, hf => by
    unfold freeF
    have h0' : getA i l = none := by simpa using h0
    rw [if_pos h0']; simp
  | j + 1, f + 1, l, i, h, h0, hf => by
    unfold freeF
    rw [if_neg (by simpa using h 0 (by omega)), freeF_eq j f l (i + 1) (fun k hk => by have := h (k + 1) (by omega); rw [show i + 1 + (k : Int) = i + ((k + 1 : Nat) : Int) by omega]; exact this) (by rw [show i + 1 + (j : Int) = i + ((j + 1 : Nat) : Int) by omega]; exact h0) (by omega)]
    omega
theorem putA_mem {κ ν : Type} [DecidableEq κ] {k : κ} {v : ν} {p : κ × ν} : ∀ {l : List (κ × ν)}, p ∈ putA k v l → p = (k, v) ∨ p ∈ l
  | [], h => by simpa [putA] using h
  | q :: r, h => by
    simp only [putA] at h
    split at h
    · rcases List.mem_cons.1 h with h | h
      · exact .inl h
      · exact .inr (List.mem_cons_of_mem _ h)
    · rcases List.mem_cons.1 h with h | h
      · exact .inr (h ▸ List.mem_cons_self)
      · exact (putA_mem h).imp id (List.mem_cons_of_mem _)
theorem TRp.next {S : List Nat} {h h' : Heap} {t r : Nat} {s : TS} {nx : Int} (x : TRp S h t r s) (f : Off t h h') (o : BlkW h' t 49 [.map (some r), .int .i64 nx]) : TRp S h' t r ⟨s.l, nx⟩ :=
  ⟨o, let ⟨L, m, e, n⟩ := x.m; ⟨L, m.offk f (Ne.symm x.ne), e, fun p hp => (n p hp).off (.of_off f x.ts)⟩, x.ne, x.ts, x.rs⟩
/-- A node is laid into the map. -/
theorem TRp.set {S : List Nat} {h : Heap} {t r : Nat} {s : TS} (x : TRp S h t r s) (i : Int) {d : ND} {cs : List Value} (fx : NFix h S d cs) {Q : Heap → Prop}
    (kk : ∀ h', Off r h h' → TRp S h' t r ⟨putA i d s.l, s.nx⟩ → Q h') : HMapF h r (.int .i64) (.int .i64 i) fun es clock f => match f with
      | some (j, _) => HMust (Instr.sameBits 10000 (((es[j]?).map (·.key)).getD (.int .i64 i)) (.int .i64 i) = true) (Q (h.setIfInBounds r (.map (es.modify j fun e => { e with key := .int .i64 i, val := .agg cs.toArray }) clock)))
      | none => Q (h.setIfInBounds r (.map (es.push { key := .int .i64 i, val := .agg cs.toArray, born := clock }) (clock + 1))) := by
  obtain ⟨L, m, e, n⟩ := x.m
  refine m.set keyOk_int i (d, cs) (Q := Q) fun h' f z m' => kk h' f ⟨x.o.offk f x.ne, ⟨putA i (d, cs) L, m', ?_, ?_⟩, x.ne, x.ts, x.rs⟩
  · rw [← e]; exact (putA_pure i (d, cs) L).symm
  · intro p hp
    rcases putA_mem hp with rfl | hp
    · exact fx.off (.of_off f x.rs)
    · exact (n p hp).off (.of_off f x.rs)
theorem make_spec {S : List Nat} {h : Heap} {t r : Nat} {s : TS} {d : ND} {ka va ia : Option Addr} {kc vc ic : Nat} (x : TRp S h t r s) (fx : NFix h S d (cells3 d ka kc va vc ia ic)) (hb1 : -4611686018427387904 ≤ s.nx) (hb2 : s.nx + (s.l.length : Nat) ≤ 4611686018427387904) :
    HCalls Try.prog 15 #[.pointer (some ⟨t, 0, none⟩), .agg (cells3 d ka kc va vc ia ic).toArray] h fun e h' => e = .returned (.int .i64 (mkF s d).2) ∧ TRp S h' t r (mkF s d).1 ∧ OffS [t, r] h h' := by
  refine c15 (by simp) ?_
  refine gA ?_
  refine new_var (e := 41) (cells3 d ka kc va vc ia ic) rfl ?_
  intro h1 bn o1 x1 z1 hbn
  have xt := x.ext x1
  have fx1 := fx.off (.of_ext x1)
  have lt := x.o.lt
  refine gA ?_
  refine loop_ghost [] (fun (j : Nat) vs h' => TRp S h' t r ⟨s.l, s.nx + j⟩ ∧ (∀ k : Nat, k < j → getA (s.nx + k) s.l ≠ none) ∧ OffS [t, r] h h' ∧ NFix h' S d (cells3 d ka kc va vc ia ic) ∧ BlkW h' bn 41 (cells3 d ka kc va vc ia ic)) (fun j => s.l.length + 1 - j) rfl ?_ ?_
  · exact ⟨0, by simpa using xt, fun k hk => by omega, .of_ext x1, fx1, o1⟩
  intro j u h2
  rintro ⟨x2, tk, of2, fx2, on2⟩
  have hjl := taken_le _ _ _ tk
  have o2 : BlkW h2 t 49 [.map (some r), .int .i64 (s.nx + j)] := x2.o
  refine gA ?_
  have hs : HCalls Try.prog 28 #[.pointer (some ⟨t, 0, none⟩), .int .i64 (s.nx + j)] h2 fun e h' => e = .returned (.bool (getA (s.nx + j) s.l).isSome) ∧ Ext h2 h' := has_spec x2 (s.nx + j)
  refine HCall.mk (hs.mono ?_)
  rintro e h3 ⟨rfl, y3⟩
  have x3 := x2.ext y3
  have fx3 := fx2.off (.of_ext y3)
  have on3 := on2.ext y3
  have of3 := of2.trans (.of_ext y3)
  have hof := of3.1
  have o3 : BlkW h3 t 49 [.map (some r), .int .i64 (s.nx + j)] := x3.o
  cases hg : getA (s.nx + j) s.l with
  | some d' =>
    have hjl' : j + 1 ≤ s.l.length := taken_le (j + 1) s.l s.nx fun k hk => by
      by_cases hkj : k < j
      · exact tk k hkj
      · have : k = j := by omega
        subst this
        rw [hg]; simp
    have hbt : bn ≠ t := by omega
    have q : (some d').isSome = true := rfl
    refine gA ?_
    refine blk_st (o := 1) o3 (by simp) rfl ?_
    intro h4 f4 z4 o4
    have o4' : BlkW h4 t 49 [.map (some r), .int .i64 (s.nx + ((j + 1 : Nat) : Int))] := by
      have e : s.nx + (j : Int) + 1 = s.nx + ((j + 1 : Nat) : Int) := by omega
      rw [← e]; exact o4
    refine gA ?_
    refine ⟨j + 1, ⟨x3.next f4 o4', ?_, of3.trans (.of_off f4 (by simp)), fx3.off (.of_off f4 x.ts), on3.offk f4 hbt⟩, by omega⟩
    intro k hk
    by_cases hkj : k < j
    · exact tk k hkj
    · have : k = j := by omega
      subst this
      rw [hg]; simp
  | none =>
    have efr : freeF (s.l.length + 1) s.l s.nx = s.nx + j := freeF_eq j _ _ _ tk hg (by omega)
    refine gN ?_
    refine x3.set (s.nx + j) fx3 fun h4 f4 x4 => ?_
    have o4 : BlkW h4 t 49 [.map (some r), .int .i64 (s.nx + j)] := x4.o
    refine gA ?_
    refine ⟨?_, ?_, of3.trans (.of_off f4 (by simp))⟩
    · have e : Ending.returned (.int .i64 (s.nx + (j : Int))) = Ending.returned (.int .i64 (mkF s d).2) := by
        show _ = Ending.returned (.int .i64 (freeF (s.l.length + 1) s.l s.nx))
        rw [efr]
      exact e
    · show TRp S h4 t r ⟨putA (freeF (s.l.length + 1) s.l s.nx) d s.l, freeF (s.l.length + 1) s.l s.nx⟩
      rw [efr]; exact x4
theorem new_spec (h : Heap) : HCalls Try.prog 6 #[] h fun e h' => ∃ t r, e = .returned (.pointer (some ⟨t, 0, none⟩)) ∧ TRp [t, r] h' t r ⟨[], 1⟩ ∧ h.size ≤ t ∧ h.size ≤ r ∧ Ext h h' := by
  refine c6 (by simp) ?_
  refine gA ?_
  refine HNew.mk ?_
  refine gA ?_
  have x1 := Ext.push h (.map #[] 0)
  have m1 := MapR.new h (Value.int .i64) veN
  generalize hh1 : h.push (.map #[] 0) = h1 at *
  have hz : h1.size = h.size + 1 := by rw [← hh1]; simp
  refine new_var (e := 49) [.map (some h.size), .int .i64 1] rfl ?_
  intro h2 t o2 x2 z2 ht
  refine gA ?_
  exact ⟨t, h.size, rfl, ⟨o2, ⟨[], m1.ext x2, rfl, fun p hp => by cases hp⟩, by omega, by simp, by simp⟩, by omega, Nat.le_refl _, x1.trans x2⟩
end Go.Proofs.Ytljindmibfkhfaa.Hc
/- btree.at: where a key stands among rising ones (sort.SearchStrings). -/
set_option linter.unusedVariables false
set_option linter.unusedSimpArgs false
namespace Go.Proofs.Ytljindmibfkhfaa.Hc
open Go Go.H Go.Proofs
set_option maxRecDepth 100000
set_option maxHeartbeats 4000000
theorem countP_at {α : Type} {q : α → Bool} {ks : List α} {j : Nat} (hj : j ≤ ks.length) (h1 : ∀ i (hi : i < ks.length), i < j → q ks[i] = true) (h2 : ∀ i (hi : i < ks.length), j ≤ i → q ks[i] = false) : ks.countP q = j := by
  have a1 : (ks.take j).countP q = j := by
    have : (ks.take j).countP q = (ks.take j).length := by
      rw [List.countP_eq_length]
      intro x hx
      obtain ⟨i, hi, rfl⟩ := List.getElem_of_mem hx
      rw [List.length_take] at hi
      rw [List.getElem_take]
      exact h1 i (by omega) (by omega)
    rw [this, List.length_take]; omega
  have a2 : (ks.drop j).countP q = 0 := by
    rw [List.countP_eq_zero]
    intro x hx
    obtain ⟨i, hi, rfl⟩ := List.getElem_of_mem hx
    rw [List.length_drop] at hi
    rw [List.getElem_drop, h2 (j + i) (by omega) (by omega)]; simp
  have := List.countP_append (p := q) (l₁ := ks.take j) (l₂ := ks.drop j)
  rw [List.take_append_drop, a1, a2] at this
  exact this
theorem rising_le {ks : List ByteArray} (r : Rising ks) : RiseLe ks := fun i hi => strLe_of_lt (List.pairwise_iff_getElem.1 r i (i + 1) (by omega) hi (by omega))
theorem sclosure_spec {ks : List ByteArray} {h : Heap} {a : Option Addr} {c b1 b2 e1 e2 i : Nat} {key : ByteArray} (s1 : Sl h 1 a ks.length c (ks.map .string)) (o1 : BlkW h b1 e1 [.slice a ks.length c]) (o2 : BlkW h b2 e2 [.string key]) (hi : i < ks.length) :
    HCalls Try.prog 46 #[.int .i64 i, .pointer (some ⟨b1, 0, none⟩), .pointer (some ⟨b2, 0, none⟩)] h fun e h' => e = .returned (.bool (!strLt ks[i] key)) ∧ h' = h := by
  refine c46 (by simp) ?_
  refine gA ?_
  refine HIdx.mk i rfl hi ?_
  refine sl_some s1 hi fun p ep => ?_
  refine gA ?_
  refine s1.load ep (by simpa using hi) ?_
  rw [List.getElem_map]
  refine gA ?_
  exact ⟨rfl, rfl⟩
theorem ssearch_spec {ks : List ByteArray} {h : Heap} {a : Option Addr} {c b1 b2 e1 e2 : Nat} {key : ByteArray} (s1 : Sl h 1 a ks.length c (ks.map .string)) (o1 : BlkW h b1 e1 [.slice a ks.length c]) (o2 : BlkW h b2 e2 [.string key]) (hk : ks.length ≤ 1048576) (hr : Rising ks) :
    HCalls Try.prog 38 #[.int .i64 ks.length, .func (.func 46) #[] #[.pointer (some ⟨b1, 0, none⟩), .pointer (some ⟨b2, 0, none⟩)]] h
      fun e h' => e = .returned (.int .i64 (lowerN ks key : Nat)) ∧ h' = h := by
  have hle := rising_le hr
  refine c38 (by simp) ?_
  refine gB ?_
  refine cut_rule [5] (fun vs h' => vs = [.int .i64 (lowerN ks key : Nat)] ∧ h' = h) rfl ?_ ?_
  · refine gA ?_
    refine loop_rule [5, 6] (fun vs h' => ∃ (i j : Nat), vs = [.int .i64 i, .int .i64 j] ∧ i ≤ j ∧ j ≤ ks.length ∧ (∀ m (hm : m < ks.length), m < i → strLt ks[m] key = true) ∧ (∀ m (hm : m < ks.length), j ≤ m → strLt ks[m] key = false) ∧ h' = h)
      (fun vs _ => match vs with | [.int _ i, .int _ j] => (j - i).toNat | _ => 0) rfl ?_ ?_
    · exact ⟨0, ks.length, rfl, by omega, by omega, by intro m hm h; omega, by intro m hm h; omega, rfl⟩
    intro u h1 v5 v6
    rintro ⟨i, j, e, hij, hj, lo, hi, rfl⟩
    cases e
    refine gA ?_
    refine HIf.mk (fun hlt => ?_) (fun hlt => ?_)
    · have hlt' := of_decide_eq_true hlt
      generalize hm : (i + j) / 2 = m
      have hm1 : m < ks.length := by omega
      have hmu1 : ((j : Int) - ((m : Int) + 1)).toNat < ((j : Int) - (i : Int)).toNat := by omega
      have hmu2 : ((m : Int) - (i : Int)).toNat < ((j : Int) - (i : Int)).toNat := by omega
      refine gA ?_
      refine HInt.mk m ?_ ?_
      · have := shr1_64 (i + j)
        rw [hm] at this
        rw [Int.natCast_add] at this
        rw [this]
        exact wrap_i64 (by omega)
      refine gA ?_
      refine HCall.mk ((sclosure_spec s1 o1 o2 hm1).mono ?_)
      rintro e _ ⟨rfl, rfl⟩
      cases hb : strLt ks[m] key
      · refine gA ?_
        refine ⟨⟨i, m, rfl, by omega, by omega, lo, ?_, rfl⟩, hmu2⟩
        intro m' hm' hle'
        cases hb' : strLt ks[m'] key
        · rfl
        · have := hle.le (i := m) (m' - m) (by omega)
          have e3 : m + (m' - m) = m' := by omega
          simp only [e3] at this
          have := lt_of_le_lt this hb'
          rw [hb] at this; cases this
      · refine gA ?_
        refine ⟨⟨m + 1, j, rfl, by omega, by omega, ?_, hi, rfl⟩, hmu1⟩
        intro m' hm' hle'
        have := hle.le (i := m') (m - m') (by omega)
        have e3 : m' + (m - m') = m := by omega
        simp only [e3] at this
        exact lt_of_le_lt this hb
    · have hge := of_decide_eq_false hlt
      obtain rfl : i = j := by omega
      refine gA ?_
      refine ⟨?_, rfl⟩
      unfold lowerN
      rw [countP_at (q := fun k => strLt k key) hj lo hi]
      rfl
  intro u h1 v5
  rintro ⟨e, rfl⟩
  cases e
  refine gA ?_
  exact ⟨rfl, rfl⟩
theorem searchS_spec {ks : List ByteArray} {h : Heap} {a : Option Addr} {c : Nat} {key : ByteArray} (s1 : Sl h 1 a ks.length c (ks.map .string)) (hk : ks.length ≤ 1048576) (hr : Rising ks) :
    HCalls Try.prog 34 #[.slice a ks.length c, .string key] h fun e h' => e = .returned (.int .i64 (lowerN ks key : Nat)) ∧ Ext h h' := by
  refine c34 (by simp) ?_
  refine gA ?_
  refine new_var (e := 38) [.slice a ks.length c] rfl ?_
  intro h1 b1 o1 x1 z1 hb1
  refine gA ?_
  refine new_var (e := 9) [.string key] rfl ?_
  intro h2 b2 o2 x2 z2 hb2
  have o1 := o1.ext x2
  have X := x1.trans x2
  refine gA ?_
  refine HCall.mk ((ssearch_spec (s1.ext X) o1 o2 hk hr).mono ?_)
  rintro e h3 ⟨rfl, rfl⟩
  refine gA ?_
  exact ⟨rfl, X⟩
theorem lowerN_le (ks : List ByteArray) (key : ByteArray) : lowerN ks key ≤ ks.length := List.countP_le_length
theorem at_spec {ks : List ByteArray} {h : Heap} {a : Option Addr} {c : Nat} {key : ByteArray} (s1 : Sl h 1 a ks.length c (ks.map .string)) (hk : ks.length ≤ 1048576) (hr : Rising ks) :
    HCalls Try.prog 23 #[.slice a ks.length c, .string key] h fun e h' => e = .returned (.tuple #[.int .i64 (lowerN ks key : Nat), .bool (decide (ks[lowerN ks key]? = some key))]) ∧ Ext h h' := by
  have hlow := lowerN_le ks key
  refine c23 (by simp) ?_
  refine gA ?_
  refine HCall.mk ((searchS_spec s1 hk hr).mono ?_)
  rintro e h1 ⟨rfl, x1⟩
  generalize lowerN ks key = j at hlow ⊢
  by_cases hj : j < ks.length
  · have q : decide ((j : Int) < (ks.length : Int)) = true := decide_eq_true (by omega)
    refine gA ?_
    refine HIdx.mk j rfl hj ?_
    refine sl_some (s1.ext x1) hj fun p ep => ?_
    refine gA ?_
    refine (s1.ext x1).load ep (by simpa using hj) ?_
    rw [List.getElem_map]
    refine gA ?_
    refine ⟨?_, x1⟩
    have e : strEq ks[j] key = decide (ks[j]? = some key) := by
      rw [List.getElem?_eq_getElem hj]
      cases hs : strEq ks[j] key
      · exact (decide_eq_false (by rw [Option.some.injEq]; exact (strEq_no _ _).1 hs)).symm
      · exact (decide_eq_true (by rw [Option.some.injEq]; exact (strEq_iff _ _).1 hs)).symm
    rw [← e]
    rfl
  · have q : decide ((j : Int) < (ks.length : Int)) = false := decide_eq_false (by omega)
    have e : decide (ks[j]? = some key) = false := by rw [List.getElem?_eq_none (by omega)]; rfl
    rw [e]
    refine gA ?_
    exact ⟨rfl, x1⟩
end Go.Proofs.Ytljindmibfkhfaa.Hc
/- slices.Insert of one text. -/
set_option linter.unusedVariables false
set_option linter.unusedSimpArgs false
namespace Go.Proofs.Ytljindmibfkhfaa.Hc
open Go Go.H Go.Proofs
set_option maxRecDepth 100000
set_option maxHeartbeats 4000000
/-- What an insert leaves. -/
structure Inserted (h h' : Heap) (B e : Nat) (a a' : Option Addr) (n c' : Nat) (ys : List Value) : Prop where
  own : Own h' B e 1 a' n c' ys
  kept : Kept B h h'
  others : ∀ b, b < h.size → (∀ p, a = some p → p.block ≠ b) → h'[b]? = h[b]?
  addr : ∀ p', a' = some p' → (∃ p, a = some p ∧ p'.block = p.block) ∨ h.size ≤ p'.block
/-- An append for which there is no room. -/
theorem append_grows {h : Heap} {e size bytes : Nat} {zs : List Value} {a : Option Addr} {n c m : Nat} {xs more : List Value} {K : Value → Heap → Prop} (x : Sl h size a n c xs) (hg : c < n + m) (hz : zs.length = size) (hm : more.length = m * size) (room : (n + m) * bytes ≤ 140737488355328)
    (k : ∀ h' c', Own h' h.size e size (some ⟨h.size, 0, none⟩) (n + m) c' (xs ++ more) → Ext h h' → h'.size = h.size + 1 → K (.slice (some ⟨h.size, 0, none⟩) (n + m) c') h') : HAppend h e size bytes zs a n c more m K := by
  refine .grows (by omega) room xs x.1 ?_ ?_ ?_
  · intro p ep i hi
    exact x.2.2.2 p ep i hi
  · intro ea; have := x.2.2.1 ea; have := x.2.1; omega
  · intro c' hc'
    refine k _ c' ⟨by rw [List.length_append, x.1, hm, Nat.add_mul], hc', fun e => (by cases e), ?_⟩ (Ext.push h _) (by simp)
    intro p' ep'
    cases ep'
    exact ⟨h.size, _, rfl, Nat.le_refl _, by rw [zeroCells_len, hz], BlkW.push _ _ _⟩
theorem insertS_spec {h : Heap} {B n c i vb : Nat} {a : Option Addr} {xs : List Value} {x : Value} (w : Own h B 9 1 a n c xs) (hB : B ≤ h.size) (one : ∀ v ∈ xs, isOne v = true) (ox : isOne x = true) (hi : i ≤ n) (hn : n ≤ 1048576)
    (pv : h[vb]? = some (.cells #[x] 9 (0, 0))) (hne : ∀ p, a = some p → p.block ≠ vb) :
    HCalls Try.prog 24 #[.slice a n c, .int .i64 i, .slice (some ⟨vb, 0, none⟩) 1 1] h fun e h' => ∃ a' c', e = .returned (.slice a' (n + 1) c') ∧ Inserted h h' B 9 a a' (n + 1) c' (insAt xs i x) := by
  have ov : BlkW h vb 9 [x] := ⟨(0, 0), pv, fun j hj => by simp⟩
  have sv : Sl h 1 (some ⟨vb, 0, none⟩) 1 1 [x] := (Own.sl (B := 0) ⟨by simp, Nat.le_refl _, fun e => (nomatch e), fun p ep => by cases ep; exact ⟨vb, [], rfl, Nat.zero_le _, rfl, by simpa using ov⟩⟩)
  have w1 := w.1
  rw [Nat.mul_one] at w1
  have hnc := w.2.1
  refine c24 (by simp) ?_
  refine gA ?_
  refine HBound.mk i rfl (by omega) ?_
  refine gA ?_
  by_cases hin : i = n
  · subst hin
    have q : ((i : Int) == (i : Int)) = true := beq_self_eq_true _
    refine gA ?_
    refine sv.cells ?_
    refine Own.append w (m := 1) hB rfl rfl (by simpa using ox) (by omega) ?_
    intro h1 a1 c1 y1 k1 o1 n1
    refine gA ?_
    refine ⟨a1, c1, rfl, ?_, k1, o1, n1⟩
    have e : insAt xs i x = xs ++ [x] := by unfold insAt; rw [← w1, List.take_length, List.drop_length]
    rw [e]; exact y1
  · have q : ((i : Int) == (n : Int)) = false := beq_eq_false_iff_ne.2 (by omega)
    refine gA ?_
    refine raw_cap rfl rfl rfl Try.underlying38 ?_
    by_cases hroom : c < n + 1
    · have q2 : decide ((n : Int) + ((1 : Nat) : Int) > (c : Int)) = true := decide_eq_true (by omega)
      refine gA ?_
      refine HBound.mk i rfl (by omega) ?_
      refine gA ?_
      refine HBound.mk (n + 1 - i) (by omega) (by omega) ?_
      refine HMust.mk (by omega) ?_
      have zl : (Builtin.zeroCells #[Value.string ⟨#[]⟩] (n + 1 - i)).toList = List.replicate (n + 1 - i) (Value.string ⟨#[]⟩) := by rw [zeroCells_one]
      rw [zl]
      have e0 : i - 0 + (n + 1 - i) = n + 1 := by omega
      refine append_grows (w.sl.slice (i := 0) (j := i) (by omega) (by omega)) (by omega) rfl (by simp) (by omega) ?_
      intro h1 c1 w2 x1 z1
      rw [e0] at w2 ⊢
      have sl1 : (xs.take (i * 1)).drop (0 * 1) = xs.take i := by simp
      rw [sl1] at w2
      refine gA ?_
      refine HBound.mk i rfl (by omega) ?_
      refine gA ?_
      obtain ⟨nb, spare, e1, hb1, hsp, o2⟩ := w2.2.2.2 _ rfl
      cases e1
      have wc := w2.2.1
      have mv1 : movedTo ⟨h.size, 0, none⟩ c1 i 1 = ⟨h.size, i, none⟩ := by unfold movedTo; rw [if_neg (by omega), add_mk, Nat.zero_add, Nat.mul_one]
      have mv2 : movedTo ⟨h.size, 0, none⟩ c1 (i + 1) 1 = ⟨h.size, i + 1, none⟩ := by unfold movedTo; rw [if_neg (by omega), add_mk, Nat.zero_add, Nat.mul_one]
      have lt : (xs.take i).length = i := by rw [List.length_take]; omega
      have ld : (xs.drop i).length = n - i := by rw [List.length_drop]; omega
      have hm1 : Nat.min 1 (n + 1 - i) = 1 := Nat.min_eq_left (by omega)
      have hm2 : Nat.min (n - i) (n + 1 - (i + 1)) = n - i := Nat.min_eq_left (by omega)
      refine Sl.cellsTake (sv.ext x1) (m := Nat.min 1 (n + 1 - i)) (Nat.min_le_left _ _) ?_
      rw [hm1]
      refine gA ?_
      refine HStoreO.mk ⟨h.size, i, none⟩ (by show some (movedTo ⟨h.size, 0, none⟩ c1 i 1) = _; rw [mv1]) (store_blk o2 (by simp [lt]; omega) (by simpa using ox) ?_)
      intro h2 f2 z2 o3
      have er : List.replicate (n + 1 - i) (Value.string ⟨#[]⟩) = Value.string ⟨#[]⟩ :: List.replicate (n - i) (Value.string ⟨#[]⟩) := by rw [← List.replicate_succ]; congr 1; omega
      replace o3 : BlkW h2 h.size 9 (xs.take i ++ [x] ++ (List.replicate (n - i) (Value.string ⟨#[]⟩) ++ spare)) := by
        have e : (xs.take i ++ List.replicate (n + 1 - i) (Value.string ⟨#[]⟩) ++ spare).take i ++ ([x] ++ (xs.take i ++ List.replicate (n + 1 - i) (Value.string ⟨#[]⟩) ++ spare).drop (i + [x].length)) = xs.take i ++ [x] ++ (List.replicate (n - i) (Value.string ⟨#[]⟩) ++ spare) := by
          rw [er, List.append_assoc, List.take_left' lt, List.append_assoc]
          congr 2
          rw [← List.drop_drop, List.drop_left' lt]; rfl
        rw [← e]; simpa using o3
      refine gA ?_
      refine HBound.mk (i + 1) (by omega) (by omega) ?_
      refine gA ?_
      refine HBound.mk i rfl (by omega) ?_
      refine gA ?_
      have of2 : Off h.size h1 h2 := f2
      have X12 : Ext h h2 := x1.offNew f2 (Nat.le_refl _)
      have sd := (w.ext X12).sl.slice (i := i) (j := n) hi (Nat.le_refl _)
      have e2 : (xs.take (n * 1)).drop (i * 1) = xs.drop i := by rw [Nat.mul_one, Nat.mul_one, List.take_of_length_le (by omega)]
      rw [e2] at sd
      refine Sl.cellsTake sd (m := Nat.min (n - i) (n + 1 - (i + 1))) (Nat.min_le_left _ _) ?_
      rw [hm2, Nat.mul_one, List.take_of_length_le (by omega)]
      refine gA ?_
      refine HStoreO.mk ⟨h.size, i + 1, none⟩ (by show some (movedTo ⟨h.size, 0, none⟩ c1 (i + 1) 1) = _; rw [mv2]) (store_blk o3 (by simp [lt, ld]; omega) (fun v hv => one v (List.mem_of_mem_drop hv)) ?_)
      intro h3 f3 z3 o4
      have lt1 : (xs.take i ++ [x]).length = i + 1 := by rw [List.length_append, lt]; rfl
      have lr : (List.replicate (n - i) (Value.string ⟨#[]⟩)).length = (xs.drop i).length := by rw [List.length_replicate, ld]
      replace o4 : BlkW h3 h.size 9 (insAt xs i x ++ spare) := by
        have e : (xs.take i ++ [x] ++ (List.replicate (n - i) (Value.string ⟨#[]⟩) ++ spare)).take (i + 1) ++ (xs.drop i ++ (xs.take i ++ [x] ++ (List.replicate (n - i) (Value.string ⟨#[]⟩) ++ spare)).drop (i + 1 + (xs.drop i).length)) = insAt xs i x ++ spare := by
          rw [List.take_left' lt1, ← List.drop_drop, List.drop_left' lt1, List.drop_left' lr]
          unfold insAt; simp
        rw [← e]; exact o4
      refine gA ?_
      have X : Ext h h3 := X12.offNew f3 (Nat.le_refl _)
      refine ⟨some ⟨h.size, 0, none⟩, c1, rfl, ⟨by unfold insAt; simp; omega, wc, fun e => (nomatch e), fun p ep => ?_⟩, X.kept hB, fun b hb _ => X.2 b hb, fun p ep => .inr (by cases ep; exact Nat.le_refl _)⟩
      cases ep
      exact ⟨h.size, spare, rfl, hB, hsp, o4⟩
    · have q2 : decide ((n : Int) + ((1 : Nat) : Int) > (c : Int)) = false := decide_eq_false (by omega)
      obtain ⟨p, rfl⟩ : ∃ p, a = some p := by
        cases a with
        | none => have := w.2.2.1 rfl; omega
        | some p => exact ⟨p, rfl⟩
      obtain ⟨b, spare, rfl, hb, hsp, o⟩ := w.2.2.2 _ rfl
      have hne' : vb ≠ b := fun e => hne _ rfl e.symm
      have hL : (xs ++ spare).length = c := by rw [List.length_append, hsp, w1]; omega
      refine gA ?_
      refine HBound.mk (n + 1) (by omega) (by omega) ?_
      refine gA ?_
      refine HBound.mk (i + 1) (by omega) (by omega) ?_
      refine gA ?_
      have mb : ∀ l, (movedTo (⟨b, 0, none⟩ : Addr) c l 1).block = b := by intro l; unfold movedTo; split; rfl; rw [add_mk]
      have hsa : hshape h vb = some (9, 1) := by unfold hshape; rw [pv]; rfl
      have hsb : hshape h b = some (9, c) := by
        obtain ⟨fz, o1, o2⟩ := o
        unfold hshape; rw [o1]; simp only [List.size_toArray, hL]
      have hfa : ∀ k, hfrozen h ⟨vb, k, none⟩ = false := by intro k; unfold hfrozen; rw [pv]; simp
      have ck : 0 < c := by omega
      have mv0 : movedTo ⟨b, 0, none⟩ c 0 1 = ⟨b, 0, none⟩ := by unfold movedTo; rw [if_neg (by omega), add_mk]
      have mv1 : movedTo ⟨b, 0, none⟩ c i 1 = ⟨b, i, none⟩ := by unfold movedTo; rw [if_neg (by omega), add_mk, Nat.zero_add, Nat.mul_one]
      refine raw_externW (fn := Try.f35) (g := Extern.SlicesOverlaps.overlaps #[38, 38] #[4]) rfl rfl Try.func35 (by kernel_rfl) (by kernel_rfl) (by kernel_rfl) (by kernel_rfl) ?_
      show hw Try.prog false (Extern.SlicesOverlaps.overlaps #[38, 38] #[4] #[.slice (some ⟨vb, 0, none⟩) 1 1, .slice (some (movedTo (movedTo ⟨b, 0, none⟩ c 0 1) (c - 0) (i + 1) 1)) (n + 1 - 0 - (i + 1)) (c - 0 - (i + 1))]) _ _ _
      rw [mv0, Nat.sub_zero]
      refine hw_overlaps (size := 1) (a := ⟨vb, 0, none⟩) (b := movedTo ⟨b, 0, none⟩ c (i + 1) 1) Try.underlying38 (by kernel_rfl) (by rw [mb]; exact hne') hsa (by rw [mb]; exact hsb) (by omega) (hfa _) (hfa _) ?_
      refine gA ?_
      have mv2 : movedTo ⟨b, 0, none⟩ c (i + 1) 1 = ⟨b, i + 1, none⟩ := by unfold movedTo; rw [if_neg (by omega), add_mk, Nat.zero_add, Nat.mul_one]
      have ld : (xs.drop i).length = n - i := by rw [List.length_drop]; omega
      refine HBound.mk (i + 1) (by omega) (by omega) ?_
      refine gA ?_
      refine HBound.mk i rfl (by omega) ?_
      refine gA ?_
      have s0 : Sl h 1 (some ⟨b, 0, none⟩) (n + 1) c ((xs ++ spare).take (n + 1)) := ⟨by rw [List.length_take]; omega, by omega, fun e => (nomatch e), fun p ep j hj => by cases ep; rw [add_mk, Nat.zero_add, o.blk.cell, List.getElem?_take_of_lt (by omega)]⟩
      have s1 := (s0.slice (i := 0) (j := n + 1) (Nat.zero_le _) (Nat.le_refl _)).slice (i := i) (j := n + 1 - 0) (by omega) (Nat.le_refl _)
      have hm : Nat.min (n + 1 - 0 - i) (n + 1 - 0 - (i + 1)) = n - i := by show min _ _ = _; omega
      refine Sl.cellsTake s1 (m := Nat.min (n + 1 - 0 - i) (n + 1 - 0 - (i + 1))) (Nat.min_le_left _ _) ?_
      have e1 : (((((((xs ++ spare).take (n + 1)).take ((n + 1) * 1)).drop (0 * 1)).take ((n + 1 - 0) * 1)).drop (i * 1)).take ((n - i) * 1)) = xs.drop i := by
        rw [Nat.zero_mul, List.drop_zero, Nat.mul_one, Nat.mul_one, Nat.mul_one, Nat.mul_one, Nat.sub_zero, List.take_take, List.take_take, Nat.min_self, Nat.min_self, List.take_drop, List.take_take, show i + (n - i) = n from by omega, Nat.min_eq_left (by omega), List.take_left' w1]
      rw [hm, e1]
      refine gA ?_
      refine HStoreO.mk ⟨b, i + 1, none⟩ (by show some (movedTo (movedTo ⟨b, 0, none⟩ c 0 1) (c - 0) (i + 1) 1) = _; rw [mv0, Nat.sub_zero, mv2]) (store_blk o (by rw [hL, ld]; omega) (fun v hv => one v (List.mem_of_mem_drop hv)) ?_)
      intro h1 f1 z1 o1
      have sv1 : Sl h1 1 (some ⟨vb, 0, none⟩) 1 1 [x] := (Own.sl (B := 0) ⟨by simp, Nat.le_refl _, fun e => (nomatch e), fun p ep => by cases ep; exact ⟨vb, [], rfl, Nat.zero_le _, rfl, by simpa using ov.offk f1 hne'⟩⟩)
      refine gA ?_
      refine HBound.mk i rfl (by omega) ?_
      refine gA ?_
      have hm1 : Nat.min 1 (n + 1 - 0 - i) = 1 := Nat.min_eq_left (by omega)
      refine Sl.cellsTake sv1 (m := Nat.min 1 (n + 1 - 0 - i)) (Nat.min_le_left _ _) ?_
      rw [hm1]
      refine gA ?_
      have lt : ((xs ++ spare).take (i + 1)).length = i + 1 := by rw [List.length_take]; omega
      refine HStoreO.mk ⟨b, i, none⟩ (by show some (movedTo (movedTo ⟨b, 0, none⟩ c 0 1) (c - 0) i 1) = _; rw [mv0, Nat.sub_zero, mv1]) (store_blk o1 (by simp only [List.length_append, lt, ld, List.length_drop, List.length_cons, List.length_nil, List.length_take]; omega) (by simpa using ox) ?_)
      intro h2 f2 z2 o2
      replace o2 : BlkW h2 b 9 (insAt xs i x ++ spare.drop 1) := by
        have e : ((xs ++ spare).take (i + 1) ++ (xs.drop i ++ (xs ++ spare).drop (i + 1 + (xs.drop i).length))).take i ++ ([x] ++ ((xs ++ spare).take (i + 1) ++ (xs.drop i ++ (xs ++ spare).drop (i + 1 + (xs.drop i).length))).drop (i + 1)) = insAt xs i x ++ spare.drop 1 := by
          have t1 : ((xs ++ spare).take (i + 1) ++ (xs.drop i ++ (xs ++ spare).drop (i + 1 + (xs.drop i).length))).take i = xs.take i := by
            rw [List.take_append_of_le_length (by omega), List.take_take, show min i (i + 1) = i from by omega, List.take_append_of_le_length (by omega)]
          have t2 : (xs ++ spare).drop (i + 1 + (xs.drop i).length) = spare.drop 1 := by
            rw [ld, show i + 1 + (n - i) = xs.length + 1 from by omega, List.drop_append, (List.drop_eq_nil_of_le (by omega) : xs.drop (xs.length + 1) = []), List.nil_append, show xs.length + 1 - xs.length = 1 from by omega]
          rw [t1, List.drop_left' lt, t2]
          unfold insAt; simp
        rw [← e]; exact o2
      refine gA ?_
      have of2 : Off b h h2 := f1.trans f2
      refine ⟨some ⟨b, 0, none⟩, c, ?_, ⟨by unfold insAt; simp; omega, by omega, fun e => (nomatch e), fun p ep => ?_⟩, of2.kept hb hB, fun k hk hne2 => of2.2 k hk (fun e => hne2 _ rfl e.symm), fun p ep => .inl ⟨_, rfl, by cases ep; rfl⟩⟩
      · show Ending.returned (.slice (some (movedTo ⟨b, 0, none⟩ c 0 1)) (n + 1 - 0) (c - 0)) = _
        rw [mv0]; rfl
      · cases ep
        exact ⟨b, spare.drop 1, rfl, hb, by rw [List.length_drop, hsp]; omega, o2⟩
end Go.Proofs.Ytljindmibfkhfaa.Hc
/- slices.Replace of one number by one or two. -/
set_option linter.unusedVariables false
set_option linter.unusedSimpArgs false
namespace Go.Proofs.Ytljindmibfkhfaa.Hc
open Go Go.H Go.Proofs
set_option maxRecDepth 100000
set_option maxHeartbeats 4000000
theorem Own.take {h : Heap} {B e n c i : Nat} {a : Option Addr} {xs : List Value} (w : Own h B e 1 a n c xs) (hi : i ≤ n) : Own h B e 1 a i c (xs.take i) := by
  obtain ⟨h1, h2, h3, h4⟩ := w
  rw [Nat.mul_one] at h1
  refine ⟨by rw [List.length_take]; omega, by omega, h3, fun p ep => ?_⟩
  obtain ⟨b, spare, rfl, hb, hs, o⟩ := h4 p ep
  exact ⟨b, xs.drop i ++ spare, rfl, hb, by rw [List.length_append, List.length_drop, hs]; omega, by rw [← List.append_assoc, List.take_append_drop]; exact o⟩
theorem Own.shut {h : Heap} {B e n c : Nat} {a : Option Addr} {xs : List Value} {p : Addr} (w : Own h B e 1 a n c xs) (ep : a = some p) (hc : 0 < c) : movedTo p c 0 1 = p := by
  obtain ⟨b, spare, rfl, _⟩ := w.2.2.2 p ep
  unfold movedTo; rw [if_neg (by omega), add_mk]
theorem replaceI_spec {h : Heap} {B n c i m vb : Nat} {a : Option Addr} {xs vs : List Value} (w : Own h B 3 1 a n c xs) (hB : B ≤ h.size) (one : ∀ v ∈ xs, isOne v = true) (ov1 : ∀ v ∈ vs, isOne v = true) (hi : i < n) (hn : n ≤ 1048576)
    (hm : vs.length = m) (hm1 : 1 ≤ m) (hm2 : m ≤ 2) (pv : h[vb]? = some (.cells vs.toArray 3 (0, 0))) (hne : ∀ p, a = some p → p.block ≠ vb) :
    HCalls Try.prog 27 #[.slice a n c, .int .i64 i, .int .i64 ((i + 1 : Nat) : Int), .slice (some ⟨vb, 0, none⟩) m m] h fun e h' => ∃ a' c', e = .returned (.slice a' (n - 1 + m) c') ∧ Inserted h h' B 3 a a' (n - 1 + m) c' (xs.take i ++ vs ++ xs.drop (i + 1)) := by
  have ov : BlkW h vb 3 vs := ⟨(0, 0), pv, fun j hj => by simp⟩
  have sv : Sl h 1 (some ⟨vb, 0, none⟩) m m vs := (Own.sl (B := 0) ⟨by omega, Nat.le_refl _, fun e => (nomatch e), fun p ep => by cases ep; exact ⟨vb, [], rfl, Nat.zero_le _, by simp, by simpa using ov⟩⟩)
  have w1 := w.1
  rw [Nat.mul_one] at w1
  have hnc := w.2.1
  obtain ⟨p, rfl⟩ : ∃ p, a = some p := by
    cases a with
    | none => have := w.2.2.1 rfl; omega
    | some p => exact ⟨p, rfl⟩
  have mv0 := Own.shut w rfl (by omega)
  refine c27 (by simp) ?_
  refine gA ?_
  refine HBound.mk (i + 1) rfl (by omega) ?_
  refine gA ?_
  refine HBound.mk i rfl (by omega) ?_
  have q0 : ((i : Int) == ((i + 1 : Nat) : Int)) = false := beq_eq_false_iff_ne.2 (by omega)
  refine gA ?_
  by_cases hin : i + 1 = n
  · have q : (((i + 1 : Nat) : Int) == (n : Int)) = true := beq_iff_eq.2 (by omega)
    refine gA ?_
    refine HBound.mk i rfl (by omega) ?_
    refine gA ?_
    refine sv.cells ?_
    show H.HAppend h 3 1 8 [.int .i64 0] (some (movedTo p c 0 1)) (i - 0) (c - 0) vs m _
    rw [mv0, Nat.sub_zero, Nat.sub_zero]
    refine Own.append (Own.take w (Nat.le_of_lt hi)) hB rfl (by omega) ov1 (by omega) ?_
    intro h1 a1 c1 y1 k1 o1 n1
    have q3 : decide (((i + m : Nat) : Int) < (n : Int)) = false := decide_eq_false (by omega)
    refine gA ?_
    have e1 : n - 1 + m = i + m := by omega
    have e2 : xs.take i ++ vs ++ xs.drop (i + 1) = xs.take i ++ vs := by rw [List.drop_eq_nil_of_le (by omega), List.append_nil]
    rw [e1, e2]
    exact ⟨a1, c1, rfl, y1, k1, o1, n1⟩
  · have q : (((i + 1 : Nat) : Int) == (n : Int)) = false := beq_eq_false_iff_ne.2 (by omega)
    refine gA ?_
    refine HBound.mk i rfl (by omega) ?_
    refine gA ?_
    refine HBound.mk (i + 1) rfl (by omega) ?_
    have q4 : ((i + 1 : Nat) : Int) = (i : Int) + 1 := by omega
    refine gA ?_
    refine raw_cap rfl rfl rfl Try.underlying39 ?_
    refine gA ?_
    by_cases hroom : c < n - 1 + m
    · have q2 : decide (((i - 0 : Nat) : Int) + (m : Int) + ((n - (i + 1) : Nat) : Int) > (c : Int)) = true := decide_eq_true (by omega)
      refine gA ?_
      refine HBound.mk i rfl (by omega) ?_
      refine gA ?_
      refine HBound.mk (n - 1 + m - i) (by omega) (by omega) ?_
      refine HMust.mk (by omega) ?_
      have zl : (Builtin.zeroCells #[Value.int .i64 0] (n - 1 + m - i)).toList = List.replicate (n - 1 + m - i) (Value.int .i64 0) := by rw [zeroCells_one]
      rw [zl]
      have e0 : i - 0 + (n - 1 + m - i) = n - 1 + m := by omega
      refine append_grows (w.sl.slice (i := 0) (j := i) (by omega) (by omega)) (by omega) rfl (by simp) (by omega) ?_
      intro h1 c1 w2 x1 z1
      rw [e0] at w2 ⊢
      have sl1 : (xs.take (i * 1)).drop (0 * 1) = xs.take i := by simp
      rw [sl1] at w2
      refine gA ?_
      refine HBound.mk i rfl (by omega) ?_
      refine gA ?_
      obtain ⟨nb, spare, e1, hb1, hsp, o2⟩ := w2.2.2.2 _ rfl
      cases e1
      have wc := w2.2.1
      have mv1 : movedTo ⟨h.size, 0, none⟩ c1 i 1 = ⟨h.size, i, none⟩ := by unfold movedTo; rw [if_neg (by omega), add_mk, Nat.zero_add, Nat.mul_one]
      have mv2 : movedTo ⟨h.size, 0, none⟩ c1 (i + m) 1 = ⟨h.size, i + m, none⟩ := by unfold movedTo; rw [if_neg (by omega), add_mk, Nat.zero_add, Nat.mul_one]
      have lt : (xs.take i).length = i := by rw [List.length_take]; omega
      have ld : (xs.drop (i + 1)).length = n - (i + 1) := by rw [List.length_drop]; omega
      have hmn1 : Nat.min m (n - 1 + m - i) = m := Nat.min_eq_left (by omega)
      have hmn2 : Nat.min (n - (i + 1)) (n - 1 + m - (i + m)) = n - (i + 1) := Nat.min_eq_left (by omega)
      refine Sl.cellsTake (sv.ext x1) (m := Nat.min m (n - 1 + m - i)) (Nat.min_le_left _ _) ?_
      rw [hmn1, Nat.mul_one, List.take_of_length_le (by omega)]
      refine gA ?_
      have er : List.replicate (n - 1 + m - i) (Value.int .i64 0) = List.replicate m (Value.int .i64 0) ++ List.replicate (n - (i + 1)) (Value.int .i64 0) := by rw [List.replicate_append_replicate]; congr 1; omega
      rw [er] at o2
      refine HStoreO.mk ⟨h.size, i, none⟩ (by show some (movedTo ⟨h.size, 0, none⟩ c1 i 1) = _; rw [mv1]) (store_blk o2 (by simp [lt, hm]; omega) ov1 ?_)
      intro h2 f2 z2 o3
      replace o3 : BlkW h2 h.size 3 (xs.take i ++ vs ++ (List.replicate (n - (i + 1)) (Value.int .i64 0) ++ spare)) := by
        have e : (xs.take i ++ (List.replicate m (Value.int .i64 0) ++ List.replicate (n - (i + 1)) (Value.int .i64 0)) ++ spare).take i ++ (vs ++ (xs.take i ++ (List.replicate m (Value.int .i64 0) ++ List.replicate (n - (i + 1)) (Value.int .i64 0)) ++ spare).drop (i + vs.length)) = xs.take i ++ vs ++ (List.replicate (n - (i + 1)) (Value.int .i64 0) ++ spare) := by
          rw [List.append_assoc, List.take_left' lt, List.append_assoc, List.append_assoc]
          congr 2
          rw [← List.drop_drop, List.drop_left' lt, List.drop_left' (by rw [List.length_replicate, hm])]
        rw [← e]; exact o3
      refine gA ?_
      refine HBound.mk (i + m) (by omega) (by omega) ?_
      refine gA ?_
      refine HBound.mk (i + 1) rfl (by omega) ?_
      refine gA ?_
      have X12 : Ext h h2 := x1.offNew f2 (Nat.le_refl _)
      have sd := (Own.ext w X12).sl.slice (i := i + 1) (j := n) (by omega) (Nat.le_refl _)
      have e2 : (xs.take (n * 1)).drop ((i + 1) * 1) = xs.drop (i + 1) := by rw [Nat.mul_one, Nat.mul_one, List.take_of_length_le (by omega)]
      rw [e2] at sd
      refine Sl.cellsTake sd (m := Nat.min (n - (i + 1)) (n - 1 + m - (i + m))) (Nat.min_le_left _ _) ?_
      rw [hmn2, Nat.mul_one, List.take_of_length_le (by omega)]
      refine gA ?_
      refine HStoreO.mk ⟨h.size, i + m, none⟩ (by show some (movedTo ⟨h.size, 0, none⟩ c1 (i + m) 1) = _; rw [mv2]) (store_blk o3 (by simp [lt, ld, hm]; omega) (fun v hv => one v (List.mem_of_mem_drop hv)) ?_)
      intro h3 f3 z3 o4
      have lt1 : (xs.take i ++ vs).length = i + m := by rw [List.length_append, lt, hm]
      have lr : (List.replicate (n - (i + 1)) (Value.int .i64 0)).length = (xs.drop (i + 1)).length := by rw [List.length_replicate, ld]
      replace o4 : BlkW h3 h.size 3 (xs.take i ++ vs ++ xs.drop (i + 1) ++ spare) := by
        have e : (xs.take i ++ vs ++ (List.replicate (n - (i + 1)) (Value.int .i64 0) ++ spare)).take (i + m) ++ (xs.drop (i + 1) ++ (xs.take i ++ vs ++ (List.replicate (n - (i + 1)) (Value.int .i64 0) ++ spare)).drop (i + m + (xs.drop (i + 1)).length)) = xs.take i ++ vs ++ xs.drop (i + 1) ++ spare := by
          generalize xs.drop (i + 1) = D at lr ⊢
          rw [List.take_left' lt1, ← List.drop_drop, List.drop_left' lt1, List.drop_left' lr]
          simp
        rw [← e]; exact o4
      refine gA ?_
      have X : Ext h h3 := X12.offNew f3 (Nat.le_refl _)
      refine ⟨some ⟨h.size, 0, none⟩, c1, rfl, ⟨by simp [hm]; omega, wc, fun e => (nomatch e), fun p ep => ?_⟩, X.kept hB, fun b hb _ => X.2 b hb, fun p ep => .inr (by cases ep; exact Nat.le_refl _)⟩
      cases ep
      exact ⟨h.size, spare, rfl, hB, hsp, o4⟩
    · have q2 : decide (((i - 0 : Nat) : Int) + (m : Int) + ((n - (i + 1) : Nat) : Int) > (c : Int)) = false := decide_eq_false (by omega)
      obtain ⟨b, spare, rfl, hb, hsp, o⟩ := w.2.2.2 _ rfl
      have hne' : vb ≠ b := fun e => hne _ rfl e.symm
      have hL : (xs ++ spare).length = c := by rw [List.length_append, hsp, w1]; omega
      have mvb : ∀ l c', (movedTo (⟨b, 0, none⟩ : Addr) c' l 1).block = b := by intro l c'; unfold movedTo; split; rfl; rw [add_mk]
      refine gA ?_
      refine HBound.mk (n - 1 + m) (by omega) (by omega) ?_
      refine gA ?_
      by_cases hm' : m = 1
      · subst hm'
        have q5 : decide ((i : Int) + ((1 : Nat) : Int) ≤ ((i + 1 : Nat) : Int)) = true := decide_eq_true (by omega)
        refine gA ?_
        have mv1 : movedTo ⟨b, 0, none⟩ c i 1 = ⟨b, i, none⟩ := by unfold movedTo; rw [if_neg (by omega), add_mk, Nat.zero_add, Nat.mul_one]
        have mv2 : movedTo ⟨b, 0, none⟩ c (i + 1) 1 = ⟨b, i + 1, none⟩ := by unfold movedTo; rw [if_neg (by omega), add_mk, Nat.zero_add, Nat.mul_one]
        refine HBound.mk i rfl (by omega) ?_
        refine gA ?_
        have hmn1 : Nat.min 1 (n - 1 + 1 - 0 - i) = 1 := Nat.min_eq_left (by omega)
        refine Sl.cellsTake sv (m := Nat.min 1 (n - 1 + 1 - 0 - i)) (Nat.min_le_left _ _) ?_
        rw [hmn1, Nat.mul_one, List.take_of_length_le (by omega)]
        refine gA ?_
        refine HStoreO.mk ⟨b, i, none⟩ (by show some (movedTo (movedTo ⟨b, 0, none⟩ c 0 1) (c - 0) i 1) = _; rw [mv0, Nat.sub_zero, mv1]) (store_blk o (by rw [hL, hm]; omega) ov1 ?_)
        intro h1 f1 z1 o1
        have lt0 : (xs.take i).length = i := by rw [List.length_take]; omega
        have ld : (xs.drop (i + 1)).length = n - (i + 1) := by rw [List.length_drop]; omega
        have lti : (xs.take i ++ vs).length = i + 1 := by rw [List.length_append, lt0, hm]
        replace o1 : BlkW h1 b 3 (xs.take i ++ vs ++ xs.drop (i + 1) ++ spare) := by
          have e : (xs ++ spare).take i ++ (vs ++ (xs ++ spare).drop (i + vs.length)) = xs.take i ++ vs ++ xs.drop (i + 1) ++ spare := by
            rw [hm, List.take_append_of_le_length (by omega), List.drop_append_of_le_length (by omega)]; simp
          rw [← e]; exact o1
        have ow : Own h1 B 3 1 (some ⟨b, 0, none⟩) n c (xs.take i ++ vs ++ xs.drop (i + 1)) := ⟨by rw [List.length_append, lti, ld]; omega, hnc, fun e => (nomatch e), fun p ep => by cases ep; exact ⟨b, spare, rfl, hb, hsp, o1⟩⟩
        refine gA ?_
        refine HBound.mk (i + 1) (by omega) (by omega) ?_
        refine gA ?_
        refine HBound.mk (i + 1) rfl (by omega) ?_
        refine gA ?_
        have sd := ow.sl.slice (i := i + 1) (j := n) (by omega) (Nat.le_refl _)
        have e2 : ((xs.take i ++ vs ++ xs.drop (i + 1)).take (n * 1)).drop ((i + 1) * 1) = xs.drop (i + 1) := by
          rw [Nat.mul_one, Nat.mul_one, List.take_of_length_le (by rw [List.length_append, lti, ld]; omega), List.drop_left' lti]
        rw [e2] at sd
        have hmn2 : Nat.min (n - (i + 1)) (n - 1 + 1 - 0 - (i + 1)) = n - (i + 1) := by show min _ _ = _; omega
        refine Sl.cellsTake sd (m := Nat.min (n - (i + 1)) (n - 1 + 1 - 0 - (i + 1))) (Nat.min_le_left _ _) ?_
        rw [hmn2, Nat.mul_one, List.take_of_length_le (by omega)]
        refine gA ?_
        refine HStoreO.mk ⟨b, i + 1, none⟩ (by show some (movedTo (movedTo ⟨b, 0, none⟩ c 0 1) (c - 0) (i + 1) 1) = _; rw [mv0, Nat.sub_zero, mv2]) (store_blk o1 (by simp only [List.length_append, lt0, ld, hm, hsp]; omega) (fun v hv => one v (List.mem_of_mem_drop hv)) ?_)
        intro h2 f2 z2 o2
        replace o2 : BlkW h2 b 3 (xs.take i ++ vs ++ xs.drop (i + 1) ++ spare) := by
          have e : (xs.take i ++ vs ++ xs.drop (i + 1) ++ spare).take (i + 1) ++ (xs.drop (i + 1) ++ (xs.take i ++ vs ++ xs.drop (i + 1) ++ spare).drop (i + 1 + (xs.drop (i + 1)).length)) = xs.take i ++ vs ++ xs.drop (i + 1) ++ spare := by
            generalize xs.drop (i + 1) = D at *
            rw [List.append_assoc (xs.take i ++ vs), List.take_left' lti, ← List.drop_drop, List.drop_left' lti, List.drop_left]
          rw [← e]; exact o2
        refine gA ?_
        refine HBound.mk n (by omega) (by omega) ?_
        refine gA ?_
        refine raw_clearSl (a := (some (⟨b, 0, none⟩ : Addr)).map fun p => movedTo p c n 1) (c := c - n) rfl (by show Value.slice _ (n - n) _ = _; rw [Nat.sub_self]) rfl Try.underlying39 ?_
        refine gA ?_
        have of2 : Off b h h2 := f1.trans f2
        have en : n - 1 + 1 = n := by omega
        refine ⟨some ⟨b, 0, none⟩, c, ?_, ⟨by rw [List.length_append, lti, ld]; omega, by omega, fun e => (nomatch e), fun p ep => ?_⟩, of2.kept hb hB, fun k hk hne2 => of2.2 k hk (fun e => hne2 _ rfl e.symm), fun p ep => .inl ⟨_, rfl, by cases ep; rfl⟩⟩
        · show Ending.returned (.slice (some (movedTo ⟨b, 0, none⟩ c 0 1)) (n - 1 + 1 - 0) (c - 0)) = _
          rw [mv0]; rfl
        · cases ep
          exact ⟨b, spare, rfl, hb, by rw [hsp, en], o2⟩
      · obtain rfl : m = 2 := by omega
        have q5 : decide ((i : Int) + ((2 : Nat) : Int) ≤ ((i + 1 : Nat) : Int)) = false := decide_eq_false (by omega)
        refine gA ?_
        refine HBound.mk (i + 2) (by omega) (by omega) ?_
        refine gA ?_
        have hsb : hshape h vb = some (3, 2) := by unfold hshape; rw [pv]; simp [hm]
        have hsa : hshape h b = some (3, c) := by
          obtain ⟨fz, o1, o2⟩ := o
          unfold hshape; rw [o1]; simp only [List.size_toArray, hL]
        have hfb : ∀ k, hfrozen h ⟨vb, k, none⟩ = false := by intro k; unfold hfrozen; rw [pv]; simp
        refine raw_externW (fn := Try.f41) (g := Extern.SlicesOverlaps.overlaps #[39, 39] #[4]) rfl rfl Try.func41 (by kernel_rfl) (by kernel_rfl) (by kernel_rfl) (by kernel_rfl) ?_
        show hw Try.prog false (Extern.SlicesOverlaps.overlaps #[39, 39] #[4] #[.slice (some (movedTo (movedTo ⟨b, 0, none⟩ c 0 1) (c - 0) (i + 2) 1)) (n - 1 + 2 - 0 - (i + 2)) (c - 0 - (i + 2)), .slice (some ⟨vb, 0, none⟩) 2 2]) _ _ _
        refine hw_overlaps2 (size := 1) (a := movedTo (movedTo ⟨b, 0, none⟩ c 0 1) (c - 0) (i + 2) 1) (b := ⟨vb, 0, none⟩) Try.underlying39 (by kernel_rfl) (by rw [mv0, mvb]; exact Ne.symm hne') (by rw [mv0, mvb]; exact hsa) hsb (by omega) (by omega) (hfb _) (hfb _) ?_
        refine gA ?_
        have mv1 : movedTo ⟨b, 0, none⟩ c i 1 = ⟨b, i, none⟩ := by unfold movedTo; rw [if_neg (by omega), add_mk, Nat.zero_add, Nat.mul_one]
        have ld : (xs.drop (i + 1)).length = n - (i + 1) := by rw [List.length_drop]; omega
        refine HBound.mk (i + 2) (by omega) (by omega) ?_
        refine gA ?_
        refine HBound.mk (i + 1) rfl (by omega) ?_
        refine gA ?_
        have sd := w.sl.slice (i := i + 1) (j := n) (by omega) (Nat.le_refl _)
        have e2 : (xs.take (n * 1)).drop ((i + 1) * 1) = xs.drop (i + 1) := by rw [Nat.mul_one, Nat.mul_one, List.take_of_length_le (by omega)]
        rw [e2] at sd
        have hmn2 : Nat.min (n - (i + 1)) (n - 1 + 2 - 0 - (i + 2)) = n - (i + 1) := by show min _ _ = _; omega
        refine Sl.cellsTake sd (m := Nat.min (n - (i + 1)) (n - 1 + 2 - 0 - (i + 2))) (Nat.min_le_left _ _) ?_
        rw [hmn2, Nat.mul_one, List.take_of_length_le (by omega)]
        refine gA ?_
        have mv2 : movedTo ⟨b, 0, none⟩ c (i + 2) 1 = ⟨b, i + 2, none⟩ := by unfold movedTo; rw [if_neg (by omega), add_mk, Nat.zero_add, Nat.mul_one]
        refine HStoreO.mk ⟨b, i + 2, none⟩ (by show some (movedTo (movedTo ⟨b, 0, none⟩ c 0 1) (c - 0) (i + 2) 1) = _; rw [mv0, Nat.sub_zero, mv2]) (store_blk o (by rw [hL, ld]; omega) (fun v hv => one v (List.mem_of_mem_drop hv)) ?_)
        intro h1 f1 z1 o1
        have sv1 : Sl h1 1 (some ⟨vb, 0, none⟩) 2 2 vs := (Own.sl (B := 0) ⟨by omega, Nat.le_refl _, fun e => (nomatch e), fun p ep => by cases ep; exact ⟨vb, [], rfl, Nat.zero_le _, by simp, by simpa using ov.offk f1 hne'⟩⟩)
        refine gA ?_
        refine HBound.mk i rfl (by omega) ?_
        refine gA ?_
        have hmn1 : Nat.min 2 (n - 1 + 2 - 0 - i) = 2 := Nat.min_eq_left (by omega)
        refine Sl.cellsTake sv1 (m := Nat.min 2 (n - 1 + 2 - 0 - i)) (Nat.min_le_left _ _) ?_
        rw [hmn1, Nat.mul_one, List.take_of_length_le (by omega)]
        refine gA ?_
        have lt : ((xs ++ spare).take (i + 2)).length = i + 2 := by rw [List.length_take]; omega
        refine HStoreO.mk ⟨b, i, none⟩ (by show some (movedTo (movedTo ⟨b, 0, none⟩ c 0 1) (c - 0) i 1) = _; rw [mv0, Nat.sub_zero, mv1]) (store_blk o1 (by simp only [List.length_append, lt, ld, List.length_drop, hm]; omega) ov1 ?_)
        intro h2 f2 z2 o2
        replace o2 : BlkW h2 b 3 (xs.take i ++ vs ++ xs.drop (i + 1) ++ spare.drop 1) := by
          have e : ((xs ++ spare).take (i + 2) ++ (xs.drop (i + 1) ++ (xs ++ spare).drop (i + 2 + (xs.drop (i + 1)).length))).take i ++ (vs ++ ((xs ++ spare).take (i + 2) ++ (xs.drop (i + 1) ++ (xs ++ spare).drop (i + 2 + (xs.drop (i + 1)).length))).drop (i + vs.length)) = xs.take i ++ vs ++ xs.drop (i + 1) ++ spare.drop 1 := by
            have t1 : ((xs ++ spare).take (i + 2) ++ (xs.drop (i + 1) ++ (xs ++ spare).drop (i + 2 + (xs.drop (i + 1)).length))).take i = xs.take i := by
              rw [List.take_append_of_le_length (by omega), List.take_take, show min i (i + 2) = i from by omega, List.take_append_of_le_length (by omega)]
            have t2 : (xs ++ spare).drop (i + 2 + (xs.drop (i + 1)).length) = spare.drop 1 := by
              rw [ld, show i + 2 + (n - (i + 1)) = xs.length + 1 from by omega, List.drop_append, (List.drop_eq_nil_of_le (by omega) : xs.drop (xs.length + 1) = []), List.nil_append, show xs.length + 1 - xs.length = 1 from by omega]
            rw [t1, hm, List.drop_left' lt, t2]
            simp
          rw [← e]; exact o2
        refine gA ?_
        have of2 : Off b h h2 := f1.trans f2
        refine ⟨some ⟨b, 0, none⟩, c, ?_, ⟨by simp [hm]; omega, by omega, fun e => (nomatch e), fun p ep => ?_⟩, of2.kept hb hB, fun k hk hne2 => of2.2 k hk (fun e => hne2 _ rfl e.symm), fun p ep => .inl ⟨_, rfl, by cases ep; rfl⟩⟩
        · show Ending.returned (.slice (some (movedTo ⟨b, 0, none⟩ c 0 1)) (n - 1 + 2 - 0) (c - 0)) = _
          rw [mv0]; rfl
        · cases ep
          exact ⟨b, spare.drop 1, rfl, hb, by rw [List.length_drop, hsp]; omega, o2⟩
end Go.Proofs.Ytljindmibfkhfaa.Hc
/- btree.halves. -/
set_option linter.unusedVariables false
set_option linter.unusedSimpArgs false
namespace Go.Proofs.Ytljindmibfkhfaa.Hc
open Go Go.H Go.Proofs
set_option maxRecDepth 100000
set_option maxHeartbeats 40000000
theorem freeF_taken : ∀ (f : Nat) (l : Nodes) (i k : Int), i ≤ k → k < freeF f l i → getA k l ≠ none
  | 0, l, i, k, h1, h2 => by simp [freeF] at h2; omega
  | f + 1, l, i, k, h1, h2 => by
    unfold freeF at h2
    split at h2
    · omega
    · rename_i hg
      by_cases hk : k = i
      · rw [hk]; exact hg
      · exact freeF_taken f l (i + 1) k (by omega) h2
theorem putA_len_none {κ ν : Type} [DecidableEq κ] {k : κ} {v : ν} : ∀ {l : List (κ × ν)}, getA k l = none → (putA k v l).length = l.length + 1
  | [], h => rfl
  | p :: r, h => by
    simp only [getA] at h
    split at h
    · cases h
    · rename_i e
      simp only [putA, if_neg e, List.length_cons, putA_len_none h]
/-- No number below the next one is free. -/
def TOk (s : TS) (m : Nat) : Prop := 1 ≤ s.nx ∧ (∀ k : Int, 1 ≤ k → k < s.nx → getA k s.l ≠ none) ∧ s.l.length ≤ m
theorem TOk.room {s : TS} {m : Nat} (x : TOk s m) : s.nx ≤ m + 1 := by
  obtain ⟨h1, h2, h3⟩ := x
  have := taken_le (s.nx - 1).toNat s.l 1 fun j hj => h2 _ (by omega) (by omega)
  omega
theorem mkF_len (s : TS) (n : ND) : (mkF s n).1.l.length = s.l.length + 1 := putA_len_none (mkF_free s n).1
theorem TOk.make {s : TS} {m : Nat} (x : TOk s m) (n : ND) : TOk (mkF s n).1 (m + 1) := by
  obtain ⟨h1, h2, h3⟩ := x
  have hf := mkF_free s n
  refine ⟨by rw [hf.2.2.1]; omega, fun k k1 k2 => ?_, by rw [mkF_len]; omega⟩
  rw [hf.2.2.1] at k2
  rw [mkF_has, if_neg (by omega)]
  by_cases hk : k < s.nx
  · exact h2 k k1 hk
  · exact freeF_taken _ _ _ k (by omega) k2
theorem TOk.mono {s : TS} {m m' : Nat} (x : TOk s m) (h : m ≤ m') : TOk s m' := ⟨x.1, x.2.1, Nat.le_trans x.2.2 h⟩
theorem BlkW.offS {S : List Nat} {h h' : Heap} {b e : Nat} {cs : List Value} (x : BlkW h b e cs) (o : OffS S h h') (hb : b ∉ S) : BlkW h' b e cs := x.of (o.2 b x.lt hb)
theorem NFix.sls {h h' : Heap} {S : List Nat} {d : ND} {ka va ia : Option Addr} {kc vc ic : Nat} (x : NFix h S d (cells3 d ka kc va vc ia ic)) (o : OffS S h h') :
    Sl h' 1 ka d.keys.length kc (d.keys.map .string) ∧ Sl h' 1 va d.vals.length vc (d.vals.map .string) ∧ Sl h' 1 ia d.kids.length ic (d.kids.map (.int .i64)) := by
  obtain ⟨_, _, _, _, _, _, a, b, c, d', e, f, eq, s1, s2, s3⟩ := x h' o
  simp only [cells3, List.cons.injEq, Value.slice.injEq, and_true, true_and] at eq
  obtain ⟨⟨rfl, rfl⟩, ⟨rfl, rfl⟩, ⟨rfl, rfl⟩⟩ := eq
  exact ⟨s1, s2, s3⟩
theorem Sl.cutTo {α : Type} {f : α → Value} {h : Heap} {a : Option Addr} {n c j : Nat} {l : List α} (x : Sl h 1 a n c (l.map f)) (hj : j ≤ n) : Sl h 1 (a.map fun p => movedTo p c 0 1) (j - 0) (c - 0) ((l.take j).map f) := by
  have := x.slice (i := 0) (j := j) (by omega) hj
  rwa [Nat.mul_one, Nat.mul_one, List.drop_zero, ← List.map_take] at this
theorem Sl.cutFrom {α : Type} {f : α → Value} {h : Heap} {a : Option Addr} {n c i : Nat} {l : List α} (x : Sl h 1 a n c (l.map f)) (hi : i ≤ n) : Sl h 1 (a.map fun p => movedTo p c i 1) (n - i) (c - i) ((l.drop i).map f) := by
  have hl : l.length = n := by simpa using x.1
  have := x.slice (i := i) (j := n) hi (Nat.le_refl _)
  rwa [Nat.mul_one, Nat.mul_one, List.take_of_length_le (by simp; omega), ← List.map_drop] at this
theorem new_plain {h : Heap} {e : Nat} {o : Obj} {K : Nat → Heap → Prop} (cs : List Value) (eo : o = .cells cs.toArray e)
    (k : ∀ h' b, h'[b]? = some (.cells cs.toArray e (0, 0)) → Ext h h' → h'.size = h.size + 1 → b = h.size → K b h') : HNew h o K := by
  subst eo
  exact ⟨k _ _ (by simp) (Ext.push _ _) (by simp) rfl⟩
theorem NFix.of {h : Heap} {B : Nat} {d : ND} {ka va ia : Option Addr} {kc vc ic : Nat} {S : List Nat} (sm : NSmall d) (k : Own h B 9 1 ka d.keys.length kc (d.keys.map .string)) (v : Own h B 9 1 va d.vals.length vc (d.vals.map .string))
    (i : Own h B 3 1 ia d.kids.length ic (d.kids.map (.int .i64))) (hs : ∀ b ∈ S, b < B) : NFix h S d (cells3 d ka kc va vc ia ic) := by
  intro h' o
  have hk := k.lt
  have hv := v.lt
  have hi := i.lt
  exact ⟨sm.k, sm.v, sm.i, sm.ks, sm.vs, sm.is, ka, kc, va, vc, ia, ic, rfl,
    (Own.offS k o (fun p ep hm => by have := hs _ hm; have := hk p ep; omega)).sl, (Own.offS v o (fun p ep hm => by have := hs _ hm; have := hv p ep; omega)).sl, (Own.offS i o (fun p ep hm => by have := hs _ hm; have := hi p ep; omega)).sl⟩
theorem NSmall.cut {d : ND} {ks vs : List ByteArray} {is : List Int} (sm : NSmall d) (hk : ks.Sublist d.keys) (hv : vs.Sublist d.vals) (hi : is.Sublist d.kids) : NSmall ⟨ks, vs, is⟩ :=
  ⟨Nat.le_trans hk.length_le sm.k, Nat.le_trans hv.length_le sm.v, Nat.le_trans hi.length_le sm.i, fun x hx => sm.ks x (hk.subset hx), fun x hx => sm.vs x (hv.subset hx), fun x hx => sm.is x (hi.subset hx)⟩
/-- What halves gives. -/
def Halved (S : List Nat) (h h' : Heap) (t r : Nat) (s : TS) (ids : List Int) (bt : ByteArray) (e : Ending) : Prop :=
  ∃ vb, e = .returned (.tuple #[.slice (some ⟨vb, 0, none⟩) ids.length ids.length, .string bt]) ∧ h.size ≤ vb ∧ h'[vb]? = some (.cells (ids.map (Value.int .i64)).toArray 3 (0, 0)) ∧ TRp S h' t r s ∧ OffS [t, r] h h'
theorem halves_spec {S : List Nat} {h : Heap} {t r m : Nat} {s : TS} {d : ND} {ka va ia : Option Addr} {kc vc ic : Nat} (x : TRp S h t r s) (hS : ∀ b ∈ S, b < h.size) (fx : NFix h S d (cells3 d ka kc va vc ia ic)) (ok : TOk s m) (hm : m ≤ 1152921504606846976)
    (l1 : d.kids = [] → d.vals.length = d.keys.length) (l2 : d.kids ≠ [] → d.keys.length + 1 = d.kids.length) :
    HCalls Try.prog 25 #[.pointer (some ⟨t, 0, none⟩), .agg (cells3 d ka kc va vc ia ic).toArray] h fun e h' =>
      Halved S h h' t r (mksF s (halvesF d).1).1 (mksF s (halvesF d).1).2 (halvesF d).2 e := by
  have sm := fx.rep.small
  have sk := sm.k
  have sv := sm.v
  have si := sm.i
  refine c25 (by simp) ?_
  refine gA ?_
  refine new_var (e := 41) (cells3 d ka kc va vc ia ic) rfl ?_
  intro h1 bn o1 x1 z1 hbn
  have xt := x.ext x1
  have fx1 := fx.off (.of_ext x1)
  have lt := x.o.lt
  refine gA ?_
  by_cases hk : 12 < d.kids.length
  · have q : decide ((d.kids.length : Int) > 12) = true := decide_eq_true (by omega)
    have hne : d.kids ≠ [] := by rintro e; rw [e] at hk; simp at hk
    have l2 := l2 hne
    have e : halvesF d = ([⟨d.keys.take (d.kids.length / 2 - 1), [], d.kids.take (d.kids.length / 2)⟩, ⟨d.keys.drop (d.kids.length / 2), [], d.kids.drop (d.kids.length / 2)⟩], d.keys.getD (d.kids.length / 2 - 1) ⟨#[]⟩) := by
      unfold halvesF; rw [if_pos hk]
    rw [e]
    generalize hh : d.kids.length / 2 = m2
    have on := o1
    have fxc := fx1
    refine gB ?_
    refine HInt.mk m2 (by rw [Int.tdiv_eq_ediv_of_nonneg (by omega), ← hh]; exact wrap_i64 (by omega)) ?_
    refine gB ?_
    have e1 : (d.keys.take (m2 - 1)).length = m2 - 1 - 0 := by simp only [List.length_take, List.length_drop] <;> omega
    have e2 : (d.kids.take m2).length = m2 - 0 := by simp only [List.length_take, List.length_drop] <;> omega
    have e12 : ∀ p1 n1 p2 n2, cells3 ⟨d.keys.take (m2 - 1), [], d.kids.take m2⟩ p1 n1 none 0 p2 n2 = [.slice p1 (m2 - 1 - 0) n1, .slice none 0 0, .slice p2 (m2 - 0) n2] := fun p1 n1 p2 n2 => by simp only [cells3, e1, e2, List.length_nil]
    have c1 := Sl.cutTo (fxc.sls (.refl _ _)).1 (j := m2 - 1) (by omega)
    have c2 := Sl.cutTo (fxc.sls (.refl _ _)).2.2 (j := m2) (by omega)
    have kcb := (fxc.sls (.refl _ _)).1.2.1
    have icb := (fxc.sls (.refl _ _)).2.2.2.1
    have X := Ext.refl h1
    have trh := xt.o.lt
    have rrh := xt.rlt
    refine cut_rule [8] (fun vs h' => ∃ b p1 n1 p2 n2, vs = [.pointer (some ⟨b, 0, none⟩)] ∧ h1.size ≤ b ∧ BlkW h' b 41 (cells3 ⟨d.keys.take (m2 - 1), [], d.kids.take m2⟩ p1 n1 none 0 p2 n2) ∧ NFix h' S ⟨d.keys.take (m2 - 1), [], d.kids.take m2⟩ (cells3 ⟨d.keys.take (m2 - 1), [], d.kids.take m2⟩ p1 n1 none 0 p2 n2) ∧ Ext h1 h') rfl ?_ ?_
    · refine gA ?_
      repeat' (first
        | ((with_reducible refine HAlt.mk ?_ ?_) <;> refine gA ?_)
        | (refine HBound.mk (m2 - 1) (by omega) (by omega) ?_; refine gA ?_)
        | (refine HBound.mk (m2) (by omega) (by omega) ?_; refine gA ?_)
        | (refine HCall.mk ((cloneS_spec (c1.ext X) (one_map fun _ => rfl) (by omega)).mono ?_); rintro e h3 ⟨p1, n1, rfl, w1, x3⟩; have l1 := w1.lt; have X := X.trans x3; have on := on.ext x3; try have o8 := o8.ext x3
           try have w2 := w2.ext x3
           have hx3 := x3.1; refine gA ?_)
        | (refine HCall.mk ((cloneI_spec (c2.ext X) (one_map fun _ => rfl) (by omega)).mono ?_); rintro e h3 ⟨p2, n2, rfl, w2, x3⟩; have l2 := w2.lt; have X := X.trans x3; have on := on.ext x3; try have o8 := o8.ext x3
           try have w1 := w1.ext x3
           have hx3 := x3.1; refine gA ?_)
        | (refine new_var (e := 41) [.slice none 0 0, .slice none 0 0, .slice none 0 0] rfl ?_; intro h3 b8 o8 x3 z3 hb8; have X := X.trans x3; have on := on.ext x3
           try have w1 := w1.ext x3
           try have w2 := w2.ext x3
           have hx3 := x3.1; refine gA ?_)
        | (refine store_blk o8 (by simp) (by simp [isOne]) ?_; intro h4 f4 z4 o9; refine gA ?_
           replace o9 : BlkW h4 b8 41 (cells3 ⟨d.keys.take (m2 - 1), [], d.kids.take m2⟩ p1 n1 none 0 p2 n2) := by rw [e12]; simpa using o9
           replace w1 := (w1.off f4 (fun p ep => by have := l1 p ep; omega)).lower (B' := h1.size) (by omega)
           replace w2 := (w2.off f4 (fun p ep => by have := l2 p ep; omega)).lower (B' := h1.size) (by omega)
           exact ⟨b8, p1, n1, p2, n2, rfl, by omega, o9, NFix.of (sm.cut (List.take_sublist _ _) (List.nil_sublist _) (List.take_sublist _ _)) (by rw [e1]; exact w1) (Own.nil _ _ _ _) (by rw [e2]; exact w2) (fun b hb => by have := hS b hb; have := x1.1; omega), X.offNew f4 (by omega)⟩))
    intro u h2 v8
    rintro ⟨b8, p1, n1, p2, n2, e, hb8, o8, f8, x8⟩
    cases e
    have hx8 := x8.1
    have lt8 := o8.lt
    have xt := xt.ext x8
    have on := on.ext x8
    have fxc := fxc.off (.of_ext x8)
    refine gB ?_
    have e1 : (d.keys.drop m2).length = d.keys.length - m2 := by simp only [List.length_take, List.length_drop] <;> omega
    have e2 : (d.kids.drop m2).length = d.kids.length - m2 := by simp only [List.length_take, List.length_drop] <;> omega
    have e12 : ∀ p1 n1 p2 n2, cells3 ⟨d.keys.drop m2, [], d.kids.drop m2⟩ p1 n1 none 0 p2 n2 = [.slice p1 (d.keys.length - m2) n1, .slice none 0 0, .slice p2 (d.kids.length - m2) n2] := fun p1 n1 p2 n2 => by simp only [cells3, e1, e2, List.length_nil]
    have c1 := Sl.cutFrom (fxc.sls (.refl _ _)).1 (i := m2) (by omega)
    have c2 := Sl.cutFrom (fxc.sls (.refl _ _)).2.2 (i := m2) (by omega)
    have kcb := (fxc.sls (.refl _ _)).1.2.1
    have icb := (fxc.sls (.refl _ _)).2.2.2.1
    have X := Ext.refl h2
    have trh := xt.o.lt
    have rrh := xt.rlt
    refine cut_rule [9] (fun vs h' => ∃ b p1 n1 p2 n2, vs = [.pointer (some ⟨b, 0, none⟩)] ∧ h2.size ≤ b ∧ BlkW h' b 41 (cells3 ⟨d.keys.drop m2, [], d.kids.drop m2⟩ p1 n1 none 0 p2 n2) ∧ NFix h' S ⟨d.keys.drop m2, [], d.kids.drop m2⟩ (cells3 ⟨d.keys.drop m2, [], d.kids.drop m2⟩ p1 n1 none 0 p2 n2) ∧ Ext h2 h') rfl ?_ ?_
    · refine gA ?_
      repeat' (first
        | ((with_reducible refine HAlt.mk ?_ ?_) <;> refine gA ?_)
        | (refine HBound.mk (m2) (by omega) (by omega) ?_; refine gA ?_)
        | (refine HBound.mk (m2) (by omega) (by omega) ?_; refine gA ?_)
        | (refine HCall.mk ((cloneS_spec (c1.ext X) (one_map fun _ => rfl) (by omega)).mono ?_); rintro e h3 ⟨p1, n1, rfl, w1, x3⟩; have l1 := w1.lt; have X := X.trans x3; have on := on.ext x3; try have o8 := o8.ext x3
           try have w2 := w2.ext x3
           have hx3 := x3.1; refine gA ?_)
        | (refine HCall.mk ((cloneI_spec (c2.ext X) (one_map fun _ => rfl) (by omega)).mono ?_); rintro e h3 ⟨p2, n2, rfl, w2, x3⟩; have l2 := w2.lt; have X := X.trans x3; have on := on.ext x3; try have o8 := o8.ext x3
           try have w1 := w1.ext x3
           have hx3 := x3.1; refine gA ?_)
        | (refine new_var (e := 41) [.slice none 0 0, .slice none 0 0, .slice none 0 0] rfl ?_; intro h3 b8 o8 x3 z3 hb8; have X := X.trans x3; have on := on.ext x3
           try have w1 := w1.ext x3
           try have w2 := w2.ext x3
           have hx3 := x3.1; refine gA ?_)
        | (refine store_blk o8 (by simp) (by simp [isOne]) ?_; intro h4 f4 z4 o9; refine gA ?_
           replace o9 : BlkW h4 b8 41 (cells3 ⟨d.keys.drop m2, [], d.kids.drop m2⟩ p1 n1 none 0 p2 n2) := by rw [e12]; simpa using o9
           replace w1 := (w1.off f4 (fun p ep => by have := l1 p ep; omega)).lower (B' := h2.size) (by omega)
           replace w2 := (w2.off f4 (fun p ep => by have := l2 p ep; omega)).lower (B' := h2.size) (by omega)
           exact ⟨b8, p1, n1, p2, n2, rfl, by omega, o9, NFix.of (sm.cut (List.drop_sublist _ _) (List.nil_sublist _) (List.drop_sublist _ _)) (by rw [e1]; exact w1) (Own.nil _ _ _ _) (by rw [e2]; exact w2) (fun b hb => by have := hS b hb; have := x1.1; omega), X.offNew f4 (by omega)⟩))
    intro u h3 v9
    rintro ⟨b9, p1, n1, p2, n2, e, hb9, o9, f9, x9⟩
    cases e
    have hx9 := x9.1
    have lt9 := o9.lt
    have xt := xt.ext x9
    have on := on.ext x9
    have fxc := fxc.off (.of_ext x9)
    have X : Ext h h3 := (x1.trans x8).trans x9
    have hX := X.1
    have O := OffS.refl [t, r] h3
    have fA := f8.off (.of_ext x9)
    have fB := f9
    have oA := o8.ext x9
    have oB := o9
    have rt := x.rlt
    have hi : m2 - 1 < d.keys.length := by omega
    have eg : d.keys.getD (m2 - 1) ⟨#[]⟩ = d.keys[m2 - 1] := getD_of hi _
    rw [eg]
    refine gN ?_
    repeat' (first
      | ((with_reducible refine HAlt.mk ?_ ?_) <;> refine gN ?_)
      | (refine HIdx.mk (m2 - 1) (by omega) (by omega) ?_; refine sl_some (fxc.sls (O.to x.ts x.rs)).1 (by omega) fun p ep => ?_; refine gN ?_)
      | (refine HCall.mk ?_; refine (make_spec xt fA (by have := ok.1; omega) (by have := ok.room; have := ok.2.2; omega)).mono ?_; clear fA; rintro e h4 ⟨rfl, xt, y4⟩; replace ok := ok.make ⟨d.keys.take (m2 - 1), [], d.kids.take m2⟩; have O := O.trans y4; have fB := fB.off (y4.to x.ts x.rs); have oA := BlkW.offS oA y4 (by simp; omega); have oB := BlkW.offS oB y4 (by simp; omega); have on := BlkW.offS on y4 (by simp; omega); have hof := y4.1; refine gN ?_)
      | (refine HCall.mk ?_; refine (make_spec xt fB (by have := ok.1; omega) (by have := ok.room; have := ok.2.2; omega)).mono ?_; rintro e h4 ⟨rfl, xt, y4⟩; have O := O.trans y4; have fB := fB.off (y4.to x.ts x.rs); have oA := BlkW.offS oA y4 (by simp; omega); have oB := BlkW.offS oB y4 (by simp; omega); have on := BlkW.offS on y4 (by simp; omega); have hof := y4.1; refine gN ?_)
      | (refine new_plain [.int .i64 (mkF s ⟨d.keys.take (m2 - 1), [], d.kids.take m2⟩).2, .int .i64 (mkF (mkF s ⟨d.keys.take (m2 - 1), [], d.kids.take m2⟩).1 ⟨d.keys.drop m2, [], d.kids.drop m2⟩).2] rfl ?_; intro h5 vb pv x5 z5 hvb; refine gN ?_
         have hof := O.1
         exact ⟨vb, rfl, by omega, pv, xt.ext x5, ((OffS.of_ext X).trans O).trans (.of_ext x5)⟩)
      | (refine Sl.load (fxc.sls (O.to x.ts x.rs)).1 ep (by simpa using hi) ?_; rw [List.getElem_map]; refine gN ?_))
  · have q : decide ((d.kids.length : Int) > 12) = false := decide_eq_false (by omega)
    have on := o1
    have fxc := fx1
    by_cases hl : d.kids = [] ∧ 3 < d.keys.length
    · have l1 := l1 hl.1
      have h3' := hl.2
      have q2 : ((d.kids.length : Int) == 0) = true := by rw [hl.1]; rfl
      have q3 : decide ((d.keys.length : Int) > 3) = true := decide_eq_true (by omega)
      have e : halvesF d = ([⟨d.keys.take (d.keys.length / 2), d.vals.take (d.keys.length / 2), []⟩, ⟨d.keys.drop (d.keys.length / 2), d.vals.drop (d.keys.length / 2), []⟩], d.keys.getD (d.keys.length / 2) ⟨#[]⟩) := by
        unfold halvesF; rw [if_neg hk, if_pos hl]
      rw [e]
      generalize hh : d.keys.length / 2 = m2
      refine gB ?_
      refine HInt.mk m2 (by rw [Int.tdiv_eq_ediv_of_nonneg (by omega), ← hh]; exact wrap_i64 (by omega)) ?_
      refine gB ?_
      have e1 : (d.keys.take m2).length = m2 - 0 := by simp only [List.length_take, List.length_drop] <;> omega
      have e2 : (d.vals.take m2).length = m2 - 0 := by simp only [List.length_take, List.length_drop] <;> omega
      have e12 : ∀ p1 n1 p2 n2, cells3 ⟨d.keys.take m2, d.vals.take m2, []⟩ p1 n1 p2 n2 none 0 = [.slice p1 (m2 - 0) n1, .slice p2 (m2 - 0) n2, .slice none 0 0] := fun p1 n1 p2 n2 => by simp only [cells3, e1, e2, List.length_nil]
      have c1 := Sl.cutTo (fxc.sls (.refl _ _)).1 (j := m2) (by omega)
      have c2 := Sl.cutTo (fxc.sls (.refl _ _)).2.1 (j := m2) (by omega)
      have kcb := (fxc.sls (.refl _ _)).1.2.1
      have icb := (fxc.sls (.refl _ _)).2.1.2.1
      have X := Ext.refl h1
      have trh := xt.o.lt
      have rrh := xt.rlt
      refine cut_rule [11] (fun vs h' => ∃ b p1 n1 p2 n2, vs = [.pointer (some ⟨b, 0, none⟩)] ∧ h1.size ≤ b ∧ BlkW h' b 41 (cells3 ⟨d.keys.take m2, d.vals.take m2, []⟩ p1 n1 p2 n2 none 0) ∧ NFix h' S ⟨d.keys.take m2, d.vals.take m2, []⟩ (cells3 ⟨d.keys.take m2, d.vals.take m2, []⟩ p1 n1 p2 n2 none 0) ∧ Ext h1 h') rfl ?_ ?_
      · refine gA ?_
        repeat' (first
          | ((with_reducible refine HAlt.mk ?_ ?_) <;> refine gA ?_)
          | (refine HBound.mk (m2) (by omega) (by omega) ?_; refine gA ?_)
          | (refine HBound.mk (m2) (by omega) (by omega) ?_; refine gA ?_)
          | (refine HCall.mk ((cloneS_spec (c1.ext X) (one_map fun _ => rfl) (by omega)).mono ?_); rintro e h3 ⟨p1, n1, rfl, w1, x3⟩; have l1 := w1.lt; have X := X.trans x3; have on := on.ext x3; try have o8 := o8.ext x3
             try have w2 := w2.ext x3
             have hx3 := x3.1; refine gA ?_)
          | (refine HCall.mk ((cloneS_spec (c2.ext X) (one_map fun _ => rfl) (by omega)).mono ?_); rintro e h3 ⟨p2, n2, rfl, w2, x3⟩; have l2 := w2.lt; have X := X.trans x3; have on := on.ext x3; try have o8 := o8.ext x3
             try have w1 := w1.ext x3
             have hx3 := x3.1; refine gA ?_)
          | (refine new_var (e := 41) [.slice none 0 0, .slice none 0 0, .slice none 0 0] rfl ?_; intro h3 b8 o8 x3 z3 hb8; have X := X.trans x3; have on := on.ext x3
             try have w1 := w1.ext x3
             try have w2 := w2.ext x3
             have hx3 := x3.1; refine gA ?_)
          | (refine store_blk o8 (by simp) (by simp [isOne]) ?_; intro h4 f4 z4 o9; refine gA ?_
             replace o9 : BlkW h4 b8 41 (cells3 ⟨d.keys.take m2, d.vals.take m2, []⟩ p1 n1 p2 n2 none 0) := by rw [e12]; simpa using o9
             replace w1 := (w1.off f4 (fun p ep => by have := l1 p ep; omega)).lower (B' := h1.size) (by omega)
             replace w2 := (w2.off f4 (fun p ep => by have := l2 p ep; omega)).lower (B' := h1.size) (by omega)
             exact ⟨b8, p1, n1, p2, n2, rfl, by omega, o9, NFix.of (sm.cut (List.take_sublist _ _) (List.take_sublist _ _) (List.nil_sublist _)) (by rw [e1]; exact w1) (by rw [e2]; exact w2) (Own.nil _ _ _ _) (fun b hb => by have := hS b hb; have := x1.1; omega), X.offNew f4 (by omega)⟩))
      intro u h2 v11
      rintro ⟨b11, p1, n1, p2, n2, e, hb11, o11, f11, x11⟩
      cases e
      have hx11 := x11.1
      have lt11 := o11.lt
      have xt := xt.ext x11
      have on := on.ext x11
      have fxc := fxc.off (.of_ext x11)
      refine gB ?_
      have e1 : (d.keys.drop m2).length = d.keys.length - m2 := by simp only [List.length_take, List.length_drop] <;> omega
      have e2 : (d.vals.drop m2).length = d.vals.length - m2 := by simp only [List.length_take, List.length_drop] <;> omega
      have e12 : ∀ p1 n1 p2 n2, cells3 ⟨d.keys.drop m2, d.vals.drop m2, []⟩ p1 n1 p2 n2 none 0 = [.slice p1 (d.keys.length - m2) n1, .slice p2 (d.vals.length - m2) n2, .slice none 0 0] := fun p1 n1 p2 n2 => by simp only [cells3, e1, e2, List.length_nil]
      have c1 := Sl.cutFrom (fxc.sls (.refl _ _)).1 (i := m2) (by omega)
      have c2 := Sl.cutFrom (fxc.sls (.refl _ _)).2.1 (i := m2) (by omega)
      have kcb := (fxc.sls (.refl _ _)).1.2.1
      have icb := (fxc.sls (.refl _ _)).2.1.2.1
      have X := Ext.refl h2
      have trh := xt.o.lt
      have rrh := xt.rlt
      refine cut_rule [12] (fun vs h' => ∃ b p1 n1 p2 n2, vs = [.pointer (some ⟨b, 0, none⟩)] ∧ h2.size ≤ b ∧ BlkW h' b 41 (cells3 ⟨d.keys.drop m2, d.vals.drop m2, []⟩ p1 n1 p2 n2 none 0) ∧ NFix h' S ⟨d.keys.drop m2, d.vals.drop m2, []⟩ (cells3 ⟨d.keys.drop m2, d.vals.drop m2, []⟩ p1 n1 p2 n2 none 0) ∧ Ext h2 h') rfl ?_ ?_
      · refine gA ?_
        repeat' (first
          | ((with_reducible refine HAlt.mk ?_ ?_) <;> refine gA ?_)
          | (refine HBound.mk (m2) (by omega) (by omega) ?_; refine gA ?_)
          | (refine HBound.mk (m2) (by omega) (by omega) ?_; refine gA ?_)
          | (refine HCall.mk ((cloneS_spec (c1.ext X) (one_map fun _ => rfl) (by omega)).mono ?_); rintro e h3 ⟨p1, n1, rfl, w1, x3⟩; have l1 := w1.lt; have X := X.trans x3; have on := on.ext x3; try have o8 := o8.ext x3
             try have w2 := w2.ext x3
             have hx3 := x3.1; refine gA ?_)
          | (refine HCall.mk ((cloneS_spec (c2.ext X) (one_map fun _ => rfl) (by omega)).mono ?_); rintro e h3 ⟨p2, n2, rfl, w2, x3⟩; have l2 := w2.lt; have X := X.trans x3; have on := on.ext x3; try have o8 := o8.ext x3
             try have w1 := w1.ext x3
             have hx3 := x3.1; refine gA ?_)
          | (refine new_var (e := 41) [.slice none 0 0, .slice none 0 0, .slice none 0 0] rfl ?_; intro h3 b8 o8 x3 z3 hb8; have X := X.trans x3; have on := on.ext x3
             try have w1 := w1.ext x3
             try have w2 := w2.ext x3
             have hx3 := x3.1; refine gA ?_)
          | (refine store_blk o8 (by simp) (by simp [isOne]) ?_; intro h4 f4 z4 o9; refine gA ?_
             replace o9 : BlkW h4 b8 41 (cells3 ⟨d.keys.drop m2, d.vals.drop m2, []⟩ p1 n1 p2 n2 none 0) := by rw [e12]; simpa using o9
             replace w1 := (w1.off f4 (fun p ep => by have := l1 p ep; omega)).lower (B' := h2.size) (by omega)
             replace w2 := (w2.off f4 (fun p ep => by have := l2 p ep; omega)).lower (B' := h2.size) (by omega)
             exact ⟨b8, p1, n1, p2, n2, rfl, by omega, o9, NFix.of (sm.cut (List.drop_sublist _ _) (List.drop_sublist _ _) (List.nil_sublist _)) (by rw [e1]; exact w1) (by rw [e2]; exact w2) (Own.nil _ _ _ _) (fun b hb => by have := hS b hb; have := x1.1; omega), X.offNew f4 (by omega)⟩))
      intro u h3 v12
      rintro ⟨b12, p1, n1, p2, n2, e, hb12, o12, f12, x12⟩
      cases e
      have hx12 := x12.1
      have lt12 := o12.lt
      have xt := xt.ext x12
      have on := on.ext x12
      have fxc := fxc.off (.of_ext x12)
      have X : Ext h h3 := (x1.trans x11).trans x12
      have hX := X.1
      have O := OffS.refl [t, r] h3
      have fA := f11.off (.of_ext x12)
      have fB := f12
      have oA := o11.ext x12
      have oB := o12
      have rt := x.rlt
      have hi : m2 < d.keys.length := by omega
      have eg : d.keys.getD (m2) ⟨#[]⟩ = d.keys[m2] := getD_of hi _
      rw [eg]
      refine gN ?_
      repeat' (first
        | ((with_reducible refine HAlt.mk ?_ ?_) <;> refine gN ?_)
        | (refine HIdx.mk (m2) (by omega) (by omega) ?_; refine sl_some (fxc.sls (O.to x.ts x.rs)).1 (by omega) fun p ep => ?_; refine gN ?_)
        | (refine HCall.mk ?_; refine (make_spec xt fA (by have := ok.1; omega) (by have := ok.room; have := ok.2.2; omega)).mono ?_; clear fA; rintro e h4 ⟨rfl, xt, y4⟩; replace ok := ok.make ⟨d.keys.take m2, d.vals.take m2, []⟩; have O := O.trans y4; have fB := fB.off (y4.to x.ts x.rs); have oA := BlkW.offS oA y4 (by simp; omega); have oB := BlkW.offS oB y4 (by simp; omega); have on := BlkW.offS on y4 (by simp; omega); have hof := y4.1; refine gN ?_)
        | (refine HCall.mk ?_; refine (make_spec xt fB (by have := ok.1; omega) (by have := ok.room; have := ok.2.2; omega)).mono ?_; rintro e h4 ⟨rfl, xt, y4⟩; have O := O.trans y4; have fB := fB.off (y4.to x.ts x.rs); have oA := BlkW.offS oA y4 (by simp; omega); have oB := BlkW.offS oB y4 (by simp; omega); have on := BlkW.offS on y4 (by simp; omega); have hof := y4.1; refine gN ?_)
        | (refine new_plain [.int .i64 (mkF s ⟨d.keys.take m2, d.vals.take m2, []⟩).2, .int .i64 (mkF (mkF s ⟨d.keys.take m2, d.vals.take m2, []⟩).1 ⟨d.keys.drop m2, d.vals.drop m2, []⟩).2] rfl ?_; intro h5 vb pv x5 z5 hvb; refine gN ?_
           have hof := O.1
           exact ⟨vb, rfl, by omega, pv, xt.ext x5, ((OffS.of_ext X).trans O).trans (.of_ext x5)⟩)
        | (refine Sl.load (fxc.sls (O.to x.ts x.rs)).1 ep (by simpa using hi) ?_; rw [List.getElem_map]; refine gN ?_))
    · have e : halvesF d = ([d], ⟨#[]⟩) := by unfold halvesF; rw [if_neg hk, if_neg hl]
      rw [e]
      have rt := x.rlt
      have xn1 := x1.1
      have fin : ∀ u : Unit, True := fun _ => trivial
      by_cases hl1 : d.kids = []
      · have h3' : ¬ 3 < d.keys.length := fun c => hl ⟨hl1, c⟩
        have q2 : ((d.kids.length : Int) == 0) = true := by rw [hl1]; rfl
        have q3 : decide ((d.keys.length : Int) > 3) = false := decide_eq_false (by omega)
        refine gN ?_
        refine HCall.mk ((make_spec xt fxc (by have := ok.1; omega) (by have := ok.room; have := ok.2.2; omega)).mono ?_)
        rintro e h4 ⟨rfl, xt, y4⟩
        refine gA ?_
        refine new_plain [.int .i64 (mkF s d).2] rfl ?_
        intro h5 vb pv x5 z5 hvb
        refine gA ?_
        have hof := y4.1
        exact ⟨vb, rfl, by omega, pv, xt.ext x5, ((OffS.of_ext x1).trans y4).trans (.of_ext x5)⟩
      · have q2 : ((d.kids.length : Int) == 0) = false := beq_eq_false_iff_ne.2 (by have := List.length_pos_iff.2 hl1; omega)
        refine gN ?_
        refine HCall.mk ((make_spec xt fxc (by have := ok.1; omega) (by have := ok.room; have := ok.2.2; omega)).mono ?_)
        rintro e h4 ⟨rfl, xt, y4⟩
        refine gA ?_
        refine new_plain [.int .i64 (mkF s d).2] rfl ?_
        intro h5 vb pv x5 z5 hvb
        refine gA ?_
        have hof := y4.1
        exact ⟨vb, rfl, by omega, pv, xt.ext x5, ((OffS.of_ext x1).trans y4).trans (.of_ext x5)⟩
end Go.Proofs.Ytljindmibfkhfaa.Hc
/- btree.put: plain facts about putF. -/
set_option linter.unusedVariables false
set_option linter.unusedSimpArgs false
namespace Go.Proofs.Ytljindmibfkhfaa.Hc
open Go Go.H Go.Proofs
set_option maxRecDepth 100000
set_option maxHeartbeats 4000000
/-- The nodes on a key's way are in order. -/
def PathOk : Nat → Nodes → Int → ByteArray → Prop
  | 0, _, _, _ => True
  | f + 1, l, i, key => Rising (nodeOf l i).keys ∧ (nodeOf l i).keys.length ≤ 1000 ∧ (nodeOf l i).kids.length ≤ 1000 ∧ ((nodeOf l i).kids = [] → (nodeOf l i).vals.length = (nodeOf l i).keys.length) ∧
      ((nodeOf l i).kids ≠ [] → (nodeOf l i).keys.length + 1 = (nodeOf l i).kids.length ∧ PathOk f l ((nodeOf l i).kids.getD (childN (nodeOf l i).keys key) 0) key)
theorem mks_ok : ∀ (l : List ND) (s : TS) (m : Nat), TOk s m → TOk (mksF s l).1 (m + l.length) ∧ (mksF s l).2.length = l.length ∧ ∀ i ∈ (mksF s l).2, 1 ≤ i ∧ i ≤ ((m + l.length + 2 : Nat) : Int)
  | [], s, m, ok => ⟨ok, rfl, fun i hi => by cases hi⟩
  | n :: l, s, m, ok => by
    obtain ⟨h1, h2, h3⟩ := mks_ok l (mkF s n).1 (m + 1) (ok.make n)
    refine ⟨h1.mono (by simp only [List.length_cons]; omega), by simp only [mksF, List.length_cons, h2], fun i hi => ?_⟩
    simp only [mksF, List.mem_cons] at hi
    have hf := mkF_free s n
    rcases hi with rfl | hi
    · have := ok.1
      have := (ok.make n).room
      rw [hf.2.2.1] at this
      simp only [List.length_cons]
      omega
    · have := h3 i hi
      simp only [List.length_cons]
      omega
theorem halvesF_len (d : ND) : 1 ≤ (halvesF d).1.length ∧ (halvesF d).1.length ≤ 2 := by
  unfold halvesF
  split
  · simp
  · split <;> simp
theorem halvesF_bt (d : ND) : (halvesF d).2 = ⟨#[]⟩ ∨ (halvesF d).2 ∈ d.keys := by
  have hg : ∀ i : Nat, d.keys.getD i ⟨#[]⟩ = ⟨#[]⟩ ∨ d.keys.getD i ⟨#[]⟩ ∈ d.keys := by
    intro i
    by_cases hi : i < d.keys.length
    · rw [getD_of hi]; exact .inr (List.getElem_mem _)
    · rw [List.getD_eq_getElem?_getD, List.getElem?_eq_none (by omega)]; exact .inl rfl
  unfold halvesF
  split
  · exact hg _
  · split
    · exact hg _
    · exact .inl rfl
theorem NSmall.bt {d : ND} (sm : NSmall d) : (halvesF d).2.size ≤ 1048576 := by
  rcases halvesF_bt d with h | h
  · rw [h]; exact Nat.zero_le _
  · exact sm.ks _ h
theorem putF_ok : ∀ (f : Nat) (s : TS) (id : Int) (key val : ByteArray) (m : Nat), TOk s m → TOk (putF f s id key val).1 (m + 2 * f) ∧ (1 ≤ (putF f s id key val).2.1.length ∧ (putF f s id key val).2.1.length ≤ 2) ∧
    ∀ i ∈ (putF f s id key val).2.1, (f = 0 ∧ i = id) ∨ 1 ≤ i ∧ i ≤ ((m + 2 * f + 2 : Nat) : Int)
  | 0, s, id, key, val, m, ok => ⟨ok, by simp [putF], fun i hi => by simp [putF] at hi; exact .inl ⟨rfl, hi⟩⟩
  | f + 1, s, id, key, val, m, ok => by
    unfold putF
    by_cases hk : (nodeOf s.l id).kids = []
    · simp only [if_pos hk]
      have hl := halvesF_len (insLeaf (nodeOf s.l id) key val)
      obtain ⟨h1, h2, h3⟩ := mks_ok (halvesF (insLeaf (nodeOf s.l id) key val)).1 s m ok
      refine ⟨h1.mono (by omega), by rw [h2]; exact hl, fun i hi => .inr ?_⟩
      have := h3 i hi
      omega
    · simp only [if_neg hk]
      obtain ⟨ok1, hl1, _⟩ := putF_ok f s ((nodeOf s.l id).kids.getD (childN (nodeOf s.l id).keys key) 0) key val m ok
      generalize putF f s ((nodeOf s.l id).kids.getD (childN (nodeOf s.l id).keys key) 0) key val = p at ok1 hl1 ⊢
      generalize (⟨if 1 < p.2.1.length then insAt (nodeOf s.l id).keys (childN (nodeOf s.l id).keys key) p.2.2 else (nodeOf s.l id).keys, (nodeOf s.l id).vals, (nodeOf s.l id).kids.take (childN (nodeOf s.l id).keys key) ++ p.2.1 ++ (nodeOf s.l id).kids.drop (childN (nodeOf s.l id).keys key + 1)⟩ : ND) = d
      have hl := halvesF_len d
      obtain ⟨h1, h2, h3⟩ := mks_ok (halvesF d).1 p.1 (m + 2 * f) ok1
      refine ⟨h1.mono (by omega), by rw [h2]; exact hl, fun i hi => .inr ?_⟩
      have := h3 i hi
      omega
theorem ndE_small : NSmall ndE := ⟨by simp, by simp, by simp, by simp, by simp, by simp⟩
theorem TRp.small {S : List Nat} {h : Heap} {t r : Nat} {s : TS} (x : TRp S h t r s) (i : Int) : NSmall (nodeOf s.l i) := by
  obtain ⟨L, m, e, n⟩ := x.m
  unfold nodeOf
  rw [← e, getA_pure]
  cases hg : getA i L with
  | none => exact ndE_small
  | some v => exact (n _ (getA_mem hg)).rep.small
theorem insAt_sub {α : Type} {l : List α} {i : Nat} {x y : α} (h : y ∈ insAt l i x) : y = x ∨ y ∈ l := by
  unfold insAt at h
  rcases List.mem_append.1 h with h | h
  · exact .inr (List.mem_of_mem_take h)
  · rcases List.mem_cons.1 h with h | h
    · exact .inl h
    · exact .inr (List.mem_of_mem_drop h)
theorem insAt_length {α : Type} (l : List α) {i : Nat} (x : α) (h : i ≤ l.length) : (insAt l i x).length = l.length + 1 := by
  unfold insAt; simp only [List.length_append, List.length_take, List.length_cons, List.length_drop]; omega
theorem insAt_map {α β : Type} (f : α → β) (l : List α) (i : Nat) (x : α) : (insAt l i x).map f = insAt (l.map f) i (f x) := by
  unfold insAt; simp [List.map_take, List.map_drop]
theorem Inserted.offS {h h' : Heap} {B e n c : Nat} {a a' : Option Addr} {ys : List Value} {T : List Nat} (x : Inserted h h' B e a a' n c ys) (hT : ∀ p, a = some p → p.block ∈ T) : OffS T h h' :=
  ⟨x.kept.1, fun b hb hn => x.others b hb fun p ep e => hn (e ▸ hT p ep)⟩
theorem pl_lt {h : Heap} {b : Nat} {o : Obj} (x : h[b]? = some o) : b < h.size := (Array.getElem?_eq_some_iff.1 x).1
theorem pl_ext {h h' : Heap} {b : Nat} {o : Obj} (x : h[b]? = some o) (k : Ext h h') : h'[b]? = some o := by rw [k.2 b (pl_lt x)]; exact x
theorem pl_off {h h' : Heap} {b : Nat} {o : Obj} {T : List Nat} (x : h[b]? = some o) (k : OffS T h h') (hb : b ∉ T) : h'[b]? = some o := by rw [k.2 b (pl_lt x) hb]; exact x
/-- The block of an address. -/
def blk (a : Option Addr) : List Nat := (a.map (·.block)).toList
theorem blk_mem {a : Option Addr} {p : Addr} (e : a = some p) : p.block ∈ blk a := by subst e; simp [blk]
theorem blk_of {a : Option Addr} {b : Nat} (h : b ∈ blk a) : ∃ p, a = some p ∧ p.block = b := by
  unfold blk at h
  cases a with
  | none => simp at h
  | some p => simp only [Option.map_some, Option.toList_some, List.mem_singleton] at h; exact ⟨p, rfl, h.symm⟩
end Go.Proofs.Ytljindmibfkhfaa.Hc
/- btree.put. -/
set_option linter.unusedVariables false
set_option linter.unusedSimpArgs false
namespace Go.Proofs.Ytljindmibfkhfaa.Hc
open Go Go.H Go.Proofs
set_option maxRecDepth 100000
set_option maxHeartbeats 40000000
theorem Own.ins {h h' : Heap} {B e n c B' e' n' c' : Nat} {a q q' : Option Addr} {xs ys : List Value} (w : Own h B e 1 a n c xs) (I : Inserted h h' B' e' q q' n' c' ys) (ap : Apart q a) : Own h' B e 1 a n c xs :=
  ⟨w.1, w.2.1, w.2.2.1, fun p ep => let ⟨b, s, h1, h2, h3, h4⟩ := w.2.2.2 p ep; ⟨b, s, h1, h2, h3, h4.of (I.others b h4.lt fun p' ep' => by have := ap p' p ep' ep; rw [h1] at this; exact this)⟩⟩
theorem Inserted.apart {h h' : Heap} {B e n c : Nat} {a a' q : Option Addr} {ys : List Value} (I : Inserted h h' B e a a' n c ys) (ap : Apart a q) (hq : ∀ p, q = some p → p.block < h.size) : Apart a' q := by
  intro p p' ep ep' eb
  rcases I.addr p ep with ⟨p0, e0, e1⟩ | h1
  · exact ap p0 p' e0 ep' (e1 ▸ eb)
  · have := hq p' ep'; omega
theorem Inserted.ne {h h' : Heap} {B e n c b : Nat} {a a' : Option Addr} {ys : List Value} (I : Inserted h h' B e a a' n c ys) (hn : ∀ p, a = some p → p.block ≠ b) (hb : b < h.size) : ∀ p, a' = some p → p.block ≠ b := by
  intro p ep eb
  rcases I.addr p ep with ⟨p0, e0, e1⟩ | h1
  · exact hn p0 e0 (e1 ▸ eb)
  · omega
theorem Own.below {h : Heap} {B e n c : Nat} {a : Option Addr} {xs : List Value} (w : Own h B e 1 a n c xs) : ∀ p, a = some p → p.block < h.size := fun p ep => by have := w.lt p ep; omega
theorem Own.above {h : Heap} {B e n c : Nat} {a : Option Addr} {xs : List Value} (w : Own h B e 1 a n c xs) : ∀ p, a = some p → B ≤ p.block := fun p ep => by have := w.lt p ep; omega
theorem Apart.symm {a b : Option Addr} (x : Apart a b) : Apart b a := fun p q ep eq e => x q p eq ep e.symm
/-- A node in the making: its own variable, its parts, each apart. -/
structure Making (h0 h : Heap) (bn : Nat) (ks vs : List ByteArray) (is : List Int) (cs : List Value) (ka : Option Addr) (kc : Nat) (va : Option Addr) (vc : Nat) (ia : Option Addr) (ic : Nat) : Prop where
  on : BlkW h bn 41 cs
  k : Own h h0.size 9 1 ka ks.length kc (ks.map .string)
  v : Own h h0.size 9 1 va vs.length vc (vs.map .string)
  i : Own h h0.size 3 1 ia is.length ic (is.map (.int .i64))
  kv : Apart ka va
  ki : Apart ka ia
  vi : Apart va ia
  nk : ∀ p, ka = some p → p.block ≠ bn
  nv : ∀ p, va = some p → p.block ≠ bn
  ni : ∀ p, ia = some p → p.block ≠ bn
  hb : h0.size ≤ bn
theorem Making.ext {h0 h h' : Heap} {bn kc vc ic : Nat} {ks vs : List ByteArray} {is : List Int} {cs : List Value} {ka va ia : Option Addr} (x : Making h0 h bn ks vs is cs ka kc va vc ia ic) (k : Ext h h') : Making h0 h' bn ks vs is cs ka kc va vc ia ic :=
  ⟨x.on.ext k, x.k.ext k, x.v.ext k, x.i.ext k, x.kv, x.ki, x.vi, x.nk, x.nv, x.ni, x.hb⟩
theorem Making.offS {h0 h h' : Heap} {bn kc vc ic : Nat} {ks vs : List ByteArray} {is : List Int} {cs : List Value} {ka va ia : Option Addr} {T : List Nat} (x : Making h0 h bn ks vs is cs ka kc va vc ia ic) (k : OffS T h h') (hT : ∀ b ∈ T, b < h0.size) : Making h0 h' bn ks vs is cs ka kc va vc ia ic :=
  ⟨BlkW.offS x.on k fun hm => by have := hT _ hm; have := x.hb; omega, Own.offS x.k k fun p ep hm => by have := hT _ hm; have := Own.above x.k p ep; omega, Own.offS x.v k fun p ep hm => by have := hT _ hm; have := Own.above x.v p ep; omega,
    Own.offS x.i k fun p ep hm => by have := hT _ hm; have := Own.above x.i p ep; omega, x.kv, x.ki, x.vi, x.nk, x.nv, x.ni, x.hb⟩
theorem Making.insK {h0 h h' : Heap} {bn kc vc ic kc' j : Nat} {ks vs : List ByteArray} {is : List Int} {cs : List Value} {ka va ia ka' : Option Addr} {key : ByteArray} (x : Making h0 h bn ks vs is cs ka kc va vc ia ic) (hj : j ≤ ks.length)
    (I : Inserted h h' h0.size 9 ka ka' (ks.length + 1) kc' (insAt (ks.map .string) j (.string key))) : Making h0 h' bn (insAt ks j key) vs is cs ka' kc' va vc ia ic :=
  ⟨x.on.of (I.others bn x.on.lt x.nk), by rw [insAt_length _ _ hj, insAt_map]; exact I.own, Own.ins x.v I x.kv, Own.ins x.i I x.ki, I.apart x.kv (Own.below x.v), I.apart x.ki (Own.below x.i), x.vi, I.ne x.nk x.on.lt, x.nv, x.ni, x.hb⟩
theorem Making.insV {h0 h h' : Heap} {bn kc vc ic vc' j : Nat} {ks vs : List ByteArray} {is : List Int} {cs : List Value} {ka va ia va' : Option Addr} {val : ByteArray} (x : Making h0 h bn ks vs is cs ka kc va vc ia ic) (hj : j ≤ vs.length)
    (I : Inserted h h' h0.size 9 va va' (vs.length + 1) vc' (insAt (vs.map .string) j (.string val))) : Making h0 h' bn ks (insAt vs j val) is cs ka kc va' vc' ia ic :=
  ⟨x.on.of (I.others bn x.on.lt x.nv), Own.ins x.k I (Apart.symm x.kv), by rw [insAt_length _ _ hj, insAt_map]; exact I.own, Own.ins x.i I x.vi, Apart.symm (I.apart (Apart.symm x.kv) (Own.below x.k)), x.ki, I.apart x.vi (Own.below x.i), x.nk, I.ne x.nv x.on.lt, x.ni, x.hb⟩
theorem Making.repI {h0 h h' : Heap} {bn kc vc ic ic' n' : Nat} {ks vs : List ByteArray} {is is' : List Int} {cs ys : List Value} {ka va ia ia' : Option Addr} (x : Making h0 h bn ks vs is cs ka kc va vc ia ic)
    (I : Inserted h h' h0.size 3 ia ia' n' ic' ys) (en : n' = is'.length) (ey : ys = is'.map (.int .i64)) : Making h0 h' bn ks vs is' cs ka kc va vc ia' ic' := by
  subst en; subst ey
  exact ⟨x.on.of (I.others bn x.on.lt x.ni), Own.ins x.k I (Apart.symm x.ki), Own.ins x.v I (Apart.symm x.vi), I.own, x.kv, Apart.symm (I.apart (Apart.symm x.ki) (Own.below x.k)), Apart.symm (I.apart (Apart.symm x.vi) (Own.below x.v)), x.nk, x.nv, I.ne x.ni x.on.lt, x.hb⟩
theorem Making.cells {h0 h h' : Heap} {bn kc vc ic : Nat} {ks vs : List ByteArray} {is : List Int} {cs cs' : List Value} {ka va ia : Option Addr} (x : Making h0 h bn ks vs is cs ka kc va vc ia ic) (f : Off bn h h') (o : BlkW h' bn 41 cs') : Making h0 h' bn ks vs is cs' ka kc va vc ia ic :=
  ⟨o, x.k.off f x.nk, x.v.off f x.nv, x.i.off f x.ni, x.kv, x.ki, x.vi, x.nk, x.nv, x.ni, x.hb⟩
theorem Making.fix {h0 h : Heap} {bn kc vc ic : Nat} {ks vs : List ByteArray} {is : List Int} {cs : List Value} {ka va ia : Option Addr} {S : List Nat} (x : Making h0 h bn ks vs is cs ka kc va vc ia ic) (sm : NSmall ⟨ks, vs, is⟩) (hs : ∀ b ∈ S, b < h0.size) : NFix h S ⟨ks, vs, is⟩ (cells3 ⟨ks, vs, is⟩ ka kc va vc ia ic) :=
  NFix.of sm x.k x.v x.i hs
theorem Making.setV {h0 h : Heap} {bn kc vc ic j : Nat} {ks vs : List ByteArray} {is : List Int} {cs : List Value} {ka va ia : Option Addr} {p : Addr} {val : ByteArray} {K : Heap → Prop} (x : Making h0 h bn ks vs is cs ka kc va vc ia ic) (ep : va = some p) (hj : j < vs.length)
    (k : ∀ h', Off p.block h h' → h0.size ≤ p.block → h'.size = h.size → Making h0 h' bn ks (vs.set j val) is cs ka kc va vc ia ic → K h') : HStore h (p.add (j * 1)) [.string val] K :=
  Own.store x.v ep hj rfl fun h' f hb z w => k h' f hb z ⟨x.on.offk f (Ne.symm (x.nv p ep)), x.k.off f fun q eq => x.kv q p eq ep, by rw [List.length_set, List.map_set]; exact w, x.i.off f fun q eq => (Apart.symm x.vi) q p eq ep, x.kv, x.ki, x.vi, x.nk, x.nv, x.ni, x.hb⟩
theorem put_spec : ∀ (f dp : Nat), f + dp = 41 → ∀ {S : List Nat} {h : Heap} {t r m : Nat} {s : TS} {id : Int} {key val : ByteArray} (x : TRp S h t r s) (hS : ∀ b ∈ S, b < h.size) (ok : TOk s m) (hm : m + 2 * f ≤ 1099511627776) (hid : i64 id) (hk : key.size ≤ 1048576) (hv : val.size ≤ 1048576) (path : PathOk f s.l id key),
    HCalls Try.prog 14 #[.pointer (some ⟨t, 0, none⟩), .int .i64 id, .string key, .string val, .int .i64 dp] h fun e h' =>
      Halved S h h' t r (putF f s id key val).1 (putF f s id key val).2.1 (putF f s id key val).2.2 e ∧ (putF f s id key val).2.2.size ≤ 1048576 := by
  intro f
  induction f with
  | zero =>
    intro dp hdp S h t r m s id key val x hS ok hm hid hk hv path
    refine c14 (by simp) ?_
    refine gA ?_
    refine HCall.mk ((node_spec x id).mono ?_)
    rintro e h1 ⟨ka, kc, va, vc, ia, ic, rfl, w, x1⟩
    refine gA ?_
    refine new_var (e := 41) [.slice none 0 0, .slice none 0 0, .slice none 0 0] rfl ?_
    intro h2 bn o2 x2 z2 hbn
    refine gA ?_
    refine store_blk o2 (by simp) (by simp [isOne]) ?_
    intro h3 f3 z3 o3
    have q : decide ((dp : Int) > 40) = true := decide_eq_true (by omega)
    refine gA ?_
    refine new_plain [.int .i64 id] rfl ?_
    intro h4 vb pv x4 z4 hvb
    refine gA ?_
    have X : Ext h h4 := ((x1.trans x2).offNew f3 (by have := x1.1; omega)).trans x4
    have hx1 := x1.1
    have hx2 := x2.1
    have hx3 := f3.1
    exact ⟨⟨vb, rfl, by omega, pv, x.ext X, .of_ext X⟩, Nat.zero_le _⟩
  | succ f ih =>
    intro dp hdp S h t r m s id key val x hS ok hm hid hk hv path
    have rt := x.rlt
    have tt := x.o.lt
    obtain ⟨pr, pl, pl2, pleaf, pin⟩ := path
    have sm := x.small id
    unfold putF
    generalize hd : nodeOf s.l id = d at pr pl pl2 pleaf pin sm ⊢
    refine c14 (by simp) ?_
    refine gA ?_
    refine HCall.mk ((node_spec x id).mono ?_)
    rw [hd]
    rintro e h1 ⟨ka, kc, va, vc, ia, ic, rfl, w, x1⟩
    refine gA ?_
    refine new_var (e := 41) [.slice none 0 0, .slice none 0 0, .slice none 0 0] rfl ?_
    intro h2 bn o2 x2 z2 hbn
    refine gA ?_
    refine store_blk o2 (by simp) (by simp [isOne]) ?_
    intro h3 f3 z3 o3
    have q : decide ((dp : Int) > 40) = false := decide_eq_false (by omega)
    have X : Ext h h3 := (x1.trans x2).offNew f3 (by have := x1.1; omega)
    have hx1 := x1.1
    have hx2 := x2.1
    have hx3 := f3.1
    replace o3 : BlkW h3 bn 41 (cells3 d ka kc va vc ia ic) := by simpa using o3
    have wk := w.k.ext x2
    have wv := w.v.ext x2
    have wi := w.i.ext x2
    have bk := Own.below w.k
    have bv := Own.below w.v
    have bi := Own.below w.i
    have M : Making h h3 bn d.keys d.vals d.kids (cells3 d ka kc va vc ia ic) ka kc va vc ia ic :=
      ⟨o3, wk.off f3 (fun p ep => by have := bk p ep; omega), wv.off f3 (fun p ep => by have := bv p ep; omega), wi.off f3 (fun p ep => by have := bi p ep; omega), w.kv, w.ki, w.vi,
        fun p ep => by have := bk p ep; omega, fun p ep => by have := bv p ep; omega, fun p ep => by have := bi p ep; omega, by omega⟩
    clear wk wv wi w o2
    refine gA ?_
    by_cases hkids : d.kids = []
    · have q2 : ((d.kids.length : Int) == 0) = true := by rw [hkids]; rfl
      have pleaf := pleaf hkids
      have hlow := lowerN_le d.keys key
      simp only [if_pos hkids]
      refine gA ?_
      refine HCall.mk ((at_spec M.k.sl (by omega) pr).mono ?_)
      rintro e h4 ⟨rfl, x4⟩
      replace M := M.ext x4
      replace X := X.trans x4
      have o3 := M.on
      have sml : NSmall (insLeaf d key val) := by
        unfold insLeaf
        have sv := sm.v
        split
        · refine ⟨sm.k, by rw [List.length_set]; exact sm.v, sm.i, sm.ks, fun y hy => ?_, sm.is⟩
          rcases List.mem_or_eq_of_mem_set hy with hy | rfl
          · exact sm.vs y hy
          · exact hv
        · refine ⟨by rw [insAt_length _ _ hlow]; omega, by rw [insAt_length _ _ (by omega)]; omega, sm.i, fun y hy => ?_, fun y hy => ?_, sm.is⟩
          · rcases insAt_sub hy with rfl | hy
            · exact hk
            · exact sm.ks y hy
          · rcases insAt_sub hy with rfl | hy
            · exact hv
            · exact sm.vs y hy
      have lk : (insLeaf d key val).kids = [] := by unfold insLeaf; split <;> exact hkids
      have llen : (insLeaf d key val).vals.length = (insLeaf d key val).keys.length := by
        unfold insLeaf
        split
        · rw [List.length_set]; exact pleaf
        · rw [insAt_length _ _ hlow, insAt_length _ _ (by omega), pleaf]
      refine gB ?_
      refine cut_rule [] (fun vs h' => ∃ ka kc va vc ia ic, BlkW h' bn 41 (cells3 (insLeaf d key val) ka kc va vc ia ic) ∧ NFix h' S (insLeaf d key val) (cells3 (insLeaf d key val) ka kc va vc ia ic) ∧ Ext h h') rfl ?_ ?_
      · by_cases hf : d.keys[lowerN d.keys key]? = some key
        · have q3 : decide (d.keys[lowerN d.keys key]? = some key) = true := decide_eq_true hf
          have hlt : lowerN d.keys key < d.keys.length := (List.getElem?_eq_some_iff.1 hf).1
          have el : insLeaf d key val = ⟨d.keys, d.vals.set (lowerN d.keys key) val, d.kids⟩ := by unfold insLeaf; rw [if_pos hf]
          rw [el] at sml ⊢
          refine gA ?_
          refine HIdx.mk (lowerN d.keys key) rfl (by omega) ?_
          refine sl_some M.v.sl (show lowerN d.keys key < d.vals.length by omega) fun p ep => ?_
          refine gA ?_
          refine M.setV ep (j := lowerN d.keys key) (by omega) fun h5 f5 hb5 z5 M5 => ?_
          refine gA ?_
          have o5 := M5.on
          have e5 : cells3 ⟨d.keys, d.vals.set (lowerN d.keys key) val, d.kids⟩ ka kc va vc ia ic = cells3 d ka kc va vc ia ic := by simp only [cells3, List.length_set]
          refine ⟨ka, kc, va, vc, ia, ic, ?_, M5.fix sml hS, X.offNew f5 hb5⟩
          rw [e5]; exact o5
        · have q3 : decide (d.keys[lowerN d.keys key]? = some key) = false := decide_eq_false hf
          have el : insLeaf d key val = ⟨insAt d.keys (lowerN d.keys key) key, insAt d.vals (lowerN d.keys key) val, d.kids⟩ := by unfold insLeaf; rw [if_neg hf]
          rw [el] at sml ⊢
          generalize lowerN d.keys key = j at *
          have one1 : ∀ v ∈ d.keys.map Value.string, isOne v = true := one_map fun _ => rfl
          have one2 : ∀ v ∈ d.vals.map Value.string, isOne v = true := one_map fun _ => rfl
          refine gA ?_
          have vle : j ≤ d.vals.length := by omega
          repeat' (first
            | ((with_reducible refine HAlt.mk ?_ ?_) <;> refine gA ?_)
            | (refine new_plain [.string key] rfl ?_; intro h5 bk pk x5 z5 hbk; have nk : ∀ p, ka = some p → p.block ≠ bk := (fun p ep => by have := Own.below M.k p ep; omega); replace M := M.ext x5; replace X := X.trans x5; (try replace pw := pl_ext pw x5); have o3 := M.on; have ltk := pl_lt pk; refine gA ?_)
            | (refine new_plain [.string val] rfl ?_; intro h5 bw pw x5 z5 hbw; have nw : ∀ p, va = some p → p.block ≠ bw := (fun p ep => by have := Own.below M.v p ep; omega); (try have nkw : ∀ p, ka = some p → p.block ≠ bw := (fun p ep => by have := Own.below M.k p ep; omega)); replace M := M.ext x5; replace X := X.trans x5; (try replace pk := pl_ext pk x5); have o3 := M.on; have ltw := pl_lt pw; refine gA ?_)
            | (refine HCall.mk ?_; refine (insertS_spec M.k X.1 one1 rfl hlow (by omega) pk nk).mono ?_; rintro e h5 ⟨ka', kc', rfl, I⟩; clear nk pk; replace M := M.insK hlow I; replace X := X.keep I.kept; (try replace pw := (I.others _ (pl_lt pw) nkw).trans pw); have o3 := M.on; refine gA ?_)
            | (refine HCall.mk ?_; refine (insertS_spec M.v X.1 one2 rfl vle (by omega) pw nw).mono ?_; rintro e h5 ⟨va', vc', rfl, I⟩; replace M := M.insV vle I; replace X := X.keep I.kept; have o3 := M.on; refine gA ?_))
          all_goals
            refine blk_st (o := 0) (v := .slice ka' (d.keys.length + 1) kc') M.on (by simp) rfl ?_
            intro h6 f6 z6 o6
            refine gA ?_
            refine blk_st (o := 1) (v := .slice va' (d.vals.length + 1) vc') o6 (by simp) rfl ?_
            intro h7 f7 z7 o7
            refine gA ?_
            have hbb : h.size ≤ bn := by omega
            have M7 := (M.cells f6 o6).cells f7 o7
            have e7 : cells3 ⟨insAt d.keys j key, insAt d.vals j val, d.kids⟩ ka' kc' va' vc' ia ic = [.slice ka' (d.keys.length + 1) kc', .slice va' (d.vals.length + 1) vc', .slice ia d.kids.length ic] := by simp only [cells3, insAt_length _ _ hlow, insAt_length _ _ vle]
            refine ⟨ka', kc', va', vc', ia, ic, ?_, M7.fix sml hS, (X.offNew f6 hbb).offNew f7 hbb⟩
            rw [e7]; exact o7
      intro u h5
      rintro ⟨ka, kc, va, vc, ia, ic, o5, fx5, X5⟩
      refine gN ?_
      refine HCall.mk ((halves_spec (x.ext X5) (fun b hb => by have := hS b hb; have := X5.1; omega) fx5 ok (by omega) (fun _ => llen) (fun c => absurd lk c)).mono ?_)
      rintro e h6 ⟨vb, rfl, hvb, pv, x6, y6⟩
      refine gA ?_
      have hx5 := X5.1
      exact ⟨⟨vb, rfl, by omega, pv, x6, (OffS.of_ext X5).trans y6⟩, sml.bt⟩
    · have q2 : ((d.kids.length : Int) == 0) = false := beq_eq_false_iff_ne.2 (by have := List.length_pos_iff.2 hkids; omega)
      obtain ⟨plen, pin⟩ := pin hkids
      simp only [if_neg hkids]
      refine gN ?_
      refine HCall.mk ((childN_spec key ((M.fix (S := S) sm hS).rep)).mono ?_)
      rintro e h4 ⟨rfl, x4⟩
      replace M := M.ext x4
      replace X := X.trans x4
      have o3 := M.on
      have hlow : childN d.keys key ≤ d.keys.length := childN_le d.keys key
      have hj : childN d.keys key < d.kids.length := by omega
      have hjk := sm.is (d.kids.getD (childN d.keys key) 0) (by rw [getD_of hj]; exact List.getElem_mem _)
      have eg : d.kids.getD (childN d.keys key) 0 = d.kids[childN d.keys key] := getD_of hj _
      generalize childN d.keys key = j at *
      refine gA ?_
      refine HIdx.mk j rfl hj ?_
      refine sl_some M.i.sl hj fun p ep => ?_
      refine gA ?_
      refine Sl.load M.i.sl ep (by simpa using hj) ?_
      rw [List.getElem_map]
      refine gA ?_
      have hN : ∀ b ∈ (bn :: (blk ka ++ blk va ++ blk ia)), h.size ≤ b ∧ b < h4.size := by
        intro b hb
        have hon := M.on.lt
        have hbb := M.hb
        rcases List.mem_cons.1 hb with rfl | hb
        · exact ⟨hbb, hon⟩
        · rcases List.mem_append.1 hb with hb | hb
          · rcases List.mem_append.1 hb with hb | hb
            · obtain ⟨p, ep, rfl⟩ := blk_of hb; exact ⟨Own.above M.k p ep, Own.below M.k p ep⟩
            · obtain ⟨p, ep, rfl⟩ := blk_of hb; exact ⟨Own.above M.v p ep, Own.below M.v p ep⟩
          · obtain ⟨p, ep, rfl⟩ := blk_of hb; exact ⟨Own.above M.i p ep, Own.below M.i p ep⟩
      have nbn : bn ∈ (bn :: (blk ka ++ blk va ++ blk ia)) := List.mem_cons_self
      have nka : ∀ p, ka = some p → p.block ∈ (bn :: (blk ka ++ blk va ++ blk ia)) := fun p ep => by simp [blk_mem ep]
      have nia : ∀ p, ia = some p → p.block ∈ (bn :: (blk ka ++ blk va ++ blk ia)) := fun p ep => by simp [blk_mem ep]
      generalize (bn :: (blk ka ++ blk va ++ blk ia)) = N at hN nbn nka nia
      have xN : TRp (S ++ N) h4 t r s := x.more X fun b hb => (hN b hb).1
      rw [← eg]
      have hih := ih (dp + 1) (by omega) (m := m) (key := key) (val := val) (id := d.kids.getD j 0) xN (fun b hb => by
        have hx := X.1
        rcases List.mem_append.1 hb with hb | hb
        · have := hS b hb; omega
        · exact (hN b hb).2) ok (by omega) hjk hk hv pin
      refine HCall.mk (hih.mono ?_)
      have pok := putF_ok f s (d.kids.getD j 0) key val m ok
      generalize putF f s (d.kids.getD j 0) key val = pf at pok ⊢
      obtain ⟨s', ids, bt⟩ := pf
      dsimp only at pok ⊢
      rintro e h5 ⟨⟨vb, rfl, hvb, pv, x5, y5⟩, hbt⟩
      obtain ⟨ok5, ⟨hl1, hl2⟩, hids⟩ := pok
      have hx5 := y5.1
      replace M := M.offS y5 (by simp; omega)
      have Y : OffS [t, r] h h5 := (OffS.of_ext X).trans y5
      have o3 := M.on
      refine gA ?_
      have hvn : ∀ p, ia = some p → p.block ≠ vb := fun p ep => by have := hN _ (nia p ep); omega
      have hids0 : ∀ i ∈ ids, i64 i := fun i hi => by
        rcases hids i hi with ⟨_, rfl⟩ | h1
        · exact hjk
        · unfold i64; omega
      have one3 : ∀ v ∈ d.kids.map (Value.int .i64), isOne v = true := one_map fun _ => rfl
      have one4 : ∀ v ∈ ids.map (Value.int .i64), isOne v = true := one_map fun _ => rfl
      refine HCall.mk ?_
      refine (replaceI_spec (m := ids.length) M.i Y.1 one3 one4 hj (by omega) (by simp) hl1 hl2 pv hvn).mono ?_
      rintro e h6 ⟨ia', ic', rfl, I⟩
      have O6 : OffS (S ++ N) h5 h6 := I.offS fun p ep => List.mem_append_right _ (nia p ep)
      have nt : ∀ p, ia = some p → p.block ≠ t := fun p ep => by have := hN _ (nia p ep); omega
      have nr : ∀ p, ia = some p → p.block ≠ r := fun p ep => by have := hN _ (nia p ep); omega
      have lt5 := x5.o.lt
      have rt5 := x5.rlt
      have x6 := x5.offN O6 (I.others t lt5 nt) (I.others r rt5 nr)
      have ekids : d.kids.length - 1 + ids.length = (d.kids.take j ++ ids ++ d.kids.drop (j + 1)).length := by simp only [List.length_append, List.length_take, List.length_drop]; omega
      replace M := M.repI (is' := d.kids.take j ++ ids ++ d.kids.drop (j + 1)) I ekids (by simp only [List.map_append, List.map_take, List.map_drop])
      have Y6 : OffS [t, r] h h6 := ⟨Nat.le_trans Y.1 I.kept.1, fun b hb hn => by rw [I.kept.2 b hb, Y.2 b hb hn]⟩
      have o3 := M.on
      refine gA ?_
      refine blk_st (o := 2) (v := .slice ia' (d.kids.length - 1 + ids.length) ic') o3 (by simp) rfl ?_
      intro h7 f7 z7 o7
      replace M := M.cells f7 o7
      have bnT : bn ∈ S ++ N := List.mem_append_right _ nbn
      have bnb := hN _ nbn
      have x7 := x6.offN (.of_off f7 bnT) (f7.2 t (by have := I.kept.1; omega) (by omega)) (f7.2 r (by have := I.kept.1; omega) (by omega))
      have Y7 : OffS [t, r] h h7 := ⟨Nat.le_trans Y6.1 f7.1, fun b hb hn => by rw [f7.2 b (by have := Y6.1; omega) (by omega), Y6.2 b hb hn]⟩
      generalize hK : d.kids.take j ++ ids ++ d.kids.drop (j + 1) = K at *
      rw [ekids] at M o7
      have hKi : ∀ y ∈ K, i64 y := by
        intro y hy
        rw [← hK] at hy
        rcases List.mem_append.1 hy with hy | hy
        · rcases List.mem_append.1 hy with hy | hy
          · exact sm.is y (List.mem_of_mem_take hy)
          · exact hids0 y hy
        · exact sm.is y (List.mem_of_mem_drop hy)
      have svl := sm.v
      refine gB ?_
      refine cut_rule [] (fun vs h' => ∃ ka kc va vc ia ic, BlkW h' bn 41 (cells3 ⟨if 1 < ids.length then insAt d.keys j bt else d.keys, d.vals, K⟩ ka kc va vc ia ic) ∧ NFix h' S ⟨if 1 < ids.length then insAt d.keys j bt else d.keys, d.vals, K⟩ (cells3 ⟨if 1 < ids.length then insAt d.keys j bt else d.keys, d.vals, K⟩ ka kc va vc ia ic) ∧ TRp S h' t r s' ∧ OffS [t, r] h h') rfl ?_ ?_
      · have hbb : h.size ≤ bn := by omega
        by_cases hids2 : 1 < ids.length
        · have q4 : decide ((ids.length : Int) > 1) = true := decide_eq_true (by omega)
          simp only [if_pos hids2]
          have sm8 : NSmall ⟨insAt d.keys j bt, d.vals, K⟩ := by
            refine ⟨by rw [insAt_length _ _ hlow]; omega, sm.v, (by show K.length ≤ 1048576; omega), fun y hy => ?_, sm.vs, hKi⟩
            rcases insAt_sub hy with rfl | hy
            · exact hbt
            · exact sm.ks y hy
          refine gA ?_
          refine new_plain [.string bt] rfl ?_
          intro h8 b8 p8 x8 z8 hb8
          have n8 : ∀ p, ka = some p → p.block ≠ b8 := fun p ep => by have := Own.below M.k p ep; omega
          replace M := M.ext x8
          have x7' := x7.ext x8
          have Y8 := Y7.trans (.of_ext x8)
          have o3 := M.on
          refine gA ?_
          refine HCall.mk ?_
          refine (insertS_spec M.k Y8.1 (one_map fun _ => rfl) rfl hlow (by omega) p8 n8).mono ?_
          rintro e h9 ⟨ka', kc', rfl, I9⟩
          have O9 : OffS (S ++ N) h8 h9 := I9.offS fun p ep => List.mem_append_right _ (nka p ep)
          have nt9 : ∀ p, ka = some p → p.block ≠ t := fun p ep => by have := hN _ (nka p ep); omega
          have nr9 : ∀ p, ka = some p → p.block ≠ r := fun p ep => by have := hN _ (nka p ep); omega
          have x9 := x7'.offN O9 (I9.others t x7'.o.lt nt9) (I9.others r x7'.rlt nr9)
          replace M := M.insK hlow I9
          have Y9 : OffS [t, r] h h9 := ⟨Nat.le_trans Y8.1 I9.kept.1, fun b hb hn => by rw [I9.kept.2 b hb, Y8.2 b hb hn]⟩
          have o3 := M.on
          refine gA ?_
          refine blk_st (o := 0) (v := .slice ka' (d.keys.length + 1) kc') o3 (by simp) rfl ?_
          intro h10 f10 z10 o10
          replace M := M.cells f10 o10
          refine gA ?_
          have x10 := x9.offN (.of_off f10 bnT) (f10.2 t x9.o.lt (by omega)) (f10.2 r x9.rlt (by omega))
          have Y10 : OffS [t, r] h h10 := ⟨Nat.le_trans Y9.1 f10.1, fun b hb hn => by rw [f10.2 b (by have := Y9.1; omega) (by omega), Y9.2 b hb hn]⟩
          have e10 : cells3 ⟨insAt d.keys j bt, d.vals, K⟩ ka' kc' va vc ia' ic' = [.slice ka' (d.keys.length + 1) kc', .slice va d.vals.length vc, .slice ia' K.length ic'] := by simp only [cells3, insAt_length _ _ hlow]
          refine ⟨ka', kc', va, vc, ia', ic', ?_, M.fix sm8 hS, x10.less (fun b hb => List.mem_append_left _ hb) x.ts x.rs, Y10⟩
          rw [e10]; exact o10
        · have q4 : decide ((ids.length : Int) > 1) = false := decide_eq_false (by omega)
          simp only [if_neg hids2]
          have sm8 : NSmall ⟨d.keys, d.vals, K⟩ := ⟨sm.k, sm.v, (by show K.length ≤ 1048576; omega), sm.ks, sm.vs, hKi⟩
          refine gA ?_
          exact ⟨ka, kc, va, vc, ia', ic', o7, M.fix sm8 hS, x7.less (fun b hb => List.mem_append_left _ hb) x.ts x.rs, Y7⟩
      intro u h8
      rintro ⟨ka8, kc8, va8, vc8, ia8, ic8, o8, fx8, x8, Y8⟩
      have hkl : d.kids.length - 1 + ids.length = K.length := ekids
      have sm8 := fx8.rep.small
      have kl : (⟨if 1 < ids.length then insAt d.keys j bt else d.keys, d.vals, K⟩ : ND).keys.length + 1 = (⟨if 1 < ids.length then insAt d.keys j bt else d.keys, d.vals, K⟩ : ND).kids.length := by
        show (if 1 < ids.length then insAt d.keys j bt else d.keys).length + 1 = K.length
        split
        · rw [insAt_length _ _ hlow]; omega
        · omega
      have kn : (⟨if 1 < ids.length then insAt d.keys j bt else d.keys, d.vals, K⟩ : ND).kids ≠ [] := by
        show K ≠ []
        intro c; have c1 := congrArg List.length c; simp only [List.length_nil] at c1; omega
      generalize (⟨if 1 < ids.length then insAt d.keys j bt else d.keys, d.vals, K⟩ : ND) = d8 at *
      refine gN ?_
      refine HCall.mk ((halves_spec x8 (fun b hb => by have := hS b hb; have := Y8.1; omega) fx8 ok5 (by omega) (fun c => absurd c kn) (fun _ => kl)).mono ?_)
      rintro e h9 ⟨vb9, rfl, hvb9, pv9, x9, y9⟩
      refine gA ?_
      have hY8 := Y8.1
      exact ⟨⟨vb9, rfl, by omega, pv9, x9, Y8.trans y9⟩, sm8.bt⟩
end Go.Proofs.Ytljindmibfkhfaa.Hc
/- btree.Put. -/
set_option linter.unusedVariables false
set_option linter.unusedSimpArgs false
namespace Go.Proofs.Ytljindmibfkhfaa.Hc
open Go Go.H Go.Proofs
set_option maxRecDepth 100000
set_option maxHeartbeats 4000000
def putT (s : TS) (root : Int) (key val : ByteArray) : TS × Int :=
  if 1 < (putF 41 s root key val).2.1.length then mkF (putF 41 s root key val).1 ⟨[(putF 41 s root key val).2.2], [], (putF 41 s root key val).2.1⟩ else ((putF 41 s root key val).1, (putF 41 s root key val).2.1.headD 0)
theorem pl_blk {h : Heap} {b e : Nat} {cs : List Value} (x : h[b]? = some (.cells cs.toArray e (0, 0))) : BlkW h b e cs := ⟨(0, 0), x, fun j hj => by simp⟩
theorem pl_own {h : Heap} {B b e n : Nat} {cs : List Value} (x : h[b]? = some (.cells cs.toArray e (0, 0))) (hb : B ≤ b) (hn : cs.length = n) : Own h B e 1 (some ⟨b, 0, none⟩) n n cs := by
  subst hn; exact (pl_blk x).own hb
theorem Put_big {h : Heap} {t : Nat} {root : Int} {key val : ByteArray} (hk : key.size ≤ 1048576) (hv : val.size ≤ 1048576) (hc : 256 < key.size ∨ 1024 < val.size) :
    HCalls Try.prog 7 #[.pointer (some ⟨t, 0, none⟩), .int .i64 root, .string key, .string val] h fun e h' => e = .returned (.tuple #[.int .i64 0, .int .i64 190]) ∧ h' = h := by
  refine c7 (by simp) ?_
  by_cases hc1 : 256 < key.size
  · have q : decide ((key.size : Int) > 256) = true := decide_eq_true (by omega)
    refine gA ?_
    exact ⟨rfl, rfl⟩
  · have q : decide ((key.size : Int) > 256) = false := decide_eq_false (by omega)
    have q2 : decide ((val.size : Int) > 1024) = true := decide_eq_true (by omega)
    refine gA ?_
    exact ⟨rfl, rfl⟩
theorem Put_spec {S : List Nat} {h : Heap} {t r m : Nat} {s : TS} {root : Int} {key val : ByteArray} (x : TRp S h t r s) (hS : ∀ b ∈ S, b < h.size) (ok : TOk s m) (hm : m ≤ 1073741824) (hid : i64 root) (hk : key.size ≤ 256) (hv : val.size ≤ 1024) (path : PathOk 41 s.l root key) :
    HCalls Try.prog 7 #[.pointer (some ⟨t, 0, none⟩), .int .i64 root, .string key, .string val] h fun e h' =>
      e = .returned (.tuple #[.int .i64 (putT s root key val).2, .int .i64 0]) ∧ TRp S h' t r (putT s root key val).1 ∧ OffS [t, r] h h' := by
  have q : decide ((key.size : Int) > 256) = false := decide_eq_false (by omega)
  have q2 : decide ((val.size : Int) > 1024) = false := decide_eq_false (by omega)
  refine c7 (by simp) ?_
  refine gA ?_
  refine HCall.mk ?_
  refine (put_spec 41 0 rfl x hS ok (by omega) hid (by omega) (by omega) path).mono ?_
  have pok := putF_ok 41 s root key val m ok
  unfold putT
  generalize putF 41 s root key val = pf at pok ⊢
  obtain ⟨s', ids, bt⟩ := pf
  dsimp only at pok ⊢
  rintro e h1 ⟨⟨vb, rfl, hvb, pv, x1, y1⟩, hbt⟩
  obtain ⟨ok1, ⟨hl1, hl2⟩, hids⟩ := pok
  have hy := y1.1
  by_cases hi : 1 < ids.length
  · have q3 : decide ((ids.length : Int) > 1) = true := decide_eq_true (by omega)
    rw [if_pos hi]
    refine gA ?_
    refine new_plain [.string bt] rfl ?_
    intro h2 kb pk x2 z2 hkb
    have pv2 := pl_ext pv x2
    have sm : NSmall ⟨[bt], [], ids⟩ := ⟨by simp, by simp, by show ids.length ≤ 1048576; omega, by simpa using hbt, by simp, fun i hi => by
      rcases hids i hi with ⟨c, _⟩ | h1
      · cases c
      · unfold i64; omega⟩
    have fx : NFix h2 S ⟨[bt], [], ids⟩ (cells3 ⟨[bt], [], ids⟩ (some ⟨kb, 0, none⟩) 1 none 0 (some ⟨vb, 0, none⟩) ids.length) :=
      NFix.of (B := h.size) sm (pl_own pk (by omega) rfl) (Own.nil _ _ _ _) (pl_own pv2 hvb (by simp)) hS
    refine gA ?_
    refine HCall.mk ?_
    have hr := ok1.room
    have hr2 := ok1.2.2
    refine (make_spec (x1.ext x2) fx (by have := ok1.1; omega) (by omega)).mono ?_
    rintro e h3 ⟨rfl, x3, y3⟩
    refine gA ?_
    exact ⟨rfl, x3, (y1.trans (.of_ext x2)).trans y3⟩
  · have q3 : decide ((ids.length : Int) > 1) = false := decide_eq_false (by omega)
    rw [if_neg hi]
    obtain ⟨i, rfl⟩ : ∃ i, ids = [i] := by
      match ids, hl1, hi with
      | [i], _, _ => exact ⟨i, rfl⟩
      | [], h1, _ => simp at h1
      | _ :: _ :: _, _, h2 => simp at h2
    have ov := pl_blk pv
    refine gA ?_
    refine HIdx.mk 0 rfl (by simp) ?_
    refine ⟨⟨vb, 0, none⟩, rfl, ?_⟩
    refine gA ?_
    exact ⟨rfl, x1, y1⟩
end Go.Proofs.Ytljindmibfkhfaa.Hc
/- btree.Scan's two closures: what becomes of the pairs told so far. -/
set_option linter.unusedVariables false
set_option linter.unusedSimpArgs false
namespace Go.Proofs.Ytljindmibfkhfaa.Hc
open Go Go.H Go.Proofs
set_option maxRecDepth 100000
set_option maxHeartbeats 4000000
def cellsP (o : List Pr) : List Value := o.flatMap fun p => [.string p.1, .string p.2]
theorem cellsP_len (o : List Pr) : (cellsP o).length = o.length * 2 := by
  unfold cellsP
  induction o with
  | nil => rfl
  | cons p r ih => rw [List.flatMap_cons, List.length_append, ih, List.length_cons]; simp; omega
theorem cellsP_append (a b : List Pr) : cellsP (a ++ b) = cellsP a ++ cellsP b := by unfold cellsP; rw [List.flatMap_append]
theorem cellsP_one (o : List Pr) : ∀ v ∈ cellsP o, isOne v = true := by
  intro v hv
  unfold cellsP at hv
  obtain ⟨p, _, hv⟩ := List.mem_flatMap.1 hv
  simp only [List.mem_cons, List.not_mem_nil, or_false] at hv
  rcases hv with rfl | rfl <;> rfl
/-- Pairs told so far, in a variable; the array is in a block. -/
def OutR (B : Nat) (h : Heap) (bo : Nat) (ab : Option Nat) (o : List Pr) : Prop :=
  ∃ a c, BlkW h bo 31 [.slice a o.length c] ∧ Own h B 34 2 a o.length c (cellsP o) ∧ ab = a.map (·.block) ∧ ab ≠ some bo
/-- Nothing changes but some blocks and the array; a new array is new. -/
def Pass (C : List Nat) (ab ab' : Option Nat) (h h' : Heap) : Prop :=
  h.size ≤ h'.size ∧ (∀ b, b < h.size → b ∉ C → ab ≠ some b → h'[b]? = h[b]?) ∧ ∀ b, ab' = some b → ab = some b ∨ h.size ≤ b
theorem Pass.refl (C : List Nat) (ab : Option Nat) (h : Heap) : Pass C ab ab h h := ⟨Nat.le_refl _, fun _ _ _ _ => rfl, fun b e => .inl e⟩
theorem Pass.of_ext {C : List Nat} {ab : Option Nat} {h h' : Heap} (x : Ext h h') : Pass C ab ab h h' := ⟨x.1, fun b hb _ _ => x.2 b hb, fun b e => .inl e⟩
theorem Pass.of_off {C : List Nat} {ab : Option Nat} {k : Nat} {h h' : Heap} (x : Off k h h') (hk : k ∈ C ∨ h.size ≤ k) : Pass C ab ab h h' :=
  ⟨x.1, fun b hb hc _ => x.2 b hb (fun e => hk.elim (fun hm => hc (e ▸ hm)) (fun hm => by omega)), fun b e => .inl e⟩
theorem Pass.trans {C : List Nat} {a b c : Option Nat} {h h' h'' : Heap} (x : Pass C a b h h') (y : Pass C b c h' h'') : Pass C a c h h'' :=
  ⟨Nat.le_trans x.1 y.1, fun k hk hc hn => by
    rw [y.2.1 k (Nat.lt_of_lt_of_le hk x.1) hc (fun e => (x.2.2 k e).elim hn fun hm => by omega), x.2.1 k hk hc hn],
   fun k e => (y.2.2 k e).elim (fun e => x.2.2 k e) fun hm => .inr (Nat.le_trans x.1 hm)⟩
theorem Pass.mono {C D : List Nat} {a b : Option Nat} {h h' : Heap} (x : Pass C a b h h') (hc : ∀ k ∈ C, k ∈ D) : Pass D a b h h' := ⟨x.1, fun k hk hn => x.2.1 k hk fun hm => hn (hc k hm), x.2.2⟩
/-- What is off the way is as it was. -/
theorem Pass.of_set {C D : List Nat} {a b : Option Nat} {h h' : Heap} (x : Pass D a b h h') (hc : ∀ k ∈ D, k ∈ C ∨ h.size ≤ k) : Pass C a b h h' :=
  ⟨x.1, fun k hk hn => x.2.1 k hk fun hm => (hc k hm).elim hn fun h => by omega, x.2.2⟩
theorem Pass.blk {C : List Nat} {a b : Option Nat} {h h' : Heap} {k e : Nat} {cs : List Value} (x : Pass C a b h h') (o : BlkW h k e cs) (hc : k ∉ C) (ha : a ≠ some k) : BlkW h' k e cs := o.of (x.2.1 k o.lt hc ha)
theorem OutR.ext {B bo : Nat} {h h' : Heap} {ab : Option Nat} {o : List Pr} (x : OutR B h bo ab o) (k : Ext h h') : OutR B h' bo ab o :=
  let ⟨a, c, o1, w, e, n⟩ := x; ⟨a, c, o1.ext k, w.ext k, e, n⟩
theorem OutR.offk {B bo k : Nat} {h h' : Heap} {ab : Option Nat} {o : List Pr} (x : OutR B h bo ab o) (f : Off k h h') (hk : bo ≠ k) (ha : ab ≠ some k) : OutR B h' bo ab o :=
  let ⟨a, c, o1, w, e, n⟩ := x; ⟨a, c, o1.offk f hk, w.off f (fun p ep hp => ha (by rw [e, ep, ← hp]; rfl)), e, n⟩
theorem OutR.lt {B bo : Nat} {h : Heap} {ab : Option Nat} {o : List Pr} (x : OutR B h bo ab o) : bo < h.size ∧ ∀ b, ab = some b → B ≤ b ∧ b < h.size := by
  obtain ⟨a, c, o1, w, e, n⟩ := x
  refine ⟨o1.lt, fun b eb => ?_⟩
  cases a with
  | none => rw [e] at eb; cases eb
  | some p => rw [e] at eb; cases eb; exact w.lt p rfl
/-- One pair more. -/
theorem OutR.push {B bo : Nat} {h : Heap} {ab : Option Nat} {a : Option Addr} {o : List Pr} {p : Pr} {c : Nat} {K : Value → Heap → Prop} (hB : B ≤ h.size) (ol : o.length ≤ 4194304) (o1 : BlkW h bo 31 [.slice a o.length c]) (w : Own h B 34 2 a o.length c (cellsP o)) (e : ab = a.map (·.block)) (n : ab ≠ some bo)
    (k : ∀ h' a' c', BlkW h' bo 31 [.slice a o.length c] → Own h' B 34 2 a' (o.length + 1) c' (cellsP (o ++ [p])) → Pass [] ab (a'.map (·.block)) h h' → (∀ q, a' = some q → q.block ≠ bo) → K (.slice a' (o.length + 1) c') h') :
    HAppend h 34 2 32 [.string ⟨#[]⟩, .string ⟨#[]⟩] a o.length c [.string p.1, .string p.2] 1 K := by
  refine Own.append w (m := 1) hB rfl rfl (by intro v hv; simp only [List.mem_cons, List.not_mem_nil, or_false] at hv; rcases hv with rfl | rfl <;> rfl) (by omega) fun h' a' c' w' k1 k2 k3 => ?_
  have lb := o1.lt
  have hne : ∀ q, a = some q → q.block ≠ bo := fun q eq he => n (by rw [e, eq, ← he]; rfl)
  refine k h' a' c' (o1.of (k2 bo lb hne)) (by rw [cellsP_append]; exact w') ⟨k1.1, fun b hb _ hn => k2 b hb fun q eq he => hn (by rw [e, eq, ← he]; rfl), fun b eb => ?_⟩ fun q eq he => ?_
  · cases a' with
    | none => cases eb
    | some q =>
      cases eb
      rcases k3 q rfl with ⟨q0, e0, e1⟩ | hq
      · exact .inl (by rw [e, e0]; show some q0.block = some q.block; rw [e1])
      · exact .inr hq
  · rcases k3 q eq with ⟨q0, e0, e1⟩ | hq
    · exact hne q0 e0 (by omega)
    · omega
def stepR (op : Bool) (to : ByteArray) (most : Int) (p : Pr) (o : List Pr) : List Pr × Bool :=
  if op = false ∧ strLt p.1 to = false then (o, false) else (o ++ [p], decide ((o.length : Int) + 1 < most))
def stepB (from' : ByteArray) (op : Bool) (to : ByteArray) (most : Int) (p : Pr) (o : List Pr) : List Pr × Bool :=
  if strLt p.1 from' = true then (o, false) else if op = true ∨ strLt p.1 to = true then (o ++ [p], decide ((o.length : Int) + 1 < most)) else (o, decide ((o.length : Int) < most))
theorem scan2_spec {B bo b1 b2 b3 : Nat} {h : Heap} {ab : Option Nat} {o : List Pr} {op : Bool} {to : ByteArray} {most : Int} {p : Pr} (hB : B ≤ bo) (x : OutR B h bo ab o) (ol : o.length ≤ 4194304) (o1 : BlkW h b1 4 [.bool op]) (o2 : BlkW h b2 9 [.string to]) (o3 : BlkW h b3 3 [.int .i64 most])
    (n1 : b1 ≠ bo) (n2 : b2 ≠ bo) (n3 : b3 ≠ bo) (a1 : ab ≠ some b1) (a2 : ab ≠ some b2) (a3 : ab ≠ some b3) :
    HCalls Try.prog 18 #[.agg #[.string p.1, .string p.2], .pointer (some ⟨b1, 0, none⟩), .pointer (some ⟨b2, 0, none⟩), .pointer (some ⟨bo, 0, none⟩), .pointer (some ⟨b3, 0, none⟩)] h fun e h' =>
      ∃ ab', e = .returned (.bool (stepR op to most p o).2) ∧ OutR B h' bo ab' (stepR op to most p o).1 ∧ Pass [bo] ab ab' h h' := by
  obtain ⟨a, c, oo, w, ea, na⟩ := x
  have lbo := oo.lt
  refine c18 (by simp) ?_
  refine gA ?_
  refine new_var (e := 34) [.string p.1, .string p.2] rfl ?_
  intro h1 bp op1 x1 z1 hbp
  have o1 := o1.ext x1
  have o2 := o2.ext x1
  have o3 := o3.ext x1
  have oo := oo.ext x1
  have w := w.ext x1
  have hx1 := x1.1
  cases op
  · cases hs : strLt p.1 to
    · have eS : stepR false to most p o = (o, false) := by unfold stepR; rw [if_pos ⟨rfl, hs⟩]
      rw [eS]
      have q : (!strLt p.1 to) = true := by rw [hs]; rfl
      refine gA ?_
      exact ⟨ab, rfl, ⟨a, c, oo, w, ea, na⟩, .of_ext x1⟩
    · have eS : stepR false to most p o = (o ++ [p], decide ((o.length : Int) + 1 < most)) := by unfold stepR; rw [if_neg (by rw [hs]; simp)]
      rw [eS]
      have q : (!strLt p.1 to) = false := by rw [hs]; rfl
      refine gA ?_
      refine new_own (e := 34) 2 1 [.string p.1, .string p.2] rfl rfl ?_
      intro h4 b4 w4 x4 z4 hb4
      have o1 := o1.ext x4
      have o2 := o2.ext x4
      have o3 := o3.ext x4
      have oo := oo.ext x4
      have w := w.ext x4
      have hx4 := x4.1
      refine gA ?_
      refine w4.sl.cells ?_
      refine OutR.push (ab := ab) (p := p) (by omega) ol oo w ea na ?_
      intro h5 a5 c5 oo5 w5 y5 n5
      have hy5 := y5.1
      have o3 := y5.blk o3 (by simp) a3
      refine gA ?_
      refine store1_blk oo5 (by simp) rfl ?_
      intro h6 f6 z6 o6
      have o6 : BlkW h6 bo 31 [.slice a5 (o.length + 1) c5] := o6
      have o3 := o3.offk f6 n3
      have w6 := w5.off f6 n5
      refine gA ?_
      have o6 : BlkW h6 bo 31 [.slice a5 (o ++ [p]).length c5] := by rw [List.length_append]; exact o6
      have w6 : Own h6 B 34 2 a5 (o ++ [p]).length c5 (cellsP (o ++ [p])) := by rw [List.length_append]; exact w6
      refine ⟨a5.map (·.block), rfl, ⟨a5, c5, o6, w6, rfl, ?_⟩, ((Pass.of_ext (x1.trans x4)).trans (y5.mono (by simp))).trans (Pass.of_off f6 (.inl (by simp)))⟩
      cases a5 with
      | none => exact fun e => (nomatch e)
      | some q => intro e; exact n5 q rfl (Option.some.inj e)
  · have eS : stepR true to most p o = (o ++ [p], decide ((o.length : Int) + 1 < most)) := by unfold stepR; rw [if_neg (by simp)]
    rw [eS]
    refine gA ?_
    refine new_own (e := 34) 2 1 [.string p.1, .string p.2] rfl rfl ?_
    intro h4 b4 w4 x4 z4 hb4
    have o1 := o1.ext x4
    have o2 := o2.ext x4
    have o3 := o3.ext x4
    have oo := oo.ext x4
    have w := w.ext x4
    have hx4 := x4.1
    refine gA ?_
    refine w4.sl.cells ?_
    refine OutR.push (ab := ab) (p := p) (by omega) ol oo w ea na ?_
    intro h5 a5 c5 oo5 w5 y5 n5
    have hy5 := y5.1
    have o3 := y5.blk o3 (by simp) a3
    refine gA ?_
    refine store1_blk oo5 (by simp) rfl ?_
    intro h6 f6 z6 o6
    have o6 : BlkW h6 bo 31 [.slice a5 (o.length + 1) c5] := o6
    have o3 := o3.offk f6 n3
    have w6 := w5.off f6 n5
    refine gA ?_
    have o6 : BlkW h6 bo 31 [.slice a5 (o ++ [p]).length c5] := by rw [List.length_append]; exact o6
    have w6 : Own h6 B 34 2 a5 (o ++ [p]).length c5 (cellsP (o ++ [p])) := by rw [List.length_append]; exact w6
    refine ⟨a5.map (·.block), rfl, ⟨a5, c5, o6, w6, rfl, ?_⟩, ((Pass.of_ext (x1.trans x4)).trans (y5.mono (by simp))).trans (Pass.of_off f6 (.inl (by simp)))⟩
    cases a5 with
    | none => exact fun e => (nomatch e)
    | some q => intro e; exact n5 q rfl (Option.some.inj e)
theorem scan1_spec {B bo b0 b1 b2 b3 : Nat} {h : Heap} {ab : Option Nat} {o : List Pr} {op : Bool} {fr to : ByteArray} {most : Int} {p : Pr} (hB : B ≤ bo) (x : OutR B h bo ab o) (ol : o.length ≤ 4194304) (o0 : BlkW h b0 9 [.string fr]) (o1 : BlkW h b1 4 [.bool op]) (o2 : BlkW h b2 9 [.string to]) (o3 : BlkW h b3 3 [.int .i64 most])
    (n1 : b1 ≠ bo) (n2 : b2 ≠ bo) (n3 : b3 ≠ bo) (a1 : ab ≠ some b1) (a2 : ab ≠ some b2) (a3 : ab ≠ some b3) :
    HCalls Try.prog 16 #[.agg #[.string p.1, .string p.2], .pointer (some ⟨b0, 0, none⟩), .pointer (some ⟨b1, 0, none⟩), .pointer (some ⟨b2, 0, none⟩), .pointer (some ⟨bo, 0, none⟩), .pointer (some ⟨b3, 0, none⟩)] h fun e h' =>
      ∃ ab', e = .returned (.bool (stepB fr op to most p o).2) ∧ OutR B h' bo ab' (stepB fr op to most p o).1 ∧ Pass [bo] ab ab' h h' := by
  obtain ⟨a, c, oo, w, ea, na⟩ := x
  have lbo := oo.lt
  refine c16 (by simp) ?_
  refine gA ?_
  refine new_var (e := 34) [.string p.1, .string p.2] rfl ?_
  intro h1 bp op1 x1 z1 hbp
  have o0 := o0.ext x1
  have o1 := o1.ext x1
  have o2 := o2.ext x1
  have o3 := o3.ext x1
  have oo := oo.ext x1
  have w := w.ext x1
  have hx1 := x1.1
  cases hf : strLt p.1 fr
  · cases op
    · cases hs : strLt p.1 to
      · have eS : stepB fr false to most p o = (o, decide ((o.length : Int) < most)) := by unfold stepB; rw [if_neg (by rw [hf]; simp), if_neg (by rw [hs]; simp)]
        rw [eS]
        refine gA ?_
        exact ⟨ab, rfl, ⟨a, c, oo, w, ea, na⟩, .of_ext x1⟩
      · have eS : stepB fr false to most p o = (o ++ [p], decide ((o.length : Int) + 1 < most)) := by unfold stepB; rw [if_neg (by rw [hf]; simp), if_pos (.inr hs)]
        rw [eS]
        refine gA ?_
        refine new_own (e := 34) 2 1 [.string p.1, .string p.2] rfl rfl ?_
        intro h4 b4 w4 x4 z4 hb4
        have o1 := o1.ext x4
        have o2 := o2.ext x4
        have o3 := o3.ext x4
        have oo := oo.ext x4
        have w := w.ext x4
        have hx4 := x4.1
        refine gA ?_
        refine w4.sl.cells ?_
        refine OutR.push (ab := ab) (p := p) (by omega) ol oo w ea na ?_
        intro h5 a5 c5 oo5 w5 y5 n5
        have hy5 := y5.1
        have o3 := y5.blk o3 (by simp) a3
        refine gA ?_
        refine store1_blk oo5 (by simp) rfl ?_
        intro h6 f6 z6 o6
        have o6 : BlkW h6 bo 31 [.slice a5 (o.length + 1) c5] := o6
        have o3 := o3.offk f6 n3
        have w6 := w5.off f6 n5
        refine gA ?_
        have o6 : BlkW h6 bo 31 [.slice a5 (o ++ [p]).length c5] := by rw [List.length_append]; exact o6
        have w6 : Own h6 B 34 2 a5 (o ++ [p]).length c5 (cellsP (o ++ [p])) := by rw [List.length_append]; exact w6
        refine ⟨a5.map (·.block), rfl, ⟨a5, c5, o6, w6, rfl, ?_⟩, ((Pass.of_ext (x1.trans x4)).trans (y5.mono (by simp))).trans (Pass.of_off f6 (.inl (by simp)))⟩
        cases a5 with
        | none => exact fun e => (nomatch e)
        | some q => intro e; exact n5 q rfl (Option.some.inj e)
    · have eS : stepB fr true to most p o = (o ++ [p], decide ((o.length : Int) + 1 < most)) := by unfold stepB; rw [if_neg (by rw [hf]; simp), if_pos (.inl rfl)]
      rw [eS]
      refine gA ?_
      refine new_own (e := 34) 2 1 [.string p.1, .string p.2] rfl rfl ?_
      intro h4 b4 w4 x4 z4 hb4
      have o1 := o1.ext x4
      have o2 := o2.ext x4
      have o3 := o3.ext x4
      have oo := oo.ext x4
      have w := w.ext x4
      have hx4 := x4.1
      refine gA ?_
      refine w4.sl.cells ?_
      refine OutR.push (ab := ab) (p := p) (by omega) ol oo w ea na ?_
      intro h5 a5 c5 oo5 w5 y5 n5
      have hy5 := y5.1
      have o3 := y5.blk o3 (by simp) a3
      refine gA ?_
      refine store1_blk oo5 (by simp) rfl ?_
      intro h6 f6 z6 o6
      have o6 : BlkW h6 bo 31 [.slice a5 (o.length + 1) c5] := o6
      have o3 := o3.offk f6 n3
      have w6 := w5.off f6 n5
      refine gA ?_
      have o6 : BlkW h6 bo 31 [.slice a5 (o ++ [p]).length c5] := by rw [List.length_append]; exact o6
      have w6 : Own h6 B 34 2 a5 (o ++ [p]).length c5 (cellsP (o ++ [p])) := by rw [List.length_append]; exact w6
      refine ⟨a5.map (·.block), rfl, ⟨a5, c5, o6, w6, rfl, ?_⟩, ((Pass.of_ext (x1.trans x4)).trans (y5.mono (by simp))).trans (Pass.of_off f6 (.inl (by simp)))⟩
      cases a5 with
      | none => exact fun e => (nomatch e)
      | some q => intro e; exact n5 q rfl (Option.some.inj e)
  · have eS : stepB fr op to most p o = (o, false) := by unfold stepB; rw [if_pos hf]
    rw [eS]
    refine gA ?_
    exact ⟨ab, rfl, ⟨a, c, oo, w, ea, na⟩, .of_ext x1⟩
end Go.Proofs.Ytljindmibfkhfaa.Hc
/- btree.walker.rising: pairs told, rising. -/
set_option linter.unusedVariables false
set_option linter.unusedSimpArgs false
namespace Go.Proofs.Ytljindmibfkhfaa.Hc
open Go Go.H Go.Proofs
set_option maxRecDepth 100000
set_option maxHeartbeats 4000000
def run (step : Pr → List Pr → List Pr × Bool) : List Pr → List Pr → List Pr × Bool
  | [], o => (o, true)
  | p :: r, o => if (step p o).2 = true then run step r (step p o).1 else ((step p o).1, false)
theorem run_append (step : Pr → List Pr → List Pr × Bool) : ∀ (a b : List Pr) (o : List Pr), run step (a ++ b) o = if (run step a o).2 = true then run step b (run step a o).1 else ((run step a o).1, false)
  | [], b, o => rfl
  | p :: r, b, o => by
    simp only [List.cons_append, run]
    split
    · exact run_append step r b _
    · rfl
theorem run_len {step : Pr → List Pr → List Pr × Bool} (hs : ∀ p o, (step p o).1.length ≤ o.length + 1) : ∀ (l o : List Pr), (run step l o).1.length ≤ o.length + l.length
  | [], o => by simp [run]
  | p :: r, o => by
    have := hs p o
    simp only [run, List.length_cons]
    split
    · have := run_len hs r (step p o).1; omega
    · show (step p o).1.length ≤ _; omega
/-- To whom pairs are told. -/
structure Teller (B bo bw : Nat) (CB : List Nat) (fn : FuncId) (caps : List Value) (step : Pr → List Pr → List Pr × Bool) (Q : Heap → Prop) : Prop where
  tells : ∀ h o ab p, Q h → OutR B h bo ab o → o.length ≤ 4194304 → (∀ k ∈ CB, ab ≠ some k) → HCalls Try.prog fn (.agg #[.string p.1, .string p.2] :: caps).toArray h fun e h' => ∃ ab', e = .returned (.bool (step p o).2) ∧ OutR B h' bo ab' (step p o).1 ∧ Pass [bo] ab ab' h h'
  stay : ∀ h h', Q h → (∀ k ∈ CB, h'[k]? = h[k]?) → Q h'
  lt : ∀ h, Q h → ∀ k ∈ CB, k < h.size
  off : ∀ k ∈ CB, k ≠ bo ∧ k ≠ bw
  goes : goesIn Try.prog fn = true
  one : ∀ p o, (step p o).1.length ≤ o.length + 1
  hB : B ≤ bo ∧ B ≤ bw ∧ bo ≠ bw
/-- The world in a walk. -/
structure Going (S : List Nat) (h0 : Heap) (t r : Nat) (s : TS) (bo bw : Nat) (CB : List Nat) (fn : FuncId) (caps : List Value) (Q : Heap → Prop) (h : Heap) (ab : Option Nat) (o : List Pr) (left : Nat) : Prop where
  ext : Ext h0 h
  out : OutR h0.size h bo ab o
  wk : BlkW h bw 56 [.pointer (some ⟨t, 0, none⟩), .int .i64 left, .func (.func fn) #[] caps.toArray]
  q : Q h
  nw : ab ≠ some bw
  nc : ∀ k ∈ CB, ab ≠ some k
section
variable {S : List Nat} {h0 : Heap} {t r : Nat} {s : TS} {bo bw : Nat} {CB : List Nat} {fn : FuncId} {caps : List Value} {step : Pr → List Pr → List Pr × Bool} {Q : Heap → Prop}
theorem Going.grow {h h' : Heap} {ab : Option Nat} {o : List Pr} {left : Nat} (T : Teller h0.size bo bw CB fn caps step Q) (g : Going S h0 t r s bo bw CB fn caps Q h ab o left) (x : Ext h h') : Going S h0 t r s bo bw CB fn caps Q h' ab o left :=
  ⟨g.ext.trans x, g.out.ext x, g.wk.ext x, T.stay _ _ g.q fun k hk => x.2 k (T.lt _ g.q k hk), g.nw, g.nc⟩
theorem Going.offk {h h' : Heap} {ab : Option Nat} {o : List Pr} {left k : Nat} (T : Teller h0.size bo bw CB fn caps step Q) (g : Going S h0 t r s bo bw CB fn caps Q h ab o left) (f : Off k h h') (hk : h0.size ≤ k) (nbo : bo ≠ k) (nbw : bw ≠ k) (nab : ab ≠ some k) (ncb : k ∉ CB) : Going S h0 t r s bo bw CB fn caps Q h' ab o left :=
  ⟨g.ext.offNew f hk, g.out.offk f nbo nab, g.wk.offk f nbw, T.stay _ _ g.q fun j hj => f.2 j (T.lt _ g.q j hj) (fun e => ncb (e ▸ hj)), g.nw, g.nc⟩
theorem Going.tell {h : Heap} {ab : Option Nat} {o : List Pr} {left : Nat} (T : Teller h0.size bo bw CB fn caps step Q) (g : Going S h0 t r s bo bw CB fn caps Q h ab o left) (p : Pr) (ol : o.length ≤ 4194304) :
    HCalls Try.prog fn (.agg #[.string p.1, .string p.2] :: caps).toArray h fun e h' => ∃ ab', e = .returned (.bool (step p o).2) ∧ Going S h0 t r s bo bw CB fn caps Q h' ab' (step p o).1 left ∧ Pass [bo, bw] ab ab' h h' := by
  refine (T.tells h o ab p g.q g.out ol g.nc).mono ?_
  rintro e h' ⟨ab', rfl, out', y⟩
  have hbo := g.out.lt.1
  have hbw := g.wk.lt
  refine ⟨ab', rfl, ⟨⟨Nat.le_trans g.ext.1 y.1, fun b hb => ?_⟩, out', y.blk g.wk (by simp; exact Ne.symm T.hB.2.2) g.nw, T.stay _ _ g.q fun k hk => y.2.1 k (T.lt _ g.q k hk) (by simp; exact (T.off k hk).1) (g.nc k hk), fun e => ?_, fun k hk e => ?_⟩, y.mono (by simp)⟩
  · rw [y.2.1 b (Nat.lt_of_lt_of_le hb g.ext.1) ?_ ?_, g.ext.2 b hb]
    · have := T.hB.1; simp; omega
    · intro e; have := (g.out.lt.2 b e).1; omega
  · rcases y.2.2 _ e with e | hl
    · exact g.nw e
    · omega
  · rcases y.2.2 _ e with e | hl
    · exact g.nc k hk e
    · have := T.lt _ g.q k hk; omega
theorem TRp.look0 (x0 : TRp S h0 t r s) {h : Heap} (X : Ext h0 h) (i : Int) {K : Array MapEntry → Nat → Option (Nat × Value) → Prop}
    (k : ∀ es clock f cs, NFix h0 S (nodeOf s.l i) cs → lookRes false (.agg #[.slice none 0 0, .slice none 0 0, .slice none 0 0]) f = .agg cs.toArray → K es clock f) : HMapF h r (.int .i64) (.int .i64 i) K := by
  obtain ⟨L, m, e, n⟩ := x0.m
  have hg := getA_pure i L
  rw [e] at hg
  refine (m.ext X).look keyOk_int i (fun hn es clock => k es clock none [.slice none 0 0, .slice none 0 0, .slice none 0 0] ?_ rfl) (fun v hv es clock j => k es clock (some (j, veN v)) v.2 ?_ rfl)
  · have hd : nodeOf s.l i = ndE := by unfold nodeOf; rw [hg, hn]; rfl
    rw [hd]; exact fun h' _ => ndE_rep h'
  · have hd : nodeOf s.l i = v.1 := by unfold nodeOf; rw [hg, hv]; rfl
    rw [hd]; exact n _ (getA_mem hv)
end
/-- Of kids: the first one from a key on, the others wholly. -/
def rk (key : ByteArray) : List BT → List Pr
  | [] => []
  | t :: r => riseT key t ++ toLs r
theorem riseK_drop (key : ByteArray) : ∀ (c : Nat) (l : List BT), riseK key c l = rk key (l.drop c)
  | 0, [] => rfl
  | c + 1, [] => rfl
  | 0, t :: r => rfl
  | c + 1, t :: r => by simp only [riseK, List.drop_succ_cons]; exact riseK_drop key c r
theorem rk_take (key : ByteArray) {l : List BT} {i : Nat} (hi : i < l.length) : rk key (l.take (i + 1)) = rk key (l.take i) ++ (if i = 0 then riseT key l[i] else toL l[i]) := by
  cases l with
  | nil => simp at hi
  | cons t r =>
    cases i with
    | zero => simp [rk, toLs]
    | succ i =>
      have hi' : i < r.length := by simpa using hi
      simp only [List.take_succ_cons, rk, List.getElem_cons_succ, if_neg (Nat.succ_ne_zero i), List.append_assoc]
      rw [List.take_add_one, List.getElem?_eq_getElem hi', Option.toList_some, toLs_append]
      simp [toLs]
theorem run_stop {step : Pr → List Pr → List Pr × Bool} {a b : List Pr} {o : List Pr} (h : (run step a o).2 = false) : run step (a ++ b) o = ((run step a o).1, false) := by
  rw [run_append, h]; rfl
theorem run_on {step : Pr → List Pr → List Pr × Bool} {a b : List Pr} {o : List Pr} (h : (run step a o).2 = true) : run step (a ++ b) o = run step b (run step a o).1 := by
  rw [run_append, if_pos h]
theorem rise_none {lo hi : Option ByteArray} {T : BT} (h : Ord lo hi T) : riseT noT T = toL T := by rw [rise_law T h, fromP_none]
theorem hold_at {l : Nodes} : ∀ {kids : List BT}, HoldL l kids → ∀ {i : Nat} (hi : i < kids.length), Hold l kids[i]
  | [], _, i, hi => by simp at hi
  | t :: r, h, 0, hi => h.1
  | t :: r, h, i + 1, hi => hold_at (kids := r) h.2 (by simpa using hi)
theorem ord_at : ∀ {lo hi : Option ByteArray} {ks : List ByteArray} {kids : List BT}, OrdL lo hi ks kids → ∀ {i : Nat} (hi' : i < kids.length), ∃ lo' hi'', Ord lo' hi'' kids[i]
  | lo, hi, _, [], h, i, hi' => by simp at hi'
  | lo, hi, [], t :: r, h, i, hi' => by
    simp only [OrdL] at h
    obtain ⟨rfl, h⟩ := h
    have : i = 0 := by simp at hi'; omega
    subst this
    exact ⟨lo, hi, h⟩
  | lo, hi, k :: ks, t :: r, h, 0, hi' => ⟨_, _, h.2.2.1⟩
  | lo, hi, k :: ks, t :: r, h, i + 1, hi' => ord_at (kids := r) h.2.2.2 (by simpa using hi')
theorem idsL_at : ∀ {kids : List BT} {i : Nat} (hi : i < kids.length), (idsT kids[i]).length ≤ (idsL kids).length
  | [], i, hi => by simp at hi
  | t :: r, 0, hi => by simp [idsL]
  | t :: r, i + 1, hi => by
    have := idsL_at (kids := r) (i := i) (by simpa using hi)
    simp only [List.getElem_cons_succ, idsL, List.length_append]; omega
theorem idsL_take {kids : List BT} {i : Nat} (hi : i < kids.length) : (idsL (kids.take (i + 1))).length = (idsL (kids.take i)).length + (idsT kids[i]).length := by
  rw [List.take_add_one, List.getElem?_eq_getElem hi, Option.toList_some, idsL_append]
  simp [idsL]
theorem idsL_take_le (kids : List BT) (i : Nat) : (idsL (kids.take i)).length ≤ (idsL kids).length := by
  have := congrArg (fun l => (idsL l).length) (List.take_append_drop i kids)
  simp only [idsL_append, List.length_append] at this
  omega
theorem idsL_drop_le (kids : List BT) (i : Nat) : (idsL (kids.drop i)).length ≤ (idsL kids).length := by
  have := congrArg (fun l => (idsL l).length) (List.take_append_drop i kids)
  simp only [idsL_append, List.length_append] at this
  omega
theorem idsT_len (T : BT) : 1 ≤ (idsT T).length := by cases T; simp [idsT]
theorem fromP_len (key : ByteArray) (l : List Pr) : (fromP key l).length ≤ l.length := List.length_filter_le _ _
theorem riseT_len {key : ByteArray} {lo hi : Option ByteArray} {T : BT} (h : Ord lo hi T) : (riseT key T).length ≤ (toL T).length := by rw [rise_law T h]; exact fromP_len _ _
theorem toLs_take {kids : List BT} {i : Nat} (hi : i < kids.length) : (toLs (kids.take (i + 1))).length = (toLs (kids.take i)).length + (toL kids[i]).length := by
  rw [List.take_add_one, List.getElem?_eq_getElem hi, Option.toList_some, toLs_append]
  simp [toLs]
theorem toLs_take_le (kids : List BT) (i : Nat) : (toLs (kids.take i)).length ≤ (toLs kids).length := by
  have := congrArg (fun l => (toLs l).length) (List.take_append_drop i kids)
  simp only [toLs_append, List.length_append] at this
  omega
theorem rk_len {key : ByteArray} {l : List BT} (h : ∀ (i : Nat) (hi : i < l.length), ∃ lo hi', Ord lo hi' l[i]) : (rk key l).length ≤ (toLs l).length := by
  cases l with
  | nil => simp [rk, toLs]
  | cons t r =>
    obtain ⟨lo, hi, o⟩ := h 0 (by simp)
    have := riseT_len (key := key) o
    simp only [List.getElem_cons_zero] at this
    simp only [rk, toLs, List.length_append]; omega
theorem rk_split (key : ByteArray) {l : List BT} {i : Nat} (hi : i < l.length) : rk key l = rk key (l.take (i + 1)) ++ toLs (l.drop (i + 1)) := by
  cases l with
  | nil => simp at hi
  | cons t r =>
    simp only [List.take_succ_cons, List.drop_succ_cons, rk, List.append_assoc, ← toLs_append, List.take_append_drop]
theorem fromP_take (key : ByteArray) {l : List Pr} {j : Nat} (hj : j < l.length) : fromP key (l.take (j + 1)) = fromP key (l.take j) ++ (if strLe key l[j].1 = true then [l[j]] else []) := by
  rw [List.take_add_one, List.getElem?_eq_getElem hj, Option.toList_some, fromP_append]
  congr 1
  unfold fromP
  rw [List.filter_cons, List.filter_nil]
theorem fromP_split (key : ByteArray) (l : List Pr) (j : Nat) : fromP key l = fromP key (l.take j) ++ fromP key (l.drop j) := by rw [← fromP_append, List.take_append_drop]
end Go.Proofs.Ytljindmibfkhfaa.Hc
/- btree.walker.rising: the walk. -/
set_option linter.unusedVariables false
set_option linter.unusedSimpArgs false
namespace Go.Proofs.Ytljindmibfkhfaa.Hc
open Go Go.H Go.Proofs
set_option maxRecDepth 100000
set_option maxHeartbeats 40000000
section
variable {S : List Nat} {h0 : Heap} {t r : Nat} {s : TS} {bo bw : Nat} {CB : List Nat} {fn : FuncId} {caps : List Value} {step : Pr → List Pr → List Pr × Bool} {Q : Heap → Prop}
/-- What a walk leaves. -/
def Walked (S : List Nat) (h0 : Heap) (t r : Nat) (s : TS) (bo bw : Nat) (CB : List Nat) (fn : FuncId) (caps : List Value) (Q : Heap → Prop) (h h' : Heap) (ab : Option Nat) (left n : Nat) (e : Ending) (res : List Pr × Bool) : Prop :=
  ∃ ab' left', e = .returned (.bool res.2) ∧ Going S h0 t r s bo bw CB fn caps Q h' ab' res.1 left' ∧ Pass [bo, bw] ab ab' h h' ∧ (res.2 = true → left ≤ left' + n) ∧ left' ≤ left
theorem rising_spec (Tl : Teller h0.size bo bw CB fn caps step Q) (x0 : TRp S h0 t r s) : ∀ (n : Nat) (T : BT) (lo hi : Option ByteArray), (idsT T).length ≤ n → Ord lo hi T → Hold s.l T → ∀ (key : ByteArray) (h : Heap) (ab : Option Nat) (o : List Pr) (left : Nat),
    Going S h0 t r s bo bw CB fn caps Q h ab o left → (idsT T).length ≤ left → left ≤ 1073741824 → o.length + (toL T).length ≤ 4194304 →
    HCalls Try.prog 19 #[.pointer (some ⟨bw, 0, none⟩), .int .i64 T.id, .string key] h fun e h' => Walked S h0 t r s bo bw CB fn caps Q h h' ab left (idsT T).length e (run step (riseT key T) o) := by
  intro n
  induction n with
  | zero => intro T lo hi hn; have := idsT_len T; omega
  | succ n ih =>
  intro T lo hi hn hord hhold key h ab o left g hl hl2 ho
  cases T with
  | mk id ks vs kids =>
  simp only [Hold] at hhold
  obtain ⟨hd, hhk⟩ := hhold
  have hids : (idsT (.mk id ks vs kids)).length = (idsL kids).length + 1 := by simp [idsT]
  rw [hids] at hn hl
  have nB := Tl.hB
  have wk := g.wk
  have ol := g.out.lt
  have wl := wk.lt
  have q : ((left : Int) == 0) = false := beq_eq_false_iff_ne.2 (by omega)
  have rT : riseT key (.mk id ks vs kids) = rk key (kids.drop (childN ks key)) ++ fromP key (ks.zip vs) := by simp only [riseT, riseK_drop]
  have tT : toL (.mk id ks vs kids) = toLs kids ++ ks.zip vs := by simp only [toL]
  rw [tT] at ho
  rw [rT, hids]
  clear rT tT
  refine c19 (by simp) ?_
  refine gA ?_
  refine blk_st (o := 1) (v := .int .i64 ((left : Int) - 1)) wk (by simp) rfl ?_
  intro h1 f1 z1 o1
  have el : (left : Int) - 1 = ((left - 1 : Nat) : Int) := by omega
  rw [el] at o1
  have g1 : Going S h0 t r s bo bw CB fn caps Q h1 ab o (left - 1) :=
    ⟨g.ext.offNew f1 nB.2.1, g.out.offk f1 nB.2.2 g.nw, o1, Tl.stay _ _ g.q fun j hj => f1.2 j (Tl.lt _ g.q j hj) (Tl.off j hj).2, g.nw, g.nc⟩
  have y1 : Pass [bo, bw] ab ab h h1 := Pass.of_off f1 (.inl (by simp))
  have wk := g1.wk
  have ot := (x0.ext g1.ext).o
  refine gB ?_
  refine x0.look0 g1.ext id fun es clock f cs fx hf => ?_
  generalize hdd : nodeOf s.l id = d at hd fx
  obtain ⟨_, _, _, _, _, _, ka, kc, va, vc, ia, ic, rfl, _⟩ := fx.rep
  rw [hf]
  refine gA ?_
  refine new_var (e := 41) [.slice none 0 0, .slice none 0 0, .slice none 0 0] rfl ?_
  intro h1' bn o2 x2' z2 hbn
  refine gA ?_
  refine store_blk o2 (by simp) (by simp [isOne]) ?_
  intro h2 f3 z3 o3
  have on : BlkW h2 bn 41 (cells3 d ka kc va vc ia ic) := by simpa using o3
  have x2 : Ext h1 h2 := x2'.offNew f3 (by omega)
  have hbn : h1.size ≤ bn := by omega
  clear o2 o3
  have g2 := g1.grow Tl x2
  have y2 : Pass [bo, bw] ab ab h h2 := y1.trans (.of_ext x2)
  have sls := fx.sls (.of_ext g2.ext)
  have rn := fx.rep.ext g2.ext
  have sm := fx.rep.small
  have skl := sm.k
  have svl := sm.v
  have sil := sm.i
  have hcl : childN d.keys key ≤ d.keys.length := childN_le d.keys key
  have ek : d.keys = ks := by rw [hd]
  have ev : d.vals = vs := by rw [hd]
  have ei : d.kids = kids.map BT.id := by rw [hd]
  have eil : d.kids.length = kids.length := by rw [ei, List.length_map]
  generalize hc : min (childN d.keys key) d.kids.length = c
  have hc' : c ≤ d.kids.length := by omega
  have wn := on.lt
  refine gB ?_
  have hgl := g.out.lt.2
  have hz1 := f1.1
  have nbn : bn ∉ [bo, bw] := by simp; omega
  have nab4 : ∀ h4 ab4, Pass [bo, bw] ab ab4 h2 h4 → ab4 ≠ some bn := by
    intro h4 ab4 y e
    rcases y.2.2 bn e with e | hl
    · have := (hgl bn e).2; omega
    · omega
  generalize hkl : kids.drop (childN ks key) = kl
  have hkll : kl.length = d.kids.length - c := by rw [← hkl, List.length_drop, ← ek]; omega
  have hkid : (idsL kl).length ≤ (idsL kids).length := by rw [← hkl]; exact idsL_drop_le _ _
  have hkd : d.kids.drop c = kl.map BT.id := by
    rw [← hkl, ei, ← List.map_drop, ← hc, ek]
    congr 1
    by_cases hlt : childN ks key ≤ kids.length
    · rw [Nat.min_eq_left (by omega)]
    · rw [List.drop_eq_nil_of_le (by omega), List.drop_eq_nil_of_le (by omega)]
  have hkn : vs ≠ [] → kl = [] := by
    intro hv
    cases kids with
    | nil => rw [← hkl]; simp
    | cons a b => simp only [Ord] at hord; exact absurd hord.1 hv
  have hat : ∀ (i : Nat) (hi' : i < kl.length), (∃ lo hi, Ord lo hi kl[i]) ∧ Hold s.l kl[i] := by
    intro i hi'
    have hlt : childN ks key + i < kids.length := by rw [← hkl, List.length_drop] at hi'; omega
    have e : kl[i] = kids[childN ks key + i] := by simp only [← hkl, List.getElem_drop]
    rw [e]
    refine ⟨?_, hold_at hhk hlt⟩
    cases kids with
    | nil => simp at hlt
    | cons a b => simp only [Ord] at hord; exact ord_at hord.2 hlt
  have hto : (toLs kl).length ≤ (toLs kids).length := by
    rw [← hkl]
    have := congrArg (fun l => (toLs l).length) (List.take_append_drop (childN ks key) kids)
    simp only [toLs_append, List.length_append] at this
    omega
  rw [List.length_append] at ho
  refine cut_rule [2] (fun us h' => ∃ key' ab' left', us = [.string key'] ∧ (vs ≠ [] → key' = key) ∧ Going S h0 t r s bo bw CB fn caps Q h' ab' (run step (rk key kl) o).1 left' ∧ Pass [bo, bw] ab ab' h2 h' ∧ (run step (rk key kl) o).2 = true ∧ left ≤ left' + ((idsL kl).length + 1) ∧ left' ≤ left ∧ BlkW h' bn 41 (cells3 d ka kc va vc ia ic)) rfl ?_ ?_
  · refine gB ?_
    refine cut_rule [42, 43, 44] (fun vs h' => vs = [.slice (ia.map fun p => movedTo p ic c 1) kl.length (ic - c), .int .i64 ((kl.length : Nat) : Int), .int .i64 0] ∧ Ext h2 h') rfl ?_ ?_
    · have X := Ext.refl h2
      refine gN ?_
      repeat' (first
        | ((with_reducible refine HAlt.mk ?_ ?_) <;> refine gN ?_)
        | (refine HCall.mk ?_; refine (childN_spec key (rn.ext X)).mono ?_; rintro e h3 ⟨rfl, x3⟩; have X := X.trans x3; have on := on.ext x3; refine gN ?_))
      all_goals
        refine HBound.mk c (by show (if (d.kids.length : Int) < ((childN d.keys key : Nat) : Int) then (d.kids.length : Int) else ((childN d.keys key : Nat) : Int)) = (c : Int); split <;> omega) (by omega) ?_
        refine gN ?_
        exact ⟨by rw [hkll]; rfl, X⟩
    intro u h3 v42 v43 v44
    rintro ⟨e, x3⟩
    cases e
    have g3 := g2.grow Tl x3
    have y3 : Pass [bo, bw] ab ab h2 h3 := .of_ext x3
    have on3 := on.ext x3
    have kidsl : ∀ h', Ext h0 h' → Sl h' 1 (ia.map fun p => movedTo p ic c 1) kl.length (ic - c) ((kl.map BT.id).map (.int .i64)) := by
      intro h' X
      rw [hkll, ← hkd]; exact Sl.cutFrom (fx.sls (.of_ext X)).2.2 hc'
    clear rn sls
    refine gA ?_
    refine loop_rule [44, 2] (fun us h' => ∃ (i : Nat) (key' : ByteArray) (ab' : Option Nat) (left' : Nat), us = [.int .i64 i, .string key'] ∧ i ≤ kl.length ∧ (i ≤ 1 → key' = key) ∧ (2 ≤ i → key' = noT) ∧
      Going S h0 t r s bo bw CB fn caps Q h' ab' (run step (rk key (kl.take i)) o).1 left' ∧ Pass [bo, bw] ab ab' h2 h' ∧ (run step (rk key (kl.take i)) o).2 = true ∧ left ≤ left' + ((idsL (kl.take i)).length + 1) ∧ left' ≤ left ∧ BlkW h' bn 41 (cells3 d ka kc va vc ia ic))
      (fun us _ => match us with | [.int _ i, _] => kl.length - i.toNat | _ => 0) rfl ?_ ?_
    · exact ⟨0, key, ab, left - 1, rfl, by omega, fun _ => rfl, fun h => by omega, by simpa [rk, run] using g3, y3, by simp [rk, run], by simp [idsL]; omega, by omega, on3⟩
    intro u h4 v44 v2
    rintro ⟨i, key', ab4, left4, e, hi, hk1, hk2, g4, y4, rt4, hl4, hl5, on4⟩
    cases e
    refine gA ?_
    refine HIf.mk (fun hlt => ?_) (fun hlt => ?_)
    · have hi1 : i < kl.length := by have := of_decide_eq_true hlt; omega
      have hmu : kl.length - ((i : Int) + 1).toNat < kl.length - ((i : Int)).toNat := by omega
      obtain ⟨⟨lo', hi', hordk⟩, hholdk⟩ := hat i hi1
      have hi2 := idsL_take hi1
      have hi3 := idsL_take_le kl (i + 1)
      have ht2 := toLs_take hi1
      have ht3 := toLs_take_le kl (i + 1)
      have hrk := rk_take key hi1
      have hone := run_len Tl.one (rk key (kl.take i)) o
      have hrl : (rk key (kl.take i)).length ≤ (toLs (kl.take i)).length := rk_len fun j hj => by
        rw [List.length_take] at hj
        obtain ⟨q1, _⟩ := hat j (by omega)
        rw [List.getElem_take]; exact q1
      have kp : (if i = 0 then riseT key kl[i] else toL kl[i]) = riseT (if i = 0 then key else noT) kl[i] := by
        split
        · rfl
        · exact (rise_none hordk).symm
      rw [kp] at hrk
      refine gA ?_
      refine HIdx.mk i rfl hi1 ?_
      refine sl_some (kidsl h4 g4.ext) hi1 fun p ep => ?_
      refine gA ?_
      refine Sl.load (kidsl h4 g4.ext) ep (by simpa using hi1) ?_
      rw [List.getElem_map, List.getElem_map]
      have hih := ih kl[i] lo' hi' (by omega) hordk hholdk (if i = 0 then key else noT) h4 ab4 (run step (rk key (kl.take i)) o).1 left4 g4 (by omega) (by omega) (by omega)
      by_cases hz : i = 0
      · have q0 : decide ((i : Int) > 0) = false := decide_eq_false (by omega)
        rw [if_pos hz] at hih hrk
        have hkey := hk1 (by omega)
        rw [hkey]
        refine gA ?_
        refine HCall.mk (hih.mono ?_)
        rintro e h5 ⟨ab5, left5, rfl, g5, y5, hb5, hb6⟩
        have e1 : run step (rk key (kl.take (i + 1))) o = run step (riseT key kl[i]) (run step (rk key (kl.take i)) o).1 := by rw [hrk, run_on rt4]
        have on5 := y5.blk on4 nbn (nab4 h4 ab4 y4)
        cases hb : (run step (riseT key kl[i]) (run step (rk key (kl.take i)) o).1).2
        · have q5 : (!false) = true := rfl
          have e2 : run step (rk key kl ++ fromP key (ks.zip vs)) o = ((run step (riseT key kl[i]) (run step (rk key (kl.take i)) o).1).1, false) := by rw [rk_split key hi1, List.append_assoc, run_stop (by rw [e1]; exact hb), e1]
          refine gA ?_
          rw [e2]
          exact ⟨ab5, left5, rfl, g5, y2.trans (y4.trans y5), (fun c => nomatch c), by omega⟩
        · have q5 : (!true) = false := rfl
          have hb5 := hb5 hb
          refine gA ?_
          exact ⟨⟨i + 1, key, ab5, left5, rfl, by omega, fun _ => rfl, fun h => by omega, by rw [e1]; exact g5, y4.trans y5, by rw [e1]; exact hb, by omega, by omega, on5⟩, hmu⟩
      · have q0 : decide ((i : Int) > 0) = true := decide_eq_true (by omega)
        rw [if_neg hz] at hih hrk
        refine gA ?_
        refine HCall.mk (hih.mono ?_)
        rintro e h5 ⟨ab5, left5, rfl, g5, y5, hb5, hb6⟩
        have e1 : run step (rk key (kl.take (i + 1))) o = run step (riseT noT kl[i]) (run step (rk key (kl.take i)) o).1 := by rw [hrk, run_on rt4]
        have on5 := y5.blk on4 nbn (nab4 h4 ab4 y4)
        cases hb : (run step (riseT noT kl[i]) (run step (rk key (kl.take i)) o).1).2
        · have q5 : (!false) = true := rfl
          have e2 : run step (rk key kl ++ fromP key (ks.zip vs)) o = ((run step (riseT noT kl[i]) (run step (rk key (kl.take i)) o).1).1, false) := by rw [rk_split key hi1, List.append_assoc, run_stop (by rw [e1]; exact hb), e1]
          refine gA ?_
          rw [e2]
          exact ⟨ab5, left5, rfl, g5, y2.trans (y4.trans y5), (fun c => nomatch c), by omega⟩
        · have q5 : (!true) = false := rfl
          have hb5 := hb5 hb
          refine gA ?_
          exact ⟨⟨i + 1, noT, ab5, left5, rfl, by omega, fun h => by omega, fun _ => rfl, by rw [e1]; exact g5, y4.trans y5, by rw [e1]; exact hb, by omega, by omega, on5⟩, hmu⟩
    · have hge := of_decide_eq_false hlt
      obtain rfl : i = kl.length := by omega
      rw [List.take_length] at g4 rt4 hl4
      refine gA ?_
      exact ⟨key', ab4, left4, rfl, fun hv => hk1 (by rw [hkn hv]; simp), g4, y4, rt4, by omega, hl5, on4⟩
  intro u h4 v2
  rintro ⟨key', ab4, left4, e, hkey, g4, y4, rt4, hl4, hl5, on4⟩
  cases e
  have hvk : vs ≠ [] → vs.length = ks.length := by
    intro hv
    cases kids with
    | nil => simp only [Ord] at hord; exact hord.2.2
    | cons a b => simp only [Ord] at hord; exact absurd hord.1 hv
  have hevl : d.vals.length = vs.length := by rw [ev]
  have hekl : d.keys.length = ks.length := by rw [ek]
  have goes := Tl.goes
  have hone : (run step (rk key kl) o).1.length ≤ o.length + (rk key kl).length := run_len Tl.one (rk key kl) o
  have hrl : (rk key kl).length ≤ (toLs kl).length := rk_len fun j hj => (hat j hj).1
  have hzl : (ks.zip vs).length ≤ vs.length := by rw [List.length_zip]; omega
  refine gA ?_
  refine loop_rule [60] (fun us h' => ∃ (j : Nat) (ab' : Option Nat), us = [.int .i64 j] ∧ j ≤ vs.length ∧
      Going S h0 t r s bo bw CB fn caps Q h' ab' (run step (rk key kl ++ fromP key ((ks.zip vs).take j)) o).1 left4 ∧ Pass [bo, bw] ab ab' h2 h' ∧ (run step (rk key kl ++ fromP key ((ks.zip vs).take j)) o).2 = true ∧ BlkW h' bn 41 (cells3 d ka kc va vc ia ic))
      (fun us _ => match us with | [.int _ i] => vs.length - i.toNat | _ => 0) rfl ?_ ?_
  · exact ⟨0, ab4, rfl, by omega, by simpa [fromP] using g4, y4, by simpa [fromP] using rt4, on4⟩
  intro u h5 v60
  rintro ⟨j, ab5, e, hj, g5, y5, rt5, on5⟩
  cases e
  refine gA ?_
  refine HIf.mk (fun hlt => ?_) (fun hlt => ?_)
  · have hj1 : j < vs.length := by have := of_decide_eq_true hlt; omega
    have hmu : vs.length - ((j : Int) + 1).toNat < vs.length - ((j : Int)).toNat := by omega
    have hvn : vs ≠ [] := by rintro rfl; simp at hj1
    have hkey' := hkey hvn
    subst hkey'
    have hvl := hvk hvn
    have hjz : j < (ks.zip vs).length := by rw [List.length_zip]; omega
    have ezj : (ks.zip vs)[j] = (ks[j], vs[j]) := List.getElem_zip
    have hft := fromP_take key' hjz
    have hsl := fx.sls (.of_ext g5.ext)
    have e1 : run step (rk key' kl ++ fromP key' ((ks.zip vs).take (j + 1))) o = run step (if strLe key' (ks.zip vs)[j].1 = true then [(ks.zip vs)[j]] else []) (run step (rk key' kl ++ fromP key' ((ks.zip vs).take j)) o).1 := by
      rw [hft, ← List.append_assoc, run_on rt5]
    rw [ezj] at e1
    refine gA ?_
    refine HIdx.mk j rfl (by omega) ?_
    refine sl_some hsl.2.1 (show j < d.vals.length by omega) fun p ep => ?_
    refine gA ?_
    refine Sl.load hsl.2.1 ep (by simp; omega) ?_
    rw [List.getElem_map]
    refine gA ?_
    refine HIdx.mk j rfl (by omega) ?_
    refine sl_some hsl.1 (show j < d.keys.length by omega) fun p2 ep2 => ?_
    refine gA ?_
    refine Sl.load hsl.1 ep2 (by simp; omega) ?_
    rw [List.getElem_map]
    have ekj : d.keys[j]'(by omega) = ks[j] := by simp only [ek]
    have evj : d.vals[j]'(by omega) = vs[j] := by simp only [ev]
    rw [ekj, evj]
    cases hs : strLt ks[j] key'
    · have q6 : (!strLt ks[j] key') = true := by rw [hs]; rfl
      have hle : strLe key' ks[j] = true := by unfold strLe; rw [hs]; rfl
      have wk5 := g5.wk
      refine gA ?_
      refine HIdx.mk j rfl (by omega) ?_
      refine sl_some hsl.1 (show j < d.keys.length by omega) fun p3 ep3 => ?_
      refine gA ?_
      refine Sl.load hsl.1 ep3 (by simp; omega) ?_
      rw [List.getElem_map, ekj]
      refine gA ?_
      refine HMust.mk goes ?_
      refine gA ?_
      have hrun := run_len Tl.one (rk key' kl ++ fromP key' ((ks.zip vs).take j)) o
      have hfl := fromP_len key' ((ks.zip vs).take j)
      rw [List.length_take] at hfl
      rw [List.length_append] at hrun
      refine HCall.mk ((g5.tell Tl (ks[j], vs[j]) (by omega)).mono ?_)
      rintro e h6 ⟨ab6, rfl, g6, y6⟩
      have on6 := y6.blk on5 nbn (nab4 h5 ab5 y5)
      rw [if_pos hle] at e1
      cases hb : (step (ks[j], vs[j]) (run step (rk key' kl ++ fromP key' ((ks.zip vs).take j)) o).1).2
      · have e2 : run step (rk key' kl ++ fromP key' (ks.zip vs)) o = ((step (ks[j], vs[j]) (run step (rk key' kl ++ fromP key' ((ks.zip vs).take j)) o).1).1, false) := by
          rw [fromP_split key' (ks.zip vs) (j + 1), ← List.append_assoc, run_stop, e1]
          · simp only [run]; rw [if_neg (by rw [hb]; simp)]
          · rw [e1]; simp only [run]; rw [if_neg (by rw [hb]; simp)]
        have q5 : (!false) = true := rfl
        refine gA ?_
        rw [e2]
        exact ⟨ab6, left4, rfl, g6, y2.trans (y5.trans y6), (fun c => nomatch c), hl5⟩
      · have q5 : (!true) = false := rfl
        have e3 : run step (rk key' kl ++ fromP key' ((ks.zip vs).take (j + 1))) o = ((step (ks[j], vs[j]) (run step (rk key' kl ++ fromP key' ((ks.zip vs).take j)) o).1).1, true) := by
          rw [e1]; simp only [run]; rw [if_pos hb]
        refine gA ?_
        exact ⟨⟨j + 1, ab6, rfl, by omega, by rw [e3]; exact g6, y5.trans y6, by rw [e3], on6⟩, hmu⟩
    · have q6 : (!strLt ks[j] key') = false := by rw [hs]; rfl
      have hle : ¬ strLe key' ks[j] = true := by unfold strLe; rw [hs]; simp
      refine gA ?_
      exact ⟨⟨j + 1, ab5, rfl, by omega, by rw [e1, if_neg hle]; exact g5, y5, by rw [e1, if_neg hle]; rfl, on5⟩, hmu⟩
  · have hge := of_decide_eq_false hlt
    obtain rfl : j = vs.length := by omega
    rw [List.take_of_length_le hzl] at g5 rt5
    refine gA ?_
    exact ⟨ab5, left4, by rw [rt5]; rfl, g5, y2.trans y5, fun _ => by omega, hl5⟩
end
end Go.Proofs.Ytljindmibfkhfaa.Hc
/- slices.Backward and its iterators. -/
set_option linter.unusedVariables false
set_option linter.unusedSimpArgs false
namespace Go.Proofs.Ytljindmibfkhfaa.Hc
open Go Go.H Go.Proofs
set_option maxRecDepth 100000
set_option maxHeartbeats 4000000
theorem off_set (h : Heap) (k : Nat) (o : Obj) : Off k h (h.setIfInBounds k o) := ⟨by simp, fun b hb hne => by rw [Array.getElem?_setIfInBounds, if_neg (Ne.symm hne)]⟩
theorem set_same {h : Heap} {k : Nat} {o o' : Obj} (x : h[k]? = some o') : (h.setIfInBounds k o)[k]? = some o := by
  rcases Nat.lt_or_ge k h.size with hl | hl
  · rw [Array.getElem?_setIfInBounds, if_pos rfl, if_pos hl]
  · rw [Array.getElem?_eq_none hl] at x; cases x
theorem backI_spec (a : Option Addr) (n c : Nat) (h : Heap) : HCalls Try.prog 29 #[.slice a n c] h fun e h' => ∃ b, e = .returned (.func (.func 44) #[] #[.pointer (some ⟨b, 0, none⟩)]) ∧ BlkW h' b 39 [.slice a n c] ∧ Ext h h' ∧ b = h.size := by
  refine c29 (by simp) ?_
  refine gA ?_
  refine new_var (e := 39) [.slice a n c] rfl ?_
  intro h1 b o1 x1 z1 hb
  refine gA ?_
  exact ⟨b, rfl, o1, x1, hb⟩
theorem backI1_spec {P : Nat → Heap → Prop} {Fin : Heap → Prop} {l b : Nat} {ks : List Int} {a : Option Addr} {c : Nat} {h : Heap} (hn : ks.length ≤ 4194304) (hb : ∀ i h', P i h' → BlkW h' b 39 [.slice a ks.length c]) (hs : ∀ i h', P i h' → Sl h' 1 a ks.length c (ks.map (Value.int .i64)))
    (hy : ∀ (m : Nat) (hi : m < ks.length) h', P (m + 1) h' → HYield Try.prog l #[.int .i64 m, (Value.int .i64) ks[m]] h' fun e h'' => (e = .returned (.bool true) ∧ P m h'') ∨ (e = .returned (.bool false) ∧ Fin h'')) (start : P ks.length h) :
    HCalls Try.prog 44 #[.func (.yield l) #[] #[], .pointer (some ⟨b, 0, none⟩)] h fun e h' => e = .returned (.tuple #[]) ∧ (P 0 h' ∨ Fin h') := by
  refine c44 (by simp) ?_
  have o := hb _ _ start
  refine gA ?_
  refine loop_rule [3] (fun vs h' => ∃ (m : Nat), vs = [.int .i64 ((m : Int) - 1)] ∧ m ≤ ks.length ∧ P m h')
    (fun vs _ => match vs with | [.int _ i] => (i + 1).toNat | _ => 0) rfl ?_ ?_
  · exact ⟨ks.length, rfl, Nat.le_refl _, start⟩
  intro u h1 v3
  rintro ⟨m, e, hm, hp⟩
  cases e
  have o := hb _ _ hp
  refine gA ?_
  refine HIf.mk (fun hlt => ?_) (fun hlt => ?_)
  · obtain ⟨i, rfl⟩ : ∃ i, m = i + 1 := ⟨m - 1, by have := of_decide_eq_true hlt; omega⟩
    have ei : ((i + 1 : Nat) : Int) - 1 = (i : Int) := by omega
    have hmu : ((i : Int) - 1 + 1).toNat < ((i : Int) + 1).toNat := by omega
    rw [ei] at *
    refine gA ?_
    refine HIdx.mk i (by omega) (by omega) ?_
    refine sl_some (hs _ h1 hp) (show i < ks.length by omega) fun p ep => ?_
    refine gA ?_
    refine Sl.load (hs _ h1 hp) ep (by simp; omega) ?_
    rw [List.getElem_map]
    refine gA ?_
    refine yield_call (hy i (by omega) h1 hp) ?_
    rintro e h2 (⟨rfl, hp2⟩ | ⟨rfl, hp2⟩)
    · refine gA ?_
      exact ⟨⟨i, rfl, by omega, hp2⟩, hmu⟩
    · refine gA ?_
      exact ⟨rfl, .inr hp2⟩
  · have hge := of_decide_eq_false hlt
    obtain rfl : m = 0 := by omega
    refine gA ?_
    exact ⟨rfl, .inl hp⟩
theorem backS_spec (a : Option Addr) (n c : Nat) (h : Heap) : HCalls Try.prog 30 #[.slice a n c] h fun e h' => ∃ b, e = .returned (.func (.func 45) #[] #[.pointer (some ⟨b, 0, none⟩)]) ∧ BlkW h' b 38 [.slice a n c] ∧ Ext h h' ∧ b = h.size := by
  refine c30 (by simp) ?_
  refine gA ?_
  refine new_var (e := 38) [.slice a n c] rfl ?_
  intro h1 b o1 x1 z1 hb
  refine gA ?_
  exact ⟨b, rfl, o1, x1, hb⟩
theorem backS1_spec {P : Nat → Heap → Prop} {Fin : Heap → Prop} {l b : Nat} {ks : List ByteArray} {a : Option Addr} {c : Nat} {h : Heap} (hn : ks.length ≤ 4194304) (hb : ∀ i h', P i h' → BlkW h' b 38 [.slice a ks.length c]) (hs : ∀ i h', P i h' → Sl h' 1 a ks.length c (ks.map Value.string))
    (hy : ∀ (m : Nat) (hi : m < ks.length) h', P (m + 1) h' → HYield Try.prog l #[.int .i64 m, Value.string ks[m]] h' fun e h'' => (e = .returned (.bool true) ∧ P m h'') ∨ (e = .returned (.bool false) ∧ Fin h'')) (start : P ks.length h) :
    HCalls Try.prog 45 #[.func (.yield l) #[] #[], .pointer (some ⟨b, 0, none⟩)] h fun e h' => e = .returned (.tuple #[]) ∧ (P 0 h' ∨ Fin h') := by
  refine c45 (by simp) ?_
  have o := hb _ _ start
  refine gA ?_
  refine loop_rule [3] (fun vs h' => ∃ (m : Nat), vs = [.int .i64 ((m : Int) - 1)] ∧ m ≤ ks.length ∧ P m h')
    (fun vs _ => match vs with | [.int _ i] => (i + 1).toNat | _ => 0) rfl ?_ ?_
  · exact ⟨ks.length, rfl, Nat.le_refl _, start⟩
  intro u h1 v3
  rintro ⟨m, e, hm, hp⟩
  cases e
  have o := hb _ _ hp
  refine gA ?_
  refine HIf.mk (fun hlt => ?_) (fun hlt => ?_)
  · obtain ⟨i, rfl⟩ : ∃ i, m = i + 1 := ⟨m - 1, by have := of_decide_eq_true hlt; omega⟩
    have ei : ((i + 1 : Nat) : Int) - 1 = (i : Int) := by omega
    have hmu : ((i : Int) - 1 + 1).toNat < ((i : Int) + 1).toNat := by omega
    rw [ei] at *
    refine gA ?_
    refine HIdx.mk i (by omega) (by omega) ?_
    refine sl_some (hs _ h1 hp) (show i < ks.length by omega) fun p ep => ?_
    refine gA ?_
    refine Sl.load (hs _ h1 hp) ep (by simp; omega) ?_
    rw [List.getElem_map]
    refine gA ?_
    refine yield_call (hy i (by omega) h1 hp) ?_
    rintro e h2 (⟨rfl, hp2⟩ | ⟨rfl, hp2⟩)
    · refine gA ?_
      exact ⟨⟨i, rfl, by omega, hp2⟩, hmu⟩
    · refine gA ?_
      exact ⟨rfl, .inr hp2⟩
  · have hge := of_decide_eq_false hlt
    obtain rfl : m = 0 := by omega
    refine gA ?_
    exact ⟨rfl, .inl hp⟩
end Go.Proofs.Ytljindmibfkhfaa.Hc
