import Derived.Test.YthagjflkdoafmaaE2
import Derived.Test.YthagjflkdoafmaaHM
set_option linter.unusedVariables false
set_option linter.unusedSimpArgs false
namespace Go.Proofs.Ythagjflkdoafmaa.Hc
open Go Go.H Go.Proofs
set_option maxRecDepth 100000
set_option maxHeartbeats 4000000

structure ND where
  keys : List ByteArray
  vals : List ByteArray
  kids : List Int

/-- Three cells hold a node. -/
def NRep (h : Heap) (d : ND) (cs : List Value) : Prop :=
  d.keys.length ≤ 1048576 ∧ d.vals.length ≤ 1048576 ∧ d.kids.length ≤ 1048576 ∧ (∀ x ∈ d.keys, x.size ≤ 1048576) ∧ (∀ x ∈ d.vals, x.size ≤ 1048576) ∧ (∀ x ∈ d.kids, i64 x) ∧
    ∃ ka kc va vc ia ic, cs = [.slice ka d.keys.length kc, .slice va d.vals.length vc, .slice ia d.kids.length ic] ∧
      Sl h 1 ka d.keys.length kc (d.keys.map .string) ∧ Sl h 1 va d.vals.length vc (d.vals.map .string) ∧ Sl h 1 ia d.kids.length ic (d.kids.map (.int .i64))
theorem NRep.ext {h h' : Heap} {d : ND} {cs : List Value} (x : NRep h d cs) (k : Ext h h') : NRep h' d cs := by
  obtain ⟨h1, h2, h3, h4, h5, h6, ka, kc, va, vc, ia, ic, e, s1, s2, s3⟩ := x
  exact ⟨h1, h2, h3, h4, h5, h6, ka, kc, va, vc, ia, ic, e, s1.ext k, s2.ext k, s3.ext k⟩
theorem NRep.len {h : Heap} {d : ND} {cs : List Value} (x : NRep h d cs) : cs.length = 3 := by
  obtain ⟨h1, h2, h3, h4, h5, h6, ka, kc, va, vc, ia, ic, rfl, s1, s2, s3⟩ := x; rfl
theorem NRep.one {h : Heap} {d : ND} {cs : List Value} (x : NRep h d cs) : ∀ v ∈ cs, isOne v = true := by
  obtain ⟨h1, h2, h3, h4, h5, h6, ka, kc, va, vc, ia, ic, rfl, s1, s2, s3⟩ := x
  intro v hv
  simp only [List.mem_cons, List.not_mem_nil, or_false] at hv
  rcases hv with rfl | rfl | rfl <;> rfl

/-- A key that may stand in its place. -/
def KeyOk (ks : List ByteArray) (j : Nat) : Prop := ∀ hj : j < ks.length, ks[j].size ≤ 256 ∧ (0 < j → strLt (ks[j - 1]'(by omega)) ks[j] = true)
/-- How many there may be. -/
def Many (d : ND) : Prop := (d.kids = [] ∧ d.keys.length ≤ 3 ∧ d.vals.length = d.keys.length) ∨ (2 ≤ d.kids.length ∧ d.kids.length ≤ 12 ∧ d.keys.length + 1 = d.kids.length ∧ d.vals = [])
/-- A node that may be. -/
def NMay (d : ND) : Prop := Many d ∧ (∀ j, j < d.keys.length → KeyOk d.keys j) ∧ (∀ v ∈ d.vals, v.size ≤ 1024) ∧ (∀ k ∈ d.kids, 1 ≤ k ∧ k ≤ 2147483647)
def errN (r : Bool) : Int := match r with | true => 0 | false => 190
theorem errN_same {d : ND} {r s : Bool} (x : r = true ↔ NMay d) (y : s = true ↔ NMay d) : r = s := by rw [Bool.eq_iff_iff, x, y]

theorem checkN_spec {d : ND} {h : Heap} {cs : List Value} (ra : NRep h d cs) :
    HCalls Try.prog 14 #[.agg cs.toArray] h fun e h' => ∃ r, e = .returned (.int .i64 (errN r)) ∧ (r = true ↔ NMay d) ∧ Ext h h' := by
  obtain ⟨a1, a2, a3, a4, a5, a6, ka, kc, va, vc, ia, ic, rfl, s1, s2, s3⟩ := ra
  refine c14 (by simp) ?_
  (conv => whnf)
  refine new_var (e := 26) [.slice ka d.keys.length kc, .slice va d.vals.length vc, .slice ia d.kids.length ic] rfl ?_
  intro h1 bx ox x1 z1 hbx
  have t1 := s1.ext x1
  have t2 := s2.ext x1
  have t3 := s3.ext x1
  have t1 := s1.ext x1
  ((conv=>whnf);repeat((first|(with_reducible first|refine Z2 ?_|refine Z3 ?_|refine Z4 ?_|refine Z5 ?_|refine Z9 (by assumption) rfl ?_|refine ZA (by assumption) rfl ?_|refine ZB (by assumption) rfl ?_|refine Z6 ?_|refine Z7 ?_|refine Z8 ?_)|(with_reducible refine ZM ?_ ?_;(focus rfl)));(conv=>whnf)))
  refine cut_rule [3, 4] (fun vs h' => ∃ (n : Nat) (b : Bool), vs = [.int .i64 n, .bool b] ∧ ((b = true ∧ d.vals.length = n) ↔ Many d) ∧ h' = h1) rfl ?_ ?_
  · have hk0 : d.kids = [] ↔ d.kids.length = 0 := List.length_eq_zero_iff.symm
    have hv0 : d.vals = [] ↔ d.vals.length = 0 := List.length_eq_zero_iff.symm
    ((conv=>whnf);repeat'(first|((with_reducible refine ZM ?_ ?_);(focus rfl);(conv=>whnf))|((with_reducible first|refine Z1 ?_|refine Z2 ?_|refine Z3 ?_|refine Z4 ?_|refine Z9 (by assumption) rfl ?_|refine Z5 ?_);(conv=>whnf))|((with_reducible refine HIf.mk (fun q=> ?_) (fun q=> ?_))<;>(conv=>whnf))))
    all_goals first
      | (refine ⟨0, _, rfl, ?_, rfl⟩; clear a4 a5 a6 s1 s2 s3 t1 t2 t3 ox x1 z1 hbx; simp only [decide_eq_true_eq, decide_eq_false_iff_not, beq_iff_eq, beq_eq_false_iff_ne, Bool.false_eq_true, false_and, ne_eq] at *; unfold Many; rw [hk0, hv0]; refine ⟨fun hh => ?_, fun hh => ?_⟩ <;> first | omega | exact hh.elim | (exfalso; omega))
      | (refine ⟨d.keys.length, _, rfl, ?_, rfl⟩; clear a4 a5 a6 s1 s2 s3 t1 t2 t3 ox x1 z1 hbx; simp only [decide_eq_true_eq, decide_eq_false_iff_not, beq_iff_eq, beq_eq_false_iff_ne, Bool.false_eq_true, false_and, ne_eq] at *; unfold Many; rw [hk0, hv0]; refine ⟨fun hh => ?_, fun hh => ?_⟩ <;> first | omega | exact hh.elim | (exfalso; omega))
      | trace_state
  · intro u h1 v3 v4
    rintro ⟨n, b, e, hb, rfl⟩
    cases e
    cases b
    · have hm : (false = true ↔ Many d) := by rw [← hb]; simp
      ((conv=>whnf);repeat((first|(with_reducible first|refine Z2 ?_|refine Z3 ?_|refine Z4 ?_|refine Z5 ?_|refine Z9 (by assumption) rfl ?_|refine ZA (by assumption) rfl ?_|refine ZB (by assumption) rfl ?_|refine Z6 ?_|refine Z7 ?_|refine Z8 ?_)|(with_reducible refine ZM ?_ ?_;(focus rfl)));(conv=>whnf)))
      refine cut_rule [6] (fun vs h' => ∃ b : Bool, vs = [.bool b] ∧ (b = true ↔ Many d ∧ ∀ j, j < d.keys.length → KeyOk d.keys j) ∧ h' = h1) rfl ?_ ?_
      · ((conv=>whnf);repeat((first|(with_reducible first|refine Z1 ?_|refine Z2 ?_|refine Z3 ?_|refine Z4 ?_|refine Z5 ?_|refine Z9 (by assumption) rfl ?_|refine ZA (by assumption) rfl ?_|refine ZB (by assumption) rfl ?_|refine Z6 ?_|refine Z7 ?_|refine Z8 ?_)|(with_reducible refine ZM ?_ ?_;(focus rfl)));(conv=>whnf)))
        refine loop_rule [6, 50] (fun vs h' => ∃ (i : Nat) (b : Bool), vs = [.bool b, .int .i64 i] ∧ i ≤ d.keys.length ∧ (b = true ↔ Many d ∧ ∀ j, j < i → KeyOk d.keys j) ∧ h' = h1)
          (fun vs _ => match vs with | [_, .int _ i] => d.keys.length - i.toNat | _ => 0) rfl ?_ ?_
        · exact ⟨0, _, rfl, by omega, by rw [hm]; simp, rfl⟩
        · intro u h1 v6 v50
          rintro ⟨i, b, e, hi, hbk, rfl⟩
          cases e
          ((conv=>whnf);repeat((first|(with_reducible first|refine Z1 ?_|refine Z2 ?_|refine Z3 ?_|refine Z4 ?_|refine Z5 ?_|refine Z9 (by assumption) rfl ?_|refine ZA (by assumption) rfl ?_|refine ZB (by assumption) rfl ?_|refine Z6 ?_|refine Z7 ?_|refine Z8 ?_)|(with_reducible refine ZM ?_ ?_;(focus rfl)));(conv=>whnf)))
          refine HIf.mk (fun hlt => ?_) (fun hlt => ?_)
          · have hi1 : i < d.keys.length := by have := of_decide_eq_true hlt; omega
            have hcnt : ((((i : Int) + 1)).toNat : Nat) = i + 1 := by omega
            have hsp : (∀ j, j < i + 1 → KeyOk d.keys j) ↔ (∀ j, j < i → KeyOk d.keys j) ∧ KeyOk d.keys i := by
              constructor
              · exact fun h => ⟨fun j hj => h j (by omega), h i (by omega)⟩
              · rintro ⟨h, h'⟩ j hj
                rcases Nat.lt_succ_iff_lt_or_eq.1 hj with hj | rfl
                · exact h j hj
                · exact h'
            have fin : ∀ b' : Bool, (b' = true ↔ b = true ∧ KeyOk d.keys i) → (b' = true ↔ Many d ∧ ∀ j, j < i + 1 → KeyOk d.keys j) := by
              intro b' hb'
              rw [hb', hbk, hsp, and_assoc]
            have hmu : d.keys.length - ((i : Int) + 1).toNat < d.keys.length - ((i : Int)).toNat := by omega
            ((conv=>whnf);repeat((first|(with_reducible first|refine Z1 ?_|refine Z2 ?_|refine Z3 ?_|refine Z4 ?_|refine Z5 ?_|refine Z9 (by assumption) rfl ?_|refine ZA (by assumption) rfl ?_|refine ZB (by assumption) rfl ?_|refine Z6 ?_|refine Z7 ?_|refine Z8 ?_)|(with_reducible refine ZM ?_ ?_;(focus rfl)));(conv=>whnf)))
            refine HIdx.mk i rfl hi1 ?_
            refine sl_some t1 hi1 fun p ep => ?_
            ((conv=>whnf);repeat((first|(with_reducible first|refine Z1 ?_|refine Z2 ?_|refine Z3 ?_|refine Z4 ?_|refine Z5 ?_|refine Z9 (by assumption) rfl ?_|refine ZA (by assumption) rfl ?_|refine ZB (by assumption) rfl ?_|refine Z6 ?_|refine Z7 ?_|refine Z8 ?_)|(with_reducible refine ZM ?_ ?_;(focus rfl)));(conv=>whnf)))
            refine t1.load ep (by simpa using hi1) ?_
            rw [List.getElem_map]
            cases b
            · ((conv=>whnf);repeat((first|(with_reducible first|refine Z1 ?_|refine Z2 ?_|refine Z3 ?_|refine Z4 ?_|refine Z5 ?_|refine Z9 (by assumption) rfl ?_|refine ZA (by assumption) rfl ?_|refine ZB (by assumption) rfl ?_|refine Z6 ?_|refine Z7 ?_|refine Z8 ?_)|(with_reducible refine ZM ?_ ?_;(focus rfl)));(conv=>whnf)))
              exact ⟨⟨i + 1, false, rfl, by omega, fin false (by simp), rfl⟩, hmu⟩
            by_cases hsz : d.keys[i].size ≤ 256
            · have q2 : decide ((d.keys[i].size : Int) ≤ 256) = true := decide_eq_true (by omega)
              by_cases hz : i = 0
              · subst hz
                have q3 : (((0 : Nat) : Int) == 0) = true := rfl
                ((conv=>whnf);repeat((first|(with_reducible first|refine Z1 ?_|refine Z2 ?_|refine Z3 ?_|refine Z4 ?_|refine Z5 ?_|refine Z9 (by assumption) rfl ?_|refine ZA (by assumption) rfl ?_|refine ZB (by assumption) rfl ?_|refine Z6 ?_|refine Z7 ?_|refine Z8 ?_)|(with_reducible refine ZM ?_ ?_;(focus rfl)));(conv=>whnf)))
                refine ⟨⟨1, true, rfl, by omega, fin true ?_, rfl⟩, hmu⟩
                simp only [true_and, true_iff]
                exact fun hj => ⟨hsz, fun h => absurd h (by omega)⟩
              · have q3 : ((i : Int) == 0) = false := by rw [beq_eq_false_iff_ne]; omega
                have hi0 : i - 1 < d.keys.length := by omega
                ((conv=>whnf);repeat((first|(with_reducible first|refine Z1 ?_|refine Z2 ?_|refine Z3 ?_|refine Z4 ?_|refine Z5 ?_|refine Z9 (by assumption) rfl ?_|refine ZA (by assumption) rfl ?_|refine ZB (by assumption) rfl ?_|refine Z6 ?_|refine Z7 ?_|refine Z8 ?_)|(with_reducible refine ZM ?_ ?_;(focus rfl)));(conv=>whnf)))
                refine HIdx.mk (i - 1) (by omega) hi0 ?_
                refine sl_some t1 hi0 fun p2 ep2 => ?_
                ((conv=>whnf);repeat((first|(with_reducible first|refine Z1 ?_|refine Z2 ?_|refine Z3 ?_|refine Z4 ?_|refine Z5 ?_|refine Z9 (by assumption) rfl ?_|refine ZA (by assumption) rfl ?_|refine ZB (by assumption) rfl ?_|refine Z6 ?_|refine Z7 ?_|refine Z8 ?_)|(with_reducible refine ZM ?_ ?_;(focus rfl)));(conv=>whnf)))
                refine t1.load ep2 (by simpa using hi0) ?_
                rw [List.getElem_map]
                ((conv=>whnf);repeat((first|(with_reducible first|refine Z1 ?_|refine Z2 ?_|refine Z3 ?_|refine Z4 ?_|refine Z5 ?_|refine Z9 (by assumption) rfl ?_|refine ZA (by assumption) rfl ?_|refine ZB (by assumption) rfl ?_|refine Z6 ?_|refine Z7 ?_|refine Z8 ?_)|(with_reducible refine ZM ?_ ?_;(focus rfl)));(conv=>whnf)))
                refine ⟨⟨i + 1, _, rfl, by omega, fin _ ?_, rfl⟩, hmu⟩
                simp only [true_and]
                constructor
                · exact fun h hj => ⟨hsz, fun _ => h⟩
                · exact fun h => (h hi1).2 (by omega)
            · have q2 : decide ((d.keys[i].size : Int) ≤ 256) = false := decide_eq_false (by omega)
              ((conv=>whnf);repeat((first|(with_reducible first|refine Z1 ?_|refine Z2 ?_|refine Z3 ?_|refine Z4 ?_|refine Z5 ?_|refine Z9 (by assumption) rfl ?_|refine ZA (by assumption) rfl ?_|refine ZB (by assumption) rfl ?_|refine Z6 ?_|refine Z7 ?_|refine Z8 ?_)|(with_reducible refine ZM ?_ ?_;(focus rfl)));(conv=>whnf)))
              refine ⟨⟨i + 1, false, rfl, by omega, fin false ?_, rfl⟩, hmu⟩
              simp only [true_and, Bool.false_eq_true, false_iff]
              exact fun h => hsz (h hi1).1
          · have hge := of_decide_eq_false hlt
            obtain rfl : i = d.keys.length := by omega
            ((conv=>whnf);repeat((first|(with_reducible first|refine Z1 ?_|refine Z2 ?_|refine Z3 ?_|refine Z4 ?_|refine Z5 ?_|refine Z9 (by assumption) rfl ?_|refine ZA (by assumption) rfl ?_|refine ZB (by assumption) rfl ?_|refine Z6 ?_|refine Z7 ?_|refine Z8 ?_)|(with_reducible refine ZM ?_ ?_;(focus rfl)));(conv=>whnf)))
            exact ⟨b, rfl, hbk, rfl⟩
      intro u h1 v6
      rintro ⟨b1, e, hb1, rfl⟩
      cases e
      ((conv=>whnf);repeat((first|(with_reducible first|refine Z2 ?_|refine Z3 ?_|refine Z4 ?_|refine Z5 ?_|refine Z9 (by assumption) rfl ?_|refine ZA (by assumption) rfl ?_|refine ZB (by assumption) rfl ?_|refine Z6 ?_|refine Z7 ?_|refine Z8 ?_)|(with_reducible refine ZM ?_ ?_;(focus rfl)));(conv=>whnf)))
      refine cut_rule [6] (fun vs h' => ∃ b : Bool, vs = [.bool b] ∧ (b = true ↔ b1 = true ∧ ∀ v ∈ d.vals, v.size ≤ 1024) ∧ h' = h1) rfl ?_ ?_
      · ((conv=>whnf);repeat((first|(with_reducible first|refine Z1 ?_|refine Z2 ?_|refine Z3 ?_|refine Z4 ?_|refine Z5 ?_|refine Z9 (by assumption) rfl ?_|refine ZA (by assumption) rfl ?_|refine ZB (by assumption) rfl ?_|refine Z6 ?_|refine Z7 ?_|refine Z8 ?_)|(with_reducible refine ZM ?_ ?_;(focus rfl)));(conv=>whnf)))
        refine loop_rule [6, 79] (fun vs h' => ∃ (i : Nat) (b : Bool), vs = [.bool b, .int .i64 i] ∧ i ≤ d.vals.length ∧ (b = true ↔ b1 = true ∧ ∀ v ∈ d.vals.take i, v.size ≤ 1024) ∧ h' = h1)
          (fun vs _ => match vs with | [_, .int _ i] => d.vals.length - i.toNat | _ => 0) rfl ?_ ?_
        · exact ⟨0, _, rfl, by omega, by simp, rfl⟩
        · intro u h1 v6 v50
          rintro ⟨i, b, e, hi, hbk, rfl⟩
          cases e
          ((conv=>whnf);repeat((first|(with_reducible first|refine Z1 ?_|refine Z2 ?_|refine Z3 ?_|refine Z4 ?_|refine Z5 ?_|refine Z9 (by assumption) rfl ?_|refine ZA (by assumption) rfl ?_|refine ZB (by assumption) rfl ?_|refine Z6 ?_|refine Z7 ?_|refine Z8 ?_)|(with_reducible refine ZM ?_ ?_;(focus rfl)));(conv=>whnf)))
          refine HIf.mk (fun hlt => ?_) (fun hlt => ?_)
          · have hi1 : i < d.vals.length := by have := of_decide_eq_true hlt; omega
            have fin : ∀ b' : Bool, (b' = true ↔ b = true ∧ d.vals[i].size ≤ 1024) → (b' = true ↔ b1 = true ∧ ∀ v ∈ d.vals.take (i + 1), v.size ≤ 1024) := by
              intro b' hb'
              rw [hb', hbk, List.take_add_one, List.getElem?_eq_getElem hi1]
              simp only [Option.toList_some, List.mem_append, List.mem_singleton]
              constructor
              · rintro ⟨⟨h1, h2⟩, h3⟩
                exact ⟨h1, fun v hv => hv.elim (h2 v) (fun e => e ▸ h3)⟩
              · rintro ⟨h1, h2⟩
                exact ⟨⟨h1, fun v hv => h2 v (.inl hv)⟩, h2 _ (.inr rfl)⟩
            have hmu : d.vals.length - ((i : Int) + 1).toNat < d.vals.length - ((i : Int)).toNat := by omega
            ((conv=>whnf);repeat((first|(with_reducible first|refine Z1 ?_|refine Z2 ?_|refine Z3 ?_|refine Z4 ?_|refine Z5 ?_|refine Z9 (by assumption) rfl ?_|refine ZA (by assumption) rfl ?_|refine ZB (by assumption) rfl ?_|refine Z6 ?_|refine Z7 ?_|refine Z8 ?_)|(with_reducible refine ZM ?_ ?_;(focus rfl)));(conv=>whnf)))
            refine HIdx.mk i rfl hi1 ?_
            refine sl_some t2 hi1 fun p ep => ?_
            ((conv=>whnf);repeat((first|(with_reducible first|refine Z1 ?_|refine Z2 ?_|refine Z3 ?_|refine Z4 ?_|refine Z5 ?_|refine Z9 (by assumption) rfl ?_|refine ZA (by assumption) rfl ?_|refine ZB (by assumption) rfl ?_|refine Z6 ?_|refine Z7 ?_|refine Z8 ?_)|(with_reducible refine ZM ?_ ?_;(focus rfl)));(conv=>whnf)))
            refine t2.load ep (by simpa using hi1) ?_
            rw [List.getElem_map]
            cases b
            · ((conv=>whnf);repeat((first|(with_reducible first|refine Z1 ?_|refine Z2 ?_|refine Z3 ?_|refine Z4 ?_|refine Z5 ?_|refine Z9 (by assumption) rfl ?_|refine ZA (by assumption) rfl ?_|refine ZB (by assumption) rfl ?_|refine Z6 ?_|refine Z7 ?_|refine Z8 ?_)|(with_reducible refine ZM ?_ ?_;(focus rfl)));(conv=>whnf)))
              exact ⟨⟨i + 1, false, rfl, by omega, fin false (by simp), rfl⟩, hmu⟩
            · ((conv=>whnf);repeat((first|(with_reducible first|refine Z1 ?_|refine Z2 ?_|refine Z3 ?_|refine Z4 ?_|refine Z5 ?_|refine Z9 (by assumption) rfl ?_|refine ZA (by assumption) rfl ?_|refine ZB (by assumption) rfl ?_|refine Z6 ?_|refine Z7 ?_|refine Z8 ?_)|(with_reducible refine ZM ?_ ?_;(focus rfl)));(conv=>whnf)))
              refine ⟨⟨i + 1, _, rfl, by omega, fin _ ?_, rfl⟩, hmu⟩
              simp only [true_and]
              show decide ((d.vals[i].size : Int) ≤ 1024) = true ↔ _
              rw [decide_eq_true_eq]; omega
          · have hge := of_decide_eq_false hlt
            rw [List.take_of_length_le (by omega)] at hbk
            ((conv=>whnf);repeat((first|(with_reducible first|refine Z1 ?_|refine Z2 ?_|refine Z3 ?_|refine Z4 ?_|refine Z5 ?_|refine Z9 (by assumption) rfl ?_|refine ZA (by assumption) rfl ?_|refine ZB (by assumption) rfl ?_|refine Z6 ?_|refine Z7 ?_|refine Z8 ?_)|(with_reducible refine ZM ?_ ?_;(focus rfl)));(conv=>whnf)))
            exact ⟨b, rfl, hbk, rfl⟩
      intro u h1 v6
      rintro ⟨b2, e, hb2, rfl⟩
      cases e
      ((conv=>whnf);repeat((first|(with_reducible first|refine Z2 ?_|refine Z3 ?_|refine Z4 ?_|refine Z5 ?_|refine Z9 (by assumption) rfl ?_|refine ZA (by assumption) rfl ?_|refine ZB (by assumption) rfl ?_|refine Z6 ?_|refine Z7 ?_|refine Z8 ?_)|(with_reducible refine ZM ?_ ?_;(focus rfl)));(conv=>whnf)))
      refine cut_rule [6] (fun vs h' => ∃ b : Bool, vs = [.bool b] ∧ (b = true ↔ b2 = true ∧ ∀ k ∈ d.kids, 1 ≤ k ∧ k ≤ 2147483647) ∧ h' = h1) rfl ?_ ?_
      · ((conv=>whnf);repeat((first|(with_reducible first|refine Z1 ?_|refine Z2 ?_|refine Z3 ?_|refine Z4 ?_|refine Z5 ?_|refine Z9 (by assumption) rfl ?_|refine ZA (by assumption) rfl ?_|refine ZB (by assumption) rfl ?_|refine Z6 ?_|refine Z7 ?_|refine Z8 ?_)|(with_reducible refine ZM ?_ ?_;(focus rfl)));(conv=>whnf)))
        refine loop_rule [6, 93] (fun vs h' => ∃ (i : Nat) (b : Bool), vs = [.bool b, .int .i64 i] ∧ i ≤ d.kids.length ∧ (b = true ↔ b2 = true ∧ ∀ k ∈ d.kids.take i, 1 ≤ k ∧ k ≤ 2147483647) ∧ h' = h1)
          (fun vs _ => match vs with | [_, .int _ i] => d.kids.length - i.toNat | _ => 0) rfl ?_ ?_
        · exact ⟨0, _, rfl, by omega, by simp, rfl⟩
        · intro u h1 v6 v50
          rintro ⟨i, b, e, hi, hbk, rfl⟩
          cases e
          ((conv=>whnf);repeat((first|(with_reducible first|refine Z1 ?_|refine Z2 ?_|refine Z3 ?_|refine Z4 ?_|refine Z5 ?_|refine Z9 (by assumption) rfl ?_|refine ZA (by assumption) rfl ?_|refine ZB (by assumption) rfl ?_|refine Z6 ?_|refine Z7 ?_|refine Z8 ?_)|(with_reducible refine ZM ?_ ?_;(focus rfl)));(conv=>whnf)))
          refine HIf.mk (fun hlt => ?_) (fun hlt => ?_)
          · have hi1 : i < d.kids.length := by have := of_decide_eq_true hlt; omega
            have fin : ∀ b' : Bool, (b' = true ↔ b = true ∧ (1 ≤ d.kids[i] ∧ d.kids[i] ≤ 2147483647)) → (b' = true ↔ b2 = true ∧ ∀ k ∈ d.kids.take (i + 1), 1 ≤ k ∧ k ≤ 2147483647) := by
              intro b' hb'
              rw [hb', hbk, List.take_add_one, List.getElem?_eq_getElem hi1]
              simp only [Option.toList_some, List.mem_append, List.mem_singleton]
              constructor
              · rintro ⟨⟨h1, h2⟩, h3⟩
                exact ⟨h1, fun v hv => hv.elim (h2 v) (fun e => e ▸ h3)⟩
              · rintro ⟨h1, h2⟩
                exact ⟨⟨h1, fun v hv => h2 v (.inl hv)⟩, h2 _ (.inr rfl)⟩
            have hmu : d.kids.length - ((i : Int) + 1).toNat < d.kids.length - ((i : Int)).toNat := by omega
            ((conv=>whnf);repeat((first|(with_reducible first|refine Z1 ?_|refine Z2 ?_|refine Z3 ?_|refine Z4 ?_|refine Z5 ?_|refine Z9 (by assumption) rfl ?_|refine ZA (by assumption) rfl ?_|refine ZB (by assumption) rfl ?_|refine Z6 ?_|refine Z7 ?_|refine Z8 ?_)|(with_reducible refine ZM ?_ ?_;(focus rfl)));(conv=>whnf)))
            refine HIdx.mk i rfl hi1 ?_
            refine sl_some t3 hi1 fun p ep => ?_
            ((conv=>whnf);repeat((first|(with_reducible first|refine Z1 ?_|refine Z2 ?_|refine Z3 ?_|refine Z4 ?_|refine Z5 ?_|refine Z9 (by assumption) rfl ?_|refine ZA (by assumption) rfl ?_|refine ZB (by assumption) rfl ?_|refine Z6 ?_|refine Z7 ?_|refine Z8 ?_)|(with_reducible refine ZM ?_ ?_;(focus rfl)));(conv=>whnf)))
            refine t3.load ep (by simpa using hi1) ?_
            rw [List.getElem_map]
            cases b
            · ((conv=>whnf);repeat((first|(with_reducible first|refine Z1 ?_|refine Z2 ?_|refine Z3 ?_|refine Z4 ?_|refine Z5 ?_|refine Z9 (by assumption) rfl ?_|refine ZA (by assumption) rfl ?_|refine ZB (by assumption) rfl ?_|refine Z6 ?_|refine Z7 ?_|refine Z8 ?_)|(with_reducible refine ZM ?_ ?_;(focus rfl)));(conv=>whnf)))
              exact ⟨⟨i + 1, false, rfl, by omega, fin false (by simp), rfl⟩, hmu⟩
            by_cases hk1 : 1 ≤ d.kids[i]
            · have q2 : decide (d.kids[i] ≥ 1) = true := decide_eq_true hk1
              ((conv=>whnf);repeat((first|(with_reducible first|refine Z1 ?_|refine Z2 ?_|refine Z3 ?_|refine Z4 ?_|refine Z5 ?_|refine Z9 (by assumption) rfl ?_|refine ZA (by assumption) rfl ?_|refine ZB (by assumption) rfl ?_|refine Z6 ?_|refine Z7 ?_|refine Z8 ?_)|(with_reducible refine ZM ?_ ?_;(focus rfl)));(conv=>whnf)))
              refine ⟨⟨i + 1, _, rfl, by omega, fin _ ?_, rfl⟩, hmu⟩
              simp only [true_and]
              show decide (d.kids[i] ≤ 2147483647) = true ↔ _
              rw [decide_eq_true_eq]; omega
            · have q2 : decide (d.kids[i] ≥ 1) = false := decide_eq_false hk1
              ((conv=>whnf);repeat((first|(with_reducible first|refine Z1 ?_|refine Z2 ?_|refine Z3 ?_|refine Z4 ?_|refine Z5 ?_|refine Z9 (by assumption) rfl ?_|refine ZA (by assumption) rfl ?_|refine ZB (by assumption) rfl ?_|refine Z6 ?_|refine Z7 ?_|refine Z8 ?_)|(with_reducible refine ZM ?_ ?_;(focus rfl)));(conv=>whnf)))
              refine ⟨⟨i + 1, false, rfl, by omega, fin false ?_, rfl⟩, hmu⟩
              simp only [true_and, Bool.false_eq_true, false_iff]
              omega
          · have hge := of_decide_eq_false hlt
            rw [List.take_of_length_le (by omega)] at hbk
            ((conv=>whnf);repeat((first|(with_reducible first|refine Z1 ?_|refine Z2 ?_|refine Z3 ?_|refine Z4 ?_|refine Z5 ?_|refine Z9 (by assumption) rfl ?_|refine ZA (by assumption) rfl ?_|refine ZB (by assumption) rfl ?_|refine Z6 ?_|refine Z7 ?_|refine Z8 ?_)|(with_reducible refine ZM ?_ ?_;(focus rfl)));(conv=>whnf)))
            exact ⟨b, rfl, hbk, rfl⟩
      intro u h1 v6
      rintro ⟨b3, e, hb3, rfl⟩
      cases e
      have hall : b3 = true ↔ NMay d := by unfold NMay; rw [hb3, hb2, hb1]; simp only [and_assoc]
      cases b3
      · ((conv=>whnf);repeat((first|(with_reducible first|refine Z1 ?_|refine Z2 ?_|refine Z3 ?_|refine Z4 ?_|refine Z5 ?_|refine Z9 (by assumption) rfl ?_|refine ZA (by assumption) rfl ?_|refine ZB (by assumption) rfl ?_|refine Z6 ?_|refine Z7 ?_|refine Z8 ?_)|(with_reducible refine ZM ?_ ?_;(focus rfl)));(conv=>whnf)))
        exact ⟨false, rfl, hall, x1⟩
      · ((conv=>whnf);repeat((first|(with_reducible first|refine Z1 ?_|refine Z2 ?_|refine Z3 ?_|refine Z4 ?_|refine Z5 ?_|refine Z9 (by assumption) rfl ?_|refine ZA (by assumption) rfl ?_|refine ZB (by assumption) rfl ?_|refine Z6 ?_|refine Z7 ?_|refine Z8 ?_)|(with_reducible refine ZM ?_ ?_;(focus rfl)));(conv=>whnf)))
        exact ⟨true, rfl, hall, x1⟩
    · have hm : (((d.vals.length : Int) == (n : Int)) = true ↔ Many d) := by rw [← hb, beq_iff_eq]; simp only [true_and]; omega
      ((conv=>whnf);repeat((first|(with_reducible first|refine Z2 ?_|refine Z3 ?_|refine Z4 ?_|refine Z5 ?_|refine Z9 (by assumption) rfl ?_|refine ZA (by assumption) rfl ?_|refine ZB (by assumption) rfl ?_|refine Z6 ?_|refine Z7 ?_|refine Z8 ?_)|(with_reducible refine ZM ?_ ?_;(focus rfl)));(conv=>whnf)))
      refine cut_rule [6] (fun vs h' => ∃ b : Bool, vs = [.bool b] ∧ (b = true ↔ Many d ∧ ∀ j, j < d.keys.length → KeyOk d.keys j) ∧ h' = h1) rfl ?_ ?_
      · ((conv=>whnf);repeat((first|(with_reducible first|refine Z1 ?_|refine Z2 ?_|refine Z3 ?_|refine Z4 ?_|refine Z5 ?_|refine Z9 (by assumption) rfl ?_|refine ZA (by assumption) rfl ?_|refine ZB (by assumption) rfl ?_|refine Z6 ?_|refine Z7 ?_|refine Z8 ?_)|(with_reducible refine ZM ?_ ?_;(focus rfl)));(conv=>whnf)))
        refine loop_rule [6, 50] (fun vs h' => ∃ (i : Nat) (b : Bool), vs = [.bool b, .int .i64 i] ∧ i ≤ d.keys.length ∧ (b = true ↔ Many d ∧ ∀ j, j < i → KeyOk d.keys j) ∧ h' = h1)
          (fun vs _ => match vs with | [_, .int _ i] => d.keys.length - i.toNat | _ => 0) rfl ?_ ?_
        · exact ⟨0, _, rfl, by omega, by rw [hm]; simp, rfl⟩
        · intro u h1 v6 v50
          rintro ⟨i, b, e, hi, hbk, rfl⟩
          cases e
          ((conv=>whnf);repeat((first|(with_reducible first|refine Z1 ?_|refine Z2 ?_|refine Z3 ?_|refine Z4 ?_|refine Z5 ?_|refine Z9 (by assumption) rfl ?_|refine ZA (by assumption) rfl ?_|refine ZB (by assumption) rfl ?_|refine Z6 ?_|refine Z7 ?_|refine Z8 ?_)|(with_reducible refine ZM ?_ ?_;(focus rfl)));(conv=>whnf)))
          refine HIf.mk (fun hlt => ?_) (fun hlt => ?_)
          · have hi1 : i < d.keys.length := by have := of_decide_eq_true hlt; omega
            have hcnt : ((((i : Int) + 1)).toNat : Nat) = i + 1 := by omega
            have hsp : (∀ j, j < i + 1 → KeyOk d.keys j) ↔ (∀ j, j < i → KeyOk d.keys j) ∧ KeyOk d.keys i := by
              constructor
              · exact fun h => ⟨fun j hj => h j (by omega), h i (by omega)⟩
              · rintro ⟨h, h'⟩ j hj
                rcases Nat.lt_succ_iff_lt_or_eq.1 hj with hj | rfl
                · exact h j hj
                · exact h'
            have fin : ∀ b' : Bool, (b' = true ↔ b = true ∧ KeyOk d.keys i) → (b' = true ↔ Many d ∧ ∀ j, j < i + 1 → KeyOk d.keys j) := by
              intro b' hb'
              rw [hb', hbk, hsp, and_assoc]
            have hmu : d.keys.length - ((i : Int) + 1).toNat < d.keys.length - ((i : Int)).toNat := by omega
            ((conv=>whnf);repeat((first|(with_reducible first|refine Z1 ?_|refine Z2 ?_|refine Z3 ?_|refine Z4 ?_|refine Z5 ?_|refine Z9 (by assumption) rfl ?_|refine ZA (by assumption) rfl ?_|refine ZB (by assumption) rfl ?_|refine Z6 ?_|refine Z7 ?_|refine Z8 ?_)|(with_reducible refine ZM ?_ ?_;(focus rfl)));(conv=>whnf)))
            refine HIdx.mk i rfl hi1 ?_
            refine sl_some t1 hi1 fun p ep => ?_
            ((conv=>whnf);repeat((first|(with_reducible first|refine Z1 ?_|refine Z2 ?_|refine Z3 ?_|refine Z4 ?_|refine Z5 ?_|refine Z9 (by assumption) rfl ?_|refine ZA (by assumption) rfl ?_|refine ZB (by assumption) rfl ?_|refine Z6 ?_|refine Z7 ?_|refine Z8 ?_)|(with_reducible refine ZM ?_ ?_;(focus rfl)));(conv=>whnf)))
            refine t1.load ep (by simpa using hi1) ?_
            rw [List.getElem_map]
            cases b
            · ((conv=>whnf);repeat((first|(with_reducible first|refine Z1 ?_|refine Z2 ?_|refine Z3 ?_|refine Z4 ?_|refine Z5 ?_|refine Z9 (by assumption) rfl ?_|refine ZA (by assumption) rfl ?_|refine ZB (by assumption) rfl ?_|refine Z6 ?_|refine Z7 ?_|refine Z8 ?_)|(with_reducible refine ZM ?_ ?_;(focus rfl)));(conv=>whnf)))
              exact ⟨⟨i + 1, false, rfl, by omega, fin false (by simp), rfl⟩, hmu⟩
            by_cases hsz : d.keys[i].size ≤ 256
            · have q2 : decide ((d.keys[i].size : Int) ≤ 256) = true := decide_eq_true (by omega)
              by_cases hz : i = 0
              · subst hz
                have q3 : (((0 : Nat) : Int) == 0) = true := rfl
                ((conv=>whnf);repeat((first|(with_reducible first|refine Z1 ?_|refine Z2 ?_|refine Z3 ?_|refine Z4 ?_|refine Z5 ?_|refine Z9 (by assumption) rfl ?_|refine ZA (by assumption) rfl ?_|refine ZB (by assumption) rfl ?_|refine Z6 ?_|refine Z7 ?_|refine Z8 ?_)|(with_reducible refine ZM ?_ ?_;(focus rfl)));(conv=>whnf)))
                refine ⟨⟨1, true, rfl, by omega, fin true ?_, rfl⟩, hmu⟩
                simp only [true_and, true_iff]
                exact fun hj => ⟨hsz, fun h => absurd h (by omega)⟩
              · have q3 : ((i : Int) == 0) = false := by rw [beq_eq_false_iff_ne]; omega
                have hi0 : i - 1 < d.keys.length := by omega
                ((conv=>whnf);repeat((first|(with_reducible first|refine Z1 ?_|refine Z2 ?_|refine Z3 ?_|refine Z4 ?_|refine Z5 ?_|refine Z9 (by assumption) rfl ?_|refine ZA (by assumption) rfl ?_|refine ZB (by assumption) rfl ?_|refine Z6 ?_|refine Z7 ?_|refine Z8 ?_)|(with_reducible refine ZM ?_ ?_;(focus rfl)));(conv=>whnf)))
                refine HIdx.mk (i - 1) (by omega) hi0 ?_
                refine sl_some t1 hi0 fun p2 ep2 => ?_
                ((conv=>whnf);repeat((first|(with_reducible first|refine Z1 ?_|refine Z2 ?_|refine Z3 ?_|refine Z4 ?_|refine Z5 ?_|refine Z9 (by assumption) rfl ?_|refine ZA (by assumption) rfl ?_|refine ZB (by assumption) rfl ?_|refine Z6 ?_|refine Z7 ?_|refine Z8 ?_)|(with_reducible refine ZM ?_ ?_;(focus rfl)));(conv=>whnf)))
                refine t1.load ep2 (by simpa using hi0) ?_
                rw [List.getElem_map]
                ((conv=>whnf);repeat((first|(with_reducible first|refine Z1 ?_|refine Z2 ?_|refine Z3 ?_|refine Z4 ?_|refine Z5 ?_|refine Z9 (by assumption) rfl ?_|refine ZA (by assumption) rfl ?_|refine ZB (by assumption) rfl ?_|refine Z6 ?_|refine Z7 ?_|refine Z8 ?_)|(with_reducible refine ZM ?_ ?_;(focus rfl)));(conv=>whnf)))
                refine ⟨⟨i + 1, _, rfl, by omega, fin _ ?_, rfl⟩, hmu⟩
                simp only [true_and]
                constructor
                · exact fun h hj => ⟨hsz, fun _ => h⟩
                · exact fun h => (h hi1).2 (by omega)
            · have q2 : decide ((d.keys[i].size : Int) ≤ 256) = false := decide_eq_false (by omega)
              ((conv=>whnf);repeat((first|(with_reducible first|refine Z1 ?_|refine Z2 ?_|refine Z3 ?_|refine Z4 ?_|refine Z5 ?_|refine Z9 (by assumption) rfl ?_|refine ZA (by assumption) rfl ?_|refine ZB (by assumption) rfl ?_|refine Z6 ?_|refine Z7 ?_|refine Z8 ?_)|(with_reducible refine ZM ?_ ?_;(focus rfl)));(conv=>whnf)))
              refine ⟨⟨i + 1, false, rfl, by omega, fin false ?_, rfl⟩, hmu⟩
              simp only [true_and, Bool.false_eq_true, false_iff]
              exact fun h => hsz (h hi1).1
          · have hge := of_decide_eq_false hlt
            obtain rfl : i = d.keys.length := by omega
            ((conv=>whnf);repeat((first|(with_reducible first|refine Z1 ?_|refine Z2 ?_|refine Z3 ?_|refine Z4 ?_|refine Z5 ?_|refine Z9 (by assumption) rfl ?_|refine ZA (by assumption) rfl ?_|refine ZB (by assumption) rfl ?_|refine Z6 ?_|refine Z7 ?_|refine Z8 ?_)|(with_reducible refine ZM ?_ ?_;(focus rfl)));(conv=>whnf)))
            exact ⟨b, rfl, hbk, rfl⟩
      intro u h1 v6
      rintro ⟨b1, e, hb1, rfl⟩
      cases e
      ((conv=>whnf);repeat((first|(with_reducible first|refine Z2 ?_|refine Z3 ?_|refine Z4 ?_|refine Z5 ?_|refine Z9 (by assumption) rfl ?_|refine ZA (by assumption) rfl ?_|refine ZB (by assumption) rfl ?_|refine Z6 ?_|refine Z7 ?_|refine Z8 ?_)|(with_reducible refine ZM ?_ ?_;(focus rfl)));(conv=>whnf)))
      refine cut_rule [6] (fun vs h' => ∃ b : Bool, vs = [.bool b] ∧ (b = true ↔ b1 = true ∧ ∀ v ∈ d.vals, v.size ≤ 1024) ∧ h' = h1) rfl ?_ ?_
      · ((conv=>whnf);repeat((first|(with_reducible first|refine Z1 ?_|refine Z2 ?_|refine Z3 ?_|refine Z4 ?_|refine Z5 ?_|refine Z9 (by assumption) rfl ?_|refine ZA (by assumption) rfl ?_|refine ZB (by assumption) rfl ?_|refine Z6 ?_|refine Z7 ?_|refine Z8 ?_)|(with_reducible refine ZM ?_ ?_;(focus rfl)));(conv=>whnf)))
        refine loop_rule [6, 79] (fun vs h' => ∃ (i : Nat) (b : Bool), vs = [.bool b, .int .i64 i] ∧ i ≤ d.vals.length ∧ (b = true ↔ b1 = true ∧ ∀ v ∈ d.vals.take i, v.size ≤ 1024) ∧ h' = h1)
          (fun vs _ => match vs with | [_, .int _ i] => d.vals.length - i.toNat | _ => 0) rfl ?_ ?_
        · exact ⟨0, _, rfl, by omega, by simp, rfl⟩
        · intro u h1 v6 v50
          rintro ⟨i, b, e, hi, hbk, rfl⟩
          cases e
          ((conv=>whnf);repeat((first|(with_reducible first|refine Z1 ?_|refine Z2 ?_|refine Z3 ?_|refine Z4 ?_|refine Z5 ?_|refine Z9 (by assumption) rfl ?_|refine ZA (by assumption) rfl ?_|refine ZB (by assumption) rfl ?_|refine Z6 ?_|refine Z7 ?_|refine Z8 ?_)|(with_reducible refine ZM ?_ ?_;(focus rfl)));(conv=>whnf)))
          refine HIf.mk (fun hlt => ?_) (fun hlt => ?_)
          · have hi1 : i < d.vals.length := by have := of_decide_eq_true hlt; omega
            have fin : ∀ b' : Bool, (b' = true ↔ b = true ∧ d.vals[i].size ≤ 1024) → (b' = true ↔ b1 = true ∧ ∀ v ∈ d.vals.take (i + 1), v.size ≤ 1024) := by
              intro b' hb'
              rw [hb', hbk, List.take_add_one, List.getElem?_eq_getElem hi1]
              simp only [Option.toList_some, List.mem_append, List.mem_singleton]
              constructor
              · rintro ⟨⟨h1, h2⟩, h3⟩
                exact ⟨h1, fun v hv => hv.elim (h2 v) (fun e => e ▸ h3)⟩
              · rintro ⟨h1, h2⟩
                exact ⟨⟨h1, fun v hv => h2 v (.inl hv)⟩, h2 _ (.inr rfl)⟩
            have hmu : d.vals.length - ((i : Int) + 1).toNat < d.vals.length - ((i : Int)).toNat := by omega
            ((conv=>whnf);repeat((first|(with_reducible first|refine Z1 ?_|refine Z2 ?_|refine Z3 ?_|refine Z4 ?_|refine Z5 ?_|refine Z9 (by assumption) rfl ?_|refine ZA (by assumption) rfl ?_|refine ZB (by assumption) rfl ?_|refine Z6 ?_|refine Z7 ?_|refine Z8 ?_)|(with_reducible refine ZM ?_ ?_;(focus rfl)));(conv=>whnf)))
            refine HIdx.mk i rfl hi1 ?_
            refine sl_some t2 hi1 fun p ep => ?_
            ((conv=>whnf);repeat((first|(with_reducible first|refine Z1 ?_|refine Z2 ?_|refine Z3 ?_|refine Z4 ?_|refine Z5 ?_|refine Z9 (by assumption) rfl ?_|refine ZA (by assumption) rfl ?_|refine ZB (by assumption) rfl ?_|refine Z6 ?_|refine Z7 ?_|refine Z8 ?_)|(with_reducible refine ZM ?_ ?_;(focus rfl)));(conv=>whnf)))
            refine t2.load ep (by simpa using hi1) ?_
            rw [List.getElem_map]
            cases b
            · ((conv=>whnf);repeat((first|(with_reducible first|refine Z1 ?_|refine Z2 ?_|refine Z3 ?_|refine Z4 ?_|refine Z5 ?_|refine Z9 (by assumption) rfl ?_|refine ZA (by assumption) rfl ?_|refine ZB (by assumption) rfl ?_|refine Z6 ?_|refine Z7 ?_|refine Z8 ?_)|(with_reducible refine ZM ?_ ?_;(focus rfl)));(conv=>whnf)))
              exact ⟨⟨i + 1, false, rfl, by omega, fin false (by simp), rfl⟩, hmu⟩
            · ((conv=>whnf);repeat((first|(with_reducible first|refine Z1 ?_|refine Z2 ?_|refine Z3 ?_|refine Z4 ?_|refine Z5 ?_|refine Z9 (by assumption) rfl ?_|refine ZA (by assumption) rfl ?_|refine ZB (by assumption) rfl ?_|refine Z6 ?_|refine Z7 ?_|refine Z8 ?_)|(with_reducible refine ZM ?_ ?_;(focus rfl)));(conv=>whnf)))
              refine ⟨⟨i + 1, _, rfl, by omega, fin _ ?_, rfl⟩, hmu⟩
              simp only [true_and]
              show decide ((d.vals[i].size : Int) ≤ 1024) = true ↔ _
              rw [decide_eq_true_eq]; omega
          · have hge := of_decide_eq_false hlt
            rw [List.take_of_length_le (by omega)] at hbk
            ((conv=>whnf);repeat((first|(with_reducible first|refine Z1 ?_|refine Z2 ?_|refine Z3 ?_|refine Z4 ?_|refine Z5 ?_|refine Z9 (by assumption) rfl ?_|refine ZA (by assumption) rfl ?_|refine ZB (by assumption) rfl ?_|refine Z6 ?_|refine Z7 ?_|refine Z8 ?_)|(with_reducible refine ZM ?_ ?_;(focus rfl)));(conv=>whnf)))
            exact ⟨b, rfl, hbk, rfl⟩
      intro u h1 v6
      rintro ⟨b2, e, hb2, rfl⟩
      cases e
      ((conv=>whnf);repeat((first|(with_reducible first|refine Z2 ?_|refine Z3 ?_|refine Z4 ?_|refine Z5 ?_|refine Z9 (by assumption) rfl ?_|refine ZA (by assumption) rfl ?_|refine ZB (by assumption) rfl ?_|refine Z6 ?_|refine Z7 ?_|refine Z8 ?_)|(with_reducible refine ZM ?_ ?_;(focus rfl)));(conv=>whnf)))
      refine cut_rule [6] (fun vs h' => ∃ b : Bool, vs = [.bool b] ∧ (b = true ↔ b2 = true ∧ ∀ k ∈ d.kids, 1 ≤ k ∧ k ≤ 2147483647) ∧ h' = h1) rfl ?_ ?_
      · ((conv=>whnf);repeat((first|(with_reducible first|refine Z1 ?_|refine Z2 ?_|refine Z3 ?_|refine Z4 ?_|refine Z5 ?_|refine Z9 (by assumption) rfl ?_|refine ZA (by assumption) rfl ?_|refine ZB (by assumption) rfl ?_|refine Z6 ?_|refine Z7 ?_|refine Z8 ?_)|(with_reducible refine ZM ?_ ?_;(focus rfl)));(conv=>whnf)))
        refine loop_rule [6, 93] (fun vs h' => ∃ (i : Nat) (b : Bool), vs = [.bool b, .int .i64 i] ∧ i ≤ d.kids.length ∧ (b = true ↔ b2 = true ∧ ∀ k ∈ d.kids.take i, 1 ≤ k ∧ k ≤ 2147483647) ∧ h' = h1)
          (fun vs _ => match vs with | [_, .int _ i] => d.kids.length - i.toNat | _ => 0) rfl ?_ ?_
        · exact ⟨0, _, rfl, by omega, by simp, rfl⟩
        · intro u h1 v6 v50
          rintro ⟨i, b, e, hi, hbk, rfl⟩
          cases e
          ((conv=>whnf);repeat((first|(with_reducible first|refine Z1 ?_|refine Z2 ?_|refine Z3 ?_|refine Z4 ?_|refine Z5 ?_|refine Z9 (by assumption) rfl ?_|refine ZA (by assumption) rfl ?_|refine ZB (by assumption) rfl ?_|refine Z6 ?_|refine Z7 ?_|refine Z8 ?_)|(with_reducible refine ZM ?_ ?_;(focus rfl)));(conv=>whnf)))
          refine HIf.mk (fun hlt => ?_) (fun hlt => ?_)
          · have hi1 : i < d.kids.length := by have := of_decide_eq_true hlt; omega
            have fin : ∀ b' : Bool, (b' = true ↔ b = true ∧ (1 ≤ d.kids[i] ∧ d.kids[i] ≤ 2147483647)) → (b' = true ↔ b2 = true ∧ ∀ k ∈ d.kids.take (i + 1), 1 ≤ k ∧ k ≤ 2147483647) := by
              intro b' hb'
              rw [hb', hbk, List.take_add_one, List.getElem?_eq_getElem hi1]
              simp only [Option.toList_some, List.mem_append, List.mem_singleton]
              constructor
              · rintro ⟨⟨h1, h2⟩, h3⟩
                exact ⟨h1, fun v hv => hv.elim (h2 v) (fun e => e ▸ h3)⟩
              · rintro ⟨h1, h2⟩
                exact ⟨⟨h1, fun v hv => h2 v (.inl hv)⟩, h2 _ (.inr rfl)⟩
            have hmu : d.kids.length - ((i : Int) + 1).toNat < d.kids.length - ((i : Int)).toNat := by omega
            ((conv=>whnf);repeat((first|(with_reducible first|refine Z1 ?_|refine Z2 ?_|refine Z3 ?_|refine Z4 ?_|refine Z5 ?_|refine Z9 (by assumption) rfl ?_|refine ZA (by assumption) rfl ?_|refine ZB (by assumption) rfl ?_|refine Z6 ?_|refine Z7 ?_|refine Z8 ?_)|(with_reducible refine ZM ?_ ?_;(focus rfl)));(conv=>whnf)))
            refine HIdx.mk i rfl hi1 ?_
            refine sl_some t3 hi1 fun p ep => ?_
            ((conv=>whnf);repeat((first|(with_reducible first|refine Z1 ?_|refine Z2 ?_|refine Z3 ?_|refine Z4 ?_|refine Z5 ?_|refine Z9 (by assumption) rfl ?_|refine ZA (by assumption) rfl ?_|refine ZB (by assumption) rfl ?_|refine Z6 ?_|refine Z7 ?_|refine Z8 ?_)|(with_reducible refine ZM ?_ ?_;(focus rfl)));(conv=>whnf)))
            refine t3.load ep (by simpa using hi1) ?_
            rw [List.getElem_map]
            cases b
            · ((conv=>whnf);repeat((first|(with_reducible first|refine Z1 ?_|refine Z2 ?_|refine Z3 ?_|refine Z4 ?_|refine Z5 ?_|refine Z9 (by assumption) rfl ?_|refine ZA (by assumption) rfl ?_|refine ZB (by assumption) rfl ?_|refine Z6 ?_|refine Z7 ?_|refine Z8 ?_)|(with_reducible refine ZM ?_ ?_;(focus rfl)));(conv=>whnf)))
              exact ⟨⟨i + 1, false, rfl, by omega, fin false (by simp), rfl⟩, hmu⟩
            by_cases hk1 : 1 ≤ d.kids[i]
            · have q2 : decide (d.kids[i] ≥ 1) = true := decide_eq_true hk1
              ((conv=>whnf);repeat((first|(with_reducible first|refine Z1 ?_|refine Z2 ?_|refine Z3 ?_|refine Z4 ?_|refine Z5 ?_|refine Z9 (by assumption) rfl ?_|refine ZA (by assumption) rfl ?_|refine ZB (by assumption) rfl ?_|refine Z6 ?_|refine Z7 ?_|refine Z8 ?_)|(with_reducible refine ZM ?_ ?_;(focus rfl)));(conv=>whnf)))
              refine ⟨⟨i + 1, _, rfl, by omega, fin _ ?_, rfl⟩, hmu⟩
              simp only [true_and]
              show decide (d.kids[i] ≤ 2147483647) = true ↔ _
              rw [decide_eq_true_eq]; omega
            · have q2 : decide (d.kids[i] ≥ 1) = false := decide_eq_false hk1
              ((conv=>whnf);repeat((first|(with_reducible first|refine Z1 ?_|refine Z2 ?_|refine Z3 ?_|refine Z4 ?_|refine Z5 ?_|refine Z9 (by assumption) rfl ?_|refine ZA (by assumption) rfl ?_|refine ZB (by assumption) rfl ?_|refine Z6 ?_|refine Z7 ?_|refine Z8 ?_)|(with_reducible refine ZM ?_ ?_;(focus rfl)));(conv=>whnf)))
              refine ⟨⟨i + 1, false, rfl, by omega, fin false ?_, rfl⟩, hmu⟩
              simp only [true_and, Bool.false_eq_true, false_iff]
              omega
          · have hge := of_decide_eq_false hlt
            rw [List.take_of_length_le (by omega)] at hbk
            ((conv=>whnf);repeat((first|(with_reducible first|refine Z1 ?_|refine Z2 ?_|refine Z3 ?_|refine Z4 ?_|refine Z5 ?_|refine Z9 (by assumption) rfl ?_|refine ZA (by assumption) rfl ?_|refine ZB (by assumption) rfl ?_|refine Z6 ?_|refine Z7 ?_|refine Z8 ?_)|(with_reducible refine ZM ?_ ?_;(focus rfl)));(conv=>whnf)))
            exact ⟨b, rfl, hbk, rfl⟩
      intro u h1 v6
      rintro ⟨b3, e, hb3, rfl⟩
      cases e
      have hall : b3 = true ↔ NMay d := by unfold NMay; rw [hb3, hb2, hb1]; simp only [and_assoc]
      cases b3
      · ((conv=>whnf);repeat((first|(with_reducible first|refine Z1 ?_|refine Z2 ?_|refine Z3 ?_|refine Z4 ?_|refine Z5 ?_|refine Z9 (by assumption) rfl ?_|refine ZA (by assumption) rfl ?_|refine ZB (by assumption) rfl ?_|refine Z6 ?_|refine Z7 ?_|refine Z8 ?_)|(with_reducible refine ZM ?_ ?_;(focus rfl)));(conv=>whnf)))
        exact ⟨false, rfl, hall, x1⟩
      · ((conv=>whnf);repeat((first|(with_reducible first|refine Z1 ?_|refine Z2 ?_|refine Z3 ?_|refine Z4 ?_|refine Z5 ?_|refine Z9 (by assumption) rfl ?_|refine ZA (by assumption) rfl ?_|refine ZB (by assumption) rfl ?_|refine Z6 ?_|refine Z7 ?_|refine Z8 ?_)|(with_reducible refine ZM ?_ ?_;(focus rfl)));(conv=>whnf)))
        exact ⟨true, rfl, hall, x1⟩

end Go.Proofs.Ythagjflkdoafmaa.Hc
