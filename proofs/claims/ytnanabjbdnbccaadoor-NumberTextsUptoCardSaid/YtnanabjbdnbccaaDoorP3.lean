/- Numbers' texts: units, FormatInt by the shelf's contract, both Texts. -/
import Derived.Test.YtnanabjbdnbccaaDoorP2
import Derived.Test.YtnanabjbdnbccaaDoorS0
import Derived.Test.YtnanabjbdnbccaaDoorRows
set_option linter.unusedVariables false
set_option linter.unusedSimpArgs false
namespace Go.Proofs.YtnanabjbdnbccaaDoor.Hc
open Go Go.H Go.Proofs
set_option maxRecDepth 100000
set_option maxHeartbeats 4000000

/-! ### The table -/
def powName : String := Rows.numberTextsRow.named.getD 2 ""
/-- The table of powers of ten lies in the heap. -/
def Tab (h : Heap) : Prop := ∀ w : World, w.heap = h → Lib.TabIs Tryd.prog w powName .u64 Lib.pow10Tab
theorem Tab.ext {h h' : Heap} (t : Tab h) (x : Ext h h') : Tab h' := by
  intro w hw
  have t0 := t { w with heap := h } rfl
  unfold Lib.TabIs World.var? at *
  cases hg : Tryd.prog.globalNamed powName with
  | none => simp [hg] at t0
  | some g =>
    simp only [hg, Option.bind_some] at t0 ⊢
    have hlt : g < h.size := by
      rcases Nat.lt_or_ge g h.size with h' | h'
      · exact h'
      · rw [Array.getElem?_eq_none h'] at t0; simp at t0
    rw [hw, x.2 g hlt]
    exact t0
theorem calls_grow {P : Program} {f : FuncId} {args : Array Value} {h : Heap} {v : Value} (c : ∀ w : World, w.heap = h → Calls P f args w fun e w' => e = .returned v ∧ ∃ k os, w' = Sort.grow (w.drewN k) os) :
    HCalls P f args h fun e h' => e = .returned v ∧ Ext h h' := by
  intro w hw
  refine (c w hw).mono ?_
  rintro e w' ⟨rfl, k, os, rfl⟩
  refine ⟨⟨rfl, rfl, rfl⟩, rfl, ?_⟩
  subst hw
  show Ext w.heap (w.heap ++ os)
  refine ⟨by simp, fun b hb => ?_⟩
  rw [Array.getElem?_append_left hb]
theorem fmt10_spec (n : Int) (h0 : -9223372036854775808 ≤ n) (h1 : n ≤ 9223372036854775807) (h : Heap) (t : Tab h) :
    HCalls Tryd.prog 41 #[.int .i64 n, .int .i64 10] h fun e h' => e = .returned (.string ⟨(Lib.itoa n).toArray⟩) ∧ Ext h h' :=
  calls_grow fun w hw => Any.strconv_FormatInt_10 Tryd.lays173 n h0 h1 w (t w hw)

/-! ### Units -/
/-- A plain text as units. -/
def unitsL (l : List UInt8) : List UInt8 := l.flatMap fun c => [0, c]
theorem unitsL_len (l : List UInt8) : (unitsL l).length = 2 * l.length := by
  induction l with
  | nil => rfl
  | cons c l ih => simp only [unitsL, List.flatMap_cons, List.length_append, List.length_cons, List.length_nil] at ih ⊢; omega
theorem unitsL_snoc (l : List UInt8) (c : UInt8) : unitsL (l ++ [c]) = unitsL l ++ [0, c] := by simp [unitsL]
def plainL (l : List UInt8) : Prop := ∀ c ∈ l, c.toNat < 128

theorem of_spec (l : List UInt8) (hp : plainL l) (hl : l.length ≤ 1048576) (h : Heap) : HCalls Tryd.prog 40 #[.string ⟨l.toArray⟩] h fun e h' =>
    e = .returned (.tuple #[.string ⟨(unitsL l).toArray⟩, .int .i64 0]) ∧ Ext h h' := by
  have hs : (⟨l.toArray⟩ : ByteArray).size = l.length := rfl
  refine c40 (by simp) ?_
  ((conv=>whnf);repeat((first|(with_reducible first|refine Z1 ?_|refine Z2 ?_|refine Z3 ?_|refine Z4 ?_|refine Z5 ?_|refine Z9 (by assumption) rfl ?_|refine ZA (by assumption) rfl ?_|refine ZB (by assumption) rfl ?_|refine Z6 ?_|refine Z7 ?_|refine Z8 ?_)|((with_reducible refine ZM ?_ ?_);(focus rfl)));(conv=>whnf)))
  refine HBound.mk (2 * l.length) (by omega) (by omega) ?_
  refine HBound.mk (2 * l.length) (by omega) (by omega) ?_
  ((conv=>whnf);repeat((first|(with_reducible first|refine Z1 ?_|refine Z2 ?_|refine Z3 ?_|refine Z4 ?_|refine Z5 ?_|refine Z9 (by assumption) rfl ?_|refine ZA (by assumption) rfl ?_|refine ZB (by assumption) rfl ?_|refine Z6 ?_|refine Z7 ?_|refine Z8 ?_)|((with_reducible refine ZM ?_ ?_);(focus rfl)));(conv=>whnf)))
  refine HMust.mk ⟨Nat.le_refl _, by omega⟩ ?_
  refine new_own (e := 5) 1 (2 * l.length) (List.replicate (2 * l.length) (.int .u8 0)) (by rw [zeroCells_one]) (by rw [List.length_replicate, Nat.mul_one]) ?_
  intro h1 b1 w1 x1 z1 hb1
  ((conv=>whnf);repeat((first|(with_reducible first|refine Z1 ?_|refine Z2 ?_|refine Z3 ?_|refine Z4 ?_|refine Z5 ?_|refine Z9 (by assumption) rfl ?_|refine ZA (by assumption) rfl ?_|refine ZB (by assumption) rfl ?_|refine Z6 ?_|refine Z7 ?_|refine Z8 ?_)|((with_reducible refine ZM ?_ ?_);(focus rfl)));(conv=>whnf)))
  refine loop_rule [12] (fun vs h' => ∃ (i : Nat), vs = [.int .i64 i] ∧ i ≤ l.length ∧ Own h' h.size 5 1 (some ⟨b1, 0, none⟩) (2 * l.length) (2 * l.length) ((unitsL (l.take i) ++ List.replicate (2 * (l.length - i)) 0).map byteV) ∧ Ext h h')
    (fun vs _ => match vs with | [.int _ i] => l.length - i.toNat | _ => 0) rfl ?_ ?_
  · exact ⟨0, rfl, by omega, by simpa [unitsL, byteV] using w1, x1⟩
  intro u h2 v12
  rintro ⟨i, e, hi, w2, x2⟩
  cases e
  ((conv=>whnf);repeat((first|(with_reducible first|refine Z1 ?_|refine Z2 ?_|refine Z3 ?_|refine Z4 ?_|refine Z5 ?_|refine Z9 (by assumption) rfl ?_|refine ZA (by assumption) rfl ?_|refine ZB (by assumption) rfl ?_|refine Z6 ?_|refine Z7 ?_|refine Z8 ?_)|((with_reducible refine ZM ?_ ?_);(focus rfl)));(conv=>whnf)))
  refine HIf.mk (fun hlt => ?_) (fun hlt => ?_)
  · have hi1 : i < l.length := by have := of_decide_eq_true hlt; omega
    have hmu : l.length - ((i : Int) + 1).toNat < l.length - ((i : Int)).toNat := by omega
    have hc := hp _ (List.getElem_mem hi1)
    have q : decide ((l[i].toNat : Int) ≥ 128) = false := decide_eq_false (by omega)
    have eget : (⟨l.toArray⟩ : ByteArray).data[i]! = l[i] := by
      show l.toArray[i]! = _
      rw [getElem!_pos l.toArray i (by simpa using hi1)]; simp
    ((conv=>whnf);repeat((first|(with_reducible first|refine Z1 ?_|refine Z2 ?_|refine Z3 ?_|refine Z4 ?_|refine Z5 ?_|refine Z9 (by assumption) rfl ?_|refine ZA (by assumption) rfl ?_|refine ZB (by assumption) rfl ?_|refine Z6 ?_|refine Z7 ?_|refine Z8 ?_)|((with_reducible refine ZM ?_ ?_);(focus rfl)));(conv=>whnf)))
    refine HIdx.mk i rfl hi1 ?_
    rw [eget]
    ((conv=>whnf);repeat((first|(with_reducible first|refine Z1 ?_|refine Z2 ?_|refine Z3 ?_|refine Z4 ?_|refine Z5 ?_|refine Z9 (by assumption) rfl ?_|refine ZA (by assumption) rfl ?_|refine ZB (by assumption) rfl ?_|refine Z6 ?_|refine Z7 ?_|refine Z8 ?_)|((with_reducible refine ZM ?_ ?_);(focus rfl)));(conv=>whnf)))
    refine HIdx.mk i rfl hi1 ?_
    rw [eget]
    ((conv=>whnf);repeat((first|(with_reducible first|refine Z1 ?_|refine Z2 ?_|refine Z3 ?_|refine Z4 ?_|refine Z5 ?_|refine Z9 (by assumption) rfl ?_|refine ZA (by assumption) rfl ?_|refine ZB (by assumption) rfl ?_|refine Z6 ?_|refine Z7 ?_|refine Z8 ?_)|((with_reducible refine ZM ?_ ?_);(focus rfl)));(conv=>whnf)))
    refine HIdx.mk (2 * i + 1) (by omega) (by omega) ?_
    refine sl_some w2.sl (i := 2 * i + 1) (by omega) fun p ep => ?_
    ((conv=>whnf);repeat((first|(with_reducible first|refine Z1 ?_|refine Z2 ?_|refine Z3 ?_|refine Z4 ?_|refine Z5 ?_|refine Z9 (by assumption) rfl ?_|refine ZA (by assumption) rfl ?_|refine ZB (by assumption) rfl ?_|refine Z6 ?_|refine Z7 ?_|refine Z8 ?_)|((with_reducible refine ZM ?_ ?_);(focus rfl)));(conv=>whnf)))
    refine Own.store w2 ep (by omega) rfl ?_
    intro h3 f3 hge z3 w3
    have e3 : ((unitsL (l.take i) ++ List.replicate (2 * (l.length - i)) 0).map byteV).set (2 * i + 1) (.int .u8 (l[i].toNat : Nat)) = ((unitsL (l.take (i + 1)) ++ List.replicate (2 * (l.length - (i + 1))) 0).map byteV) := by
      have h1 : Value.int .u8 (l[i].toNat : Nat) = byteV l[i] := rfl
      have h2 : 2 * (l.length - i) = 2 * (l.length - (i + 1)) + 1 + 1 := by omega
      have h3 : (unitsL (l.take i)).length = 2 * i := by rw [unitsL_len, List.length_take]; omega
      have htk : l.take (i + 1) = l.take i ++ [l[i]] := by rw [List.take_add_one, List.getElem?_eq_getElem hi1]; rfl
      rw [h1, ← List.map_set, htk, unitsL_snoc, h2, List.replicate_succ, List.replicate_succ, List.set_append_right _ _ (by omega), h3]
      have h4 : 2 * i + 1 - 2 * i = 1 := by omega
      rw [h4]
      simp
    replace w3 : Own h3 h.size 5 1 (some ⟨b1, 0, none⟩) (2 * l.length) (2 * l.length) (((unitsL (l.take i) ++ List.replicate (2 * (l.length - i)) 0).map byteV).set (2 * i + 1) (.int .u8 (l[i].toNat : Nat))) := w3
    rw [e3] at w3
    ((conv=>whnf);repeat((first|(with_reducible first|refine Z1 ?_|refine Z2 ?_|refine Z3 ?_|refine Z4 ?_|refine Z5 ?_|refine Z9 (by assumption) rfl ?_|refine ZA (by assumption) rfl ?_|refine ZB (by assumption) rfl ?_|refine Z6 ?_|refine Z7 ?_|refine Z8 ?_)|((with_reducible refine ZM ?_ ?_);(focus rfl)));(conv=>whnf)))
    exact ⟨⟨i + 1, rfl, by omega, w3, x2.offNew f3 hge⟩, hmu⟩
  · have hge := of_decide_eq_false hlt
    obtain rfl : i = l.length := by omega
    rw [List.take_length, Nat.sub_self] at w2
    simp only [Nat.mul_zero, List.replicate_zero, List.append_nil] at w2
    have s2 := w2.sl
    ((conv=>whnf);repeat((first|(with_reducible first|refine Z1 ?_|refine Z2 ?_|refine Z3 ?_|refine Z4 ?_|refine Z5 ?_|refine Z9 (by assumption) rfl ?_|refine ZA (by assumption) rfl ?_|refine ZB (by assumption) rfl ?_|refine Z6 ?_|refine Z7 ?_|refine Z8 ?_)|((with_reducible refine ZM ?_ ?_);(focus rfl)));(conv=>whnf)))
    refine s2.bytes ?_
    ((conv=>whnf);repeat((first|(with_reducible first|refine Z1 ?_|refine Z2 ?_|refine Z3 ?_|refine Z4 ?_|refine Z5 ?_|refine Z9 (by assumption) rfl ?_|refine ZA (by assumption) rfl ?_|refine ZB (by assumption) rfl ?_|refine Z6 ?_|refine Z7 ?_|refine Z8 ?_)|((with_reducible refine ZM ?_ ?_);(focus rfl)));(conv=>whnf)))
    exact ⟨rfl, x2⟩

/-! ### Numerals -/
theorem dec_plain (u : Nat) : plainL (Lib.decDigits u) := by
  induction u using Nat.strongRecOn with
  | ind u ih =>
    rw [Lib.decDigits]
    split
    · intro c hc; simp only [List.mem_singleton] at hc; subst hc; simp; omega
    · intro c hc
      rcases List.mem_append.1 hc with hc | hc
      · exact ih (u / 10) (by omega) c hc
      · simp only [List.mem_singleton] at hc; subst hc; simp; omega
theorem itoa_plain (n : Int) : plainL (Lib.itoa n) := by
  unfold Lib.itoa
  split
  · intro c hc
    rcases List.mem_cons.1 hc with rfl | hc
    · decide
    · exact dec_plain _ c hc
  · exact dec_plain _
theorem dec_len (u : Nat) : ∀ k, u < 10 ^ (k + 1) → (Lib.decDigits u).length ≤ k + 1 := by
  induction u using Nat.strongRecOn with
  | ind u ih =>
    intro k hk
    rw [Lib.decDigits]
    split
    · simp
    · rename_i h
      cases k with
      | zero => simp at hk; omega
      | succ k =>
        rw [List.length_append]
        have := ih (u / 10) (by omega) k (by rw [Nat.div_lt_iff_lt_mul (by omega)]; rw [Nat.pow_succ] at hk; exact hk)
        simp; omega
theorem itoa_len (n : Int) (h0 : -9223372036854775808 ≤ n) (h1 : n ≤ 9223372036854775807) : (Lib.itoa n).length ≤ 21 := by
  have hp : (10 : Nat) ^ 20 = 100000000000000000000 := by decide
  unfold Lib.itoa
  split
  · have := dec_len n.natAbs 19 (by rw [hp]; omega)
    simp; omega
  · have := dec_len n.toNat 19 (by rw [hp]; omega)
    omega
/-- A number's text. -/
def textN (n : Int) : ByteArray := ⟨(unitsL (Lib.itoa n)).toArray⟩
theorem text_spec (n : Int) (h0 : -9223372036854775808 ≤ n) (h1 : n ≤ 9223372036854775807) (h : Heap) (t : Tab h) :
    HCalls Tryd.prog 11 #[.int .i64 n] h fun e h' => e = .returned (.string (textN n)) ∧ Ext h h' := by
  refine c11 (by simp) ?_
  ((conv=>whnf);repeat((first|(with_reducible first|refine Z1 ?_|refine Z2 ?_|refine Z3 ?_|refine Z4 ?_|refine Z5 ?_|refine Z9 (by assumption) rfl ?_|refine ZA (by assumption) rfl ?_|refine ZB (by assumption) rfl ?_|refine Z6 ?_|refine Z7 ?_|refine Z8 ?_)|((with_reducible refine ZM ?_ ?_);(focus rfl)));(conv=>whnf)))
  refine HCall.mk ((fmt10_spec n h0 h1 h t).mono ?_)
  rintro e h2 ⟨rfl, x2⟩
  ((conv=>whnf);repeat((first|(with_reducible first|refine Z1 ?_|refine Z2 ?_|refine Z3 ?_|refine Z4 ?_|refine Z5 ?_|refine Z9 (by assumption) rfl ?_|refine ZA (by assumption) rfl ?_|refine ZB (by assumption) rfl ?_|refine Z6 ?_|refine Z7 ?_|refine Z8 ?_)|((with_reducible refine ZM ?_ ?_);(focus rfl)));(conv=>whnf)))
  refine HCall.mk ((of_spec (Lib.itoa n) (itoa_plain n) (by have := itoa_len n h0 h1; omega) h2).mono ?_)
  rintro e h3 ⟨rfl, x3⟩
  ((conv=>whnf);repeat((first|(with_reducible first|refine Z1 ?_|refine Z2 ?_|refine Z3 ?_|refine Z4 ?_|refine Z5 ?_|refine Z9 (by assumption) rfl ?_|refine ZA (by assumption) rfl ?_|refine ZB (by assumption) rfl ?_|refine Z6 ?_|refine Z7 ?_|refine Z8 ?_)|((with_reducible refine ZM ?_ ?_);(focus rfl)));(conv=>whnf)))
  exact ⟨rfl, x2.trans x3⟩

end Go.Proofs.YtnanabjbdnbccaaDoor.Hc
