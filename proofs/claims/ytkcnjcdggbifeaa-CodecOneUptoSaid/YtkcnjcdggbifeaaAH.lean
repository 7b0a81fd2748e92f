import Derived.Test.YtkcnjcdggbifeaaAG
set_option linter.unusedVariables false
set_option linter.unusedSimpArgs false
namespace Go.Proofs.Ytkcnjcdggbifeaa.Hc
open Go Go.H Go.Proofs
set_option maxRecDepth 100000

def zeroT : DT := .mk 0 0 ⟨#[]⟩ [] []
/-- A text of units that stands there. -/
def rdS (l : List UInt8) : List UInt8 × Nat × Nat := if (rdt l 2147483647).2.2 = 0 ∧ (rdt l 2147483647).1.length % 2 ≠ 0 then ([], 0, 22) else rdt l 2147483647
def strIn (ks : List ByteArray) (s : ByteArray) : Bool := ks.any fun k => strEq k s
theorem strIn_iff {ks : List ByteArray} {s : ByteArray} : strIn ks s = true ↔ s ∈ ks := by
  unfold strIn; rw [List.any_eq_true]
  constructor
  · rintro ⟨k, hk, e⟩; rw [← (strEq_iff _ _).1 e]; exact hk
  · intro h; exact ⟨s, h, (strEq_iff _ _).2 rfl⟩
/-- What stands in a list or a record: f reads one. -/
def rdM (f : List UInt8 → DT × Nat × Nat) (named : Bool) : Nat → List UInt8 → List ByteArray → List DT → Nat → List ByteArray × List DT × Nat × Nat
  | 0, _, ks, xs, at' => (ks, xs, at', 0)
  | n + 1, l, ks, xs, at' => match named with
    | true => if (rdS l).2.2 ≠ 0 then ([], [], 0, (rdS l).2.2) else if strIn ks ⟨(rdS l).1.toArray⟩ = true then ([], [], 0, 22) else
      if (f (l.drop (rdS l).2.1)).2.2 ≠ 0 then ([], [], 0, (f (l.drop (rdS l).2.1)).2.2) else
        rdM f named n ((l.drop (rdS l).2.1).drop (f (l.drop (rdS l).2.1)).2.1) (ks ++ [⟨(rdS l).1.toArray⟩]) (xs ++ [(f (l.drop (rdS l).2.1)).1]) (at' + (rdS l).2.1 + (f (l.drop (rdS l).2.1)).2.1)
    | false => if (f l).2.2 ≠ 0 then ([], [], 0, (f l).2.2) else rdM f named n (l.drop (f l).2.1) ks (xs ++ [(f l).1]) (at' + (f l).2.1)
/-- A list, or a record, without its first byte. -/
def rdL (f : List UInt8 → DT × Nat × Nat) (named : Bool) (r : List UInt8) : DT × Nat × Nat :=
  if (rdn r 0 0).2.2 ≠ 0 then (zeroT, 0, (rdn r 0 0).2.2) else
  if (rdM f named (rdn r 0 0).1 (r.drop (rdn r 0 0).2.1) [] [] (rdn r 0 0).2.1).2.2.2 ≠ 0 then (zeroT, 0, (rdM f named (rdn r 0 0).1 (r.drop (rdn r 0 0).2.1) [] [] (rdn r 0 0).2.1).2.2.2)
  else (.mk (if named = true then 6 else 5) 0 ⟨#[]⟩ (rdM f named (rdn r 0 0).1 (r.drop (rdn r 0 0).2.1) [] [] (rdn r 0 0).2.1).1 (rdM f named (rdn r 0 0).1 (r.drop (rdn r 0 0).2.1) [] [] (rdn r 0 0).2.1).2.1,
    (rdM f named (rdn r 0 0).1 (r.drop (rdn r 0 0).2.1) [] [] (rdn r 0 0).2.1).2.2.1, 0)
/-- A value that stands there, so many may stand in each other. -/
def rd : Nat → List UInt8 → DT × Nat × Nat
  | 0, l => (zeroT, 0, if l = [] then 20 else 31)
  | d + 1, l => match l with
    | [] => (zeroT, 0, 20)
    | c :: r =>
      if c.toNat = 0 ∨ c.toNat = 1 then (.mk c.toNat 0 ⟨#[]⟩ [] [], 1, 0)
      else if c.toNat = 2 ∨ c.toNat = 3 then (.mk 2 (c.toNat - 2 : Nat) ⟨#[]⟩ [] [], 1, 0)
      else if c.toNat = 4 ∨ c.toNat = 5 then
        if (rdn r 0 0).2.2 ≠ 0 then (zeroT, 0, (rdn r 0 0).2.2) else if 9007199254740991 - (c.toNat - 4) < (rdn r 0 0).1 then (zeroT, 0, 22)
        else (.mk 3 (if c.toNat = 5 then -1 - ((rdn r 0 0).1 : Int) else (rdn r 0 0).1) ⟨#[]⟩ [] [], (rdn r 0 0).2.1 + 1, 0)
      else if c.toNat = 6 then
        if (rdS r).2.2 ≠ 0 then (zeroT, 0, (rdS r).2.2) else (.mk 4 0 ⟨(rdS r).1.toArray⟩ [] [], (rdS r).2.1 + 1, 0)
      else if c.toNat = 7 ∨ c.toNat = 8 then
        if (rdL (rd d) (c.toNat = 8) r).2.2 ≠ 0 then (zeroT, 0, (rdL (rd d) (c.toNat = 8) r).2.2) else ((rdL (rd d) (c.toNat = 8) r).1, (rdL (rd d) (c.toNat = 8) r).2.1 + 1, 0)
      else (zeroT, 0, 22)

theorem rdn_ok (l : List UInt8) : ((rdn l 0 0).2.2 = 0 ∧ 0 < (rdn l 0 0).2.1 ∧ (rdn l 0 0).2.1 ≤ l.length ∧ (rdn l 0 0).1 < 2 ^ 64) ∨ (((rdn l 0 0).2.2 = 20 ∨ (rdn l 0 0).2.2 = 22) ∧ (rdn l 0 0).1 = 0 ∧ (rdn l 0 0).2.1 = 0) := by
  rcases rdn_facts l 0 0 (by omega) (by simp) with h | h
  · exact .inl ⟨h.1, h.2.1, by omega, h.2.2.2.2⟩
  · exact .inr h
theorem rdt_ok (l : List UInt8) (most : Int) : ((rdt l most).2.2 = 0 ∧ (rdt l most).1.length < (rdt l most).2.1 ∧ (rdt l most).2.1 ≤ l.length ∧ ((rdt l most).1.length : Int) ≤ most) ∨ (((rdt l most).2.2 = 20 ∨ (rdt l most).2.2 = 22) ∧ (rdt l most).1 = [] ∧ (rdt l most).2.1 = 0) := by
  have h := rdn_ok l
  simp only [rdt]
  by_cases h0 : (rdn l 0 0).2.2 = 0
  · rw [if_neg (by simpa using h0)]
    split
    · simp
    split
    · simp
    · rename_i h1 h2
      left
      have e : ((l.drop (rdn l 0 0).2.1).take (rdn l 0 0).1).length = (rdn l 0 0).1 := by rw [List.length_take, List.length_drop]; omega
      dsimp only
      rw [e]
      refine ⟨rfl, ?_, ?_, ?_⟩ <;> omega
  · rw [if_pos h0]
    right
    rcases h with h | h
    · exact absurd h.1 h0
    · exact ⟨h.1, rfl, rfl⟩
theorem rdS_ok (l : List UInt8) : ((rdS l).2.2 = 0 ∧ (rdS l).1.length < (rdS l).2.1 ∧ (rdS l).2.1 ≤ l.length ∧ (rdS l).1.length ≤ 2147483647 ∧ (rdS l).1.length % 2 = 0) ∨ (((rdS l).2.2 = 20 ∨ (rdS l).2.2 = 22) ∧ (rdS l).1 = [] ∧ (rdS l).2.1 = 0) := by
  have h := rdt_ok l 2147483647
  unfold rdS
  split
  · simp
  · rename_i hn
    rcases h with h | h
    · exact .inl ⟨h.1, h.2.1, h.2.2.1, by omega, by simpa [h.1] using hn⟩
    · exact .inr h
/-- What every reading keeps to. -/
def RdOk (l : List UInt8) (r : DT × Nat × Nat) : Prop := (r.2.2 = 0 ∧ 0 < r.2.1 ∧ r.2.1 ≤ l.length) ∨ ((r.2.2 = 20 ∨ r.2.2 = 22 ∨ r.2.2 = 31) ∧ r.2.1 = 0 ∧ r.1 = zeroT)
theorem rdM_ok {f : List UInt8 → DT × Nat × Nat} (hf : ∀ l, RdOk l (f l)) (named : Bool) : ∀ (n : Nat) (l : List UInt8) (ks : List ByteArray) (xs : List DT) (at' : Nat),
    ((rdM f named n l ks xs at').2.2.2 = 0 ∧ at' ≤ (rdM f named n l ks xs at').2.2.1 ∧ (rdM f named n l ks xs at').2.2.1 ≤ at' + l.length) ∨ ((rdM f named n l ks xs at').2.2.2 = 20 ∨ (rdM f named n l ks xs at').2.2.2 = 22 ∨ (rdM f named n l ks xs at').2.2.2 = 31)
  | 0, l, ks, xs, at' => .inl ⟨rfl, Nat.le_refl _, by simp [rdM]⟩
  | n + 1, l, ks, xs, at' => by
    cases named with
    | true =>
      simp only [rdM]
      have hs := rdS_ok l
      have hx := hf (l.drop (rdS l).2.1)
      unfold RdOk at hx
      rw [List.length_drop] at hx
      split
      · right; dsimp only; omega
      split
      · right; simp
      split
      · right; dsimp only; omega
      · have := rdM_ok hf true n ((l.drop (rdS l).2.1).drop (f (l.drop (rdS l).2.1)).2.1) (ks ++ [⟨(rdS l).1.toArray⟩]) (xs ++ [(f (l.drop (rdS l).2.1)).1]) (at' + (rdS l).2.1 + (f (l.drop (rdS l).2.1)).2.1)
        simp only [List.length_drop] at this
        omega
    | false =>
      simp only [rdM]
      have hx := hf l
      unfold RdOk at hx
      split
      · right; dsimp only; omega
      · have := rdM_ok hf false n (l.drop (f l).2.1) ks (xs ++ [(f l).1]) (at' + (f l).2.1)
        simp only [List.length_drop] at this
        omega
theorem rdL_ok {f : List UInt8 → DT × Nat × Nat} (hf : ∀ l, RdOk l (f l)) (named : Bool) (r : List UInt8) : RdOk r (rdL f named r) := by
  have h1 := rdn_ok r
  have h3 := rdM_ok hf named (rdn r 0 0).1 (r.drop (rdn r 0 0).2.1) [] [] (rdn r 0 0).2.1
  rw [List.length_drop] at h3
  unfold RdOk rdL
  repeat' split
  all_goals first
    | (right; refine ⟨?_, rfl, rfl⟩; dsimp only; omega)
    | (left; refine ⟨rfl, ?_, ?_⟩ <;> dsimp only <;> omega)
theorem rd_ok : ∀ (d : Nat) (l : List UInt8), RdOk l (rd d l)
  | 0, l => by unfold RdOk rd; right; refine ⟨?_, rfl, rfl⟩; simp only; split <;> simp
  | d + 1, [] => by unfold RdOk rd; right; simp
  | d + 1, c :: r => by
    have h1 := rdn_ok r
    have h2 := rdS_ok r
    have h3 := rdL_ok (rd_ok d) (c.toNat = 8) r
    unfold RdOk at h3
    unfold RdOk
    simp only [rd, List.length_cons]
    repeat' split
    all_goals first
      | (right; refine ⟨?_, rfl, rfl⟩; dsimp only; omega)
      | (left; refine ⟨rfl, ?_, ?_⟩ <;> dsimp only <;> omega)

end Go.Proofs.Ytkcnjcdggbifeaa.Hc
