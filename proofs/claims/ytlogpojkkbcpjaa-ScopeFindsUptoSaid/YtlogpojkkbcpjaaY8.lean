/- Whether a node may be: the pure law of tree.may. -/
import Derived.Test.YtlogpojkkbcpjaaY6
import Derived.Test.YtlogpojkkbcpjaaY7
set_option linter.unusedVariables false
set_option linter.unusedSimpArgs false
namespace Go.Proofs.Ytlogpojkkbcpjaa.Hc
open Go Go.H Go.Proofs
set_option maxRecDepth 100000
set_option maxHeartbeats 4000000
/-- What a form says of a node's kids: those that must be, those that may be often, whether some may. -/
def cutF (s : ByteArray) : List UInt8 × List UInt8 × Bool := Lib.cut s.data.toList [42]
def letters (s : ByteArray) : List UInt8 := (cutF s).1 ++ (cutF s).2.1
def letterAt (ls : List UInt8) (i : Nat) : UInt8 := (ls[min i (ls.length - 1)]?).getD 0
def evenB (t : ByteArray) : Bool := (ibits .and .i64 (t.size : Int) 1) == 0
/-- What a form says of a node without its kids. -/
def headOk (f : Form) (nm : ByteArray) (n : Int) (t : ByteArray) (ns : List ByteArray) (l : List NT) : Bool :=
  namedB nm f.name l && !decide (n < 0) && !decide (n > f.num) && evenB t && !(!strEq t ⟨#[]⟩ && !f.text) && !(decide ((ns.length : Int) > 0) && !f.names)
def lenOk (f : Form) (n : Nat) : Bool := !decide ((n : Int) < ((cutF f.l).1.length : Int)) && !(!(cutF f.l).2.2 && decide ((n : Int) > ((cutF f.l).1.length : Int)))
/-- A kid that may stand only once. -/
def emptyKid (k : Int) (d : NT) : Bool := (k == 35 && d.kind == 42) || (k == 36 && d.kind == 37 && kidKind d.l 0 == 42)
def empties (k : Int) (l : List NT) : Nat := (l.filter (emptyKid k)).length
mutual
def mayT : NT → Bool
  | .mk k nm n t ns l => match formOf k l.length with
    | none => false
    | some f => headOk f nm n t ns l && !(ns.any fun s => !isNameB s) && lenOk f l.length && kidsB (letters f.l) l 0 && decide ((empties k l : Int) < 2)
def kidsB (ls : List UInt8) : List NT → Nat → Bool
  | [], _ => true
  | d :: r, i => (shapeB (exprB d.kind) d.kind d.l (letterAt ls i).toNat && mayT d) && kidsB ls r (i + 1)
end
/-- Where often is allowed there is a letter for it. -/
theorem often_some {k : Int} {n : Nat} {f : Form} (h : formOf k n = some f) : (cutF f.l).2.2 = true → (cutF f.l).2.1 ≠ [] := by
  have dyn : ∀ (p : Prop) [Decidable p] (a b : ByteArray) (Q : ByteArray → Prop), Q a → Q b → Q (if p then a else b) := by
    intro p _ a b Q ha hb
    split
    · exact ha
    · exact hb
  unfold formOf at h
  by_cases h1 : k = 1
  · rw [if_pos h1] at h; cases h; decide +kernel
  rw [if_neg h1] at h
  by_cases h2 : k = 2
  · rw [if_pos h2] at h; cases h; decide +kernel
  rw [if_neg h2] at h
  by_cases h3 : k = 3
  · rw [if_pos h3] at h; cases h; decide +kernel
  rw [if_neg h3] at h
  by_cases h4 : k = 4
  · rw [if_pos h4] at h; cases h; decide +kernel
  rw [if_neg h4] at h
  by_cases h5 : k = 5
  · rw [if_pos h5] at h; cases h; decide +kernel
  rw [if_neg h5] at h
  by_cases h6 : k = 6
  · rw [if_pos h6] at h; cases h; decide +kernel
  rw [if_neg h6] at h
  by_cases h7 : k = 7
  · rw [if_pos h7] at h; cases h; decide +kernel
  rw [if_neg h7] at h
  by_cases h8 : k = 8
  · rw [if_pos h8] at h; cases h; decide +kernel
  rw [if_neg h8] at h
  by_cases h9 : k = 9
  · rw [if_pos h9] at h; cases h; decide +kernel
  rw [if_neg h9] at h
  by_cases h10 : k = 10
  · rw [if_pos h10] at h; cases h; decide +kernel
  rw [if_neg h10] at h
  by_cases h11 : k = 11
  · rw [if_pos h11] at h; cases h; decide +kernel
  rw [if_neg h11] at h
  by_cases h12 : k = 12
  · rw [if_pos h12] at h; cases h; decide +kernel
  rw [if_neg h12] at h
  by_cases h13 : k = 13
  · rw [if_pos h13] at h; cases h; decide +kernel
  rw [if_neg h13] at h
  by_cases h14 : k = 14
  · rw [if_pos h14] at h; cases h; decide +kernel
  rw [if_neg h14] at h
  by_cases h15 : k = 15
  · rw [if_pos h15] at h; cases h; decide +kernel
  rw [if_neg h15] at h
  by_cases h16 : k = 16
  · rw [if_pos h16] at h; cases h; decide +kernel
  rw [if_neg h16] at h
  by_cases h17 : k = 17
  · rw [if_pos h17] at h; cases h; decide +kernel
  rw [if_neg h17] at h
  by_cases h18 : k = 18
  · rw [if_pos h18] at h; cases h; decide +kernel
  rw [if_neg h18] at h
  by_cases h19 : k = 19
  · rw [if_pos h19] at h; cases h; decide +kernel
  rw [if_neg h19] at h
  by_cases h20 : k = 20
  · rw [if_pos h20] at h; cases h; decide +kernel
  rw [if_neg h20] at h
  by_cases h21 : k = 21
  · rw [if_pos h21] at h; cases h; decide +kernel
  rw [if_neg h21] at h
  by_cases h40 : k = 40
  · rw [if_pos h40] at h; cases h; decide +kernel
  rw [if_neg h40] at h
  by_cases h42 : k = 42
  · rw [if_pos h42] at h; cases h; decide +kernel
  rw [if_neg h42] at h
  unfold stmtOf at h
  by_cases h22 : k = 22
  · rw [if_pos h22] at h; cases h; decide +kernel
  rw [if_neg h22] at h
  by_cases h23 : k = 23
  · rw [if_pos h23] at h; cases h; refine dyn _ _ _ (fun s => (cutF s).2.2 = true → (cutF s).2.1 ≠ []) (by decide +kernel) (by decide +kernel)
  rw [if_neg h23] at h
  by_cases h24 : k = 24
  · rw [if_pos h24] at h; cases h; decide +kernel
  rw [if_neg h24] at h
  by_cases h25 : k = 25
  · rw [if_pos h25] at h; cases h; decide +kernel
  rw [if_neg h25] at h
  by_cases h26 : k = 26
  · rw [if_pos h26] at h; cases h; refine dyn _ _ _ (fun s => (cutF s).2.2 = true → (cutF s).2.1 ≠ []) (by decide +kernel) (by decide +kernel)
  rw [if_neg h26] at h
  by_cases h27 : k = 27
  · rw [if_pos h27] at h; cases h; decide +kernel
  rw [if_neg h27] at h
  by_cases h28 : k = 28
  · rw [if_pos h28] at h; cases h; decide +kernel
  rw [if_neg h28] at h
  by_cases h29 : k = 29
  · rw [if_pos h29] at h; cases h; decide +kernel
  rw [if_neg h29] at h
  by_cases h30 : k = 30
  · rw [if_pos h30] at h; cases h; decide +kernel
  rw [if_neg h30] at h
  by_cases h31 : k = 31
  · rw [if_pos h31] at h; cases h; decide +kernel
  rw [if_neg h31] at h
  by_cases h32 : k = 32
  · rw [if_pos h32] at h; cases h; decide +kernel
  rw [if_neg h32] at h
  by_cases h33 : k = 33
  · rw [if_pos h33] at h; cases h; refine dyn _ _ _ (fun s => (cutF s).2.2 = true → (cutF s).2.1 ≠ []) (by decide +kernel) (by decide +kernel)
  rw [if_neg h33] at h
  by_cases h34 : k = 34
  · rw [if_pos h34] at h; cases h; decide +kernel
  rw [if_neg h34] at h
  by_cases h35 : k = 35
  · rw [if_pos h35] at h; cases h; decide +kernel
  rw [if_neg h35] at h
  by_cases h36 : k = 36
  · rw [if_pos h36] at h; cases h; decide +kernel
  rw [if_neg h36] at h
  by_cases h37 : k = 37
  · rw [if_pos h37] at h; cases h; decide +kernel
  rw [if_neg h37] at h
  by_cases h38 : k = 38
  · rw [if_pos h38] at h; cases h; decide +kernel
  rw [if_neg h38] at h
  by_cases h39 : k = 39
  · rw [if_pos h39] at h; cases h; decide +kernel
  rw [if_neg h39] at h
  by_cases h41 : k = 41
  · rw [if_pos h41] at h; cases h; decide +kernel
  rw [if_neg h41] at h
  cases h
/-- Forms are short. -/
theorem form_small {k : Int} {n : Nat} {f : Form} (h : formOf k n = some f) : f.name.size ≤ 100 ∧ f.l.size ≤ 10 := by
  have dyn : ∀ (p : Prop) [Decidable p] (a b : ByteArray), a.size ≤ 10 → b.size ≤ 10 → (if p then a else b).size ≤ 10 := by
    intro p _ a b ha hb
    split
    · exact ha
    · exact hb
  unfold formOf at h
  by_cases h1 : k = 1
  · rw [if_pos h1] at h; cases h; exact ⟨by decide +kernel, by decide +kernel⟩
  rw [if_neg h1] at h
  by_cases h2 : k = 2
  · rw [if_pos h2] at h; cases h; exact ⟨by decide +kernel, by decide +kernel⟩
  rw [if_neg h2] at h
  by_cases h3 : k = 3
  · rw [if_pos h3] at h; cases h; exact ⟨by decide +kernel, by decide +kernel⟩
  rw [if_neg h3] at h
  by_cases h4 : k = 4
  · rw [if_pos h4] at h; cases h; exact ⟨by decide +kernel, by decide +kernel⟩
  rw [if_neg h4] at h
  by_cases h5 : k = 5
  · rw [if_pos h5] at h; cases h; exact ⟨by decide +kernel, by decide +kernel⟩
  rw [if_neg h5] at h
  by_cases h6 : k = 6
  · rw [if_pos h6] at h; cases h; exact ⟨by decide +kernel, by decide +kernel⟩
  rw [if_neg h6] at h
  by_cases h7 : k = 7
  · rw [if_pos h7] at h; cases h; exact ⟨by decide +kernel, by decide +kernel⟩
  rw [if_neg h7] at h
  by_cases h8 : k = 8
  · rw [if_pos h8] at h; cases h; exact ⟨by decide +kernel, by decide +kernel⟩
  rw [if_neg h8] at h
  by_cases h9 : k = 9
  · rw [if_pos h9] at h; cases h; exact ⟨by decide +kernel, by decide +kernel⟩
  rw [if_neg h9] at h
  by_cases h10 : k = 10
  · rw [if_pos h10] at h; cases h; exact ⟨by decide +kernel, by decide +kernel⟩
  rw [if_neg h10] at h
  by_cases h11 : k = 11
  · rw [if_pos h11] at h; cases h; exact ⟨by decide +kernel, by decide +kernel⟩
  rw [if_neg h11] at h
  by_cases h12 : k = 12
  · rw [if_pos h12] at h; cases h; exact ⟨by decide +kernel, by decide +kernel⟩
  rw [if_neg h12] at h
  by_cases h13 : k = 13
  · rw [if_pos h13] at h; cases h; exact ⟨by decide +kernel, by decide +kernel⟩
  rw [if_neg h13] at h
  by_cases h14 : k = 14
  · rw [if_pos h14] at h; cases h; exact ⟨by decide +kernel, by decide +kernel⟩
  rw [if_neg h14] at h
  by_cases h15 : k = 15
  · rw [if_pos h15] at h; cases h; exact ⟨by decide +kernel, by decide +kernel⟩
  rw [if_neg h15] at h
  by_cases h16 : k = 16
  · rw [if_pos h16] at h; cases h; exact ⟨by decide +kernel, by decide +kernel⟩
  rw [if_neg h16] at h
  by_cases h17 : k = 17
  · rw [if_pos h17] at h; cases h; exact ⟨by decide +kernel, by decide +kernel⟩
  rw [if_neg h17] at h
  by_cases h18 : k = 18
  · rw [if_pos h18] at h; cases h; exact ⟨by decide +kernel, by decide +kernel⟩
  rw [if_neg h18] at h
  by_cases h19 : k = 19
  · rw [if_pos h19] at h; cases h; exact ⟨by decide +kernel, by decide +kernel⟩
  rw [if_neg h19] at h
  by_cases h20 : k = 20
  · rw [if_pos h20] at h; cases h; exact ⟨by decide +kernel, by decide +kernel⟩
  rw [if_neg h20] at h
  by_cases h21 : k = 21
  · rw [if_pos h21] at h; cases h; exact ⟨by decide +kernel, by decide +kernel⟩
  rw [if_neg h21] at h
  by_cases h40 : k = 40
  · rw [if_pos h40] at h; cases h; exact ⟨by decide +kernel, by decide +kernel⟩
  rw [if_neg h40] at h
  by_cases h42 : k = 42
  · rw [if_pos h42] at h; cases h; exact ⟨by decide +kernel, by decide +kernel⟩
  rw [if_neg h42] at h
  unfold stmtOf at h
  by_cases h22 : k = 22
  · rw [if_pos h22] at h; cases h; exact ⟨by decide +kernel, by decide +kernel⟩
  rw [if_neg h22] at h
  by_cases h23 : k = 23
  · rw [if_pos h23] at h; cases h; exact ⟨by dsimp only; decide +kernel, dyn _ _ _ (by decide +kernel) (by decide +kernel)⟩
  rw [if_neg h23] at h
  by_cases h24 : k = 24
  · rw [if_pos h24] at h; cases h; exact ⟨by decide +kernel, by decide +kernel⟩
  rw [if_neg h24] at h
  by_cases h25 : k = 25
  · rw [if_pos h25] at h; cases h; exact ⟨by decide +kernel, by decide +kernel⟩
  rw [if_neg h25] at h
  by_cases h26 : k = 26
  · rw [if_pos h26] at h; cases h; exact ⟨by dsimp only; decide +kernel, dyn _ _ _ (by decide +kernel) (by decide +kernel)⟩
  rw [if_neg h26] at h
  by_cases h27 : k = 27
  · rw [if_pos h27] at h; cases h; exact ⟨by decide +kernel, by decide +kernel⟩
  rw [if_neg h27] at h
  by_cases h28 : k = 28
  · rw [if_pos h28] at h; cases h; exact ⟨by decide +kernel, by decide +kernel⟩
  rw [if_neg h28] at h
  by_cases h29 : k = 29
  · rw [if_pos h29] at h; cases h; exact ⟨by decide +kernel, by decide +kernel⟩
  rw [if_neg h29] at h
  by_cases h30 : k = 30
  · rw [if_pos h30] at h; cases h; exact ⟨by decide +kernel, by decide +kernel⟩
  rw [if_neg h30] at h
  by_cases h31 : k = 31
  · rw [if_pos h31] at h; cases h; exact ⟨by decide +kernel, by decide +kernel⟩
  rw [if_neg h31] at h
  by_cases h32 : k = 32
  · rw [if_pos h32] at h; cases h; exact ⟨by decide +kernel, by decide +kernel⟩
  rw [if_neg h32] at h
  by_cases h33 : k = 33
  · rw [if_pos h33] at h; cases h; exact ⟨by dsimp only; decide +kernel, dyn _ _ _ (by decide +kernel) (by decide +kernel)⟩
  rw [if_neg h33] at h
  by_cases h34 : k = 34
  · rw [if_pos h34] at h; cases h; exact ⟨by decide +kernel, by decide +kernel⟩
  rw [if_neg h34] at h
  by_cases h35 : k = 35
  · rw [if_pos h35] at h; cases h; exact ⟨by decide +kernel, by decide +kernel⟩
  rw [if_neg h35] at h
  by_cases h36 : k = 36
  · rw [if_pos h36] at h; cases h; exact ⟨by decide +kernel, by decide +kernel⟩
  rw [if_neg h36] at h
  by_cases h37 : k = 37
  · rw [if_pos h37] at h; cases h; exact ⟨by decide +kernel, by decide +kernel⟩
  rw [if_neg h37] at h
  by_cases h38 : k = 38
  · rw [if_pos h38] at h; cases h; exact ⟨by decide +kernel, by decide +kernel⟩
  rw [if_neg h38] at h
  by_cases h39 : k = 39
  · rw [if_pos h39] at h; cases h; exact ⟨by decide +kernel, by decide +kernel⟩
  rw [if_neg h39] at h
  by_cases h41 : k = 41
  · rw [if_pos h41] at h; cases h; exact ⟨by decide +kernel, by decide +kernel⟩
  rw [if_neg h41] at h
  cases h
theorem kidsB_append (ls : List UInt8) : ∀ (l m : List NT) (i : Nat), kidsB ls (l ++ m) i = (kidsB ls l i && kidsB ls m (i + l.length))
  | [], m, i => by simp [kidsB]
  | d :: l, m, i => by
    have h1 := kidsB_append ls l m (i + 1)
    simp only [List.cons_append, kidsB, h1, List.length_cons, Bool.and_assoc]
    rw [show i + 1 + l.length = i + (l.length + 1) by omega]
theorem kidsB_take (ls : List UInt8) (l : List NT) (i : Nat) (hi : i < l.length) : kidsB ls (l.take (i + 1)) 0 = (kidsB ls (l.take i) 0 && (shapeB (exprB l[i].kind) l[i].kind l[i].l (letterAt ls i).toNat && mayT l[i])) := by
  rw [take_succ' hi, kidsB_append]
  have e : (l.take i).length = i := by rw [List.length_take]; omega
  rw [e, Nat.zero_add]
  simp only [kidsB, Bool.and_true]
theorem kidsB_no {ls : List UInt8} {l : List NT} {i : Nat} (h : kidsB ls (l.take i) 0 = false) : kidsB ls l 0 = false := by
  rw [← List.take_append_drop i l, kidsB_append, h]; rfl
theorem empties_take (k : Int) (l : List NT) (i : Nat) (hi : i < l.length) : empties k (l.take (i + 1)) = empties k (l.take i) + (if emptyKid k l[i] = true then 1 else 0) := by
  unfold empties
  rw [take_succ' hi, List.filter_append, List.length_append]
  congr 1
  by_cases h : emptyKid k l[i] = true
  · rw [if_pos h]; simp [h]
  · rw [if_neg h]; simp [h]
theorem cut_len {s : ByteArray} {a b : List UInt8} {m : Bool} (e : cutF s = (a, b, m)) : a.length ≤ s.size ∧ b.length ≤ s.size := by
  unfold cutF Lib.cut at e
  have hs : s.size = s.data.toList.length := rfl
  split at e
  · cases e
    rw [List.length_take, List.length_drop]; omega
  · cases e
    exact ⟨by omega, by simp⟩
end Go.Proofs.Ytlogpojkkbcpjaa.Hc
