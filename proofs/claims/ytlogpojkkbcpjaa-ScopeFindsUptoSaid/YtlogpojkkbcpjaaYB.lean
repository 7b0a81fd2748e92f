/- What is around a place: labels; scope.loop, label.find; trees whose labels have a statement. -/
import Derived.Test.YtlogpojkkbcpjaaYA
set_option linter.unusedVariables false
set_option linter.unusedSimpArgs false
namespace Go.Proofs.Ytlogpojkkbcpjaa.Hc
open Go Go.H Go.Proofs
set_option maxRecDepth 100000
set_option maxHeartbeats 4000000
/-- A load of some cells of a block. -/
theorem ldP {h : Heap} {b e o n : Nat} {cs vs : List Value} {K : Value → Prop} (x : BlkW h b e cs) (hv : (cs.drop o).take n = vs) (hn : vs.length = n) (k : K (.agg vs.toArray)) : HLoadN h ((⟨b, 0, none⟩ : Addr).add o) n K := by
  subst hv
  refine ⟨_, hn, fun i hi => ?_, k⟩
  rw [add_mk, add_mk, Nat.zero_add, x.blk.cell, List.getElem?_take_of_lt hi, List.getElem?_drop]
/-- Labels around, from the innermost one on: a name, and whether it is a loop's. -/
def LRep (h : Heap) : List (ByteArray × Bool) → Option Addr → Prop
  | [], a => a = none
  | x :: r, a => ∃ b up, a = some ⟨b, 0, none⟩ ∧ BlkW h b 55 [.string x.1, .bool x.2, .pointer up] ∧ (∀ p, up = some p → p.block < b) ∧ LRep h r up
theorem LRep.keepC {h h' : Heap} (k : KeepC h h') : ∀ {l : List (ByteArray × Bool)} {a : Option Addr}, LRep h l a → LRep h' l a
  | [], a, r => r
  | x :: r, a, ⟨b, up, e, o, hu, r2⟩ => ⟨b, up, e, o.keepC k, hu, LRep.keepC k r2⟩
theorem LRep.ext {h h' : Heap} (k : Ext h h') {l : List (ByteArray × Bool)} {a : Option Addr} (r : LRep h l a) : LRep h' l a := r.keepC (.of_ext k)
theorem LRep.lt {h : Heap} {l : List (ByteArray × Bool)} {a : Option Addr} (r : LRep h l a) : ∀ p, a = some p → p.block < h.size := by
  cases l with
  | nil => simp only [LRep] at r; subst r; intro p ep; cases ep
  | cons x l => obtain ⟨b, up, rfl, o, hu, r2⟩ := r; intro p ep; cases ep; exact o.lt
def findL (s : ByteArray) : List (ByteArray × Bool) → List (ByteArray × Bool)
  | [] => []
  | x :: r => if strEq x.1 s = true then x :: r else findL s r
theorem find_spec {h : Heap} {a : Option Addr} {l : List (ByteArray × Bool)} (r : LRep h l a) (s : ByteArray) : HCalls Try.prog 38 #[.pointer a, .string s] h fun e h' => h' = h ∧ ∃ a', e = .returned (.pointer a') ∧ LRep h (findL s l) a' := by
  refine c38 (by simp) ?_
  ((conv=>whnf);repeat((first|(with_reducible first|refine Z1 ?_|refine Z2 ?_|refine Z3 ?_|refine Z4 ?_|refine Z5 ?_|refine Z9 (by assumption) rfl ?_|refine ZA (by assumption) rfl ?_|refine ZB (by assumption) rfl ?_|refine Z6 ?_|refine Z7 ?_|refine Z8 ?_)|((with_reducible refine ZM ?_ ?_);(focus rfl)));(conv=>whnf)))
  refine loop_rule [0] (fun vs h' => ∃ a' l', vs = [.pointer a'] ∧ LRep h l' a' ∧ h' = h ∧ findL s l' = findL s l)
    (fun vs _ => match vs with | [.pointer (some p)] => p.block + 1 | _ => 0) rfl ?_ ?_
  · exact ⟨a, l, rfl, r, rfl, rfl⟩
  intro u h1 v0
  rintro ⟨a1, l1, e, r1, rfl, hf⟩
  cases e
  cases l1 with
  | nil =>
    simp only [LRep] at r1
    subst r1
    ((conv=>whnf);repeat((first|(with_reducible first|refine Z1 ?_|refine Z2 ?_|refine Z3 ?_|refine Z4 ?_|refine Z5 ?_|refine Z9 (by assumption) rfl ?_|refine ZA (by assumption) rfl ?_|refine ZB (by assumption) rfl ?_|refine Z6 ?_|refine Z7 ?_|refine Z8 ?_)|((with_reducible refine ZM ?_ ?_);(focus rfl)));(conv=>whnf)))
    exact ⟨rfl, none, rfl, by rw [← hf]; rfl⟩
  | cons x l2 =>
    have r0 := r1
    obtain ⟨b, up, rfl, o, hu, r2⟩ := r1
    have qn : (bif true then !(some (⟨b, 0, none⟩ : Addr)).isNone else (some (⟨b, 0, none⟩ : Addr)).isNone) = true := rfl
    cases q : strEq x.1 s
    · have q2 : (!strEq x.1 s) = true := by rw [q]; rfl
      ((conv=>whnf);repeat((first|(with_reducible first|refine Z1 ?_|refine Z2 ?_|refine Z3 ?_|refine Z4 ?_|refine Z5 ?_|refine Z9 (by assumption) rfl ?_|refine ZA (by assumption) rfl ?_|refine ZB (by assumption) rfl ?_|refine Z6 ?_|refine Z7 ?_|refine Z8 ?_)|((with_reducible refine ZM ?_ ?_);(focus rfl)));(conv=>whnf)))
      refine ⟨⟨up, l2, rfl, r2, rfl, by rw [← hf]; simp only [findL]; rw [if_neg (by rw [q]; simp)]⟩, ?_⟩
      cases up with
      | none => show 0 < b + 1; omega
      | some p => have := hu p rfl; show p.block + 1 < b + 1; omega
    · have q2 : (!strEq x.1 s) = false := by rw [q]; rfl
      ((conv=>whnf);repeat((first|(with_reducible first|refine Z1 ?_|refine Z2 ?_|refine Z3 ?_|refine Z4 ?_|refine Z5 ?_|refine Z9 (by assumption) rfl ?_|refine ZA (by assumption) rfl ?_|refine ZB (by assumption) rfl ?_|refine Z6 ?_|refine Z7 ?_|refine Z8 ?_)|((with_reducible refine ZM ?_ ?_);(focus rfl)));(conv=>whnf)))
      refine ⟨rfl, _, rfl, ?_⟩
      rw [← hf]; simp only [findL]; rw [if_pos q]; exact r0
def loopK (k : Int) : Bool := decide (k ≥ 27) && decide (k ≤ 30)
theorem loopk_spec {h : Heap} {d : NT} {cs : List Value} (r : TRep h d cs) : HCalls Try.prog 51 #[.agg cs.toArray] h fun e h' => e = .returned (.bool (loopK d.kind)) ∧ Ext h h' := by
  cases d with
  | mk k nm n t ns l =>
  simp only [TRep] at r
  obtain ⟨b1, b2, b3, b4, b5, b6, b7, ka, kc, la, lc, ys, rfl, s1, s2, s3⟩ := r
  show HCalls Try.prog 51 _ h fun e h' => e = .returned (.bool (loopK k)) ∧ Ext h h'
  refine c51 (by simp) ?_
  ((conv=>whnf);repeat((first|(with_reducible first|refine Z1 ?_|refine Z2 ?_|refine Z3 ?_|refine Z4 ?_|refine Z5 ?_|refine Z9 (by assumption) rfl ?_|refine ZA (by assumption) rfl ?_|refine ZB (by assumption) rfl ?_|refine Z6 ?_|refine Z7 ?_|refine Z8 ?_)|((with_reducible refine ZM ?_ ?_);(focus rfl)));(conv=>whnf)))
  refine new_var (e := 26) [.int .i64 k, .string nm, .int .i64 n, .string t, .slice ka ns.length kc, .slice la l.length lc] rfl ?_
  intro h1 bn o1 x1 z1 hbn
  unfold loopK
  cases q1 : decide (k ≥ 27)
  · ((conv=>whnf);repeat((first|(with_reducible first|refine Z1 ?_|refine Z2 ?_|refine Z3 ?_|refine Z4 ?_|refine Z5 ?_|refine Z9 (by assumption) rfl ?_|refine ZA (by assumption) rfl ?_|refine ZB (by assumption) rfl ?_|refine Z6 ?_|refine Z7 ?_|refine Z8 ?_)|((with_reducible refine ZM ?_ ?_);(focus rfl)));(conv=>whnf)))
    exact ⟨rfl, x1⟩
  · ((conv=>whnf);repeat((first|(with_reducible first|refine Z1 ?_|refine Z2 ?_|refine Z3 ?_|refine Z4 ?_|refine Z5 ?_|refine Z9 (by assumption) rfl ?_|refine ZA (by assumption) rfl ?_|refine ZB (by assumption) rfl ?_|refine Z6 ?_|refine Z7 ?_|refine Z8 ?_)|((with_reducible refine ZM ?_ ?_);(focus rfl)));(conv=>whnf)))
    exact ⟨rfl, x1⟩
/-- Nodes that have a kid wherever the walk asks for the first one. -/
def needs (k : Int) : Bool := (k == 20) || (k == 16) || (k == 30) || (k == 15) || (k == 38)
mutual
def okT : NT → Bool
  | .mk k _ _ _ _ l => (!needs k || decide (1 ≤ l.length)) && okL l
def okL : List NT → Bool
  | [] => true
  | d :: r => okT d && okL r
end
theorem okL_get : ∀ {l : List NT} (_ : okL l = true) (i : Nat) (hi : i < l.length), okT l[i] = true
  | [], _, i, hi => by simp at hi
  | d :: l, h, i, hi => by
    simp only [okL, Bool.and_eq_true] at h
    cases i with
    | zero => exact h.1
    | succ i => exact okL_get h.2 i (by simpa using hi)
theorem needs_cut {k : Int} {n : Nat} {f : Form} (hk : needs k = true) (h : formOf k n = some f) : 1 ≤ (cutF f.l).1.length := by
  unfold needs at hk
  simp only [Bool.or_eq_true, beq_iff_eq] at hk
  rcases hk with (((rfl | rfl) | rfl) | rfl) | rfl
  all_goals
    simp only [formOf, stmtOf] at h
    cases h
    decide +kernel
mutual
theorem mayT_ok : ∀ (d : NT), mayT d = true → okT d = true
  | .mk k nm n t ns l => by
    intro h
    simp only [mayT] at h
    split at h
    · cases h
    · rename_i f hf
      simp only [Bool.and_eq_true] at h
      obtain ⟨⟨⟨⟨_, _⟩, h3⟩, h4⟩, _⟩ := h
      simp only [okT, Bool.and_eq_true]
      refine ⟨?_, kidsB_ok _ _ _ h4⟩
      cases hk : needs k
      · rfl
      · have h1 := needs_cut hk hf
        unfold lenOk at h3
        simp only [Bool.and_eq_true, Bool.not_eq_true', decide_eq_false_iff_not] at h3
        rw [Bool.not_true, Bool.false_or]
        exact decide_eq_true (by omega)
theorem kidsB_ok : ∀ (ls : List UInt8) (l : List NT) (i : Nat), kidsB ls l i = true → okL l = true
  | ls, [], i => fun _ => rfl
  | ls, d :: r, i => by
    intro h
    simp only [kidsB, Bool.and_eq_true] at h
    simp only [okL, Bool.and_eq_true]
    exact ⟨mayT_ok d h.1.2, kidsB_ok ls r (i + 1) h.2⟩
end
end Go.Proofs.Ytlogpojkkbcpjaa.Hc
