/- Names: what a text is. -/
import Derived.Test.YtlogpojkkbcpjaaY1
import Derived.Test.YtlogpojkkbcpjaaS0
set_option linter.unusedVariables false
set_option linter.unusedSimpArgs false
namespace Go.Proofs.Ytlogpojkkbcpjaa.Hc
open Go Go.H Go.Proofs
set_option maxRecDepth 100000
set_option maxHeartbeats 8000000

/-- The variable internal/bytealg.MaxLen holds a number. -/
def Glb (h : Heap) : Prop := ∃ m : Int, hcell h ⟨0, 0, none⟩ = some (.int .i64 m)
theorem Glb.keepC {h h' : Heap} (g : Glb h) (k : KeepC h h') : Glb h' := by obtain ⟨m, e⟩ := g; exact ⟨m, k.cell e⟩
theorem Glb.ext {h h' : Heap} (g : Glb h) (k : Ext h h') : Glb h' := g.keepC (.of_ext k)
def hasSub (s t : ByteArray) : Bool := Lib.contains s.data.toList t.data.toList
theorem scontains_spec {h : Heap} (g : Glb h) (s t : ByteArray) (hs : s.size < 4294967281) :
    HCalls Try.prog 82 #[.string s, .string t] h fun e h' => e = .returned (.bool (hasSub s t)) ∧ h' = h := by
  obtain ⟨m, hm⟩ := g
  intro w hw
  subst hw
  refine (Any.strings_Contains Try.lays144 s t m w hs hm).mono ?_
  rintro e w' ⟨rfl, hw'⟩
  subst hw'
  exact ⟨⟨rfl, rfl, rfl⟩, rfl, rfl⟩
theorem cut_spec {h : Heap} (g : Glb h) (s t : ByteArray) (hs : s.size < 4294967281) :
    HCalls Try.prog 49 #[.string s, .string t] h fun e h' => e = .returned (.tuple #[.string ⟨(Lib.cut s.data.toList t.data.toList).1.toArray⟩, .string ⟨(Lib.cut s.data.toList t.data.toList).2.1.toArray⟩, .bool (Lib.cut s.data.toList t.data.toList).2.2]) ∧ h' = h := by
  obtain ⟨m, hm⟩ := g
  intro w hw
  subst hw
  refine (Any.strings_Cut Try.lays145 s t m w hs hm).mono ?_
  rintro e w' ⟨rfl, n, rfl⟩
  exact ⟨⟨rfl, rfl, rfl⟩, rfl, rfl⟩
def letterB (c : UInt8) : Bool := (decide (ibits .or .u8 (c.toNat : Int) 32 ≥ 97) && decide (ibits .or .u8 (c.toNat : Int) 32 ≤ 122)) || ((c.toNat : Int) == 95) || ((c.toNat : Int) == 36)
def digitB (c : UInt8) : Bool := decide ((c.toNat : Int) ≥ 48) && decide ((c.toNat : Int) ≤ 57)
def wordB (c : UInt8) : Bool := letterB c || digitB c
theorem letter_spec (c : UInt8) (h : Heap) : HCalls Try.prog 80 #[byteV c] h fun e h' => e = .returned (.bool (letterB c)) ∧ h' = h := by
  unfold byteV letterB
  refine c80 (by simp) ?_
  cases q1 : decide (ibits .or .u8 (c.toNat : Int) 32 ≥ 97) <;> cases q2 : decide (ibits .or .u8 (c.toNat : Int) 32 ≤ 122) <;> cases q3 : ((c.toNat : Int) == 95) <;> ((conv=>whnf);repeat((first|(with_reducible first|refine Z1 ?_|refine Z2 ?_|refine Z3 ?_|refine Z4 ?_|refine Z5 ?_|refine Z9 (by assumption) rfl ?_|refine ZA (by assumption) rfl ?_|refine ZB (by assumption) rfl ?_|refine Z6 ?_|refine Z7 ?_|refine Z8 ?_)|((with_reducible refine ZM ?_ ?_);(focus rfl)));(conv=>whnf))) <;> exact ⟨rfl, rfl⟩
theorem digit_spec (c : UInt8) (h : Heap) : HCalls Try.prog 88 #[byteV c] h fun e h' => e = .returned (.bool (digitB c)) ∧ h' = h := by
  unfold byteV digitB
  refine c88 (by simp) ?_
  cases q1 : decide ((c.toNat : Int) ≥ 48) <;> ((conv=>whnf);repeat((first|(with_reducible first|refine Z1 ?_|refine Z2 ?_|refine Z3 ?_|refine Z4 ?_|refine Z5 ?_|refine Z9 (by assumption) rfl ?_|refine ZA (by assumption) rfl ?_|refine ZB (by assumption) rfl ?_|refine Z6 ?_|refine Z7 ?_|refine Z8 ?_)|((with_reducible refine ZM ?_ ?_);(focus rfl)));(conv=>whnf))) <;> exact ⟨rfl, rfl⟩
theorem at_l {l : List UInt8} {i : Nat} (hi : i < l.length) : (⟨l.toArray⟩ : ByteArray).data[i]! = l[i] := by
  show l.toArray[i]! = l[i]
  simp [hi]
theorem all_take {l : List UInt8} {i : Nat} (hi : i < l.length) (ha : (l.take i).all wordB = true) : (l.take (i + 1)).all wordB = wordB l[i] := by
  rw [take_succ' hi, List.all_append, ha]; simp
theorem row_spec (l : List UInt8) (hl : l.length ≤ 140737488351232) (h : Heap) : HCalls Try.prog 81 #[.string ⟨l.toArray⟩] h fun e h' => (∃ n : Nat, e = .returned (.int .i64 n) ∧ (n = l.length ↔ l.all wordB = true)) ∧ h' = h := by
  have hs : (⟨l.toArray⟩ : ByteArray).size = l.length := rfl
  refine c81 (by simp) ?_
  ((conv=>whnf);repeat((first|(with_reducible first|refine Z1 ?_|refine Z2 ?_|refine Z3 ?_|refine Z4 ?_|refine Z5 ?_|refine Z9 (by assumption) rfl ?_|refine ZA (by assumption) rfl ?_|refine ZB (by assumption) rfl ?_|refine Z6 ?_|refine Z7 ?_|refine Z8 ?_)|((with_reducible refine ZM ?_ ?_);(focus rfl)));(conv=>whnf)))
  refine loop_rule [6] (fun vs h' => ∃ (i : Nat), vs = [.int .i64 i] ∧ i ≤ l.length ∧ h' = h ∧ (l.take i).all wordB = true)
    (fun vs _ => match vs with | [.int _ i] => l.length - i.toNat | _ => 0) rfl ?_ ?_
  · exact ⟨0, rfl, by omega, rfl, by simp⟩
  intro u h1 v6
  rintro ⟨i, e, hi, rfl, ha⟩
  cases e
  ((conv=>whnf);repeat((first|(with_reducible first|refine Z1 ?_|refine Z2 ?_|refine Z3 ?_|refine Z4 ?_|refine Z5 ?_|refine Z9 (by assumption) rfl ?_|refine ZA (by assumption) rfl ?_|refine ZB (by assumption) rfl ?_|refine Z6 ?_|refine Z7 ?_|refine Z8 ?_)|((with_reducible refine ZM ?_ ?_);(focus rfl)));(conv=>whnf)))
  refine HIf.mk (fun hlt => ?_) (fun hlt => ?_)
  · have hi1 : i < l.length := by have := of_decide_eq_true hlt; omega
    have hmu : l.length - ((i : Int) + 1).toNat < l.length - ((i : Int)).toNat := by omega
    have at1 := all_take hi1 ha
    have no : wordB l[i] = false → ((i : Nat) = l.length ↔ l.all wordB = true) := fun hw => by
      constructor
      · intro e; omega
      · intro e
        have := List.all_eq_true.1 e l[i] (List.getElem_mem hi1)
        rw [hw] at this; cases this
    ((conv=>whnf);repeat((first|(with_reducible first|refine Z1 ?_|refine Z2 ?_|refine Z3 ?_|refine Z4 ?_|refine Z5 ?_|refine Z9 (by assumption) rfl ?_|refine ZA (by assumption) rfl ?_|refine ZB (by assumption) rfl ?_|refine Z6 ?_|refine Z7 ?_|refine Z8 ?_)|((with_reducible refine ZM ?_ ?_);(focus rfl)));(conv=>whnf)))
    refine HIdx.mk i rfl hi1 ?_
    rw [at_l hi1]
    ((conv=>whnf);repeat((first|(with_reducible first|refine Z1 ?_|refine Z2 ?_|refine Z3 ?_|refine Z4 ?_|refine Z5 ?_|refine Z9 (by assumption) rfl ?_|refine ZA (by assumption) rfl ?_|refine ZB (by assumption) rfl ?_|refine Z6 ?_|refine Z7 ?_|refine Z8 ?_)|((with_reducible refine ZM ?_ ?_);(focus rfl)));(conv=>whnf)))
    refine HCall.mk ((letter_spec l[i] h1).mono ?_)
    rintro e h2 ⟨rfl, rfl⟩
    cases q1 : letterB l[i]
    · ((conv=>whnf);repeat((first|(with_reducible first|refine Z1 ?_|refine Z2 ?_|refine Z3 ?_|refine Z4 ?_|refine Z5 ?_|refine Z9 (by assumption) rfl ?_|refine ZA (by assumption) rfl ?_|refine ZB (by assumption) rfl ?_|refine Z6 ?_|refine Z7 ?_|refine Z8 ?_)|((with_reducible refine ZM ?_ ?_);(focus rfl)));(conv=>whnf)))
      refine HIdx.mk i rfl hi1 ?_
      rw [at_l hi1]
      ((conv=>whnf);repeat((first|(with_reducible first|refine Z1 ?_|refine Z2 ?_|refine Z3 ?_|refine Z4 ?_|refine Z5 ?_|refine Z9 (by assumption) rfl ?_|refine ZA (by assumption) rfl ?_|refine ZB (by assumption) rfl ?_|refine Z6 ?_|refine Z7 ?_|refine Z8 ?_)|((with_reducible refine ZM ?_ ?_);(focus rfl)));(conv=>whnf)))
      refine HCall.mk ((digit_spec l[i] h2).mono ?_)
      rintro e h3 ⟨rfl, rfl⟩
      cases q2 : digitB l[i]
      · ((conv=>whnf);repeat((first|(with_reducible first|refine Z1 ?_|refine Z2 ?_|refine Z3 ?_|refine Z4 ?_|refine Z5 ?_|refine Z9 (by assumption) rfl ?_|refine ZA (by assumption) rfl ?_|refine ZB (by assumption) rfl ?_|refine Z6 ?_|refine Z7 ?_|refine Z8 ?_)|((with_reducible refine ZM ?_ ?_);(focus rfl)));(conv=>whnf)))
        exact ⟨⟨i, rfl, no (by unfold wordB; rw [q1, q2]; rfl)⟩, rfl⟩
      · ((conv=>whnf);repeat((first|(with_reducible first|refine Z1 ?_|refine Z2 ?_|refine Z3 ?_|refine Z4 ?_|refine Z5 ?_|refine Z9 (by assumption) rfl ?_|refine ZA (by assumption) rfl ?_|refine ZB (by assumption) rfl ?_|refine Z6 ?_|refine Z7 ?_|refine Z8 ?_)|((with_reducible refine ZM ?_ ?_);(focus rfl)));(conv=>whnf)))
        exact ⟨⟨i + 1, rfl, by omega, rfl, by rw [at1]; unfold wordB; rw [q1, q2]; rfl⟩, hmu⟩
    · ((conv=>whnf);repeat((first|(with_reducible first|refine Z1 ?_|refine Z2 ?_|refine Z3 ?_|refine Z4 ?_|refine Z5 ?_|refine Z9 (by assumption) rfl ?_|refine ZA (by assumption) rfl ?_|refine ZB (by assumption) rfl ?_|refine Z6 ?_|refine Z7 ?_|refine Z8 ?_)|((with_reducible refine ZM ?_ ?_);(focus rfl)));(conv=>whnf)))
      exact ⟨⟨i + 1, rfl, by omega, rfl, by rw [at1]; unfold wordB; rw [q1]; rfl⟩, hmu⟩
  · have hge := of_decide_eq_false hlt
    obtain rfl : i = l.length := by omega
    rw [List.take_length] at ha
    ((conv=>whnf);repeat((first|(with_reducible first|refine Z1 ?_|refine Z2 ?_|refine Z3 ?_|refine Z4 ?_|refine Z5 ?_|refine Z9 (by assumption) rfl ?_|refine ZA (by assumption) rfl ?_|refine ZB (by assumption) rfl ?_|refine Z6 ?_|refine Z7 ?_|refine Z8 ?_)|((with_reducible refine ZM ?_ ?_);(focus rfl)));(conv=>whnf)))
    exact ⟨⟨l.length, rfl, by simp [ha]⟩, rfl⟩
/-- An identifier. -/
def identL (l : List UInt8) : Bool := match l with
  | [] => false
  | c :: r => decide (l.length ≤ 32) && letterB c && l.all wordB
def identB (s : ByteArray) : Bool := identL s.data.toList
theorem ident_spec (s : ByteArray) (hl : s.size ≤ 140737488351232) (h : Heap) : HCalls Try.prog 67 #[.string s] h fun e h' => e = .returned (.bool (identB s)) ∧ h' = h := by
  obtain ⟨⟨l⟩⟩ := s
  have hs : (⟨l.toArray⟩ : ByteArray).size = l.length := rfl
  have hs2 : l.length ≤ 140737488351232 := hl
  show HCalls Try.prog 67 #[.string ⟨l.toArray⟩] h _
  refine c67 (by simp) ?_
  have e0 : identB ⟨l.toArray⟩ = identL l := rfl
  show aexec _ _ (abody _ fun e h' => e = .returned (.bool (identB ⟨l.toArray⟩)) ∧ h' = h) _ _
  rw [e0]
  cases l with
  | nil =>
    have q : (!strEq (⟨([] : List UInt8).toArray⟩ : ByteArray) ⟨#[]⟩) = false := by rw [(strEq_iff _ _).2 rfl]; rfl
    ((conv=>whnf);repeat((first|(with_reducible first|refine Z1 ?_|refine Z2 ?_|refine Z3 ?_|refine Z4 ?_|refine Z5 ?_|refine Z9 (by assumption) rfl ?_|refine ZA (by assumption) rfl ?_|refine ZB (by assumption) rfl ?_|refine Z6 ?_|refine Z7 ?_|refine Z8 ?_)|((with_reducible refine ZM ?_ ?_);(focus rfl)));(conv=>whnf)))
    exact ⟨rfl, rfl⟩
  | cons c r =>
    have q : (!strEq (⟨(c :: r).toArray⟩ : ByteArray) ⟨#[]⟩) = true := by rw [(strEq_no _ _).2 (by intro e; cases e)]; rfl
    have hid : identL (c :: r) = (decide ((c :: r).length ≤ 32) && letterB c && (c :: r).all wordB) := rfl
    generalize identL (c :: r) = z at hid
    by_cases h32 : (c :: r).length ≤ 32
    · have q2 : decide (((⟨(c :: r).toArray⟩ : ByteArray).size : Int) ≤ 32) = true := decide_eq_true (by rw [hs]; omega)
      rw [decide_eq_true h32, Bool.true_and] at hid
      ((conv=>whnf);repeat((first|(with_reducible first|refine Z1 ?_|refine Z2 ?_|refine Z3 ?_|refine Z4 ?_|refine Z5 ?_|refine Z9 (by assumption) rfl ?_|refine ZA (by assumption) rfl ?_|refine ZB (by assumption) rfl ?_|refine Z6 ?_|refine Z7 ?_|refine Z8 ?_)|((with_reducible refine ZM ?_ ?_);(focus rfl)));(conv=>whnf)))
      refine HIdx.mk 0 rfl (show 0 < (c :: r).length by simp) ?_
      rw [at_l (by simp)]
      ((conv=>whnf);repeat((first|(with_reducible first|refine Z1 ?_|refine Z2 ?_|refine Z3 ?_|refine Z4 ?_|refine Z5 ?_|refine Z9 (by assumption) rfl ?_|refine ZA (by assumption) rfl ?_|refine ZB (by assumption) rfl ?_|refine Z6 ?_|refine Z7 ?_|refine Z8 ?_)|((with_reducible refine ZM ?_ ?_);(focus rfl)));(conv=>whnf)))
      refine HCall.mk ((letter_spec c h).mono ?_)
      rintro e h2 ⟨rfl, rfl⟩
      rw [List.getElem_cons_zero]
      cases q3 : letterB c
      · rw [q3, Bool.false_and] at hid
        subst hid
        ((conv=>whnf);repeat((first|(with_reducible first|refine Z1 ?_|refine Z2 ?_|refine Z3 ?_|refine Z4 ?_|refine Z5 ?_|refine Z9 (by assumption) rfl ?_|refine ZA (by assumption) rfl ?_|refine ZB (by assumption) rfl ?_|refine Z6 ?_|refine Z7 ?_|refine Z8 ?_)|((with_reducible refine ZM ?_ ?_);(focus rfl)));(conv=>whnf)))
        exact ⟨rfl, rfl⟩
      · rw [q3, Bool.true_and] at hid
        ((conv=>whnf);repeat((first|(with_reducible first|refine Z1 ?_|refine Z2 ?_|refine Z3 ?_|refine Z4 ?_|refine Z5 ?_|refine Z9 (by assumption) rfl ?_|refine ZA (by assumption) rfl ?_|refine ZB (by assumption) rfl ?_|refine Z6 ?_|refine Z7 ?_|refine Z8 ?_)|((with_reducible refine ZM ?_ ?_);(focus rfl)));(conv=>whnf)))
        refine HCall.mk ((row_spec (c :: r) hs2 h2).mono ?_)
        rintro e h3 ⟨⟨n, rfl, hn⟩, rfl⟩
        have q6 : ((n : Int) == ((⟨(c :: r).toArray⟩ : ByteArray).size : Int)) = z := by
          rw [hid, hs]
          cases q5 : (c :: r).all wordB
          · rw [beq_eq_false_iff_ne]; intro e
            have := hn.1 (by omega)
            rw [q5] at this; cases this
          · rw [beq_iff_eq]; have := hn.2 q5; omega
        ((conv=>whnf);repeat((first|(with_reducible first|refine Z1 ?_|refine Z2 ?_|refine Z3 ?_|refine Z4 ?_|refine Z5 ?_|refine Z9 (by assumption) rfl ?_|refine ZA (by assumption) rfl ?_|refine ZB (by assumption) rfl ?_|refine Z6 ?_|refine Z7 ?_|refine Z8 ?_)|((with_reducible refine ZM ?_ ?_);(focus rfl)));(conv=>whnf)))
        exact ⟨by rw [← q6]; rfl, rfl⟩
    · have q2 : decide (((⟨(c :: r).toArray⟩ : ByteArray).size : Int) ≤ 32) = false := decide_eq_false (by rw [hs]; omega)
      rw [decide_eq_false h32, Bool.false_and, Bool.false_and] at hid
      subst hid
      ((conv=>whnf);repeat((first|(with_reducible first|refine Z1 ?_|refine Z2 ?_|refine Z3 ?_|refine Z4 ?_|refine Z5 ?_|refine Z9 (by assumption) rfl ?_|refine ZA (by assumption) rfl ?_|refine ZB (by assumption) rfl ?_|refine Z6 ?_|refine Z7 ?_|refine Z8 ?_)|((with_reducible refine ZM ?_ ?_);(focus rfl)));(conv=>whnf)))
      exact ⟨rfl, rfl⟩

end Go.Proofs.Ytlogpojkkbcpjaa.Hc
