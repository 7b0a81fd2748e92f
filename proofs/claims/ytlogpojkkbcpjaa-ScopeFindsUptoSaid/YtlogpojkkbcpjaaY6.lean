/- tree.fits (printed by tools/t9.py). -/
import Derived.Test.YtlogpojkkbcpjaaY5
set_option linter.unusedVariables false
set_option linter.unusedSimpArgs false
namespace Go.Proofs.Ytlogpojkkbcpjaa.Hc
open Go Go.H Go.Proofs
set_option maxRecDepth 100000
set_option maxHeartbeats 8000000
def exprB (k : Int) : Bool := decide (k ≥ 1) && decide (k ≤ 21) && (k != 9)
def kidLen (l : List NT) : Nat := match l[0]? with
  | some d => d.l.length
  | none => 0
def stB (k : Int) (x : Bool) : Bool := decide (k ≥ 22) && decide (k ≤ 40) && (k != 23) && (k != 37) && ((k != 39) || x)
def shapeB (ex : Bool) (k : Int) (l : List NT) (c : Nat) : Bool :=
  if c = 101 then ex else
  if c = 116 then targetB k else
  if c = 102 then ex || (k == 42) else
  if c = 98 then k == 25 else
  if c = 99 then (k == 25) || (k == 42) else
  if c = 112 then k == 9 else
  if c = 100 then k == 23 else
  if c = 118 then ex || (k == 42) || (k == 22) else
  if c = 119 then targetB k || ((k == 22) && ((l.length : Int) == 1) && ((kidLen l : Int) == 0)) else
  if c = 107 then k == 37 else
  if c = 115 then stB k false else if c = 120 then stB k true else false
/-- A load of the first kid's L. -/
theorem tkids {h : Heap} {a : Option Addr} {c : Nat} {xs : List Value} {l : List NT} {p : Addr} {K : Value → Prop} (x : Sl h 6 a l.length c xs) (r : TReps h l xs) (ep : a = some p) (hi : 0 < l.length)
    (k : ∀ b c', K (.slice b (kidLen l) c')) : HLoad h ((p.add (0 * 6)).add 5) K := by
  obtain ⟨cs, r1, r2⟩ := r.els.get (fun _ _ r => r.len) 0 hi
  have hk : kidLen l = l[0].l.length := by unfold kidLen; rw [List.getElem?_eq_getElem hi]
  cases hd : l[0] with
  | mk kk nm n t ns kl =>
  rw [hd] at r1 hk
  simp only [TRep] at r1
  obtain ⟨_, _, _, _, _, _, _, ka, kc, la, lc, ys, rfl, _⟩ := r1
  refine ⟨_, ?_, k la lc⟩
  rw [add_add, x.2.2.2 p ep (0 * 6 + 5) (by omega), r2 5 (by omega), hk]; rfl
theorem fits_spec {h : Heap} {d : NT} {cs : List Value} {mb : Bool} (r : TRep h d cs) (c : UInt8) (hm : ∀ h', Ext h h' → HCalls Try.prog 31 #[.agg cs.toArray] h' fun e h'' => e = .returned (.bool mb) ∧ Ext h' h'') :
    HCalls Try.prog 50 #[.agg cs.toArray, byteV c] h fun e h' => e = .returned (.bool (shapeB (exprB d.kind) d.kind d.l c.toNat && mb)) ∧ Ext h h' := by
  cases d with
  | mk k nm n t ns l =>
  simp only [TRep] at r
  have r0 := r
  obtain ⟨b1, b2, b3, b4, b5, b6, b7, ka, kc, la, lc, ys, rfl, s1, s2, s3⟩ := r
  show HCalls Try.prog 50 _ h fun e h' => e = .returned (.bool (shapeB (exprB k) k l c.toNat && mb)) ∧ Ext h h'
  unfold byteV
  refine c50 (by simp) ?_
  ((conv=>whnf);repeat((first|(with_reducible first|refine Z1 ?_|refine Z2 ?_|refine Z3 ?_|refine Z4 ?_|refine Z5 ?_|refine Z9 (by assumption) rfl ?_|refine ZA (by assumption) rfl ?_|refine ZB (by assumption) rfl ?_|refine Z6 ?_|refine Z7 ?_|refine Z8 ?_)|((with_reducible refine ZM ?_ ?_);(focus rfl)));(conv=>whnf)))
  refine new_var (e := 26) [.int .i64 k, .string nm, .int .i64 n, .string t, .slice ka ns.length kc, .slice la l.length lc] rfl ?_
  intro h1 bn o1 x1 z1 hbn
  have sh : ∀ {K : Bool → Prop}, (decide (k ≥ 1) = false → K false) → (decide (k ≥ 1) = true → decide (k ≤ 21) = false → K false) → (decide (k ≥ 1) = true → decide (k ≤ 21) = true → (k != 9) = false → K false) → (decide (k ≥ 1) = true → decide (k ≤ 21) = true → (k != 9) = true → K true) → K (exprB k) := by
    intro K k1 k2 k3 k4
    unfold exprB
    cases q1 : decide (k ≥ 1)
    · exact k1 q1
    · cases q2 : decide (k ≤ 21)
      · exact k2 q1 q2
      · cases q3 : (k != 9)
        · exact k3 q1 q2 q3
        · exact k4 q1 q2 q3
  refine sh (K := fun ex => aexec _ _ (abody _ fun e h' => e = .returned (.bool (shapeB ex k l c.toNat && mb)) ∧ Ext h h') _ _) ?_ ?_ ?_ ?_
  · intro q1
    ((conv=>whnf);repeat((first|(with_reducible first|refine Z2 ?_|refine Z3 ?_|refine Z4 ?_|refine Z5 ?_|refine Z9 (by assumption) rfl ?_|refine ZA (by assumption) rfl ?_|refine ZB (by assumption) rfl ?_|refine Z6 ?_|refine Z7 ?_|refine Z8 ?_)|((with_reducible refine ZM ?_ ?_);(focus rfl)));(conv=>whnf)))
    refine cut_rule [7] (fun vs h' => vs = [.bool (shapeB false k l c.toNat)] ∧ Ext h1 h') rfl ?_ ?_
    · skip
      by_cases c101 : c.toNat = 101
      · have q101 : ((c.toNat : Int) == 101) = true := by rw [beq_iff_eq]; omega
        have es : shapeB false k l c.toNat = (false) := by unfold shapeB; rw [if_pos c101]
        rw [es]
        ((conv=>whnf);repeat((first|(with_reducible first|refine Z1 ?_|refine Z2 ?_|refine Z3 ?_|refine Z4 ?_|refine Z5 ?_|refine Z9 (by assumption) rfl ?_|refine ZA (by assumption) rfl ?_|refine ZB (by assumption) rfl ?_|refine Z6 ?_|refine Z7 ?_|refine Z8 ?_)|((with_reducible refine ZM ?_ ?_);(focus rfl)));(conv=>whnf)))
        exact ⟨rfl, Ext.refl _⟩
      have q101 : ((c.toNat : Int) == 101) = false := by rw [beq_eq_false_iff_ne]; omega
      by_cases c116 : c.toNat = 116
      · have q116 : ((c.toNat : Int) == 116) = true := by rw [beq_iff_eq]; omega
        have es : shapeB false k l c.toNat = (targetB k) := by unfold shapeB; rw [if_neg c101, if_pos c116]
        rw [es]
        ((conv=>whnf);repeat((first|(with_reducible first|refine Z1 ?_|refine Z2 ?_|refine Z3 ?_|refine Z4 ?_|refine Z5 ?_|refine Z9 (by assumption) rfl ?_|refine ZA (by assumption) rfl ?_|refine ZB (by assumption) rfl ?_|refine Z6 ?_|refine Z7 ?_|refine Z8 ?_)|((with_reducible refine ZM ?_ ?_);(focus rfl)));(conv=>whnf)))
        refine HCall.mk ((target_spec (d := .mk k nm n t ns l) (TRep.ext x1 (by simp only [TRep]; exact r0))).mono ?_)
        rintro e h2 ⟨rfl, x2⟩
        ((conv=>whnf);repeat((first|(with_reducible first|refine Z1 ?_|refine Z2 ?_|refine Z3 ?_|refine Z4 ?_|refine Z5 ?_|refine Z9 (by assumption) rfl ?_|refine ZA (by assumption) rfl ?_|refine ZB (by assumption) rfl ?_|refine Z6 ?_|refine Z7 ?_|refine Z8 ?_)|((with_reducible refine ZM ?_ ?_);(focus rfl)));(conv=>whnf)))
        exact ⟨rfl, x2⟩
      have q116 : ((c.toNat : Int) == 116) = false := by rw [beq_eq_false_iff_ne]; omega
      by_cases c102 : c.toNat = 102
      · have q102 : ((c.toNat : Int) == 102) = true := by rw [beq_iff_eq]; omega
        have es : shapeB false k l c.toNat = (false || (k == 42)) := by unfold shapeB; rw [if_neg c101, if_neg c116, if_pos c102]
        rw [es]
        ((conv=>whnf);repeat((first|(with_reducible first|refine Z1 ?_|refine Z2 ?_|refine Z3 ?_|refine Z4 ?_|refine Z5 ?_|refine Z9 (by assumption) rfl ?_|refine ZA (by assumption) rfl ?_|refine ZB (by assumption) rfl ?_|refine Z6 ?_|refine Z7 ?_|refine Z8 ?_)|((with_reducible refine ZM ?_ ?_);(focus rfl)));(conv=>whnf)))
        exact ⟨rfl, Ext.refl _⟩
      have q102 : ((c.toNat : Int) == 102) = false := by rw [beq_eq_false_iff_ne]; omega
      by_cases c98 : c.toNat = 98
      · have q98 : ((c.toNat : Int) == 98) = true := by rw [beq_iff_eq]; omega
        have es : shapeB false k l c.toNat = (k == 25) := by unfold shapeB; rw [if_neg c101, if_neg c116, if_neg c102, if_pos c98]
        rw [es]
        ((conv=>whnf);repeat((first|(with_reducible first|refine Z1 ?_|refine Z2 ?_|refine Z3 ?_|refine Z4 ?_|refine Z5 ?_|refine Z9 (by assumption) rfl ?_|refine ZA (by assumption) rfl ?_|refine ZB (by assumption) rfl ?_|refine Z6 ?_|refine Z7 ?_|refine Z8 ?_)|((with_reducible refine ZM ?_ ?_);(focus rfl)));(conv=>whnf)))
        exact ⟨rfl, Ext.refl _⟩
      have q98 : ((c.toNat : Int) == 98) = false := by rw [beq_eq_false_iff_ne]; omega
      by_cases c99 : c.toNat = 99
      · have q99 : ((c.toNat : Int) == 99) = true := by rw [beq_iff_eq]; omega
        have es : shapeB false k l c.toNat = ((k == 25) || (k == 42)) := by unfold shapeB; rw [if_neg c101, if_neg c116, if_neg c102, if_neg c98, if_pos c99]
        rw [es]
        cases v1 : (k == 25)
        · ((conv=>whnf);repeat((first|(with_reducible first|refine Z1 ?_|refine Z2 ?_|refine Z3 ?_|refine Z4 ?_|refine Z5 ?_|refine Z9 (by assumption) rfl ?_|refine ZA (by assumption) rfl ?_|refine ZB (by assumption) rfl ?_|refine Z6 ?_|refine Z7 ?_|refine Z8 ?_)|((with_reducible refine ZM ?_ ?_);(focus rfl)));(conv=>whnf)))
          exact ⟨rfl, Ext.refl _⟩
        · ((conv=>whnf);repeat((first|(with_reducible first|refine Z1 ?_|refine Z2 ?_|refine Z3 ?_|refine Z4 ?_|refine Z5 ?_|refine Z9 (by assumption) rfl ?_|refine ZA (by assumption) rfl ?_|refine ZB (by assumption) rfl ?_|refine Z6 ?_|refine Z7 ?_|refine Z8 ?_)|((with_reducible refine ZM ?_ ?_);(focus rfl)));(conv=>whnf)))
          exact ⟨rfl, Ext.refl _⟩
      have q99 : ((c.toNat : Int) == 99) = false := by rw [beq_eq_false_iff_ne]; omega
      by_cases c112 : c.toNat = 112
      · have q112 : ((c.toNat : Int) == 112) = true := by rw [beq_iff_eq]; omega
        have es : shapeB false k l c.toNat = (k == 9) := by unfold shapeB; rw [if_neg c101, if_neg c116, if_neg c102, if_neg c98, if_neg c99, if_pos c112]
        rw [es]
        ((conv=>whnf);repeat((first|(with_reducible first|refine Z1 ?_|refine Z2 ?_|refine Z3 ?_|refine Z4 ?_|refine Z5 ?_|refine Z9 (by assumption) rfl ?_|refine ZA (by assumption) rfl ?_|refine ZB (by assumption) rfl ?_|refine Z6 ?_|refine Z7 ?_|refine Z8 ?_)|((with_reducible refine ZM ?_ ?_);(focus rfl)));(conv=>whnf)))
        exact ⟨rfl, Ext.refl _⟩
      have q112 : ((c.toNat : Int) == 112) = false := by rw [beq_eq_false_iff_ne]; omega
      by_cases c100 : c.toNat = 100
      · have q100 : ((c.toNat : Int) == 100) = true := by rw [beq_iff_eq]; omega
        have es : shapeB false k l c.toNat = (k == 23) := by unfold shapeB; rw [if_neg c101, if_neg c116, if_neg c102, if_neg c98, if_neg c99, if_neg c112, if_pos c100]
        rw [es]
        ((conv=>whnf);repeat((first|(with_reducible first|refine Z1 ?_|refine Z2 ?_|refine Z3 ?_|refine Z4 ?_|refine Z5 ?_|refine Z9 (by assumption) rfl ?_|refine ZA (by assumption) rfl ?_|refine ZB (by assumption) rfl ?_|refine Z6 ?_|refine Z7 ?_|refine Z8 ?_)|((with_reducible refine ZM ?_ ?_);(focus rfl)));(conv=>whnf)))
        exact ⟨rfl, Ext.refl _⟩
      have q100 : ((c.toNat : Int) == 100) = false := by rw [beq_eq_false_iff_ne]; omega
      by_cases c118 : c.toNat = 118
      · have q118 : ((c.toNat : Int) == 118) = true := by rw [beq_iff_eq]; omega
        have es : shapeB false k l c.toNat = (false || (k == 42) || (k == 22)) := by unfold shapeB; rw [if_neg c101, if_neg c116, if_neg c102, if_neg c98, if_neg c99, if_neg c112, if_neg c100, if_pos c118]
        rw [es]
        cases v1 : (k == 42)
        · ((conv=>whnf);repeat((first|(with_reducible first|refine Z1 ?_|refine Z2 ?_|refine Z3 ?_|refine Z4 ?_|refine Z5 ?_|refine Z9 (by assumption) rfl ?_|refine ZA (by assumption) rfl ?_|refine ZB (by assumption) rfl ?_|refine Z6 ?_|refine Z7 ?_|refine Z8 ?_)|((with_reducible refine ZM ?_ ?_);(focus rfl)));(conv=>whnf)))
          exact ⟨rfl, Ext.refl _⟩
        · ((conv=>whnf);repeat((first|(with_reducible first|refine Z1 ?_|refine Z2 ?_|refine Z3 ?_|refine Z4 ?_|refine Z5 ?_|refine Z9 (by assumption) rfl ?_|refine ZA (by assumption) rfl ?_|refine ZB (by assumption) rfl ?_|refine Z6 ?_|refine Z7 ?_|refine Z8 ?_)|((with_reducible refine ZM ?_ ?_);(focus rfl)));(conv=>whnf)))
          exact ⟨rfl, Ext.refl _⟩
      have q118 : ((c.toNat : Int) == 118) = false := by rw [beq_eq_false_iff_ne]; omega
      by_cases c119 : c.toNat = 119
      · have q119 : ((c.toNat : Int) == 119) = true := by rw [beq_iff_eq]; omega
        have es : shapeB false k l c.toNat = (targetB k || ((k == 22) && ((l.length : Int) == 1) && ((kidLen l : Int) == 0))) := by unfold shapeB; rw [if_neg c101, if_neg c116, if_neg c102, if_neg c98, if_neg c99, if_neg c112, if_neg c100, if_neg c118, if_pos c119]
        rw [es]
        ((conv=>whnf);repeat((first|(with_reducible first|refine Z1 ?_|refine Z2 ?_|refine Z3 ?_|refine Z4 ?_|refine Z5 ?_|refine Z9 (by assumption) rfl ?_|refine ZA (by assumption) rfl ?_|refine ZB (by assumption) rfl ?_|refine Z6 ?_|refine Z7 ?_|refine Z8 ?_)|((with_reducible refine ZM ?_ ?_);(focus rfl)));(conv=>whnf)))
        refine HCall.mk ((target_spec (d := .mk k nm n t ns l) (TRep.ext x1 (by simp only [TRep]; exact r0))).mono ?_)
        rintro e h2 ⟨rfl, x2⟩
        have o2 := o1.ext x2
        rw [show NT.kind (.mk k nm n t ns l) = k from rfl]
        cases w1 : targetB k
        · cases w2 : (k == 22)
          · ((conv=>whnf);repeat((first|(with_reducible first|refine Z1 ?_|refine Z2 ?_|refine Z3 ?_|refine Z4 ?_|refine Z5 ?_|refine Z9 (by assumption) rfl ?_|refine ZA (by assumption) rfl ?_|refine ZB (by assumption) rfl ?_|refine Z6 ?_|refine Z7 ?_|refine Z8 ?_)|((with_reducible refine ZM ?_ ?_);(focus rfl)));(conv=>whnf)))
            exact ⟨rfl, x2⟩
          · cases w3 : ((l.length : Int) == 1)
            · ((conv=>whnf);repeat((first|(with_reducible first|refine Z1 ?_|refine Z2 ?_|refine Z3 ?_|refine Z4 ?_|refine Z5 ?_|refine Z9 (by assumption) rfl ?_|refine ZA (by assumption) rfl ?_|refine ZB (by assumption) rfl ?_|refine Z6 ?_|refine Z7 ?_|refine Z8 ?_)|((with_reducible refine ZM ?_ ?_);(focus rfl)));(conv=>whnf)))
              exact ⟨rfl, x2⟩
            · have hl0 : 0 < l.length := by rw [beq_iff_eq] at w3; omega
              ((conv=>whnf);repeat((first|(with_reducible first|refine Z1 ?_|refine Z2 ?_|refine Z3 ?_|refine Z4 ?_|refine Z5 ?_|refine Z9 (by assumption) rfl ?_|refine ZA (by assumption) rfl ?_|refine ZB (by assumption) rfl ?_|refine Z6 ?_|refine Z7 ?_|refine Z8 ?_)|((with_reducible refine ZM ?_ ?_);(focus rfl)));(conv=>whnf)))
              refine HIdx.mk 0 rfl hl0 ?_
              refine sl_some s2 hl0 fun p ep => ?_
              ((conv=>whnf);repeat((first|(with_reducible first|refine Z1 ?_|refine Z2 ?_|refine Z3 ?_|refine Z4 ?_|refine Z5 ?_|refine Z9 (by assumption) rfl ?_|refine ZA (by assumption) rfl ?_|refine ZB (by assumption) rfl ?_|refine Z6 ?_|refine Z7 ?_|refine Z8 ?_)|((with_reducible refine ZM ?_ ?_);(focus rfl)));(conv=>whnf)))
              refine tkids (s2.ext (x1.trans x2)) (s3.ext (x1.trans x2)) ep hl0 fun _ _ => ?_
              ((conv=>whnf);repeat((first|(with_reducible first|refine Z1 ?_|refine Z2 ?_|refine Z3 ?_|refine Z4 ?_|refine Z5 ?_|refine Z9 (by assumption) rfl ?_|refine ZA (by assumption) rfl ?_|refine ZB (by assumption) rfl ?_|refine Z6 ?_|refine Z7 ?_|refine Z8 ?_)|((with_reducible refine ZM ?_ ?_);(focus rfl)));(conv=>whnf)))
              exact ⟨rfl, x2⟩
        · ((conv=>whnf);repeat((first|(with_reducible first|refine Z1 ?_|refine Z2 ?_|refine Z3 ?_|refine Z4 ?_|refine Z5 ?_|refine Z9 (by assumption) rfl ?_|refine ZA (by assumption) rfl ?_|refine ZB (by assumption) rfl ?_|refine Z6 ?_|refine Z7 ?_|refine Z8 ?_)|((with_reducible refine ZM ?_ ?_);(focus rfl)));(conv=>whnf)))
          exact ⟨rfl, x2⟩
      have q119 : ((c.toNat : Int) == 119) = false := by rw [beq_eq_false_iff_ne]; omega
      by_cases c107 : c.toNat = 107
      · have q107 : ((c.toNat : Int) == 107) = true := by rw [beq_iff_eq]; omega
        have es : shapeB false k l c.toNat = (k == 37) := by unfold shapeB; rw [if_neg c101, if_neg c116, if_neg c102, if_neg c98, if_neg c99, if_neg c112, if_neg c100, if_neg c118, if_neg c119, if_pos c107]
        rw [es]
        ((conv=>whnf);repeat((first|(with_reducible first|refine Z1 ?_|refine Z2 ?_|refine Z3 ?_|refine Z4 ?_|refine Z5 ?_|refine Z9 (by assumption) rfl ?_|refine ZA (by assumption) rfl ?_|refine ZB (by assumption) rfl ?_|refine Z6 ?_|refine Z7 ?_|refine Z8 ?_)|((with_reducible refine ZM ?_ ?_);(focus rfl)));(conv=>whnf)))
        exact ⟨rfl, Ext.refl _⟩
      have q107 : ((c.toNat : Int) == 107) = false := by rw [beq_eq_false_iff_ne]; omega
      by_cases c115 : c.toNat = 115
      · have q115 : ((c.toNat : Int) == 115) = true := by rw [beq_iff_eq]; omega
        have es : shapeB false k l c.toNat = (stB k false) := by unfold shapeB; rw [if_neg c101, if_neg c116, if_neg c102, if_neg c98, if_neg c99, if_neg c112, if_neg c100, if_neg c118, if_neg c119, if_neg c107, if_pos c115]
        rw [es]
        have c120' : ((c.toNat : Int) == 120) = false := by rw [beq_eq_false_iff_ne]; omega
        unfold stB
        cases a0 : decide (k ≥ 22)
        · ((conv=>whnf);repeat((first|(with_reducible first|refine Z1 ?_|refine Z2 ?_|refine Z3 ?_|refine Z4 ?_|refine Z5 ?_|refine Z9 (by assumption) rfl ?_|refine ZA (by assumption) rfl ?_|refine ZB (by assumption) rfl ?_|refine Z6 ?_|refine Z7 ?_|refine Z8 ?_)|((with_reducible refine ZM ?_ ?_);(focus rfl)));(conv=>whnf)))
          exact ⟨rfl, Ext.refl _⟩
        · cases a1 : decide (k ≤ 40)
          · ((conv=>whnf);repeat((first|(with_reducible first|refine Z1 ?_|refine Z2 ?_|refine Z3 ?_|refine Z4 ?_|refine Z5 ?_|refine Z9 (by assumption) rfl ?_|refine ZA (by assumption) rfl ?_|refine ZB (by assumption) rfl ?_|refine Z6 ?_|refine Z7 ?_|refine Z8 ?_)|((with_reducible refine ZM ?_ ?_);(focus rfl)));(conv=>whnf)))
            exact ⟨rfl, Ext.refl _⟩
          · cases a2 : (k != 23)
            · ((conv=>whnf);repeat((first|(with_reducible first|refine Z1 ?_|refine Z2 ?_|refine Z3 ?_|refine Z4 ?_|refine Z5 ?_|refine Z9 (by assumption) rfl ?_|refine ZA (by assumption) rfl ?_|refine ZB (by assumption) rfl ?_|refine Z6 ?_|refine Z7 ?_|refine Z8 ?_)|((with_reducible refine ZM ?_ ?_);(focus rfl)));(conv=>whnf)))
              exact ⟨rfl, Ext.refl _⟩
            · cases a3 : (k != 37)
              · ((conv=>whnf);repeat((first|(with_reducible first|refine Z1 ?_|refine Z2 ?_|refine Z3 ?_|refine Z4 ?_|refine Z5 ?_|refine Z9 (by assumption) rfl ?_|refine ZA (by assumption) rfl ?_|refine ZB (by assumption) rfl ?_|refine Z6 ?_|refine Z7 ?_|refine Z8 ?_)|((with_reducible refine ZM ?_ ?_);(focus rfl)));(conv=>whnf)))
                exact ⟨rfl, Ext.refl _⟩
              · cases a5 : (k != 39)
                · ((conv=>whnf);repeat((first|(with_reducible first|refine Z1 ?_|refine Z2 ?_|refine Z3 ?_|refine Z4 ?_|refine Z5 ?_|refine Z9 (by assumption) rfl ?_|refine ZA (by assumption) rfl ?_|refine ZB (by assumption) rfl ?_|refine Z6 ?_|refine Z7 ?_|refine Z8 ?_)|((with_reducible refine ZM ?_ ?_);(focus rfl)));(conv=>whnf)))
                  exact ⟨(show [Value.bool ((c.toNat : Int) == 120)] = [Value.bool false] by rw [c120']), Ext.refl _⟩
                · ((conv=>whnf);repeat((first|(with_reducible first|refine Z1 ?_|refine Z2 ?_|refine Z3 ?_|refine Z4 ?_|refine Z5 ?_|refine Z9 (by assumption) rfl ?_|refine ZA (by assumption) rfl ?_|refine ZB (by assumption) rfl ?_|refine Z6 ?_|refine Z7 ?_|refine Z8 ?_)|((with_reducible refine ZM ?_ ?_);(focus rfl)));(conv=>whnf)))
                  exact ⟨rfl, Ext.refl _⟩
      have q115 : ((c.toNat : Int) == 115) = false := by rw [beq_eq_false_iff_ne]; omega
      by_cases c120 : c.toNat = 120
      · have q120 : ((c.toNat : Int) == 120) = true := by rw [beq_iff_eq]; omega
        have es : shapeB false k l c.toNat = (stB k true) := by unfold shapeB; rw [if_neg c101, if_neg c116, if_neg c102, if_neg c98, if_neg c99, if_neg c112, if_neg c100, if_neg c118, if_neg c119, if_neg c107, if_neg c115, if_pos c120]
        rw [es]
        unfold stB
        cases a0 : decide (k ≥ 22)
        · ((conv=>whnf);repeat((first|(with_reducible first|refine Z1 ?_|refine Z2 ?_|refine Z3 ?_|refine Z4 ?_|refine Z5 ?_|refine Z9 (by assumption) rfl ?_|refine ZA (by assumption) rfl ?_|refine ZB (by assumption) rfl ?_|refine Z6 ?_|refine Z7 ?_|refine Z8 ?_)|((with_reducible refine ZM ?_ ?_);(focus rfl)));(conv=>whnf)))
          exact ⟨rfl, Ext.refl _⟩
        · cases a1 : decide (k ≤ 40)
          · ((conv=>whnf);repeat((first|(with_reducible first|refine Z1 ?_|refine Z2 ?_|refine Z3 ?_|refine Z4 ?_|refine Z5 ?_|refine Z9 (by assumption) rfl ?_|refine ZA (by assumption) rfl ?_|refine ZB (by assumption) rfl ?_|refine Z6 ?_|refine Z7 ?_|refine Z8 ?_)|((with_reducible refine ZM ?_ ?_);(focus rfl)));(conv=>whnf)))
            exact ⟨rfl, Ext.refl _⟩
          · cases a2 : (k != 23)
            · ((conv=>whnf);repeat((first|(with_reducible first|refine Z1 ?_|refine Z2 ?_|refine Z3 ?_|refine Z4 ?_|refine Z5 ?_|refine Z9 (by assumption) rfl ?_|refine ZA (by assumption) rfl ?_|refine ZB (by assumption) rfl ?_|refine Z6 ?_|refine Z7 ?_|refine Z8 ?_)|((with_reducible refine ZM ?_ ?_);(focus rfl)));(conv=>whnf)))
              exact ⟨rfl, Ext.refl _⟩
            · cases a3 : (k != 37)
              · ((conv=>whnf);repeat((first|(with_reducible first|refine Z1 ?_|refine Z2 ?_|refine Z3 ?_|refine Z4 ?_|refine Z5 ?_|refine Z9 (by assumption) rfl ?_|refine ZA (by assumption) rfl ?_|refine ZB (by assumption) rfl ?_|refine Z6 ?_|refine Z7 ?_|refine Z8 ?_)|((with_reducible refine ZM ?_ ?_);(focus rfl)));(conv=>whnf)))
                exact ⟨rfl, Ext.refl _⟩
              · cases a5 : (k != 39)
                · ((conv=>whnf);repeat((first|(with_reducible first|refine Z1 ?_|refine Z2 ?_|refine Z3 ?_|refine Z4 ?_|refine Z5 ?_|refine Z9 (by assumption) rfl ?_|refine ZA (by assumption) rfl ?_|refine ZB (by assumption) rfl ?_|refine Z6 ?_|refine Z7 ?_|refine Z8 ?_)|((with_reducible refine ZM ?_ ?_);(focus rfl)));(conv=>whnf)))
                  exact ⟨(show [Value.bool ((c.toNat : Int) == 120)] = [Value.bool true] by rw [q120]), Ext.refl _⟩
                · ((conv=>whnf);repeat((first|(with_reducible first|refine Z1 ?_|refine Z2 ?_|refine Z3 ?_|refine Z4 ?_|refine Z5 ?_|refine Z9 (by assumption) rfl ?_|refine ZA (by assumption) rfl ?_|refine ZB (by assumption) rfl ?_|refine Z6 ?_|refine Z7 ?_|refine Z8 ?_)|((with_reducible refine ZM ?_ ?_);(focus rfl)));(conv=>whnf)))
                  exact ⟨rfl, Ext.refl _⟩
      have q120 : ((c.toNat : Int) == 120) = false := by rw [beq_eq_false_iff_ne]; omega
      have es : shapeB false k l c.toNat = false := by unfold shapeB; rw [if_neg c101, if_neg c116, if_neg c102, if_neg c98, if_neg c99, if_neg c112, if_neg c100, if_neg c118, if_neg c119, if_neg c107, if_neg c115, if_neg c120]
      rw [es]
      ((conv=>whnf);repeat((first|(with_reducible first|refine Z1 ?_|refine Z2 ?_|refine Z3 ?_|refine Z4 ?_|refine Z5 ?_|refine Z9 (by assumption) rfl ?_|refine ZA (by assumption) rfl ?_|refine ZB (by assumption) rfl ?_|refine Z6 ?_|refine Z7 ?_|refine Z8 ?_)|((with_reducible refine ZM ?_ ?_);(focus rfl)));(conv=>whnf)))
      exact ⟨rfl, Ext.refl _⟩
    · intro u2 h2 v7
      rintro ⟨e, x2⟩
      cases e
      have o2 := o1.ext x2
      cases hs : shapeB false k l c.toNat
      · ((conv=>whnf);repeat((first|(with_reducible first|refine Z1 ?_|refine Z2 ?_|refine Z3 ?_|refine Z4 ?_|refine Z5 ?_|refine Z9 (by assumption) rfl ?_|refine ZA (by assumption) rfl ?_|refine ZB (by assumption) rfl ?_|refine Z6 ?_|refine Z7 ?_|refine Z8 ?_)|((with_reducible refine ZM ?_ ?_);(focus rfl)));(conv=>whnf)))
        exact ⟨rfl, x1.trans x2⟩
      · ((conv=>whnf);repeat((first|(with_reducible first|refine Z1 ?_|refine Z2 ?_|refine Z3 ?_|refine Z4 ?_|refine Z5 ?_|refine Z9 (by assumption) rfl ?_|refine ZA (by assumption) rfl ?_|refine ZB (by assumption) rfl ?_|refine Z6 ?_|refine Z7 ?_|refine Z8 ?_)|((with_reducible refine ZM ?_ ?_);(focus rfl)));(conv=>whnf)))
        refine HCall.mk ((hm h2 (x1.trans x2)).mono ?_)
        rintro e h3 ⟨rfl, x3⟩
        ((conv=>whnf);repeat((first|(with_reducible first|refine Z1 ?_|refine Z2 ?_|refine Z3 ?_|refine Z4 ?_|refine Z5 ?_|refine Z9 (by assumption) rfl ?_|refine ZA (by assumption) rfl ?_|refine ZB (by assumption) rfl ?_|refine Z6 ?_|refine Z7 ?_|refine Z8 ?_)|((with_reducible refine ZM ?_ ?_);(focus rfl)));(conv=>whnf)))
        exact ⟨rfl, x1.trans (x2.trans x3)⟩
  · intro q1 q2
    ((conv=>whnf);repeat((first|(with_reducible first|refine Z2 ?_|refine Z3 ?_|refine Z4 ?_|refine Z5 ?_|refine Z9 (by assumption) rfl ?_|refine ZA (by assumption) rfl ?_|refine ZB (by assumption) rfl ?_|refine Z6 ?_|refine Z7 ?_|refine Z8 ?_)|((with_reducible refine ZM ?_ ?_);(focus rfl)));(conv=>whnf)))
    rw [q2]
    refine cut_rule [7] (fun vs h' => vs = [.bool (shapeB false k l c.toNat)] ∧ Ext h1 h') rfl ?_ ?_
    · skip
      by_cases c101 : c.toNat = 101
      · have q101 : ((c.toNat : Int) == 101) = true := by rw [beq_iff_eq]; omega
        have es : shapeB false k l c.toNat = (false) := by unfold shapeB; rw [if_pos c101]
        rw [es]
        ((conv=>whnf);repeat((first|(with_reducible first|refine Z1 ?_|refine Z2 ?_|refine Z3 ?_|refine Z4 ?_|refine Z5 ?_|refine Z9 (by assumption) rfl ?_|refine ZA (by assumption) rfl ?_|refine ZB (by assumption) rfl ?_|refine Z6 ?_|refine Z7 ?_|refine Z8 ?_)|((with_reducible refine ZM ?_ ?_);(focus rfl)));(conv=>whnf)))
        exact ⟨rfl, Ext.refl _⟩
      have q101 : ((c.toNat : Int) == 101) = false := by rw [beq_eq_false_iff_ne]; omega
      by_cases c116 : c.toNat = 116
      · have q116 : ((c.toNat : Int) == 116) = true := by rw [beq_iff_eq]; omega
        have es : shapeB false k l c.toNat = (targetB k) := by unfold shapeB; rw [if_neg c101, if_pos c116]
        rw [es]
        ((conv=>whnf);repeat((first|(with_reducible first|refine Z1 ?_|refine Z2 ?_|refine Z3 ?_|refine Z4 ?_|refine Z5 ?_|refine Z9 (by assumption) rfl ?_|refine ZA (by assumption) rfl ?_|refine ZB (by assumption) rfl ?_|refine Z6 ?_|refine Z7 ?_|refine Z8 ?_)|((with_reducible refine ZM ?_ ?_);(focus rfl)));(conv=>whnf)))
        refine HCall.mk ((target_spec (d := .mk k nm n t ns l) (TRep.ext x1 (by simp only [TRep]; exact r0))).mono ?_)
        rintro e h2 ⟨rfl, x2⟩
        ((conv=>whnf);repeat((first|(with_reducible first|refine Z1 ?_|refine Z2 ?_|refine Z3 ?_|refine Z4 ?_|refine Z5 ?_|refine Z9 (by assumption) rfl ?_|refine ZA (by assumption) rfl ?_|refine ZB (by assumption) rfl ?_|refine Z6 ?_|refine Z7 ?_|refine Z8 ?_)|((with_reducible refine ZM ?_ ?_);(focus rfl)));(conv=>whnf)))
        exact ⟨rfl, x2⟩
      have q116 : ((c.toNat : Int) == 116) = false := by rw [beq_eq_false_iff_ne]; omega
      by_cases c102 : c.toNat = 102
      · have q102 : ((c.toNat : Int) == 102) = true := by rw [beq_iff_eq]; omega
        have es : shapeB false k l c.toNat = (false || (k == 42)) := by unfold shapeB; rw [if_neg c101, if_neg c116, if_pos c102]
        rw [es]
        ((conv=>whnf);repeat((first|(with_reducible first|refine Z1 ?_|refine Z2 ?_|refine Z3 ?_|refine Z4 ?_|refine Z5 ?_|refine Z9 (by assumption) rfl ?_|refine ZA (by assumption) rfl ?_|refine ZB (by assumption) rfl ?_|refine Z6 ?_|refine Z7 ?_|refine Z8 ?_)|((with_reducible refine ZM ?_ ?_);(focus rfl)));(conv=>whnf)))
        exact ⟨rfl, Ext.refl _⟩
      have q102 : ((c.toNat : Int) == 102) = false := by rw [beq_eq_false_iff_ne]; omega
      by_cases c98 : c.toNat = 98
      · have q98 : ((c.toNat : Int) == 98) = true := by rw [beq_iff_eq]; omega
        have es : shapeB false k l c.toNat = (k == 25) := by unfold shapeB; rw [if_neg c101, if_neg c116, if_neg c102, if_pos c98]
        rw [es]
        ((conv=>whnf);repeat((first|(with_reducible first|refine Z1 ?_|refine Z2 ?_|refine Z3 ?_|refine Z4 ?_|refine Z5 ?_|refine Z9 (by assumption) rfl ?_|refine ZA (by assumption) rfl ?_|refine ZB (by assumption) rfl ?_|refine Z6 ?_|refine Z7 ?_|refine Z8 ?_)|((with_reducible refine ZM ?_ ?_);(focus rfl)));(conv=>whnf)))
        exact ⟨rfl, Ext.refl _⟩
      have q98 : ((c.toNat : Int) == 98) = false := by rw [beq_eq_false_iff_ne]; omega
      by_cases c99 : c.toNat = 99
      · have q99 : ((c.toNat : Int) == 99) = true := by rw [beq_iff_eq]; omega
        have es : shapeB false k l c.toNat = ((k == 25) || (k == 42)) := by unfold shapeB; rw [if_neg c101, if_neg c116, if_neg c102, if_neg c98, if_pos c99]
        rw [es]
        cases v1 : (k == 25)
        · ((conv=>whnf);repeat((first|(with_reducible first|refine Z1 ?_|refine Z2 ?_|refine Z3 ?_|refine Z4 ?_|refine Z5 ?_|refine Z9 (by assumption) rfl ?_|refine ZA (by assumption) rfl ?_|refine ZB (by assumption) rfl ?_|refine Z6 ?_|refine Z7 ?_|refine Z8 ?_)|((with_reducible refine ZM ?_ ?_);(focus rfl)));(conv=>whnf)))
          exact ⟨rfl, Ext.refl _⟩
        · ((conv=>whnf);repeat((first|(with_reducible first|refine Z1 ?_|refine Z2 ?_|refine Z3 ?_|refine Z4 ?_|refine Z5 ?_|refine Z9 (by assumption) rfl ?_|refine ZA (by assumption) rfl ?_|refine ZB (by assumption) rfl ?_|refine Z6 ?_|refine Z7 ?_|refine Z8 ?_)|((with_reducible refine ZM ?_ ?_);(focus rfl)));(conv=>whnf)))
          exact ⟨rfl, Ext.refl _⟩
      have q99 : ((c.toNat : Int) == 99) = false := by rw [beq_eq_false_iff_ne]; omega
      by_cases c112 : c.toNat = 112
      · have q112 : ((c.toNat : Int) == 112) = true := by rw [beq_iff_eq]; omega
        have es : shapeB false k l c.toNat = (k == 9) := by unfold shapeB; rw [if_neg c101, if_neg c116, if_neg c102, if_neg c98, if_neg c99, if_pos c112]
        rw [es]
        ((conv=>whnf);repeat((first|(with_reducible first|refine Z1 ?_|refine Z2 ?_|refine Z3 ?_|refine Z4 ?_|refine Z5 ?_|refine Z9 (by assumption) rfl ?_|refine ZA (by assumption) rfl ?_|refine ZB (by assumption) rfl ?_|refine Z6 ?_|refine Z7 ?_|refine Z8 ?_)|((with_reducible refine ZM ?_ ?_);(focus rfl)));(conv=>whnf)))
        exact ⟨rfl, Ext.refl _⟩
      have q112 : ((c.toNat : Int) == 112) = false := by rw [beq_eq_false_iff_ne]; omega
      by_cases c100 : c.toNat = 100
      · have q100 : ((c.toNat : Int) == 100) = true := by rw [beq_iff_eq]; omega
        have es : shapeB false k l c.toNat = (k == 23) := by unfold shapeB; rw [if_neg c101, if_neg c116, if_neg c102, if_neg c98, if_neg c99, if_neg c112, if_pos c100]
        rw [es]
        ((conv=>whnf);repeat((first|(with_reducible first|refine Z1 ?_|refine Z2 ?_|refine Z3 ?_|refine Z4 ?_|refine Z5 ?_|refine Z9 (by assumption) rfl ?_|refine ZA (by assumption) rfl ?_|refine ZB (by assumption) rfl ?_|refine Z6 ?_|refine Z7 ?_|refine Z8 ?_)|((with_reducible refine ZM ?_ ?_);(focus rfl)));(conv=>whnf)))
        exact ⟨rfl, Ext.refl _⟩
      have q100 : ((c.toNat : Int) == 100) = false := by rw [beq_eq_false_iff_ne]; omega
      by_cases c118 : c.toNat = 118
      · have q118 : ((c.toNat : Int) == 118) = true := by rw [beq_iff_eq]; omega
        have es : shapeB false k l c.toNat = (false || (k == 42) || (k == 22)) := by unfold shapeB; rw [if_neg c101, if_neg c116, if_neg c102, if_neg c98, if_neg c99, if_neg c112, if_neg c100, if_pos c118]
        rw [es]
        cases v1 : (k == 42)
        · ((conv=>whnf);repeat((first|(with_reducible first|refine Z1 ?_|refine Z2 ?_|refine Z3 ?_|refine Z4 ?_|refine Z5 ?_|refine Z9 (by assumption) rfl ?_|refine ZA (by assumption) rfl ?_|refine ZB (by assumption) rfl ?_|refine Z6 ?_|refine Z7 ?_|refine Z8 ?_)|((with_reducible refine ZM ?_ ?_);(focus rfl)));(conv=>whnf)))
          exact ⟨rfl, Ext.refl _⟩
        · ((conv=>whnf);repeat((first|(with_reducible first|refine Z1 ?_|refine Z2 ?_|refine Z3 ?_|refine Z4 ?_|refine Z5 ?_|refine Z9 (by assumption) rfl ?_|refine ZA (by assumption) rfl ?_|refine ZB (by assumption) rfl ?_|refine Z6 ?_|refine Z7 ?_|refine Z8 ?_)|((with_reducible refine ZM ?_ ?_);(focus rfl)));(conv=>whnf)))
          exact ⟨rfl, Ext.refl _⟩
      have q118 : ((c.toNat : Int) == 118) = false := by rw [beq_eq_false_iff_ne]; omega
      by_cases c119 : c.toNat = 119
      · have q119 : ((c.toNat : Int) == 119) = true := by rw [beq_iff_eq]; omega
        have es : shapeB false k l c.toNat = (targetB k || ((k == 22) && ((l.length : Int) == 1) && ((kidLen l : Int) == 0))) := by unfold shapeB; rw [if_neg c101, if_neg c116, if_neg c102, if_neg c98, if_neg c99, if_neg c112, if_neg c100, if_neg c118, if_pos c119]
        rw [es]
        ((conv=>whnf);repeat((first|(with_reducible first|refine Z1 ?_|refine Z2 ?_|refine Z3 ?_|refine Z4 ?_|refine Z5 ?_|refine Z9 (by assumption) rfl ?_|refine ZA (by assumption) rfl ?_|refine ZB (by assumption) rfl ?_|refine Z6 ?_|refine Z7 ?_|refine Z8 ?_)|((with_reducible refine ZM ?_ ?_);(focus rfl)));(conv=>whnf)))
        refine HCall.mk ((target_spec (d := .mk k nm n t ns l) (TRep.ext x1 (by simp only [TRep]; exact r0))).mono ?_)
        rintro e h2 ⟨rfl, x2⟩
        have o2 := o1.ext x2
        rw [show NT.kind (.mk k nm n t ns l) = k from rfl]
        cases w1 : targetB k
        · cases w2 : (k == 22)
          · ((conv=>whnf);repeat((first|(with_reducible first|refine Z1 ?_|refine Z2 ?_|refine Z3 ?_|refine Z4 ?_|refine Z5 ?_|refine Z9 (by assumption) rfl ?_|refine ZA (by assumption) rfl ?_|refine ZB (by assumption) rfl ?_|refine Z6 ?_|refine Z7 ?_|refine Z8 ?_)|((with_reducible refine ZM ?_ ?_);(focus rfl)));(conv=>whnf)))
            exact ⟨rfl, x2⟩
          · cases w3 : ((l.length : Int) == 1)
            · ((conv=>whnf);repeat((first|(with_reducible first|refine Z1 ?_|refine Z2 ?_|refine Z3 ?_|refine Z4 ?_|refine Z5 ?_|refine Z9 (by assumption) rfl ?_|refine ZA (by assumption) rfl ?_|refine ZB (by assumption) rfl ?_|refine Z6 ?_|refine Z7 ?_|refine Z8 ?_)|((with_reducible refine ZM ?_ ?_);(focus rfl)));(conv=>whnf)))
              exact ⟨rfl, x2⟩
            · have hl0 : 0 < l.length := by rw [beq_iff_eq] at w3; omega
              ((conv=>whnf);repeat((first|(with_reducible first|refine Z1 ?_|refine Z2 ?_|refine Z3 ?_|refine Z4 ?_|refine Z5 ?_|refine Z9 (by assumption) rfl ?_|refine ZA (by assumption) rfl ?_|refine ZB (by assumption) rfl ?_|refine Z6 ?_|refine Z7 ?_|refine Z8 ?_)|((with_reducible refine ZM ?_ ?_);(focus rfl)));(conv=>whnf)))
              refine HIdx.mk 0 rfl hl0 ?_
              refine sl_some s2 hl0 fun p ep => ?_
              ((conv=>whnf);repeat((first|(with_reducible first|refine Z1 ?_|refine Z2 ?_|refine Z3 ?_|refine Z4 ?_|refine Z5 ?_|refine Z9 (by assumption) rfl ?_|refine ZA (by assumption) rfl ?_|refine ZB (by assumption) rfl ?_|refine Z6 ?_|refine Z7 ?_|refine Z8 ?_)|((with_reducible refine ZM ?_ ?_);(focus rfl)));(conv=>whnf)))
              refine tkids (s2.ext (x1.trans x2)) (s3.ext (x1.trans x2)) ep hl0 fun _ _ => ?_
              ((conv=>whnf);repeat((first|(with_reducible first|refine Z1 ?_|refine Z2 ?_|refine Z3 ?_|refine Z4 ?_|refine Z5 ?_|refine Z9 (by assumption) rfl ?_|refine ZA (by assumption) rfl ?_|refine ZB (by assumption) rfl ?_|refine Z6 ?_|refine Z7 ?_|refine Z8 ?_)|((with_reducible refine ZM ?_ ?_);(focus rfl)));(conv=>whnf)))
              exact ⟨rfl, x2⟩
        · ((conv=>whnf);repeat((first|(with_reducible first|refine Z1 ?_|refine Z2 ?_|refine Z3 ?_|refine Z4 ?_|refine Z5 ?_|refine Z9 (by assumption) rfl ?_|refine ZA (by assumption) rfl ?_|refine ZB (by assumption) rfl ?_|refine Z6 ?_|refine Z7 ?_|refine Z8 ?_)|((with_reducible refine ZM ?_ ?_);(focus rfl)));(conv=>whnf)))
          exact ⟨rfl, x2⟩
      have q119 : ((c.toNat : Int) == 119) = false := by rw [beq_eq_false_iff_ne]; omega
      by_cases c107 : c.toNat = 107
      · have q107 : ((c.toNat : Int) == 107) = true := by rw [beq_iff_eq]; omega
        have es : shapeB false k l c.toNat = (k == 37) := by unfold shapeB; rw [if_neg c101, if_neg c116, if_neg c102, if_neg c98, if_neg c99, if_neg c112, if_neg c100, if_neg c118, if_neg c119, if_pos c107]
        rw [es]
        ((conv=>whnf);repeat((first|(with_reducible first|refine Z1 ?_|refine Z2 ?_|refine Z3 ?_|refine Z4 ?_|refine Z5 ?_|refine Z9 (by assumption) rfl ?_|refine ZA (by assumption) rfl ?_|refine ZB (by assumption) rfl ?_|refine Z6 ?_|refine Z7 ?_|refine Z8 ?_)|((with_reducible refine ZM ?_ ?_);(focus rfl)));(conv=>whnf)))
        exact ⟨rfl, Ext.refl _⟩
      have q107 : ((c.toNat : Int) == 107) = false := by rw [beq_eq_false_iff_ne]; omega
      by_cases c115 : c.toNat = 115
      · have q115 : ((c.toNat : Int) == 115) = true := by rw [beq_iff_eq]; omega
        have es : shapeB false k l c.toNat = (stB k false) := by unfold shapeB; rw [if_neg c101, if_neg c116, if_neg c102, if_neg c98, if_neg c99, if_neg c112, if_neg c100, if_neg c118, if_neg c119, if_neg c107, if_pos c115]
        rw [es]
        have c120' : ((c.toNat : Int) == 120) = false := by rw [beq_eq_false_iff_ne]; omega
        unfold stB
        cases a0 : decide (k ≥ 22)
        · ((conv=>whnf);repeat((first|(with_reducible first|refine Z1 ?_|refine Z2 ?_|refine Z3 ?_|refine Z4 ?_|refine Z5 ?_|refine Z9 (by assumption) rfl ?_|refine ZA (by assumption) rfl ?_|refine ZB (by assumption) rfl ?_|refine Z6 ?_|refine Z7 ?_|refine Z8 ?_)|((with_reducible refine ZM ?_ ?_);(focus rfl)));(conv=>whnf)))
          exact ⟨rfl, Ext.refl _⟩
        · cases a1 : decide (k ≤ 40)
          · ((conv=>whnf);repeat((first|(with_reducible first|refine Z1 ?_|refine Z2 ?_|refine Z3 ?_|refine Z4 ?_|refine Z5 ?_|refine Z9 (by assumption) rfl ?_|refine ZA (by assumption) rfl ?_|refine ZB (by assumption) rfl ?_|refine Z6 ?_|refine Z7 ?_|refine Z8 ?_)|((with_reducible refine ZM ?_ ?_);(focus rfl)));(conv=>whnf)))
            exact ⟨rfl, Ext.refl _⟩
          · cases a2 : (k != 23)
            · ((conv=>whnf);repeat((first|(with_reducible first|refine Z1 ?_|refine Z2 ?_|refine Z3 ?_|refine Z4 ?_|refine Z5 ?_|refine Z9 (by assumption) rfl ?_|refine ZA (by assumption) rfl ?_|refine ZB (by assumption) rfl ?_|refine Z6 ?_|refine Z7 ?_|refine Z8 ?_)|((with_reducible refine ZM ?_ ?_);(focus rfl)));(conv=>whnf)))
              exact ⟨rfl, Ext.refl _⟩
            · cases a3 : (k != 37)
              · ((conv=>whnf);repeat((first|(with_reducible first|refine Z1 ?_|refine Z2 ?_|refine Z3 ?_|refine Z4 ?_|refine Z5 ?_|refine Z9 (by assumption) rfl ?_|refine ZA (by assumption) rfl ?_|refine ZB (by assumption) rfl ?_|refine Z6 ?_|refine Z7 ?_|refine Z8 ?_)|((with_reducible refine ZM ?_ ?_);(focus rfl)));(conv=>whnf)))
                exact ⟨rfl, Ext.refl _⟩
              · cases a5 : (k != 39)
                · ((conv=>whnf);repeat((first|(with_reducible first|refine Z1 ?_|refine Z2 ?_|refine Z3 ?_|refine Z4 ?_|refine Z5 ?_|refine Z9 (by assumption) rfl ?_|refine ZA (by assumption) rfl ?_|refine ZB (by assumption) rfl ?_|refine Z6 ?_|refine Z7 ?_|refine Z8 ?_)|((with_reducible refine ZM ?_ ?_);(focus rfl)));(conv=>whnf)))
                  exact ⟨(show [Value.bool ((c.toNat : Int) == 120)] = [Value.bool false] by rw [c120']), Ext.refl _⟩
                · ((conv=>whnf);repeat((first|(with_reducible first|refine Z1 ?_|refine Z2 ?_|refine Z3 ?_|refine Z4 ?_|refine Z5 ?_|refine Z9 (by assumption) rfl ?_|refine ZA (by assumption) rfl ?_|refine ZB (by assumption) rfl ?_|refine Z6 ?_|refine Z7 ?_|refine Z8 ?_)|((with_reducible refine ZM ?_ ?_);(focus rfl)));(conv=>whnf)))
                  exact ⟨rfl, Ext.refl _⟩
      have q115 : ((c.toNat : Int) == 115) = false := by rw [beq_eq_false_iff_ne]; omega
      by_cases c120 : c.toNat = 120
      · have q120 : ((c.toNat : Int) == 120) = true := by rw [beq_iff_eq]; omega
        have es : shapeB false k l c.toNat = (stB k true) := by unfold shapeB; rw [if_neg c101, if_neg c116, if_neg c102, if_neg c98, if_neg c99, if_neg c112, if_neg c100, if_neg c118, if_neg c119, if_neg c107, if_neg c115, if_pos c120]
        rw [es]
        unfold stB
        cases a0 : decide (k ≥ 22)
        · ((conv=>whnf);repeat((first|(with_reducible first|refine Z1 ?_|refine Z2 ?_|refine Z3 ?_|refine Z4 ?_|refine Z5 ?_|refine Z9 (by assumption) rfl ?_|refine ZA (by assumption) rfl ?_|refine ZB (by assumption) rfl ?_|refine Z6 ?_|refine Z7 ?_|refine Z8 ?_)|((with_reducible refine ZM ?_ ?_);(focus rfl)));(conv=>whnf)))
          exact ⟨rfl, Ext.refl _⟩
        · cases a1 : decide (k ≤ 40)
          · ((conv=>whnf);repeat((first|(with_reducible first|refine Z1 ?_|refine Z2 ?_|refine Z3 ?_|refine Z4 ?_|refine Z5 ?_|refine Z9 (by assumption) rfl ?_|refine ZA (by assumption) rfl ?_|refine ZB (by assumption) rfl ?_|refine Z6 ?_|refine Z7 ?_|refine Z8 ?_)|((with_reducible refine ZM ?_ ?_);(focus rfl)));(conv=>whnf)))
            exact ⟨rfl, Ext.refl _⟩
          · cases a2 : (k != 23)
            · ((conv=>whnf);repeat((first|(with_reducible first|refine Z1 ?_|refine Z2 ?_|refine Z3 ?_|refine Z4 ?_|refine Z5 ?_|refine Z9 (by assumption) rfl ?_|refine ZA (by assumption) rfl ?_|refine ZB (by assumption) rfl ?_|refine Z6 ?_|refine Z7 ?_|refine Z8 ?_)|((with_reducible refine ZM ?_ ?_);(focus rfl)));(conv=>whnf)))
              exact ⟨rfl, Ext.refl _⟩
            · cases a3 : (k != 37)
              · ((conv=>whnf);repeat((first|(with_reducible first|refine Z1 ?_|refine Z2 ?_|refine Z3 ?_|refine Z4 ?_|refine Z5 ?_|refine Z9 (by assumption) rfl ?_|refine ZA (by assumption) rfl ?_|refine ZB (by assumption) rfl ?_|refine Z6 ?_|refine Z7 ?_|refine Z8 ?_)|((with_reducible refine ZM ?_ ?_);(focus rfl)));(conv=>whnf)))
                exact ⟨rfl, Ext.refl _⟩
              · cases a5 : (k != 39)
                · ((conv=>whnf);repeat((first|(with_reducible first|refine Z1 ?_|refine Z2 ?_|refine Z3 ?_|refine Z4 ?_|refine Z5 ?_|refine Z9 (by assumption) rfl ?_|refine ZA (by assumption) rfl ?_|refine ZB (by assumption) rfl ?_|refine Z6 ?_|refine Z7 ?_|refine Z8 ?_)|((with_reducible refine ZM ?_ ?_);(focus rfl)));(conv=>whnf)))
                  exact ⟨(show [Value.bool ((c.toNat : Int) == 120)] = [Value.bool true] by rw [q120]), Ext.refl _⟩
                · ((conv=>whnf);repeat((first|(with_reducible first|refine Z1 ?_|refine Z2 ?_|refine Z3 ?_|refine Z4 ?_|refine Z5 ?_|refine Z9 (by assumption) rfl ?_|refine ZA (by assumption) rfl ?_|refine ZB (by assumption) rfl ?_|refine Z6 ?_|refine Z7 ?_|refine Z8 ?_)|((with_reducible refine ZM ?_ ?_);(focus rfl)));(conv=>whnf)))
                  exact ⟨rfl, Ext.refl _⟩
      have q120 : ((c.toNat : Int) == 120) = false := by rw [beq_eq_false_iff_ne]; omega
      have es : shapeB false k l c.toNat = false := by unfold shapeB; rw [if_neg c101, if_neg c116, if_neg c102, if_neg c98, if_neg c99, if_neg c112, if_neg c100, if_neg c118, if_neg c119, if_neg c107, if_neg c115, if_neg c120]
      rw [es]
      ((conv=>whnf);repeat((first|(with_reducible first|refine Z1 ?_|refine Z2 ?_|refine Z3 ?_|refine Z4 ?_|refine Z5 ?_|refine Z9 (by assumption) rfl ?_|refine ZA (by assumption) rfl ?_|refine ZB (by assumption) rfl ?_|refine Z6 ?_|refine Z7 ?_|refine Z8 ?_)|((with_reducible refine ZM ?_ ?_);(focus rfl)));(conv=>whnf)))
      exact ⟨rfl, Ext.refl _⟩
    · intro u2 h2 v7
      rintro ⟨e, x2⟩
      cases e
      have o2 := o1.ext x2
      cases hs : shapeB false k l c.toNat
      · ((conv=>whnf);repeat((first|(with_reducible first|refine Z1 ?_|refine Z2 ?_|refine Z3 ?_|refine Z4 ?_|refine Z5 ?_|refine Z9 (by assumption) rfl ?_|refine ZA (by assumption) rfl ?_|refine ZB (by assumption) rfl ?_|refine Z6 ?_|refine Z7 ?_|refine Z8 ?_)|((with_reducible refine ZM ?_ ?_);(focus rfl)));(conv=>whnf)))
        exact ⟨rfl, x1.trans x2⟩
      · ((conv=>whnf);repeat((first|(with_reducible first|refine Z1 ?_|refine Z2 ?_|refine Z3 ?_|refine Z4 ?_|refine Z5 ?_|refine Z9 (by assumption) rfl ?_|refine ZA (by assumption) rfl ?_|refine ZB (by assumption) rfl ?_|refine Z6 ?_|refine Z7 ?_|refine Z8 ?_)|((with_reducible refine ZM ?_ ?_);(focus rfl)));(conv=>whnf)))
        refine HCall.mk ((hm h2 (x1.trans x2)).mono ?_)
        rintro e h3 ⟨rfl, x3⟩
        ((conv=>whnf);repeat((first|(with_reducible first|refine Z1 ?_|refine Z2 ?_|refine Z3 ?_|refine Z4 ?_|refine Z5 ?_|refine Z9 (by assumption) rfl ?_|refine ZA (by assumption) rfl ?_|refine ZB (by assumption) rfl ?_|refine Z6 ?_|refine Z7 ?_|refine Z8 ?_)|((with_reducible refine ZM ?_ ?_);(focus rfl)));(conv=>whnf)))
        exact ⟨rfl, x1.trans (x2.trans x3)⟩
  · intro q1 q2 q3
    ((conv=>whnf);repeat((first|(with_reducible first|refine Z2 ?_|refine Z3 ?_|refine Z4 ?_|refine Z5 ?_|refine Z9 (by assumption) rfl ?_|refine ZA (by assumption) rfl ?_|refine ZB (by assumption) rfl ?_|refine Z6 ?_|refine Z7 ?_|refine Z8 ?_)|((with_reducible refine ZM ?_ ?_);(focus rfl)));(conv=>whnf)))
    rw [q3]
    refine cut_rule [7] (fun vs h' => vs = [.bool (shapeB false k l c.toNat)] ∧ Ext h1 h') rfl ?_ ?_
    · skip
      by_cases c101 : c.toNat = 101
      · have q101 : ((c.toNat : Int) == 101) = true := by rw [beq_iff_eq]; omega
        have es : shapeB false k l c.toNat = (false) := by unfold shapeB; rw [if_pos c101]
        rw [es]
        ((conv=>whnf);repeat((first|(with_reducible first|refine Z1 ?_|refine Z2 ?_|refine Z3 ?_|refine Z4 ?_|refine Z5 ?_|refine Z9 (by assumption) rfl ?_|refine ZA (by assumption) rfl ?_|refine ZB (by assumption) rfl ?_|refine Z6 ?_|refine Z7 ?_|refine Z8 ?_)|((with_reducible refine ZM ?_ ?_);(focus rfl)));(conv=>whnf)))
        exact ⟨rfl, Ext.refl _⟩
      have q101 : ((c.toNat : Int) == 101) = false := by rw [beq_eq_false_iff_ne]; omega
      by_cases c116 : c.toNat = 116
      · have q116 : ((c.toNat : Int) == 116) = true := by rw [beq_iff_eq]; omega
        have es : shapeB false k l c.toNat = (targetB k) := by unfold shapeB; rw [if_neg c101, if_pos c116]
        rw [es]
        ((conv=>whnf);repeat((first|(with_reducible first|refine Z1 ?_|refine Z2 ?_|refine Z3 ?_|refine Z4 ?_|refine Z5 ?_|refine Z9 (by assumption) rfl ?_|refine ZA (by assumption) rfl ?_|refine ZB (by assumption) rfl ?_|refine Z6 ?_|refine Z7 ?_|refine Z8 ?_)|((with_reducible refine ZM ?_ ?_);(focus rfl)));(conv=>whnf)))
        refine HCall.mk ((target_spec (d := .mk k nm n t ns l) (TRep.ext x1 (by simp only [TRep]; exact r0))).mono ?_)
        rintro e h2 ⟨rfl, x2⟩
        ((conv=>whnf);repeat((first|(with_reducible first|refine Z1 ?_|refine Z2 ?_|refine Z3 ?_|refine Z4 ?_|refine Z5 ?_|refine Z9 (by assumption) rfl ?_|refine ZA (by assumption) rfl ?_|refine ZB (by assumption) rfl ?_|refine Z6 ?_|refine Z7 ?_|refine Z8 ?_)|((with_reducible refine ZM ?_ ?_);(focus rfl)));(conv=>whnf)))
        exact ⟨rfl, x2⟩
      have q116 : ((c.toNat : Int) == 116) = false := by rw [beq_eq_false_iff_ne]; omega
      by_cases c102 : c.toNat = 102
      · have q102 : ((c.toNat : Int) == 102) = true := by rw [beq_iff_eq]; omega
        have es : shapeB false k l c.toNat = (false || (k == 42)) := by unfold shapeB; rw [if_neg c101, if_neg c116, if_pos c102]
        rw [es]
        ((conv=>whnf);repeat((first|(with_reducible first|refine Z1 ?_|refine Z2 ?_|refine Z3 ?_|refine Z4 ?_|refine Z5 ?_|refine Z9 (by assumption) rfl ?_|refine ZA (by assumption) rfl ?_|refine ZB (by assumption) rfl ?_|refine Z6 ?_|refine Z7 ?_|refine Z8 ?_)|((with_reducible refine ZM ?_ ?_);(focus rfl)));(conv=>whnf)))
        exact ⟨rfl, Ext.refl _⟩
      have q102 : ((c.toNat : Int) == 102) = false := by rw [beq_eq_false_iff_ne]; omega
      by_cases c98 : c.toNat = 98
      · have q98 : ((c.toNat : Int) == 98) = true := by rw [beq_iff_eq]; omega
        have es : shapeB false k l c.toNat = (k == 25) := by unfold shapeB; rw [if_neg c101, if_neg c116, if_neg c102, if_pos c98]
        rw [es]
        ((conv=>whnf);repeat((first|(with_reducible first|refine Z1 ?_|refine Z2 ?_|refine Z3 ?_|refine Z4 ?_|refine Z5 ?_|refine Z9 (by assumption) rfl ?_|refine ZA (by assumption) rfl ?_|refine ZB (by assumption) rfl ?_|refine Z6 ?_|refine Z7 ?_|refine Z8 ?_)|((with_reducible refine ZM ?_ ?_);(focus rfl)));(conv=>whnf)))
        exact ⟨rfl, Ext.refl _⟩
      have q98 : ((c.toNat : Int) == 98) = false := by rw [beq_eq_false_iff_ne]; omega
      by_cases c99 : c.toNat = 99
      · have q99 : ((c.toNat : Int) == 99) = true := by rw [beq_iff_eq]; omega
        have es : shapeB false k l c.toNat = ((k == 25) || (k == 42)) := by unfold shapeB; rw [if_neg c101, if_neg c116, if_neg c102, if_neg c98, if_pos c99]
        rw [es]
        cases v1 : (k == 25)
        · ((conv=>whnf);repeat((first|(with_reducible first|refine Z1 ?_|refine Z2 ?_|refine Z3 ?_|refine Z4 ?_|refine Z5 ?_|refine Z9 (by assumption) rfl ?_|refine ZA (by assumption) rfl ?_|refine ZB (by assumption) rfl ?_|refine Z6 ?_|refine Z7 ?_|refine Z8 ?_)|((with_reducible refine ZM ?_ ?_);(focus rfl)));(conv=>whnf)))
          exact ⟨rfl, Ext.refl _⟩
        · ((conv=>whnf);repeat((first|(with_reducible first|refine Z1 ?_|refine Z2 ?_|refine Z3 ?_|refine Z4 ?_|refine Z5 ?_|refine Z9 (by assumption) rfl ?_|refine ZA (by assumption) rfl ?_|refine ZB (by assumption) rfl ?_|refine Z6 ?_|refine Z7 ?_|refine Z8 ?_)|((with_reducible refine ZM ?_ ?_);(focus rfl)));(conv=>whnf)))
          exact ⟨rfl, Ext.refl _⟩
      have q99 : ((c.toNat : Int) == 99) = false := by rw [beq_eq_false_iff_ne]; omega
      by_cases c112 : c.toNat = 112
      · have q112 : ((c.toNat : Int) == 112) = true := by rw [beq_iff_eq]; omega
        have es : shapeB false k l c.toNat = (k == 9) := by unfold shapeB; rw [if_neg c101, if_neg c116, if_neg c102, if_neg c98, if_neg c99, if_pos c112]
        rw [es]
        ((conv=>whnf);repeat((first|(with_reducible first|refine Z1 ?_|refine Z2 ?_|refine Z3 ?_|refine Z4 ?_|refine Z5 ?_|refine Z9 (by assumption) rfl ?_|refine ZA (by assumption) rfl ?_|refine ZB (by assumption) rfl ?_|refine Z6 ?_|refine Z7 ?_|refine Z8 ?_)|((with_reducible refine ZM ?_ ?_);(focus rfl)));(conv=>whnf)))
        exact ⟨rfl, Ext.refl _⟩
      have q112 : ((c.toNat : Int) == 112) = false := by rw [beq_eq_false_iff_ne]; omega
      by_cases c100 : c.toNat = 100
      · have q100 : ((c.toNat : Int) == 100) = true := by rw [beq_iff_eq]; omega
        have es : shapeB false k l c.toNat = (k == 23) := by unfold shapeB; rw [if_neg c101, if_neg c116, if_neg c102, if_neg c98, if_neg c99, if_neg c112, if_pos c100]
        rw [es]
        ((conv=>whnf);repeat((first|(with_reducible first|refine Z1 ?_|refine Z2 ?_|refine Z3 ?_|refine Z4 ?_|refine Z5 ?_|refine Z9 (by assumption) rfl ?_|refine ZA (by assumption) rfl ?_|refine ZB (by assumption) rfl ?_|refine Z6 ?_|refine Z7 ?_|refine Z8 ?_)|((with_reducible refine ZM ?_ ?_);(focus rfl)));(conv=>whnf)))
        exact ⟨rfl, Ext.refl _⟩
      have q100 : ((c.toNat : Int) == 100) = false := by rw [beq_eq_false_iff_ne]; omega
      by_cases c118 : c.toNat = 118
      · have q118 : ((c.toNat : Int) == 118) = true := by rw [beq_iff_eq]; omega
        have es : shapeB false k l c.toNat = (false || (k == 42) || (k == 22)) := by unfold shapeB; rw [if_neg c101, if_neg c116, if_neg c102, if_neg c98, if_neg c99, if_neg c112, if_neg c100, if_pos c118]
        rw [es]
        cases v1 : (k == 42)
        · ((conv=>whnf);repeat((first|(with_reducible first|refine Z1 ?_|refine Z2 ?_|refine Z3 ?_|refine Z4 ?_|refine Z5 ?_|refine Z9 (by assumption) rfl ?_|refine ZA (by assumption) rfl ?_|refine ZB (by assumption) rfl ?_|refine Z6 ?_|refine Z7 ?_|refine Z8 ?_)|((with_reducible refine ZM ?_ ?_);(focus rfl)));(conv=>whnf)))
          exact ⟨rfl, Ext.refl _⟩
        · ((conv=>whnf);repeat((first|(with_reducible first|refine Z1 ?_|refine Z2 ?_|refine Z3 ?_|refine Z4 ?_|refine Z5 ?_|refine Z9 (by assumption) rfl ?_|refine ZA (by assumption) rfl ?_|refine ZB (by assumption) rfl ?_|refine Z6 ?_|refine Z7 ?_|refine Z8 ?_)|((with_reducible refine ZM ?_ ?_);(focus rfl)));(conv=>whnf)))
          exact ⟨rfl, Ext.refl _⟩
      have q118 : ((c.toNat : Int) == 118) = false := by rw [beq_eq_false_iff_ne]; omega
      by_cases c119 : c.toNat = 119
      · have q119 : ((c.toNat : Int) == 119) = true := by rw [beq_iff_eq]; omega
        have es : shapeB false k l c.toNat = (targetB k || ((k == 22) && ((l.length : Int) == 1) && ((kidLen l : Int) == 0))) := by unfold shapeB; rw [if_neg c101, if_neg c116, if_neg c102, if_neg c98, if_neg c99, if_neg c112, if_neg c100, if_neg c118, if_pos c119]
        rw [es]
        ((conv=>whnf);repeat((first|(with_reducible first|refine Z1 ?_|refine Z2 ?_|refine Z3 ?_|refine Z4 ?_|refine Z5 ?_|refine Z9 (by assumption) rfl ?_|refine ZA (by assumption) rfl ?_|refine ZB (by assumption) rfl ?_|refine Z6 ?_|refine Z7 ?_|refine Z8 ?_)|((with_reducible refine ZM ?_ ?_);(focus rfl)));(conv=>whnf)))
        refine HCall.mk ((target_spec (d := .mk k nm n t ns l) (TRep.ext x1 (by simp only [TRep]; exact r0))).mono ?_)
        rintro e h2 ⟨rfl, x2⟩
        have o2 := o1.ext x2
        rw [show NT.kind (.mk k nm n t ns l) = k from rfl]
        cases w1 : targetB k
        · cases w2 : (k == 22)
          · ((conv=>whnf);repeat((first|(with_reducible first|refine Z1 ?_|refine Z2 ?_|refine Z3 ?_|refine Z4 ?_|refine Z5 ?_|refine Z9 (by assumption) rfl ?_|refine ZA (by assumption) rfl ?_|refine ZB (by assumption) rfl ?_|refine Z6 ?_|refine Z7 ?_|refine Z8 ?_)|((with_reducible refine ZM ?_ ?_);(focus rfl)));(conv=>whnf)))
            exact ⟨rfl, x2⟩
          · cases w3 : ((l.length : Int) == 1)
            · ((conv=>whnf);repeat((first|(with_reducible first|refine Z1 ?_|refine Z2 ?_|refine Z3 ?_|refine Z4 ?_|refine Z5 ?_|refine Z9 (by assumption) rfl ?_|refine ZA (by assumption) rfl ?_|refine ZB (by assumption) rfl ?_|refine Z6 ?_|refine Z7 ?_|refine Z8 ?_)|((with_reducible refine ZM ?_ ?_);(focus rfl)));(conv=>whnf)))
              exact ⟨rfl, x2⟩
            · have hl0 : 0 < l.length := by rw [beq_iff_eq] at w3; omega
              ((conv=>whnf);repeat((first|(with_reducible first|refine Z1 ?_|refine Z2 ?_|refine Z3 ?_|refine Z4 ?_|refine Z5 ?_|refine Z9 (by assumption) rfl ?_|refine ZA (by assumption) rfl ?_|refine ZB (by assumption) rfl ?_|refine Z6 ?_|refine Z7 ?_|refine Z8 ?_)|((with_reducible refine ZM ?_ ?_);(focus rfl)));(conv=>whnf)))
              refine HIdx.mk 0 rfl hl0 ?_
              refine sl_some s2 hl0 fun p ep => ?_
              ((conv=>whnf);repeat((first|(with_reducible first|refine Z1 ?_|refine Z2 ?_|refine Z3 ?_|refine Z4 ?_|refine Z5 ?_|refine Z9 (by assumption) rfl ?_|refine ZA (by assumption) rfl ?_|refine ZB (by assumption) rfl ?_|refine Z6 ?_|refine Z7 ?_|refine Z8 ?_)|((with_reducible refine ZM ?_ ?_);(focus rfl)));(conv=>whnf)))
              refine tkids (s2.ext (x1.trans x2)) (s3.ext (x1.trans x2)) ep hl0 fun _ _ => ?_
              ((conv=>whnf);repeat((first|(with_reducible first|refine Z1 ?_|refine Z2 ?_|refine Z3 ?_|refine Z4 ?_|refine Z5 ?_|refine Z9 (by assumption) rfl ?_|refine ZA (by assumption) rfl ?_|refine ZB (by assumption) rfl ?_|refine Z6 ?_|refine Z7 ?_|refine Z8 ?_)|((with_reducible refine ZM ?_ ?_);(focus rfl)));(conv=>whnf)))
              exact ⟨rfl, x2⟩
        · ((conv=>whnf);repeat((first|(with_reducible first|refine Z1 ?_|refine Z2 ?_|refine Z3 ?_|refine Z4 ?_|refine Z5 ?_|refine Z9 (by assumption) rfl ?_|refine ZA (by assumption) rfl ?_|refine ZB (by assumption) rfl ?_|refine Z6 ?_|refine Z7 ?_|refine Z8 ?_)|((with_reducible refine ZM ?_ ?_);(focus rfl)));(conv=>whnf)))
          exact ⟨rfl, x2⟩
      have q119 : ((c.toNat : Int) == 119) = false := by rw [beq_eq_false_iff_ne]; omega
      by_cases c107 : c.toNat = 107
      · have q107 : ((c.toNat : Int) == 107) = true := by rw [beq_iff_eq]; omega
        have es : shapeB false k l c.toNat = (k == 37) := by unfold shapeB; rw [if_neg c101, if_neg c116, if_neg c102, if_neg c98, if_neg c99, if_neg c112, if_neg c100, if_neg c118, if_neg c119, if_pos c107]
        rw [es]
        ((conv=>whnf);repeat((first|(with_reducible first|refine Z1 ?_|refine Z2 ?_|refine Z3 ?_|refine Z4 ?_|refine Z5 ?_|refine Z9 (by assumption) rfl ?_|refine ZA (by assumption) rfl ?_|refine ZB (by assumption) rfl ?_|refine Z6 ?_|refine Z7 ?_|refine Z8 ?_)|((with_reducible refine ZM ?_ ?_);(focus rfl)));(conv=>whnf)))
        exact ⟨rfl, Ext.refl _⟩
      have q107 : ((c.toNat : Int) == 107) = false := by rw [beq_eq_false_iff_ne]; omega
      by_cases c115 : c.toNat = 115
      · have q115 : ((c.toNat : Int) == 115) = true := by rw [beq_iff_eq]; omega
        have es : shapeB false k l c.toNat = (stB k false) := by unfold shapeB; rw [if_neg c101, if_neg c116, if_neg c102, if_neg c98, if_neg c99, if_neg c112, if_neg c100, if_neg c118, if_neg c119, if_neg c107, if_pos c115]
        rw [es]
        have c120' : ((c.toNat : Int) == 120) = false := by rw [beq_eq_false_iff_ne]; omega
        unfold stB
        cases a0 : decide (k ≥ 22)
        · ((conv=>whnf);repeat((first|(with_reducible first|refine Z1 ?_|refine Z2 ?_|refine Z3 ?_|refine Z4 ?_|refine Z5 ?_|refine Z9 (by assumption) rfl ?_|refine ZA (by assumption) rfl ?_|refine ZB (by assumption) rfl ?_|refine Z6 ?_|refine Z7 ?_|refine Z8 ?_)|((with_reducible refine ZM ?_ ?_);(focus rfl)));(conv=>whnf)))
          exact ⟨rfl, Ext.refl _⟩
        · cases a1 : decide (k ≤ 40)
          · ((conv=>whnf);repeat((first|(with_reducible first|refine Z1 ?_|refine Z2 ?_|refine Z3 ?_|refine Z4 ?_|refine Z5 ?_|refine Z9 (by assumption) rfl ?_|refine ZA (by assumption) rfl ?_|refine ZB (by assumption) rfl ?_|refine Z6 ?_|refine Z7 ?_|refine Z8 ?_)|((with_reducible refine ZM ?_ ?_);(focus rfl)));(conv=>whnf)))
            exact ⟨rfl, Ext.refl _⟩
          · cases a2 : (k != 23)
            · ((conv=>whnf);repeat((first|(with_reducible first|refine Z1 ?_|refine Z2 ?_|refine Z3 ?_|refine Z4 ?_|refine Z5 ?_|refine Z9 (by assumption) rfl ?_|refine ZA (by assumption) rfl ?_|refine ZB (by assumption) rfl ?_|refine Z6 ?_|refine Z7 ?_|refine Z8 ?_)|((with_reducible refine ZM ?_ ?_);(focus rfl)));(conv=>whnf)))
              exact ⟨rfl, Ext.refl _⟩
            · cases a3 : (k != 37)
              · ((conv=>whnf);repeat((first|(with_reducible first|refine Z1 ?_|refine Z2 ?_|refine Z3 ?_|refine Z4 ?_|refine Z5 ?_|refine Z9 (by assumption) rfl ?_|refine ZA (by assumption) rfl ?_|refine ZB (by assumption) rfl ?_|refine Z6 ?_|refine Z7 ?_|refine Z8 ?_)|((with_reducible refine ZM ?_ ?_);(focus rfl)));(conv=>whnf)))
                exact ⟨rfl, Ext.refl _⟩
              · cases a5 : (k != 39)
                · ((conv=>whnf);repeat((first|(with_reducible first|refine Z1 ?_|refine Z2 ?_|refine Z3 ?_|refine Z4 ?_|refine Z5 ?_|refine Z9 (by assumption) rfl ?_|refine ZA (by assumption) rfl ?_|refine ZB (by assumption) rfl ?_|refine Z6 ?_|refine Z7 ?_|refine Z8 ?_)|((with_reducible refine ZM ?_ ?_);(focus rfl)));(conv=>whnf)))
                  exact ⟨(show [Value.bool ((c.toNat : Int) == 120)] = [Value.bool false] by rw [c120']), Ext.refl _⟩
                · ((conv=>whnf);repeat((first|(with_reducible first|refine Z1 ?_|refine Z2 ?_|refine Z3 ?_|refine Z4 ?_|refine Z5 ?_|refine Z9 (by assumption) rfl ?_|refine ZA (by assumption) rfl ?_|refine ZB (by assumption) rfl ?_|refine Z6 ?_|refine Z7 ?_|refine Z8 ?_)|((with_reducible refine ZM ?_ ?_);(focus rfl)));(conv=>whnf)))
                  exact ⟨rfl, Ext.refl _⟩
      have q115 : ((c.toNat : Int) == 115) = false := by rw [beq_eq_false_iff_ne]; omega
      by_cases c120 : c.toNat = 120
      · have q120 : ((c.toNat : Int) == 120) = true := by rw [beq_iff_eq]; omega
        have es : shapeB false k l c.toNat = (stB k true) := by unfold shapeB; rw [if_neg c101, if_neg c116, if_neg c102, if_neg c98, if_neg c99, if_neg c112, if_neg c100, if_neg c118, if_neg c119, if_neg c107, if_neg c115, if_pos c120]
        rw [es]
        unfold stB
        cases a0 : decide (k ≥ 22)
        · ((conv=>whnf);repeat((first|(with_reducible first|refine Z1 ?_|refine Z2 ?_|refine Z3 ?_|refine Z4 ?_|refine Z5 ?_|refine Z9 (by assumption) rfl ?_|refine ZA (by assumption) rfl ?_|refine ZB (by assumption) rfl ?_|refine Z6 ?_|refine Z7 ?_|refine Z8 ?_)|((with_reducible refine ZM ?_ ?_);(focus rfl)));(conv=>whnf)))
          exact ⟨rfl, Ext.refl _⟩
        · cases a1 : decide (k ≤ 40)
          · ((conv=>whnf);repeat((first|(with_reducible first|refine Z1 ?_|refine Z2 ?_|refine Z3 ?_|refine Z4 ?_|refine Z5 ?_|refine Z9 (by assumption) rfl ?_|refine ZA (by assumption) rfl ?_|refine ZB (by assumption) rfl ?_|refine Z6 ?_|refine Z7 ?_|refine Z8 ?_)|((with_reducible refine ZM ?_ ?_);(focus rfl)));(conv=>whnf)))
            exact ⟨rfl, Ext.refl _⟩
          · cases a2 : (k != 23)
            · ((conv=>whnf);repeat((first|(with_reducible first|refine Z1 ?_|refine Z2 ?_|refine Z3 ?_|refine Z4 ?_|refine Z5 ?_|refine Z9 (by assumption) rfl ?_|refine ZA (by assumption) rfl ?_|refine ZB (by assumption) rfl ?_|refine Z6 ?_|refine Z7 ?_|refine Z8 ?_)|((with_reducible refine ZM ?_ ?_);(focus rfl)));(conv=>whnf)))
              exact ⟨rfl, Ext.refl _⟩
            · cases a3 : (k != 37)
              · ((conv=>whnf);repeat((first|(with_reducible first|refine Z1 ?_|refine Z2 ?_|refine Z3 ?_|refine Z4 ?_|refine Z5 ?_|refine Z9 (by assumption) rfl ?_|refine ZA (by assumption) rfl ?_|refine ZB (by assumption) rfl ?_|refine Z6 ?_|refine Z7 ?_|refine Z8 ?_)|((with_reducible refine ZM ?_ ?_);(focus rfl)));(conv=>whnf)))
                exact ⟨rfl, Ext.refl _⟩
              · cases a5 : (k != 39)
                · ((conv=>whnf);repeat((first|(with_reducible first|refine Z1 ?_|refine Z2 ?_|refine Z3 ?_|refine Z4 ?_|refine Z5 ?_|refine Z9 (by assumption) rfl ?_|refine ZA (by assumption) rfl ?_|refine ZB (by assumption) rfl ?_|refine Z6 ?_|refine Z7 ?_|refine Z8 ?_)|((with_reducible refine ZM ?_ ?_);(focus rfl)));(conv=>whnf)))
                  exact ⟨(show [Value.bool ((c.toNat : Int) == 120)] = [Value.bool true] by rw [q120]), Ext.refl _⟩
                · ((conv=>whnf);repeat((first|(with_reducible first|refine Z1 ?_|refine Z2 ?_|refine Z3 ?_|refine Z4 ?_|refine Z5 ?_|refine Z9 (by assumption) rfl ?_|refine ZA (by assumption) rfl ?_|refine ZB (by assumption) rfl ?_|refine Z6 ?_|refine Z7 ?_|refine Z8 ?_)|((with_reducible refine ZM ?_ ?_);(focus rfl)));(conv=>whnf)))
                  exact ⟨rfl, Ext.refl _⟩
      have q120 : ((c.toNat : Int) == 120) = false := by rw [beq_eq_false_iff_ne]; omega
      have es : shapeB false k l c.toNat = false := by unfold shapeB; rw [if_neg c101, if_neg c116, if_neg c102, if_neg c98, if_neg c99, if_neg c112, if_neg c100, if_neg c118, if_neg c119, if_neg c107, if_neg c115, if_neg c120]
      rw [es]
      ((conv=>whnf);repeat((first|(with_reducible first|refine Z1 ?_|refine Z2 ?_|refine Z3 ?_|refine Z4 ?_|refine Z5 ?_|refine Z9 (by assumption) rfl ?_|refine ZA (by assumption) rfl ?_|refine ZB (by assumption) rfl ?_|refine Z6 ?_|refine Z7 ?_|refine Z8 ?_)|((with_reducible refine ZM ?_ ?_);(focus rfl)));(conv=>whnf)))
      exact ⟨rfl, Ext.refl _⟩
    · intro u2 h2 v7
      rintro ⟨e, x2⟩
      cases e
      have o2 := o1.ext x2
      cases hs : shapeB false k l c.toNat
      · ((conv=>whnf);repeat((first|(with_reducible first|refine Z1 ?_|refine Z2 ?_|refine Z3 ?_|refine Z4 ?_|refine Z5 ?_|refine Z9 (by assumption) rfl ?_|refine ZA (by assumption) rfl ?_|refine ZB (by assumption) rfl ?_|refine Z6 ?_|refine Z7 ?_|refine Z8 ?_)|((with_reducible refine ZM ?_ ?_);(focus rfl)));(conv=>whnf)))
        exact ⟨rfl, x1.trans x2⟩
      · ((conv=>whnf);repeat((first|(with_reducible first|refine Z1 ?_|refine Z2 ?_|refine Z3 ?_|refine Z4 ?_|refine Z5 ?_|refine Z9 (by assumption) rfl ?_|refine ZA (by assumption) rfl ?_|refine ZB (by assumption) rfl ?_|refine Z6 ?_|refine Z7 ?_|refine Z8 ?_)|((with_reducible refine ZM ?_ ?_);(focus rfl)));(conv=>whnf)))
        refine HCall.mk ((hm h2 (x1.trans x2)).mono ?_)
        rintro e h3 ⟨rfl, x3⟩
        ((conv=>whnf);repeat((first|(with_reducible first|refine Z1 ?_|refine Z2 ?_|refine Z3 ?_|refine Z4 ?_|refine Z5 ?_|refine Z9 (by assumption) rfl ?_|refine ZA (by assumption) rfl ?_|refine ZB (by assumption) rfl ?_|refine Z6 ?_|refine Z7 ?_|refine Z8 ?_)|((with_reducible refine ZM ?_ ?_);(focus rfl)));(conv=>whnf)))
        exact ⟨rfl, x1.trans (x2.trans x3)⟩
  · intro q1 q2 q3
    ((conv=>whnf);repeat((first|(with_reducible first|refine Z2 ?_|refine Z3 ?_|refine Z4 ?_|refine Z5 ?_|refine Z9 (by assumption) rfl ?_|refine ZA (by assumption) rfl ?_|refine ZB (by assumption) rfl ?_|refine Z6 ?_|refine Z7 ?_|refine Z8 ?_)|((with_reducible refine ZM ?_ ?_);(focus rfl)));(conv=>whnf)))
    rw [q3]
    refine cut_rule [7] (fun vs h' => vs = [.bool (shapeB true k l c.toNat)] ∧ Ext h1 h') rfl ?_ ?_
    · skip
      by_cases c101 : c.toNat = 101
      · have q101 : ((c.toNat : Int) == 101) = true := by rw [beq_iff_eq]; omega
        have es : shapeB true k l c.toNat = (true) := by unfold shapeB; rw [if_pos c101]
        rw [es]
        ((conv=>whnf);repeat((first|(with_reducible first|refine Z1 ?_|refine Z2 ?_|refine Z3 ?_|refine Z4 ?_|refine Z5 ?_|refine Z9 (by assumption) rfl ?_|refine ZA (by assumption) rfl ?_|refine ZB (by assumption) rfl ?_|refine Z6 ?_|refine Z7 ?_|refine Z8 ?_)|((with_reducible refine ZM ?_ ?_);(focus rfl)));(conv=>whnf)))
        exact ⟨rfl, Ext.refl _⟩
      have q101 : ((c.toNat : Int) == 101) = false := by rw [beq_eq_false_iff_ne]; omega
      by_cases c116 : c.toNat = 116
      · have q116 : ((c.toNat : Int) == 116) = true := by rw [beq_iff_eq]; omega
        have es : shapeB true k l c.toNat = (targetB k) := by unfold shapeB; rw [if_neg c101, if_pos c116]
        rw [es]
        ((conv=>whnf);repeat((first|(with_reducible first|refine Z1 ?_|refine Z2 ?_|refine Z3 ?_|refine Z4 ?_|refine Z5 ?_|refine Z9 (by assumption) rfl ?_|refine ZA (by assumption) rfl ?_|refine ZB (by assumption) rfl ?_|refine Z6 ?_|refine Z7 ?_|refine Z8 ?_)|((with_reducible refine ZM ?_ ?_);(focus rfl)));(conv=>whnf)))
        refine HCall.mk ((target_spec (d := .mk k nm n t ns l) (TRep.ext x1 (by simp only [TRep]; exact r0))).mono ?_)
        rintro e h2 ⟨rfl, x2⟩
        ((conv=>whnf);repeat((first|(with_reducible first|refine Z1 ?_|refine Z2 ?_|refine Z3 ?_|refine Z4 ?_|refine Z5 ?_|refine Z9 (by assumption) rfl ?_|refine ZA (by assumption) rfl ?_|refine ZB (by assumption) rfl ?_|refine Z6 ?_|refine Z7 ?_|refine Z8 ?_)|((with_reducible refine ZM ?_ ?_);(focus rfl)));(conv=>whnf)))
        exact ⟨rfl, x2⟩
      have q116 : ((c.toNat : Int) == 116) = false := by rw [beq_eq_false_iff_ne]; omega
      by_cases c102 : c.toNat = 102
      · have q102 : ((c.toNat : Int) == 102) = true := by rw [beq_iff_eq]; omega
        have es : shapeB true k l c.toNat = (true || (k == 42)) := by unfold shapeB; rw [if_neg c101, if_neg c116, if_pos c102]
        rw [es]
        ((conv=>whnf);repeat((first|(with_reducible first|refine Z1 ?_|refine Z2 ?_|refine Z3 ?_|refine Z4 ?_|refine Z5 ?_|refine Z9 (by assumption) rfl ?_|refine ZA (by assumption) rfl ?_|refine ZB (by assumption) rfl ?_|refine Z6 ?_|refine Z7 ?_|refine Z8 ?_)|((with_reducible refine ZM ?_ ?_);(focus rfl)));(conv=>whnf)))
        exact ⟨rfl, Ext.refl _⟩
      have q102 : ((c.toNat : Int) == 102) = false := by rw [beq_eq_false_iff_ne]; omega
      by_cases c98 : c.toNat = 98
      · have q98 : ((c.toNat : Int) == 98) = true := by rw [beq_iff_eq]; omega
        have es : shapeB true k l c.toNat = (k == 25) := by unfold shapeB; rw [if_neg c101, if_neg c116, if_neg c102, if_pos c98]
        rw [es]
        ((conv=>whnf);repeat((first|(with_reducible first|refine Z1 ?_|refine Z2 ?_|refine Z3 ?_|refine Z4 ?_|refine Z5 ?_|refine Z9 (by assumption) rfl ?_|refine ZA (by assumption) rfl ?_|refine ZB (by assumption) rfl ?_|refine Z6 ?_|refine Z7 ?_|refine Z8 ?_)|((with_reducible refine ZM ?_ ?_);(focus rfl)));(conv=>whnf)))
        exact ⟨rfl, Ext.refl _⟩
      have q98 : ((c.toNat : Int) == 98) = false := by rw [beq_eq_false_iff_ne]; omega
      by_cases c99 : c.toNat = 99
      · have q99 : ((c.toNat : Int) == 99) = true := by rw [beq_iff_eq]; omega
        have es : shapeB true k l c.toNat = ((k == 25) || (k == 42)) := by unfold shapeB; rw [if_neg c101, if_neg c116, if_neg c102, if_neg c98, if_pos c99]
        rw [es]
        cases v1 : (k == 25)
        · ((conv=>whnf);repeat((first|(with_reducible first|refine Z1 ?_|refine Z2 ?_|refine Z3 ?_|refine Z4 ?_|refine Z5 ?_|refine Z9 (by assumption) rfl ?_|refine ZA (by assumption) rfl ?_|refine ZB (by assumption) rfl ?_|refine Z6 ?_|refine Z7 ?_|refine Z8 ?_)|((with_reducible refine ZM ?_ ?_);(focus rfl)));(conv=>whnf)))
          exact ⟨rfl, Ext.refl _⟩
        · ((conv=>whnf);repeat((first|(with_reducible first|refine Z1 ?_|refine Z2 ?_|refine Z3 ?_|refine Z4 ?_|refine Z5 ?_|refine Z9 (by assumption) rfl ?_|refine ZA (by assumption) rfl ?_|refine ZB (by assumption) rfl ?_|refine Z6 ?_|refine Z7 ?_|refine Z8 ?_)|((with_reducible refine ZM ?_ ?_);(focus rfl)));(conv=>whnf)))
          exact ⟨rfl, Ext.refl _⟩
      have q99 : ((c.toNat : Int) == 99) = false := by rw [beq_eq_false_iff_ne]; omega
      by_cases c112 : c.toNat = 112
      · have q112 : ((c.toNat : Int) == 112) = true := by rw [beq_iff_eq]; omega
        have es : shapeB true k l c.toNat = (k == 9) := by unfold shapeB; rw [if_neg c101, if_neg c116, if_neg c102, if_neg c98, if_neg c99, if_pos c112]
        rw [es]
        ((conv=>whnf);repeat((first|(with_reducible first|refine Z1 ?_|refine Z2 ?_|refine Z3 ?_|refine Z4 ?_|refine Z5 ?_|refine Z9 (by assumption) rfl ?_|refine ZA (by assumption) rfl ?_|refine ZB (by assumption) rfl ?_|refine Z6 ?_|refine Z7 ?_|refine Z8 ?_)|((with_reducible refine ZM ?_ ?_);(focus rfl)));(conv=>whnf)))
        exact ⟨rfl, Ext.refl _⟩
      have q112 : ((c.toNat : Int) == 112) = false := by rw [beq_eq_false_iff_ne]; omega
      by_cases c100 : c.toNat = 100
      · have q100 : ((c.toNat : Int) == 100) = true := by rw [beq_iff_eq]; omega
        have es : shapeB true k l c.toNat = (k == 23) := by unfold shapeB; rw [if_neg c101, if_neg c116, if_neg c102, if_neg c98, if_neg c99, if_neg c112, if_pos c100]
        rw [es]
        ((conv=>whnf);repeat((first|(with_reducible first|refine Z1 ?_|refine Z2 ?_|refine Z3 ?_|refine Z4 ?_|refine Z5 ?_|refine Z9 (by assumption) rfl ?_|refine ZA (by assumption) rfl ?_|refine ZB (by assumption) rfl ?_|refine Z6 ?_|refine Z7 ?_|refine Z8 ?_)|((with_reducible refine ZM ?_ ?_);(focus rfl)));(conv=>whnf)))
        exact ⟨rfl, Ext.refl _⟩
      have q100 : ((c.toNat : Int) == 100) = false := by rw [beq_eq_false_iff_ne]; omega
      by_cases c118 : c.toNat = 118
      · have q118 : ((c.toNat : Int) == 118) = true := by rw [beq_iff_eq]; omega
        have es : shapeB true k l c.toNat = (true || (k == 42) || (k == 22)) := by unfold shapeB; rw [if_neg c101, if_neg c116, if_neg c102, if_neg c98, if_neg c99, if_neg c112, if_neg c100, if_pos c118]
        rw [es]
        cases v1 : (k == 42)
        · ((conv=>whnf);repeat((first|(with_reducible first|refine Z1 ?_|refine Z2 ?_|refine Z3 ?_|refine Z4 ?_|refine Z5 ?_|refine Z9 (by assumption) rfl ?_|refine ZA (by assumption) rfl ?_|refine ZB (by assumption) rfl ?_|refine Z6 ?_|refine Z7 ?_|refine Z8 ?_)|((with_reducible refine ZM ?_ ?_);(focus rfl)));(conv=>whnf)))
          exact ⟨rfl, Ext.refl _⟩
        · ((conv=>whnf);repeat((first|(with_reducible first|refine Z1 ?_|refine Z2 ?_|refine Z3 ?_|refine Z4 ?_|refine Z5 ?_|refine Z9 (by assumption) rfl ?_|refine ZA (by assumption) rfl ?_|refine ZB (by assumption) rfl ?_|refine Z6 ?_|refine Z7 ?_|refine Z8 ?_)|((with_reducible refine ZM ?_ ?_);(focus rfl)));(conv=>whnf)))
          exact ⟨rfl, Ext.refl _⟩
      have q118 : ((c.toNat : Int) == 118) = false := by rw [beq_eq_false_iff_ne]; omega
      by_cases c119 : c.toNat = 119
      · have q119 : ((c.toNat : Int) == 119) = true := by rw [beq_iff_eq]; omega
        have es : shapeB true k l c.toNat = (targetB k || ((k == 22) && ((l.length : Int) == 1) && ((kidLen l : Int) == 0))) := by unfold shapeB; rw [if_neg c101, if_neg c116, if_neg c102, if_neg c98, if_neg c99, if_neg c112, if_neg c100, if_neg c118, if_pos c119]
        rw [es]
        ((conv=>whnf);repeat((first|(with_reducible first|refine Z1 ?_|refine Z2 ?_|refine Z3 ?_|refine Z4 ?_|refine Z5 ?_|refine Z9 (by assumption) rfl ?_|refine ZA (by assumption) rfl ?_|refine ZB (by assumption) rfl ?_|refine Z6 ?_|refine Z7 ?_|refine Z8 ?_)|((with_reducible refine ZM ?_ ?_);(focus rfl)));(conv=>whnf)))
        refine HCall.mk ((target_spec (d := .mk k nm n t ns l) (TRep.ext x1 (by simp only [TRep]; exact r0))).mono ?_)
        rintro e h2 ⟨rfl, x2⟩
        have o2 := o1.ext x2
        rw [show NT.kind (.mk k nm n t ns l) = k from rfl]
        cases w1 : targetB k
        · cases w2 : (k == 22)
          · ((conv=>whnf);repeat((first|(with_reducible first|refine Z1 ?_|refine Z2 ?_|refine Z3 ?_|refine Z4 ?_|refine Z5 ?_|refine Z9 (by assumption) rfl ?_|refine ZA (by assumption) rfl ?_|refine ZB (by assumption) rfl ?_|refine Z6 ?_|refine Z7 ?_|refine Z8 ?_)|((with_reducible refine ZM ?_ ?_);(focus rfl)));(conv=>whnf)))
            exact ⟨rfl, x2⟩
          · cases w3 : ((l.length : Int) == 1)
            · ((conv=>whnf);repeat((first|(with_reducible first|refine Z1 ?_|refine Z2 ?_|refine Z3 ?_|refine Z4 ?_|refine Z5 ?_|refine Z9 (by assumption) rfl ?_|refine ZA (by assumption) rfl ?_|refine ZB (by assumption) rfl ?_|refine Z6 ?_|refine Z7 ?_|refine Z8 ?_)|((with_reducible refine ZM ?_ ?_);(focus rfl)));(conv=>whnf)))
              exact ⟨rfl, x2⟩
            · have hl0 : 0 < l.length := by rw [beq_iff_eq] at w3; omega
              ((conv=>whnf);repeat((first|(with_reducible first|refine Z1 ?_|refine Z2 ?_|refine Z3 ?_|refine Z4 ?_|refine Z5 ?_|refine Z9 (by assumption) rfl ?_|refine ZA (by assumption) rfl ?_|refine ZB (by assumption) rfl ?_|refine Z6 ?_|refine Z7 ?_|refine Z8 ?_)|((with_reducible refine ZM ?_ ?_);(focus rfl)));(conv=>whnf)))
              refine HIdx.mk 0 rfl hl0 ?_
              refine sl_some s2 hl0 fun p ep => ?_
              ((conv=>whnf);repeat((first|(with_reducible first|refine Z1 ?_|refine Z2 ?_|refine Z3 ?_|refine Z4 ?_|refine Z5 ?_|refine Z9 (by assumption) rfl ?_|refine ZA (by assumption) rfl ?_|refine ZB (by assumption) rfl ?_|refine Z6 ?_|refine Z7 ?_|refine Z8 ?_)|((with_reducible refine ZM ?_ ?_);(focus rfl)));(conv=>whnf)))
              refine tkids (s2.ext (x1.trans x2)) (s3.ext (x1.trans x2)) ep hl0 fun _ _ => ?_
              ((conv=>whnf);repeat((first|(with_reducible first|refine Z1 ?_|refine Z2 ?_|refine Z3 ?_|refine Z4 ?_|refine Z5 ?_|refine Z9 (by assumption) rfl ?_|refine ZA (by assumption) rfl ?_|refine ZB (by assumption) rfl ?_|refine Z6 ?_|refine Z7 ?_|refine Z8 ?_)|((with_reducible refine ZM ?_ ?_);(focus rfl)));(conv=>whnf)))
              exact ⟨rfl, x2⟩
        · ((conv=>whnf);repeat((first|(with_reducible first|refine Z1 ?_|refine Z2 ?_|refine Z3 ?_|refine Z4 ?_|refine Z5 ?_|refine Z9 (by assumption) rfl ?_|refine ZA (by assumption) rfl ?_|refine ZB (by assumption) rfl ?_|refine Z6 ?_|refine Z7 ?_|refine Z8 ?_)|((with_reducible refine ZM ?_ ?_);(focus rfl)));(conv=>whnf)))
          exact ⟨rfl, x2⟩
      have q119 : ((c.toNat : Int) == 119) = false := by rw [beq_eq_false_iff_ne]; omega
      by_cases c107 : c.toNat = 107
      · have q107 : ((c.toNat : Int) == 107) = true := by rw [beq_iff_eq]; omega
        have es : shapeB true k l c.toNat = (k == 37) := by unfold shapeB; rw [if_neg c101, if_neg c116, if_neg c102, if_neg c98, if_neg c99, if_neg c112, if_neg c100, if_neg c118, if_neg c119, if_pos c107]
        rw [es]
        ((conv=>whnf);repeat((first|(with_reducible first|refine Z1 ?_|refine Z2 ?_|refine Z3 ?_|refine Z4 ?_|refine Z5 ?_|refine Z9 (by assumption) rfl ?_|refine ZA (by assumption) rfl ?_|refine ZB (by assumption) rfl ?_|refine Z6 ?_|refine Z7 ?_|refine Z8 ?_)|((with_reducible refine ZM ?_ ?_);(focus rfl)));(conv=>whnf)))
        exact ⟨rfl, Ext.refl _⟩
      have q107 : ((c.toNat : Int) == 107) = false := by rw [beq_eq_false_iff_ne]; omega
      by_cases c115 : c.toNat = 115
      · have q115 : ((c.toNat : Int) == 115) = true := by rw [beq_iff_eq]; omega
        have es : shapeB true k l c.toNat = (stB k false) := by unfold shapeB; rw [if_neg c101, if_neg c116, if_neg c102, if_neg c98, if_neg c99, if_neg c112, if_neg c100, if_neg c118, if_neg c119, if_neg c107, if_pos c115]
        rw [es]
        have c120' : ((c.toNat : Int) == 120) = false := by rw [beq_eq_false_iff_ne]; omega
        unfold stB
        cases a0 : decide (k ≥ 22)
        · ((conv=>whnf);repeat((first|(with_reducible first|refine Z1 ?_|refine Z2 ?_|refine Z3 ?_|refine Z4 ?_|refine Z5 ?_|refine Z9 (by assumption) rfl ?_|refine ZA (by assumption) rfl ?_|refine ZB (by assumption) rfl ?_|refine Z6 ?_|refine Z7 ?_|refine Z8 ?_)|((with_reducible refine ZM ?_ ?_);(focus rfl)));(conv=>whnf)))
          exact ⟨rfl, Ext.refl _⟩
        · cases a1 : decide (k ≤ 40)
          · ((conv=>whnf);repeat((first|(with_reducible first|refine Z1 ?_|refine Z2 ?_|refine Z3 ?_|refine Z4 ?_|refine Z5 ?_|refine Z9 (by assumption) rfl ?_|refine ZA (by assumption) rfl ?_|refine ZB (by assumption) rfl ?_|refine Z6 ?_|refine Z7 ?_|refine Z8 ?_)|((with_reducible refine ZM ?_ ?_);(focus rfl)));(conv=>whnf)))
            exact ⟨rfl, Ext.refl _⟩
          · cases a2 : (k != 23)
            · ((conv=>whnf);repeat((first|(with_reducible first|refine Z1 ?_|refine Z2 ?_|refine Z3 ?_|refine Z4 ?_|refine Z5 ?_|refine Z9 (by assumption) rfl ?_|refine ZA (by assumption) rfl ?_|refine ZB (by assumption) rfl ?_|refine Z6 ?_|refine Z7 ?_|refine Z8 ?_)|((with_reducible refine ZM ?_ ?_);(focus rfl)));(conv=>whnf)))
              exact ⟨rfl, Ext.refl _⟩
            · cases a3 : (k != 37)
              · ((conv=>whnf);repeat((first|(with_reducible first|refine Z1 ?_|refine Z2 ?_|refine Z3 ?_|refine Z4 ?_|refine Z5 ?_|refine Z9 (by assumption) rfl ?_|refine ZA (by assumption) rfl ?_|refine ZB (by assumption) rfl ?_|refine Z6 ?_|refine Z7 ?_|refine Z8 ?_)|((with_reducible refine ZM ?_ ?_);(focus rfl)));(conv=>whnf)))
                exact ⟨rfl, Ext.refl _⟩
              · cases a5 : (k != 39)
                · ((conv=>whnf);repeat((first|(with_reducible first|refine Z1 ?_|refine Z2 ?_|refine Z3 ?_|refine Z4 ?_|refine Z5 ?_|refine Z9 (by assumption) rfl ?_|refine ZA (by assumption) rfl ?_|refine ZB (by assumption) rfl ?_|refine Z6 ?_|refine Z7 ?_|refine Z8 ?_)|((with_reducible refine ZM ?_ ?_);(focus rfl)));(conv=>whnf)))
                  exact ⟨(show [Value.bool ((c.toNat : Int) == 120)] = [Value.bool false] by rw [c120']), Ext.refl _⟩
                · ((conv=>whnf);repeat((first|(with_reducible first|refine Z1 ?_|refine Z2 ?_|refine Z3 ?_|refine Z4 ?_|refine Z5 ?_|refine Z9 (by assumption) rfl ?_|refine ZA (by assumption) rfl ?_|refine ZB (by assumption) rfl ?_|refine Z6 ?_|refine Z7 ?_|refine Z8 ?_)|((with_reducible refine ZM ?_ ?_);(focus rfl)));(conv=>whnf)))
                  exact ⟨rfl, Ext.refl _⟩
      have q115 : ((c.toNat : Int) == 115) = false := by rw [beq_eq_false_iff_ne]; omega
      by_cases c120 : c.toNat = 120
      · have q120 : ((c.toNat : Int) == 120) = true := by rw [beq_iff_eq]; omega
        have es : shapeB true k l c.toNat = (stB k true) := by unfold shapeB; rw [if_neg c101, if_neg c116, if_neg c102, if_neg c98, if_neg c99, if_neg c112, if_neg c100, if_neg c118, if_neg c119, if_neg c107, if_neg c115, if_pos c120]
        rw [es]
        unfold stB
        cases a0 : decide (k ≥ 22)
        · ((conv=>whnf);repeat((first|(with_reducible first|refine Z1 ?_|refine Z2 ?_|refine Z3 ?_|refine Z4 ?_|refine Z5 ?_|refine Z9 (by assumption) rfl ?_|refine ZA (by assumption) rfl ?_|refine ZB (by assumption) rfl ?_|refine Z6 ?_|refine Z7 ?_|refine Z8 ?_)|((with_reducible refine ZM ?_ ?_);(focus rfl)));(conv=>whnf)))
          exact ⟨rfl, Ext.refl _⟩
        · cases a1 : decide (k ≤ 40)
          · ((conv=>whnf);repeat((first|(with_reducible first|refine Z1 ?_|refine Z2 ?_|refine Z3 ?_|refine Z4 ?_|refine Z5 ?_|refine Z9 (by assumption) rfl ?_|refine ZA (by assumption) rfl ?_|refine ZB (by assumption) rfl ?_|refine Z6 ?_|refine Z7 ?_|refine Z8 ?_)|((with_reducible refine ZM ?_ ?_);(focus rfl)));(conv=>whnf)))
            exact ⟨rfl, Ext.refl _⟩
          · cases a2 : (k != 23)
            · ((conv=>whnf);repeat((first|(with_reducible first|refine Z1 ?_|refine Z2 ?_|refine Z3 ?_|refine Z4 ?_|refine Z5 ?_|refine Z9 (by assumption) rfl ?_|refine ZA (by assumption) rfl ?_|refine ZB (by assumption) rfl ?_|refine Z6 ?_|refine Z7 ?_|refine Z8 ?_)|((with_reducible refine ZM ?_ ?_);(focus rfl)));(conv=>whnf)))
              exact ⟨rfl, Ext.refl _⟩
            · cases a3 : (k != 37)
              · ((conv=>whnf);repeat((first|(with_reducible first|refine Z1 ?_|refine Z2 ?_|refine Z3 ?_|refine Z4 ?_|refine Z5 ?_|refine Z9 (by assumption) rfl ?_|refine ZA (by assumption) rfl ?_|refine ZB (by assumption) rfl ?_|refine Z6 ?_|refine Z7 ?_|refine Z8 ?_)|((with_reducible refine ZM ?_ ?_);(focus rfl)));(conv=>whnf)))
                exact ⟨rfl, Ext.refl _⟩
              · cases a5 : (k != 39)
                · ((conv=>whnf);repeat((first|(with_reducible first|refine Z1 ?_|refine Z2 ?_|refine Z3 ?_|refine Z4 ?_|refine Z5 ?_|refine Z9 (by assumption) rfl ?_|refine ZA (by assumption) rfl ?_|refine ZB (by assumption) rfl ?_|refine Z6 ?_|refine Z7 ?_|refine Z8 ?_)|((with_reducible refine ZM ?_ ?_);(focus rfl)));(conv=>whnf)))
                  exact ⟨(show [Value.bool ((c.toNat : Int) == 120)] = [Value.bool true] by rw [q120]), Ext.refl _⟩
                · ((conv=>whnf);repeat((first|(with_reducible first|refine Z1 ?_|refine Z2 ?_|refine Z3 ?_|refine Z4 ?_|refine Z5 ?_|refine Z9 (by assumption) rfl ?_|refine ZA (by assumption) rfl ?_|refine ZB (by assumption) rfl ?_|refine Z6 ?_|refine Z7 ?_|refine Z8 ?_)|((with_reducible refine ZM ?_ ?_);(focus rfl)));(conv=>whnf)))
                  exact ⟨rfl, Ext.refl _⟩
      have q120 : ((c.toNat : Int) == 120) = false := by rw [beq_eq_false_iff_ne]; omega
      have es : shapeB true k l c.toNat = false := by unfold shapeB; rw [if_neg c101, if_neg c116, if_neg c102, if_neg c98, if_neg c99, if_neg c112, if_neg c100, if_neg c118, if_neg c119, if_neg c107, if_neg c115, if_neg c120]
      rw [es]
      ((conv=>whnf);repeat((first|(with_reducible first|refine Z1 ?_|refine Z2 ?_|refine Z3 ?_|refine Z4 ?_|refine Z5 ?_|refine Z9 (by assumption) rfl ?_|refine ZA (by assumption) rfl ?_|refine ZB (by assumption) rfl ?_|refine Z6 ?_|refine Z7 ?_|refine Z8 ?_)|((with_reducible refine ZM ?_ ?_);(focus rfl)));(conv=>whnf)))
      exact ⟨rfl, Ext.refl _⟩
    · intro u2 h2 v7
      rintro ⟨e, x2⟩
      cases e
      have o2 := o1.ext x2
      cases hs : shapeB true k l c.toNat
      · ((conv=>whnf);repeat((first|(with_reducible first|refine Z1 ?_|refine Z2 ?_|refine Z3 ?_|refine Z4 ?_|refine Z5 ?_|refine Z9 (by assumption) rfl ?_|refine ZA (by assumption) rfl ?_|refine ZB (by assumption) rfl ?_|refine Z6 ?_|refine Z7 ?_|refine Z8 ?_)|((with_reducible refine ZM ?_ ?_);(focus rfl)));(conv=>whnf)))
        exact ⟨rfl, x1.trans x2⟩
      · ((conv=>whnf);repeat((first|(with_reducible first|refine Z1 ?_|refine Z2 ?_|refine Z3 ?_|refine Z4 ?_|refine Z5 ?_|refine Z9 (by assumption) rfl ?_|refine ZA (by assumption) rfl ?_|refine ZB (by assumption) rfl ?_|refine Z6 ?_|refine Z7 ?_|refine Z8 ?_)|((with_reducible refine ZM ?_ ?_);(focus rfl)));(conv=>whnf)))
        refine HCall.mk ((hm h2 (x1.trans x2)).mono ?_)
        rintro e h3 ⟨rfl, x3⟩
        ((conv=>whnf);repeat((first|(with_reducible first|refine Z1 ?_|refine Z2 ?_|refine Z3 ?_|refine Z4 ?_|refine Z5 ?_|refine Z9 (by assumption) rfl ?_|refine ZA (by assumption) rfl ?_|refine ZB (by assumption) rfl ?_|refine Z6 ?_|refine Z7 ?_|refine Z8 ?_)|((with_reducible refine ZM ?_ ?_);(focus rfl)));(conv=>whnf)))
        exact ⟨rfl, x1.trans (x2.trans x3)⟩
end Go.Proofs.Ytlogpojkkbcpjaa.Hc

