import Derived.Test.YthagjflkdoafmaaNG
set_option linter.unusedVariables false
set_option linter.unusedSimpArgs false
namespace Go.Proofs.Ythagjflkdoafmaa.Hc
open Go Go.H Go.Proofs
set_option maxRecDepth 100000
set_option maxHeartbeats 4000000

theorem nodeWrites_spec {d m : ND} {h : Heap} {cs ds : List Value} (ra : NRep h d cs) (rb : NRep h m ds) (key : ByteArray) (wk : key.size ≤ 1048576) :
    HCalls Try.prog 3 #[.agg cs.toArray, .agg ds.toArray, .string key] h fun e h' => e = .returned (.bool true) ∧ Ext h h' := by
  have hcl := ra.len
  have hdl := rb.len
  refine c3 (by simp) ?_
  (conv => whnf)
  refine new_var (e := 25) cs rfl ?_
  intro h1 b3 o3 x1 z1 hb3
  ((conv=>whnf);repeat((first|(with_reducible first|refine Z1 ?_|refine Z2 ?_|refine Z3 ?_|refine Z4 ?_|refine Z5 ?_|refine Z9 (by assumption) rfl ?_|refine ZA (by assumption) rfl ?_|refine ZB (by assumption) rfl ?_|refine Z6 ?_|refine Z7 ?_|refine Z8 ?_)|((with_reducible refine ZM ?_ ?_);(focus rfl)));(conv=>whnf)))
  refine new_var (e := 25) ds rfl ?_
  intro h2 b4 o4 x2 z2 hb4
  replace o3 := o3.ext x2
  have x0c := x1.trans x2
  replace ra := ra.ext x0c
  replace rb := rb.ext x0c
  ((conv=>whnf);repeat((first|(with_reducible first|refine Z1 ?_|refine Z2 ?_|refine Z3 ?_|refine Z4 ?_|refine Z5 ?_|refine Z9 (by assumption) rfl ?_|refine ZA (by assumption) rfl ?_|refine ZB (by assumption) rfl ?_|refine Z6 ?_|refine Z7 ?_|refine Z8 ?_|refine ZB (by assumption) (by assumption) ?_)|((with_reducible refine ZM ?_ ?_);(focus rfl)));(conv=>whnf)))
  refine HCall.mk ((ownN_spec ra).mono ?_)
  rintro e h3 ⟨xs, rfl, rx, x3⟩
  have hxl := rx.len
  have hxo := rx.one
  ((conv=>whnf);repeat((first|(with_reducible first|refine Z1 ?_|refine Z2 ?_|refine Z3 ?_|refine Z4 ?_|refine Z5 ?_|refine Z9 (by assumption) rfl ?_|refine ZA (by assumption) rfl ?_|refine ZB (by assumption) rfl ?_|refine Z6 ?_|refine Z7 ?_|refine Z8 ?_|refine ZB (by assumption) (by assumption) ?_)|((with_reducible refine ZM ?_ ?_);(focus rfl)));(conv=>whnf)))
  refine new_var (e := 26) zeroN rfl ?_
  intro h4 b7 o7 x4 z4 hb7
  ((conv=>whnf);repeat((first|(with_reducible first|refine Z1 ?_|refine Z2 ?_|refine Z3 ?_|refine Z4 ?_|refine Z5 ?_|refine Z9 (by assumption) rfl ?_|refine ZA (by assumption) rfl ?_|refine ZB (by assumption) rfl ?_|refine Z6 ?_|refine Z7 ?_|refine Z8 ?_|refine ZB (by assumption) (by assumption) ?_)|((with_reducible refine ZM ?_ ?_);(focus rfl)));(conv=>whnf)))
  refine HMust.mk hxl ?_
  refine store_new o7 hxl hxo ?_
  intro h5 f5 z5 o7
  have x35 : Ext h3 h5 := x4.offNew f5 (by omega)
  have xx := x3.trans x35
  replace ra := ra.ext xx
  replace rb := rb.ext xx
  replace rx := rx.ext x35
  replace o3 := o3.ext xx
  replace o4 := o4.ext xx
  replace x0c := x0c.trans xx
  clear xx x35 f5 x4 x3 x1 x2
  ((conv=>whnf);repeat((first|(with_reducible first|refine Z1 ?_|refine Z2 ?_|refine Z3 ?_|refine Z4 ?_|refine Z5 ?_|refine Z9 (by assumption) rfl ?_|refine ZA (by assumption) rfl ?_|refine ZB (by assumption) rfl ?_|refine Z6 ?_|refine Z7 ?_|refine Z8 ?_|refine ZB (by assumption) (by assumption) ?_)|((with_reducible refine ZM ?_ ?_);(focus rfl)));(conv=>whnf)))
  refine HCall.mk ((encodeN_spec rx).mono ?_)
  rintro e h6 ⟨r1, a6, c6, l6, rfl, hr1, hl6, w6, xx⟩
  replace ra := ra.ext xx
  replace rb := rb.ext xx
  replace rx := rx.ext xx
  replace o3 := o3.ext xx
  replace o4 := o4.ext xx
  replace o7 := o7.ext xx
  replace x0c := x0c.trans xx
  clear xx
  have s6 := w6.sl
  ((conv=>whnf);repeat((first|(with_reducible first|refine Z1 ?_|refine Z2 ?_|refine Z3 ?_|refine Z4 ?_|refine Z5 ?_|refine Z9 (by assumption) rfl ?_|refine ZA (by assumption) rfl ?_|refine ZB (by assumption) rfl ?_|refine Z6 ?_|refine Z7 ?_|refine Z8 ?_|refine ZB (by assumption) (by assumption) ?_)|((with_reducible refine ZM ?_ ?_);(focus rfl)));(conv=>whnf)))
  refine HCall.mk ((rencodeN_spec ra).mono ?_)
  rintro e h7 ⟨r2, a7, c7, l7, rfl, hr2, hl7, w7, xx⟩
  replace ra := ra.ext xx
  replace rb := rb.ext xx
  replace rx := rx.ext xx
  replace o3 := o3.ext xx
  replace o4 := o4.ext xx
  replace o7 := o7.ext xx
  replace s6 := s6.ext xx
  replace x0c := x0c.trans xx
  clear xx
  have s7 := w7.sl
  obtain rfl : r2 = r1 := errN_same hr2 hr1
  obtain rfl : l7 = l6 := by rw [hl6, hl7]
  clear hl6 hl7 w6 w7
  ((conv=>whnf);repeat((first|(with_reducible first|refine Z1 ?_|refine Z2 ?_|refine Z3 ?_|refine Z4 ?_|refine Z5 ?_|refine Z9 (by assumption) rfl ?_|refine ZA (by assumption) rfl ?_|refine ZB (by assumption) rfl ?_|refine Z6 ?_|refine Z7 ?_|refine Z8 ?_|refine ZB (by assumption) (by assumption) ?_)|((with_reducible refine ZM ?_ ?_);(focus rfl)));(conv=>whnf)))
  refine HCall.mk ((live_spec _).mono ?_)
  rintro e hA ⟨rfl, xx⟩
  replace ra := ra.ext xx
  replace rb := rb.ext xx
  replace rx := rx.ext xx
  replace o3 := o3.ext xx
  replace o4 := o4.ext xx
  replace o7 := o7.ext xx
  replace s6 := s6.ext xx
  replace s7 := s7.ext xx
  replace x0c := x0c.trans xx
  clear xx
  ((conv=>whnf);repeat((first|(with_reducible first|refine Z1 ?_|refine Z2 ?_|refine Z3 ?_|refine Z4 ?_|refine Z5 ?_|refine Z9 (by assumption) rfl ?_|refine ZA (by assumption) rfl ?_|refine ZB (by assumption) rfl ?_|refine Z6 ?_|refine Z7 ?_|refine Z8 ?_|refine ZB (by assumption) (by assumption) ?_)|((with_reducible refine ZM ?_ ?_);(focus rfl)));(conv=>whnf)))
  refine HCall.mk ((same_spec s6 s7).mono ?_)
  rintro e hA ⟨rfl, he⟩
  rw [beq_self_eq_true] at he
  subst he
  have hq : (errN r2 == errN r2) = true := beq_self_eq_true _
  have hq2 : (((childN d.keys key : Nat) : Int) == ((childN d.keys key : Nat) : Int)) = true := beq_self_eq_true _
  have one : decide (d = d) = true := decide_eq_true rfl
  clear s6 s7
  ((conv=>whnf);repeat((first|(with_reducible first|refine Z2 ?_|refine Z3 ?_|refine Z4 ?_|refine Z5 ?_|refine Z9 (by assumption) rfl ?_|refine ZA (by assumption) rfl ?_|refine ZB (by assumption) rfl ?_|refine Z6 ?_|refine Z7 ?_|refine Z8 ?_|refine ZB (by assumption) (by assumption) ?_)|((with_reducible refine ZM ?_ ?_);(focus rfl)));(conv=>whnf)))
  refine cut_rule [35, 37, 38] (fun vs h' => ∃ b : Bool, b = true ∧ vs = [.bool b, .int .i64 (errN r2), .agg cs.toArray] ∧ Ext hA h') rfl ?_ ?_
  · ((conv=>whnf);repeat((first|(with_reducible first|refine Z1 ?_|refine Z2 ?_|refine Z3 ?_|refine Z4 ?_|refine Z5 ?_|refine Z9 (by assumption) rfl ?_|refine ZA (by assumption) rfl ?_|refine ZB (by assumption) rfl ?_|refine Z6 ?_|refine Z7 ?_|refine Z8 ?_|refine ZB (by assumption) (by assumption) ?_)|((with_reducible refine ZM ?_ ?_);(focus rfl)));(conv=>whnf)))
    refine HAlt.mk ?_ ?_
    all_goals
      ((conv=>whnf);repeat((first|(with_reducible first|refine Z1 ?_|refine Z2 ?_|refine Z3 ?_|refine Z4 ?_|refine Z5 ?_|refine Z9 (by assumption) rfl ?_|refine ZA (by assumption) rfl ?_|refine ZB (by assumption) rfl ?_|refine Z6 ?_|refine Z7 ?_|refine Z8 ?_|refine ZB (by assumption) (by assumption) ?_)|((with_reducible refine ZM ?_ ?_);(focus rfl)));(conv=>whnf)))
      refine HCall.mk ((checkN_spec rx).mono ?_)
      rintro e hB ⟨r3, rfl, hr3, xx⟩
      obtain rfl : r3 = r2 := errN_same hr3 hr1
      replace o3 := o3.ext xx
      ((conv=>whnf);repeat((first|(with_reducible first|refine Z1 ?_|refine Z2 ?_|refine Z3 ?_|refine Z4 ?_|refine Z5 ?_|refine Z9 (by assumption) rfl ?_|refine ZA (by assumption) rfl ?_|refine ZB (by assumption) rfl ?_|refine Z6 ?_|refine Z7 ?_|refine Z8 ?_|refine ZB (by assumption) (by assumption) ?_)|((with_reducible refine ZM ?_ ?_);(focus rfl)));(conv=>whnf)))
      exact ⟨_, by first | rfl | assumption, rfl, xx⟩
  intro u hB v35 v37 v38
  rintro ⟨b, rfl, e, xx⟩
  cases e
  replace ra := ra.ext xx
  replace rb := rb.ext xx
  replace rx := rx.ext xx
  replace o3 := o3.ext xx
  replace o4 := o4.ext xx
  replace o7 := o7.ext xx
  replace x0c := x0c.trans xx
  clear xx
  ((conv=>whnf);repeat((first|(with_reducible first|refine Z2 ?_|refine Z3 ?_|refine Z4 ?_|refine Z5 ?_|refine Z9 (by assumption) rfl ?_|refine ZA (by assumption) rfl ?_|refine ZB (by assumption) rfl ?_|refine Z6 ?_|refine Z7 ?_|refine Z8 ?_|refine ZB (by assumption) (by assumption) ?_)|((with_reducible refine ZM ?_ ?_);(focus rfl)));(conv=>whnf)))
  refine HCall.mk ((rCheckN_spec ra).mono ?_)
  rintro e hC ⟨r3, rfl, hr3, xx⟩
  obtain rfl : r3 = r2 := errN_same hr3 hr1
  replace ra := ra.ext xx
  replace rb := rb.ext xx
  replace rx := rx.ext xx
  replace o3 := o3.ext xx
  replace o4 := o4.ext xx
  replace o7 := o7.ext xx
  replace x0c := x0c.trans xx
  clear xx
  ((conv=>whnf);repeat((first|(with_reducible first|refine Z2 ?_|refine Z3 ?_|refine Z4 ?_|refine Z5 ?_|refine Z9 (by assumption) rfl ?_|refine ZA (by assumption) rfl ?_|refine ZB (by assumption) rfl ?_|refine Z6 ?_|refine Z7 ?_|refine Z8 ?_|refine ZB (by assumption) (by assumption) ?_)|((with_reducible refine ZM ?_ ?_);(focus rfl)));(conv=>whnf)))
  refine cut_rule [42, 45, 46, 47] (fun vs h' => ∃ b : Bool, b = true ∧ vs = [.bool b, .int .i64 (childN d.keys key : Nat), .agg cs.toArray, .string key] ∧ Ext hC h') rfl ?_ ?_
  · ((conv=>whnf);repeat((first|(with_reducible first|refine Z1 ?_|refine Z2 ?_|refine Z3 ?_|refine Z4 ?_|refine Z5 ?_|refine Z9 (by assumption) rfl ?_|refine ZA (by assumption) rfl ?_|refine ZB (by assumption) rfl ?_|refine Z6 ?_|refine Z7 ?_|refine Z8 ?_|refine ZB (by assumption) (by assumption) ?_)|((with_reducible refine ZM ?_ ?_);(focus rfl)));(conv=>whnf)))
    refine HAlt.mk ?_ ?_
    all_goals
      ((conv=>whnf);repeat((first|(with_reducible first|refine Z1 ?_|refine Z2 ?_|refine Z3 ?_|refine Z4 ?_|refine Z5 ?_|refine Z9 (by assumption) rfl ?_|refine ZA (by assumption) rfl ?_|refine ZB (by assumption) rfl ?_|refine Z6 ?_|refine Z7 ?_|refine Z8 ?_|refine ZB (by assumption) (by assumption) ?_)|((with_reducible refine ZM ?_ ?_);(focus rfl)));(conv=>whnf)))
      refine HCall.mk ((childN_spec key rx).mono ?_)
      rintro e hD ⟨rfl, xx⟩
      replace o3 := o3.ext xx
      ((conv=>whnf);repeat((first|(with_reducible first|refine Z1 ?_|refine Z2 ?_|refine Z3 ?_|refine Z4 ?_|refine Z5 ?_|refine Z9 (by assumption) rfl ?_|refine ZA (by assumption) rfl ?_|refine ZB (by assumption) rfl ?_|refine Z6 ?_|refine Z7 ?_|refine Z8 ?_|refine ZB (by assumption) (by assumption) ?_)|((with_reducible refine ZM ?_ ?_);(focus rfl)));(conv=>whnf)))
      exact ⟨_, by first | rfl | assumption, rfl, xx⟩
  intro u hD v42 v45 v46 v47
  rintro ⟨b, rfl, e, xx⟩
  cases e
  replace ra := ra.ext xx
  replace rb := rb.ext xx
  replace rx := rx.ext xx
  replace o3 := o3.ext xx
  replace o4 := o4.ext xx
  replace o7 := o7.ext xx
  replace x0c := x0c.trans xx
  clear xx
  ((conv=>whnf);repeat((first|(with_reducible first|refine Z2 ?_|refine Z3 ?_|refine Z4 ?_|refine Z5 ?_|refine Z9 (by assumption) rfl ?_|refine ZA (by assumption) rfl ?_|refine ZB (by assumption) rfl ?_|refine Z6 ?_|refine Z7 ?_|refine Z8 ?_|refine ZB (by assumption) (by assumption) ?_)|((with_reducible refine ZM ?_ ?_);(focus rfl)));(conv=>whnf)))
  refine HCall.mk ((rchildN_spec key ra).mono ?_)
  rintro e hE ⟨rfl, xx⟩
  replace ra := ra.ext xx
  replace rb := rb.ext xx
  replace rx := rx.ext xx
  replace o3 := o3.ext xx
  replace o4 := o4.ext xx
  replace o7 := o7.ext xx
  replace x0c := x0c.trans xx
  clear xx
  have xE := Ext.refl hE
  ((conv=>whnf);repeat((first|(with_reducible first|refine Z2 ?_|refine Z3 ?_|refine Z4 ?_|refine Z5 ?_|refine Z9 (by assumption) rfl ?_|refine ZA (by assumption) rfl ?_|refine ZB (by assumption) rfl ?_|refine Z6 ?_|refine Z7 ?_|refine Z8 ?_|refine ZB (by assumption) (by assumption) ?_)|((with_reducible refine ZM ?_ ?_);(focus rfl)));(conv=>whnf)))
  refine cut_rule [51, 55, 56, 57] (fun vs h' => ∃ b : Bool, b = true ∧ vs = [.bool b, .bool (decide (d = m)), .agg cs.toArray, .agg ds.toArray] ∧ Ext hE h') rfl ?_ ?_
  · ((conv=>whnf);repeat((first|(with_reducible first|refine Z1 ?_|refine Z2 ?_|refine Z3 ?_|refine Z4 ?_|refine Z5 ?_|refine Z9 (by assumption) rfl ?_|refine ZA (by assumption) rfl ?_|refine ZB (by assumption) rfl ?_|refine Z6 ?_|refine Z7 ?_|refine Z8 ?_|refine ZB (by assumption) (by assumption) ?_)|((with_reducible refine ZM ?_ ?_);(focus rfl)));(conv=>whnf)))
    repeat' first
      | (refine HAlt.mk ?_ ?_ <;> ((conv=>whnf);repeat((first|(with_reducible first|refine Z1 ?_|refine Z2 ?_|refine Z3 ?_|refine Z4 ?_|refine Z5 ?_|refine Z9 (by assumption) rfl ?_|refine ZA (by assumption) rfl ?_|refine ZB (by assumption) rfl ?_|refine Z6 ?_|refine Z7 ?_|refine Z8 ?_|refine ZB (by assumption) (by assumption) ?_)|((with_reducible refine ZM ?_ ?_);(focus rfl)));(conv=>whnf))))
      | (refine HCall.mk ((ownN_spec rb).mono ?_)
         rintro e hF ⟨es, rfl, re, xx⟩
         replace ra := ra.ext xx
         replace rb := rb.ext xx
         replace rx := rx.ext xx
         replace o3 := o3.ext xx
         replace o4 := o4.ext xx
         replace o7 := o7.ext xx
         replace x0c := x0c.trans xx
         replace xE := xE.trans xx
         clear xx
         ((conv=>whnf);repeat((first|(with_reducible first|refine Z1 ?_|refine Z2 ?_|refine Z3 ?_|refine Z4 ?_|refine Z5 ?_|refine Z9 (by assumption) rfl ?_|refine ZA (by assumption) rfl ?_|refine ZB (by assumption) rfl ?_|refine Z6 ?_|refine Z7 ?_|refine Z8 ?_|refine ZB (by assumption) (by assumption) ?_)|((with_reducible refine ZM ?_ ?_);(focus rfl)));(conv=>whnf))))
      | (refine HCall.mk ((sameN_spec rx (by assumption)).mono ?_)
         rintro e hF ⟨rfl, xx⟩
         replace ra := ra.ext xx
         replace rb := rb.ext xx
         replace rx := rx.ext xx
         replace o3 := o3.ext xx
         replace o4 := o4.ext xx
         replace o7 := o7.ext xx
         replace x0c := x0c.trans xx
         replace xE := xE.trans xx
         clear xx
         ((conv=>whnf);repeat((first|(with_reducible first|refine Z1 ?_|refine Z2 ?_|refine Z3 ?_|refine Z4 ?_|refine Z5 ?_|refine Z9 (by assumption) rfl ?_|refine ZA (by assumption) rfl ?_|refine ZB (by assumption) rfl ?_|refine Z6 ?_|refine Z7 ?_|refine Z8 ?_|refine ZB (by assumption) (by assumption) ?_)|((with_reducible refine ZM ?_ ?_);(focus rfl)));(conv=>whnf))))
      | exact ⟨_, by first | rfl | assumption, rfl, xE⟩
  intro u hF v51 v55 v56 v57
  rintro ⟨b, rfl, e, xx⟩
  cases e
  replace ra := ra.ext xx
  replace rb := rb.ext xx
  replace rx := rx.ext xx
  replace o3 := o3.ext xx
  replace o4 := o4.ext xx
  replace o7 := o7.ext xx
  replace x0c := x0c.trans xx
  clear xx xE
  ((conv=>whnf);repeat((first|(with_reducible first|refine Z2 ?_|refine Z3 ?_|refine Z4 ?_|refine Z5 ?_|refine Z9 (by assumption) rfl ?_|refine ZA (by assumption) rfl ?_|refine ZB (by assumption) rfl ?_|refine Z6 ?_|refine Z7 ?_|refine Z8 ?_|refine ZB (by assumption) (by assumption) ?_)|((with_reducible refine ZM ?_ ?_);(focus rfl)));(conv=>whnf)))
  refine HCall.mk ((rsameN_spec ra rb).mono ?_)
  rintro e hG ⟨rfl, xx⟩
  replace ra := ra.ext xx
  replace rb := rb.ext xx
  replace rx := rx.ext xx
  replace o3 := o3.ext xx
  replace o4 := o4.ext xx
  replace o7 := o7.ext xx
  replace x0c := x0c.trans xx
  clear xx
  have hq3 : (bif false then !(decide (d = m) == decide (d = m)) else (decide (d = m) == decide (d = m))) = true := by simp
  ((conv=>whnf);repeat((first|(with_reducible first|refine Z2 ?_|refine Z3 ?_|refine Z4 ?_|refine Z5 ?_|refine Z9 (by assumption) rfl ?_|refine ZA (by assumption) rfl ?_|refine ZB (by assumption) rfl ?_|refine Z6 ?_|refine Z7 ?_|refine Z8 ?_|refine ZB (by assumption) (by assumption) ?_)|((with_reducible refine ZM ?_ ?_);(focus rfl)));(conv=>whnf)))
  refine cut_rule [61, 63, 64] (fun vs h' => ∃ b : Bool, b = true ∧ vs = [.bool b, .agg xs.toArray, .agg cs.toArray] ∧ Ext hG h') rfl ?_ ?_
  · ((conv=>whnf);repeat((first|(with_reducible first|refine Z1 ?_|refine Z2 ?_|refine Z3 ?_|refine Z4 ?_|refine Z5 ?_|refine Z9 (by assumption) rfl ?_|refine ZA (by assumption) rfl ?_|refine ZB (by assumption) rfl ?_|refine Z6 ?_|refine Z7 ?_|refine Z8 ?_|refine ZB (by assumption) (by assumption) ?_)|((with_reducible refine ZM ?_ ?_);(focus rfl)));(conv=>whnf)))
    refine HAlt.mk ?_ ?_
    all_goals
      ((conv=>whnf);repeat((first|(with_reducible first|refine Z1 ?_|refine Z2 ?_|refine Z3 ?_|refine Z4 ?_|refine Z5 ?_|refine Z9 (by assumption) rfl ?_|refine ZA (by assumption) rfl ?_|refine ZB (by assumption) rfl ?_|refine Z6 ?_|refine Z7 ?_|refine Z8 ?_|refine ZB (by assumption) (by assumption) ?_)|((with_reducible refine ZM ?_ ?_);(focus rfl)));(conv=>whnf)))
      refine HCall.mk ((toldN_spec rx).mono ?_)
      rintro e hH ⟨rfl, xx⟩
      replace o3 := o3.ext xx
      ((conv=>whnf);repeat((first|(with_reducible first|refine Z1 ?_|refine Z2 ?_|refine Z3 ?_|refine Z4 ?_|refine Z5 ?_|refine Z9 (by assumption) rfl ?_|refine ZA (by assumption) rfl ?_|refine ZB (by assumption) rfl ?_|refine Z6 ?_|refine Z7 ?_|refine Z8 ?_|refine ZB (by assumption) (by assumption) ?_)|((with_reducible refine ZM ?_ ?_);(focus rfl)));(conv=>whnf)))
      exact ⟨_, by first | rfl | assumption, rfl, xx⟩
  intro u hH v61 v63 v64
  rintro ⟨b, rfl, e, xx⟩
  cases e
  replace ra := ra.ext xx
  replace rb := rb.ext xx
  replace rx := rx.ext xx
  replace o3 := o3.ext xx
  replace o4 := o4.ext xx
  replace o7 := o7.ext xx
  replace x0c := x0c.trans xx
  clear xx
  ((conv=>whnf);repeat((first|(with_reducible first|refine Z2 ?_|refine Z3 ?_|refine Z4 ?_|refine Z5 ?_|refine Z9 (by assumption) rfl ?_|refine ZA (by assumption) rfl ?_|refine ZB (by assumption) rfl ?_|refine Z6 ?_|refine Z7 ?_|refine Z8 ?_|refine ZB (by assumption) (by assumption) ?_)|((with_reducible refine ZM ?_ ?_);(focus rfl)));(conv=>whnf)))
  refine HCall.mk ((rsameN_spec rx ra).mono ?_)
  rintro e hI ⟨he, xx⟩
  rw [one] at he
  subst he
  replace x0c := x0c.trans xx
  ((conv=>whnf);repeat((first|(with_reducible first|refine Z1 ?_|refine Z2 ?_|refine Z3 ?_|refine Z4 ?_|refine Z5 ?_|refine Z9 (by assumption) rfl ?_|refine ZA (by assumption) rfl ?_|refine ZB (by assumption) rfl ?_|refine Z6 ?_|refine Z7 ?_|refine Z8 ?_|refine ZB (by assumption) (by assumption) ?_)|((with_reducible refine ZM ?_ ?_);(focus rfl)));(conv=>whnf)))
  exact ⟨rfl, x0c⟩

end Go.Proofs.Ythagjflkdoafmaa.Hc
