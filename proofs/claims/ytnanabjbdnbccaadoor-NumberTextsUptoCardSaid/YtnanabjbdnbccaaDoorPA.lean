/- The chapter's examples; the laws that reckon. -/
import Derived.Test.YtnanabjbdnbccaaDoorP9
set_option linter.unusedVariables false
set_option linter.unusedSimpArgs false
namespace Go.Proofs.YtnanabjbdnbccaaDoor.Hc
open Go Go.H Go.Proofs
set_option maxRecDepth 100000
set_option maxHeartbeats 4000000

theorem live_read : readN (unitsL [32, 45, 48, 49, 50, 32]) = some (-12) := by decide +kernel
theorem live_text : textN (-12) = ⟨(unitsL [45, 49, 50]).toArray⟩ := by
  unfold textN
  have : Lib.itoa (-12) = [45, 49, 50] := by decide +kernel
  rw [this]
theorem live_mul : nMul 134217728 67108864 = none := by decide +kernel
theorem live_div : nDiv 7 2 = none := by decide +kernel
theorem live_mod : nMod (-7) 2 = some (-1) := by decide +kernel
theorem live_add : nAdd 2 3 = some 5 := by decide +kernel

theorem live_spec (h : Heap) (g : Glob h) : HCalls Tryd.prog 10 #[] h fun e h' => e = .returned (.bool true) ∧ Ext h h' := by
  refine c10 (by simp) ?_
  ((conv=>whnf);repeat((first|(with_reducible first|refine Z1 ?_|refine Z2 ?_|refine Z3 ?_|refine Z4 ?_|refine Z5 ?_|refine Z9 (by assumption) rfl ?_|refine ZA (by assumption) rfl ?_|refine ZB (by assumption) rfl ?_|refine Z6 ?_|refine Z7 ?_|refine Z8 ?_)|((with_reducible refine ZM ?_ ?_);(focus rfl)));(conv=>whnf)))
  refine HCall.mk ((mul_spec 134217728 67108864 h).mono ?_)
  rintro e h ⟨rfl, rfl⟩
  rw [live_mul]
  ((conv=>whnf);repeat((first|(with_reducible first|refine Z1 ?_|refine Z2 ?_|refine Z3 ?_|refine Z4 ?_|refine Z5 ?_|refine Z9 (by assumption) rfl ?_|refine ZA (by assumption) rfl ?_|refine ZB (by assumption) rfl ?_|refine Z6 ?_|refine Z7 ?_|refine Z8 ?_)|((with_reducible refine ZM ?_ ?_);(focus rfl)));(conv=>whnf)))
  refine HCall.mk ((div_spec 7 2 _).mono ?_)
  rintro e h ⟨rfl, rfl⟩
  rw [live_div]
  ((conv=>whnf);repeat((first|(with_reducible first|refine Z1 ?_|refine Z2 ?_|refine Z3 ?_|refine Z4 ?_|refine Z5 ?_|refine Z9 (by assumption) rfl ?_|refine ZA (by assumption) rfl ?_|refine ZB (by assumption) rfl ?_|refine Z6 ?_|refine Z7 ?_|refine Z8 ?_)|((with_reducible refine ZM ?_ ?_);(focus rfl)));(conv=>whnf)))
  refine HCall.mk ((mod_spec (-7) 2 _).mono ?_)
  rintro e h ⟨rfl, rfl⟩
  rw [live_mod]
  ((conv=>whnf);repeat((first|(with_reducible first|refine Z1 ?_|refine Z2 ?_|refine Z3 ?_|refine Z4 ?_|refine Z5 ?_|refine Z9 (by assumption) rfl ?_|refine ZA (by assumption) rfl ?_|refine ZB (by assumption) rfl ?_|refine Z6 ?_|refine Z7 ?_|refine Z8 ?_)|((with_reducible refine ZM ?_ ?_);(focus rfl)));(conv=>whnf)))
  refine HCall.mk ((u_spec [32, 45, 48, 49, 50, 32] (by unfold plainL; decide) (by decide) _).mono ?_)
  rintro e h2 ⟨rfl, x2⟩
  ((conv=>whnf);repeat((first|(with_reducible first|refine Z1 ?_|refine Z2 ?_|refine Z3 ?_|refine Z4 ?_|refine Z5 ?_|refine Z9 (by assumption) rfl ?_|refine ZA (by assumption) rfl ?_|refine ZB (by assumption) rfl ?_|refine Z6 ?_|refine Z7 ?_|refine Z8 ?_)|((with_reducible refine ZM ?_ ?_);(focus rfl)));(conv=>whnf)))
  refine HCall.mk ((read_spec (unitsL [32, 45, 48, 49, 50, 32]) (by decide) h2 (g.ext x2)).mono ?_)
  rintro e h3 ⟨rfl, x3⟩
  rw [live_read]
  ((conv=>whnf);repeat((first|(with_reducible first|refine Z1 ?_|refine Z2 ?_|refine Z3 ?_|refine Z4 ?_|refine Z5 ?_|refine Z9 (by assumption) rfl ?_|refine ZA (by assumption) rfl ?_|refine ZB (by assumption) rfl ?_|refine Z6 ?_|refine Z7 ?_|refine Z8 ?_)|((with_reducible refine ZM ?_ ?_);(focus rfl)));(conv=>whnf)))
  refine HCall.mk ((add_spec 2 3 _).mono ?_)
  rintro e _ ⟨rfl, rfl⟩
  rw [live_add]
  ((conv=>whnf);repeat((first|(with_reducible first|refine Z1 ?_|refine Z2 ?_|refine Z3 ?_|refine Z4 ?_|refine Z5 ?_|refine Z9 (by assumption) rfl ?_|refine ZA (by assumption) rfl ?_|refine ZB (by assumption) rfl ?_|refine Z6 ?_|refine Z7 ?_|refine Z8 ?_)|((with_reducible refine ZM ?_ ?_);(focus rfl)));(conv=>whnf)))
  refine HCall.mk ((text_spec (-12) (by decide) (by decide) _ ((g.ext x2).ext x3).1).mono ?_)
  rintro e h4 ⟨rfl, x4⟩
  ((conv=>whnf);repeat((first|(with_reducible first|refine Z1 ?_|refine Z2 ?_|refine Z3 ?_|refine Z4 ?_|refine Z5 ?_|refine Z9 (by assumption) rfl ?_|refine ZA (by assumption) rfl ?_|refine ZB (by assumption) rfl ?_|refine Z6 ?_|refine Z7 ?_|refine Z8 ?_)|((with_reducible refine ZM ?_ ?_);(focus rfl)));(conv=>whnf)))
  refine HCall.mk ((u_spec [45, 49, 50] (by unfold plainL; decide) (by decide) _).mono ?_)
  rintro e h5 ⟨rfl, x5⟩
  have q : strEq (textN (-12)) ⟨(unitsL [45, 49, 50]).toArray⟩ = true := by rw [strEq_iff]; exact live_text
  ((conv=>whnf);repeat((first|(with_reducible first|refine Z1 ?_|refine Z2 ?_|refine Z3 ?_|refine Z4 ?_|refine Z5 ?_|refine Z9 (by assumption) rfl ?_|refine ZA (by assumption) rfl ?_|refine ZB (by assumption) rfl ?_|refine Z6 ?_|refine Z7 ?_|refine Z8 ?_)|((with_reducible refine ZM ?_ ?_);(focus rfl)));(conv=>whnf)))
  refine ⟨?_, x2.trans (x3.trans (x4.trans x5))⟩
  show Ending.returned (.bool (strEq (textN (-12)) ⟨(unitsL [45, 49, 50]).toArray⟩)) = _
  rw [q]

end Go.Proofs.YtnanabjbdnbccaaDoor.Hc
