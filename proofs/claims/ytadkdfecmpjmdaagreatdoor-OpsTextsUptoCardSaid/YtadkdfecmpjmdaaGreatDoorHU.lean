/- The runs of steps, as lemmas. -/
import Derived.Test.YtadkdfecmpjmdaaGreatDoorHP
set_option linter.unusedVariables false
namespace Go.H
open Go
structure Left (K : Prop) : Prop where
  out : K
theorem gS {K G : Prop} (k : K) (h : Left K → G := by
  intro left
  ((conv=>whnf);repeat((first|(with_reducible first|refine Z1 ?_|refine Z2 ?_|refine Z3 ?_|refine Z4 ?_|refine Z5 ?_));(conv=>whnf)))
  exact left.out) : G := h ⟨k⟩
theorem gB {K G : Prop} (k : K) (h : Left K → G := by
  intro left
  ((conv=>whnf);repeat((first|(with_reducible first|refine Z2 ?_|refine Z3 ?_|refine Z4 ?_|refine Z5 ?_|refine Z9 (by assumption) rfl ?_|refine ZA (by assumption) rfl ?_|refine ZB (by assumption) rfl ?_|refine Z6 ?_|refine Z7 ?_|refine Z8 ?_)|((with_reducible refine ZM ?_ ?_);(focus rfl)));(conv=>whnf)))
  exact left.out) : G := h ⟨k⟩
theorem gN {K G : Prop} (k : K) (h : Left K → G := by
  intro left
  ((conv=>whnf);repeat((first|(with_reducible first|refine Z1 ?_|refine Z2 ?_|refine Z3 ?_|refine Z4 ?_|refine Z5 ?_|refine Z9 (by assumption) rfl ?_|refine ZA (by assumption) rfl ?_|refine ZB (by assumption) rfl ?_|refine Z6 ?_|refine Z7 ?_|refine Z8 ?_|refine ZB (by assumption) (by assumption) ?_)|((with_reducible refine ZM ?_ ?_);(focus rfl)));(conv=>whnf)))
  exact left.out) : G := h ⟨k⟩
theorem gM {K G : Prop} (k : K) (h : Left K → G := by
  intro left
  ((conv=>whnf);repeat((first|(with_reducible first|refine Z2 ?_|refine Z3 ?_|refine Z4 ?_|refine Z5 ?_|refine Z9 (by assumption) rfl ?_|refine ZA (by assumption) rfl ?_|refine ZB (by assumption) rfl ?_|refine Z6 ?_|refine Z7 ?_|refine Z8 ?_|refine ZB (by assumption) (by assumption) ?_)|((with_reducible refine ZM ?_ ?_);(focus rfl)));(conv=>whnf)))
  exact left.out) : G := h ⟨k⟩
theorem gA {K G : Prop} (k : K) (h : Left K → G := by
  intro left
  ((conv=>whnf);repeat((first|(with_reducible first|refine Z1 ?_|refine Z2 ?_|refine Z3 ?_|refine Z4 ?_|refine Z5 ?_|refine Z9 (by assumption) rfl ?_|refine ZA (by assumption) rfl ?_|refine ZB (by assumption) rfl ?_|refine Z6 ?_|refine Z7 ?_|refine Z8 ?_)|((with_reducible refine ZM ?_ ?_);(focus rfl)));(conv=>whnf)))
  exact left.out) : G := h ⟨k⟩
end Go.H
