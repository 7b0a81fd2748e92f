/- What any text is as a number, any number's text. -/
import Derived.Test.YtnanabjbdnbccaaDoorPJ
import Derived.Test.YtnanabjbdnbccaaDoorPF
import Derived.Test.YtnanabjbdnbccaaDoorPB
set_option linter.unusedVariables false
set_option linter.unusedSimpArgs false
namespace Go.Proofs.YtnanabjbdnbccaaDoor.Hc
open Go Go.H Go.Proofs
set_option maxRecDepth 100000
set_option maxHeartbeats 4000000

theorem numberTexts_spec (n : Int) (wn : (Lit.int .i64 n).wf = true) (s : ByteArray) (ws : s.size ≤ 1048576) {h : Heap} (g : Glob h) :
    HCalls Tryd.prog 3 #[.int .i64 n, .string s] h fun e h' => e = .returned (.bool true) ∧ Ext h h' := by
  obtain ⟨l, rfl⟩ : ∃ l : List UInt8, s = ⟨l.toArray⟩ := ⟨s.data.toList, by cases s; rfl⟩
  have hl : l.length ≤ 2097152 := by
    have : (⟨l.toArray⟩ : ByteArray).size = l.length := rfl
    omega
  obtain ⟨hn0, hn1⟩ := wf_i64 wn
  clear ws
  refine c3 (by simp) ?_
  ((conv=>whnf);repeat((first|(with_reducible first|refine Z1 ?_|refine Z2 ?_|refine Z3 ?_|refine Z4 ?_|refine Z5 ?_|refine Z9 (by assumption) rfl ?_|refine ZA (by assumption) rfl ?_|refine ZB (by assumption) rfl ?_|refine Z6 ?_|refine Z7 ?_|refine Z8 ?_)|((with_reducible refine ZM ?_ ?_);(focus rfl)));(conv=>whnf)))
  refine HCall.mk ((read_spec l hl h g).mono ?_)
  rintro e h1 ⟨rfl, x1⟩
  rw [numR_eq]
  ((conv=>whnf);repeat((first|(with_reducible first|refine Z1 ?_|refine Z2 ?_|refine Z3 ?_|refine Z4 ?_|refine Z5 ?_|refine Z9 (by assumption) rfl ?_|refine ZA (by assumption) rfl ?_|refine ZB (by assumption) rfl ?_|refine Z6 ?_|refine Z7 ?_|refine Z8 ?_)|((with_reducible refine ZM ?_ ?_);(focus rfl)));(conv=>whnf)))
  refine HCall.mk ((rread_spec l hl _).mono ?_)
  rintro e h2 ⟨rfl, x2⟩
  rw [ref_read, numR_eq]
  ((conv=>whnf);repeat((first|(with_reducible first|refine Z1 ?_|refine Z2 ?_|refine Z3 ?_|refine Z4 ?_|refine Z5 ?_|refine Z9 (by assumption) rfl ?_|refine ZA (by assumption) rfl ?_|refine ZB (by assumption) rfl ?_|refine Z6 ?_|refine Z7 ?_|refine Z8 ?_)|((with_reducible refine ZM ?_ ?_);(focus rfl)));(conv=>whnf)))
  refine HCall.mk ((live_spec _ (g.ext (x1.trans x2))).mono ?_)
  rintro e h3 ⟨rfl, x3⟩
  ((conv=>whnf);repeat((first|(with_reducible first|refine Z1 ?_|refine Z2 ?_|refine Z3 ?_|refine Z4 ?_|refine Z5 ?_|refine Z9 (by assumption) rfl ?_|refine ZA (by assumption) rfl ?_|refine ZB (by assumption) rfl ?_|refine Z6 ?_|refine Z7 ?_|refine Z8 ?_)|((with_reducible refine ZM ?_ ?_);(focus rfl)));(conv=>whnf)))
  refine HCall.mk ((text_spec n hn0 hn1 _ (g.ext (x1.trans (x2.trans x3))).1).mono ?_)
  rintro e h4 ⟨rfl, x4⟩
  ((conv=>whnf);repeat((first|(with_reducible first|refine Z1 ?_|refine Z2 ?_|refine Z3 ?_|refine Z4 ?_|refine Z5 ?_|refine Z9 (by assumption) rfl ?_|refine ZA (by assumption) rfl ?_|refine ZB (by assumption) rfl ?_|refine Z6 ?_|refine Z7 ?_|refine Z8 ?_)|((with_reducible refine ZM ?_ ?_);(focus rfl)));(conv=>whnf)))
  refine HCall.mk ((rtext_spec n hn0 hn1 _).mono ?_)
  rintro e h5 ⟨rfl, x5⟩
  have q : strEq (textN n) (textN n) = true := by rw [strEq_iff]
  ((conv=>whnf);repeat((first|(with_reducible first|refine Z1 ?_|refine Z2 ?_|refine Z3 ?_|refine Z4 ?_|refine Z5 ?_|refine Z9 (by assumption) rfl ?_|refine ZA (by assumption) rfl ?_|refine ZB (by assumption) rfl ?_|refine Z6 ?_|refine Z7 ?_|refine Z8 ?_)|((with_reducible refine ZM ?_ ?_);(focus rfl)));(conv=>whnf)))
  refine HCall.mk ((sameI_self _ _ _).mono ?_)
  rintro e h6 ⟨rfl, rfl⟩
  ((conv=>whnf);repeat((first|(with_reducible first|refine Z1 ?_|refine Z2 ?_|refine Z3 ?_|refine Z4 ?_|refine Z5 ?_|refine Z9 (by assumption) rfl ?_|refine ZA (by assumption) rfl ?_|refine ZB (by assumption) rfl ?_|refine Z6 ?_|refine Z7 ?_|refine Z8 ?_)|((with_reducible refine ZM ?_ ?_);(focus rfl)));(conv=>whnf)))
  exact ⟨rfl, x1.trans (x2.trans (x3.trans (x4.trans x5)))⟩

end Go.Proofs.YtnanabjbdnbccaaDoor.Hc
