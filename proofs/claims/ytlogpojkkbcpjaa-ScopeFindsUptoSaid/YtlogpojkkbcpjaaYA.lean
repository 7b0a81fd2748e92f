/- tree.Check. -/
import Derived.Test.YtlogpojkkbcpjaaY9
set_option linter.unusedVariables false
set_option linter.unusedSimpArgs false
namespace Go.Proofs.Ytlogpojkkbcpjaa.Hc
open Go Go.H Go.Proofs
set_option maxRecDepth 100000
set_option maxHeartbeats 4000000
def tcheck (d : NT) : Int := if d.kind ≠ 41 ∨ mayT d = false then 70 else if deepT d > 64 then 31 else 0
theorem tcheck_spec {d : NT} {h : Heap} {cs : List Value} (r : TRep h d cs) (g : Glb h) (hc : cnt d ≤ 4194304) : HCalls Try.prog 22 #[.agg cs.toArray] h fun e h' => e = .returned (.int .i64 (tcheck d)) ∧ Ext h h' := by
  cases d with
  | mk k nm n t ns l =>
  simp only [TRep] at r
  have r0 := r
  obtain ⟨b1, b2, b3, b4, b5, b6, b7, ka, kc, la, lc, ys, rfl, s1, s2, s3⟩ := r
  refine c22 (by simp) ?_
  ((conv=>whnf);repeat((first|(with_reducible first|refine Z1 ?_|refine Z2 ?_|refine Z3 ?_|refine Z4 ?_|refine Z5 ?_|refine Z9 (by assumption) rfl ?_|refine ZA (by assumption) rfl ?_|refine ZB (by assumption) rfl ?_|refine Z6 ?_|refine Z7 ?_|refine Z8 ?_)|((with_reducible refine ZM ?_ ?_);(focus rfl)));(conv=>whnf)))
  refine new_var (e := 26) [.int .i64 k, .string nm, .int .i64 n, .string t, .slice ka ns.length kc, .slice la l.length lc] rfl ?_
  intro h1 bn o1 x1 z1 hbn
  unfold tcheck
  rw [show NT.kind (.mk k nm n t ns l) = k from rfl]
  have r1 : TRep h1 (.mk k nm n t ns l) [.int .i64 k, .string nm, .int .i64 n, .string t, .slice ka ns.length kc, .slice la l.length lc] := TRep.ext x1 (by simp only [TRep]; exact r0)
  by_cases hk : k = 41
  · have q : (k != 41) = false := by rw [hk]; rfl
    ((conv=>whnf);repeat((first|(with_reducible first|refine Z1 ?_|refine Z2 ?_|refine Z3 ?_|refine Z4 ?_|refine Z5 ?_|refine Z9 (by assumption) rfl ?_|refine ZA (by assumption) rfl ?_|refine ZB (by assumption) rfl ?_|refine Z6 ?_|refine Z7 ?_|refine Z8 ?_)|((with_reducible refine ZM ?_ ?_);(focus rfl)));(conv=>whnf)))
    refine HCall.mk ((may_spec _ (.mk k nm n t ns l) rfl h1 _ r1 (g.ext x1) hc).mono ?_)
    rintro e h2 ⟨rfl, x2⟩
    have o2 := o1.ext x2
    cases hm : mayT (.mk k nm n t ns l)
    · rw [if_pos (.inr rfl)]
      ((conv=>whnf);repeat((first|(with_reducible first|refine Z1 ?_|refine Z2 ?_|refine Z3 ?_|refine Z4 ?_|refine Z5 ?_|refine Z9 (by assumption) rfl ?_|refine ZA (by assumption) rfl ?_|refine ZB (by assumption) rfl ?_|refine Z6 ?_|refine Z7 ?_|refine Z8 ?_)|((with_reducible refine ZM ?_ ?_);(focus rfl)));(conv=>whnf)))
      exact ⟨rfl, x1.trans x2⟩
    · rw [if_neg (by simp [hk])]
      ((conv=>whnf);repeat((first|(with_reducible first|refine Z1 ?_|refine Z2 ?_|refine Z3 ?_|refine Z4 ?_|refine Z5 ?_|refine Z9 (by assumption) rfl ?_|refine ZA (by assumption) rfl ?_|refine ZB (by assumption) rfl ?_|refine Z6 ?_|refine Z7 ?_|refine Z8 ?_)|((with_reducible refine ZM ?_ ?_);(focus rfl)));(conv=>whnf)))
      refine HCall.mk ((deep_spec _ (.mk k nm n t ns l) rfl h2 _ (r1.ext x2) hc).mono ?_)
      rintro e h3 ⟨rfl, x3⟩
      by_cases hd : deepT (.mk k nm n t ns l) > 64
      · have q2 : decide ((deepT (.mk k nm n t ns l) : Int) > 64) = true := decide_eq_true (by omega)
        rw [if_pos hd]
        ((conv=>whnf);repeat((first|(with_reducible first|refine Z1 ?_|refine Z2 ?_|refine Z3 ?_|refine Z4 ?_|refine Z5 ?_|refine Z9 (by assumption) rfl ?_|refine ZA (by assumption) rfl ?_|refine ZB (by assumption) rfl ?_|refine Z6 ?_|refine Z7 ?_|refine Z8 ?_)|((with_reducible refine ZM ?_ ?_);(focus rfl)));(conv=>whnf)))
        exact ⟨rfl, x1.trans (x2.trans x3)⟩
      · have q2 : decide ((deepT (.mk k nm n t ns l) : Int) > 64) = false := decide_eq_false (by omega)
        rw [if_neg hd]
        ((conv=>whnf);repeat((first|(with_reducible first|refine Z1 ?_|refine Z2 ?_|refine Z3 ?_|refine Z4 ?_|refine Z5 ?_|refine Z9 (by assumption) rfl ?_|refine ZA (by assumption) rfl ?_|refine ZB (by assumption) rfl ?_|refine Z6 ?_|refine Z7 ?_|refine Z8 ?_)|((with_reducible refine ZM ?_ ?_);(focus rfl)));(conv=>whnf)))
        exact ⟨rfl, x1.trans (x2.trans x3)⟩
  · have q : (k != 41) = true := bne_iff_ne.2 hk
    rw [if_pos (.inl hk)]
    ((conv=>whnf);repeat((first|(with_reducible first|refine Z1 ?_|refine Z2 ?_|refine Z3 ?_|refine Z4 ?_|refine Z5 ?_|refine Z9 (by assumption) rfl ?_|refine ZA (by assumption) rfl ?_|refine ZB (by assumption) rfl ?_|refine Z6 ?_|refine Z7 ?_|refine Z8 ?_)|((with_reducible refine ZM ?_ ?_);(focus rfl)));(conv=>whnf)))
    exact ⟨rfl, x1⟩
end Go.Proofs.Ytlogpojkkbcpjaa.Hc
