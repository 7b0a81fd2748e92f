/- The shelf's contract of a Builder's copyCheck, laid by hand (the numbers of two types are named by no body). -/
import Derived.Test.YtmibnfjjlibpgaaDoorProg
import Derived.Shelf.Strings.Builder1
import Derived.Test.YtmibnfjjlibpgaaDoorHQ
import Derived.Test.YtmibnfjjlibpgaaDoorC0
set_option linter.unusedVariables false
namespace Go.Proofs
open Go Go.H
def Tryd.lays240_ren : Go.Shelf.Ren := ⟨fun | 240 => 53 | 276 => 62 | n => n, fun | 0 => 0 | 4 => 4 | 9 => 9 | 20 => 20 | 70 => 44 | 72 => 47 | 164 => 80 | 37 => 45 | n => n, fun | n => n⟩
theorem Tryd.lays240 : Lays.n240 Tryd.prog Tryd.lays240_ren := {
  mixed := by kernel_rfl
  f240 := Tryd.func53.trans (congrArg some (by kernel_rfl))
  f276 := Tryd.func62.trans (congrArg some (by kernel_rfl))
  t0 := Tryd.underlying0
  a0 := Tryd.isAgg0
  z0 := Tryd.sizeOf0
  v0 := Tryd.zeroValue0
  t4 := Tryd.underlying4
  a4 := Tryd.isAgg4
  z4 := Tryd.sizeOf4
  v4 := Tryd.zeroValue4
  t9 := Tryd.underlying9
  a9 := Tryd.isAgg9
  z9 := Tryd.sizeOf9
  v9 := Tryd.zeroValue9
  t20 := Tryd.underlying20
  a20 := Tryd.isAgg20
  z20 := Tryd.sizeOf20
  v20 := Tryd.zeroValue20
  t70 := Tryd.underlying44
  a70 := Tryd.isAgg44
  z70 := Tryd.sizeOf44
  v70 := Tryd.zeroValue44
  t72 := Tryd.underlying47
  a72 := Tryd.isAgg47
  z72 := Tryd.sizeOf47
  v72 := Tryd.zeroValue47
  t164 := Tryd.underlying80
  a164 := Tryd.isAgg80
  z164 := Tryd.sizeOf80
  v164 := Tryd.zeroValue80 }
theorem Tryd.Builder_X72 : Builder.X72 Tryd.prog Tryd.lays240_ren where
  sizeBuilder := by kernel_rfl
  liesBuilder := by kernel_rfl
end Go.Proofs
namespace Go.Proofs.YtmibnfjjlibpgaaDoor.Hc
open Go Go.H Go.Proofs
set_option maxRecDepth 100000
theorem lies_b : liesAt Tryd.prog Tryd.prog.depth 47 (2 / Tryd.prog.cellsOf 47) 0 47 1 = true := by kernel_rfl
theorem lies_w : liesAt Tryd.prog Tryd.prog.depth 49 (2 / Tryd.prog.cellsOf 49) 0 47 1 = true := by kernel_rfl
/-- A fresh builder is marked as used. -/
theorem copyCheck_fresh {h : Heap} {b e : Nat} {v : Value} (x : BlkW h b e [.pointer none, v]) (hl : liesAt Tryd.prog Tryd.prog.depth e (2 / Tryd.prog.cellsOf e) 0 47 1 = true)
    {R : Ending → Heap → Prop} (k : ∀ h', Off b h h' → h'.size = h.size → BlkW h' b e [.pointer (some ⟨b, 0, none⟩), v] → R (.returned (.tuple #[])) h') : HCalls Tryd.prog 53 #[.pointer (some ⟨b, 0, none⟩)] h R := by
  have hsh : hshape h b = some (e, 2) := by
    obtain ⟨fz, ee, ha⟩ := x
    unfold hshape; rw [ee]; rfl
  refine c53 (by simp) ?_
  ((conv=>whnf);repeat((first|(with_reducible first|refine Z1 ?_|refine Z2 ?_|refine Z3 ?_|refine Z4 ?_|refine Z5 ?_|refine Z9 (by assumption) rfl ?_|refine ZA (by assumption) rfl ?_|refine ZB (by assumption) rfl ?_|refine Z6 ?_|refine Z7 ?_|refine Z8 ?_)|((with_reducible refine ZM ?_ ?_);(focus rfl)));(conv=>whnf)))
  refine raw_toUnsafe (a := ⟨b, 0, none⟩) (cells := 2) (e := e) (n := 2) rfl rfl Tryd.underlying44 Tryd.underlying80 (by kernel_rfl) (by decide) hsh (show 0 < 2 by decide) ?_
  ((conv=>whnf);repeat((first|(with_reducible first|refine Z1 ?_|refine Z2 ?_|refine Z3 ?_|refine Z4 ?_|refine Z5 ?_|refine Z9 (by assumption) rfl ?_|refine ZA (by assumption) rfl ?_|refine ZB (by assumption) rfl ?_|refine Z6 ?_|refine Z7 ?_|refine Z8 ?_)|((with_reducible refine ZM ?_ ?_);(focus rfl)));(conv=>whnf)))
  refine raw_extern (fn := Tryd.f62) (g := Extern.AbiNoEscape.same) (v := .pointer (some ⟨b, 0, none⟩)) rfl rfl Tryd.func62 (by kernel_rfl) (by kernel_rfl) (by kernel_rfl) (by kernel_rfl) rfl ?_
  ((conv=>whnf);repeat((first|(with_reducible first|refine Z1 ?_|refine Z2 ?_|refine Z3 ?_|refine Z4 ?_|refine Z5 ?_|refine Z9 (by assumption) rfl ?_|refine ZA (by assumption) rfl ?_|refine ZB (by assumption) rfl ?_|refine Z6 ?_|refine Z7 ?_|refine Z8 ?_)|((with_reducible refine ZM ?_ ?_);(focus rfl)));(conv=>whnf)))
  refine raw_fromUnsafe (a := ⟨b, 0, none⟩) (cells := 2) (e := e) (n := 2) rfl rfl Tryd.underlying80 Tryd.underlying44 (by kernel_rfl) (by decide) hsh hl ?_
  ((conv=>whnf);repeat((first|(with_reducible first|refine Z1 ?_|refine Z2 ?_|refine Z3 ?_|refine Z4 ?_|refine Z5 ?_|refine Z9 (by assumption) rfl ?_|refine ZA (by assumption) rfl ?_|refine ZB (by assumption) rfl ?_|refine Z6 ?_|refine Z7 ?_|refine Z8 ?_)|((with_reducible refine ZM ?_ ?_);(focus rfl)));(conv=>whnf)))
  refine blk_st (o := 0) x (by simp) rfl ?_
  intro h' f z o
  ((conv=>whnf);repeat((first|(with_reducible first|refine Z1 ?_|refine Z2 ?_|refine Z3 ?_|refine Z4 ?_|refine Z5 ?_|refine Z9 (by assumption) rfl ?_|refine ZA (by assumption) rfl ?_|refine ZB (by assumption) rfl ?_|refine Z6 ?_|refine Z7 ?_|refine Z8 ?_)|((with_reducible refine ZM ?_ ?_);(focus rfl)));(conv=>whnf)))
  exact k h' f z o
theorem copyCheck_used {h : Heap} {b e : Nat} {v : Value} (x : BlkW h b e [.pointer (some ⟨b, 0, none⟩), v]) : HCalls Tryd.prog 53 #[.pointer (some ⟨b, 0, none⟩)] h fun e h' =>
    e = .returned (.tuple #[]) ∧ h' = h := by
  intro w hw
  subst hw
  obtain ⟨fz, e, ha⟩ := x
  refine (Any.Builder_copyCheck_used Tryd.lays240 Tryd.Builder_X72 b w ?_).mono ?_
  · rw [cell_eq]; unfold hcell; simp [e]
  · rintro e w' ⟨rfl, rfl⟩
    exact ⟨⟨rfl, rfl, rfl⟩, rfl, rfl⟩
end Go.Proofs.YtmibnfjjlibpgaaDoor.Hc
