import Derived.Test.YtgmlbaikeepniaaOB
set_option linter.unusedVariables false
set_option linter.unusedSimpArgs false
namespace Go.Proofs.Ytgmlbaikeepniaa.Hc
open Go Go.H Go.Proofs
set_option maxRecDepth 100000

theorem rframe_spec {a : Option Addr} {n c : Nat} {l : List UInt8} {h : Heap} (x : Sl h 1 a n c (l.map byteV)) (hn : n ≤ 140737488355000) :
    HCalls Try.prog 24 #[.slice a n c] h fun e h' => ∃ a' c', e = .returned (.slice a' (8 + n) c') ∧ Own h' h.size 5 1 a' (8 + n) c' ((frameL l).map byteV) ∧ Ext h h' := by
  have hl : l.length = n := by simpa using x.1
  refine c24 (by simp) ?_
  ((conv => whnf); (repeat (first | ((with_reducible refine HSeq.go ?_); conv => whnf) | ((with_reducible refine HMust.mk (by decide) ?_); conv => whnf) | ((with_reducible refine HIf.yes (by first | rfl | assumption | decide) ?_); conv => whnf) | ((with_reducible refine HIf.no (by first | rfl | assumption | decide) ?_); conv => whnf) | ((with_reducible refine HInt.mk _ (wrap_i64 (by omega)) ?_); conv => whnf))))
  refine HInt.mk ((n % 4294967296 : Nat) : Int) (by rw [wrap_u32']; rfl) ?_
  ((conv => whnf); (repeat (first | ((with_reducible refine HSeq.go ?_); conv => whnf) | ((with_reducible refine HMust.mk (by decide) ?_); conv => whnf) | ((with_reducible refine HIf.yes (by first | rfl | assumption | decide) ?_); conv => whnf) | ((with_reducible refine HIf.no (by first | rfl | assumption | decide) ?_); conv => whnf) | ((with_reducible refine HInt.mk _ (wrap_i64 (by omega)) ?_); conv => whnf))))
  refine HCall.mk ((four_spec (n % 4294967296) (by omega)).mono ?_)
  rintro e h1 ⟨b1, rfl, o1, x1⟩
  ((conv => whnf); (repeat (first | ((with_reducible refine HSeq.go ?_); conv => whnf) | ((with_reducible refine HMust.mk (by decide) ?_); conv => whnf) | ((with_reducible refine HIf.yes (by first | rfl | assumption | decide) ?_); conv => whnf) | ((with_reducible refine HIf.no (by first | rfl | assumption | decide) ?_); conv => whnf) | ((with_reducible refine HInt.mk _ (wrap_i64 (by omega)) ?_); conv => whnf))))
  refine o1.sl.cells ?_
  refine (Own.nil h1 h1.size 5 1).append (m := 4) (Nat.le_refl _) rfl (by simp [be32]) bytesV_one (by omega) ?_
  intro h2 a2 c2 o2 k2 _ _
  ((conv => whnf); (repeat (first | ((with_reducible refine HSeq.go ?_); conv => whnf) | ((with_reducible refine HMust.mk (by decide) ?_); conv => whnf) | ((with_reducible refine HIf.yes (by first | rfl | assumption | decide) ?_); conv => whnf) | ((with_reducible refine HIf.no (by first | rfl | assumption | decide) ?_); conv => whnf) | ((with_reducible refine HInt.mk _ (wrap_i64 (by omega)) ?_); conv => whnf))))
  refine (x.ext (x1.trans k2)).cells ?_
  refine o2.append (m := n) k2.1 rfl (by simp; omega) bytesV_one (by omega) ?_
  intro h3 a3 c3 o3 k3 _ _
  have x13 : Ext h1 h3 := Ext.keep k2 k3
  have o3' : Own h3 h1.size 5 1 a3 (0 + 4 + n) c3 ((head4 l ++ l).map byteV) := by simpa [head4, hl] using o3
  ((conv => whnf); (repeat (first | ((with_reducible refine HSeq.go ?_); conv => whnf) | ((with_reducible refine HMust.mk (by decide) ?_); conv => whnf) | ((with_reducible refine HIf.yes (by first | rfl | assumption | decide) ?_); conv => whnf) | ((with_reducible refine HIf.no (by first | rfl | assumption | decide) ?_); conv => whnf) | ((with_reducible refine HInt.mk _ (wrap_i64 (by omega)) ?_); conv => whnf))))
  refine (o1.ext x13).sl.cells ?_
  refine (Own.nil h3 h3.size 5 1).append (m := 4) (Nat.le_refl _) rfl (by simp [be32]) bytesV_one (by omega) ?_
  intro h4 a4 c4 o4 k4 _ _
  ((conv => whnf); (repeat (first | ((with_reducible refine HSeq.go ?_); conv => whnf) | ((with_reducible refine HMust.mk (by decide) ?_); conv => whnf) | ((with_reducible refine HIf.yes (by first | rfl | assumption | decide) ?_); conv => whnf) | ((with_reducible refine HIf.no (by first | rfl | assumption | decide) ?_); conv => whnf) | ((with_reducible refine HInt.mk _ (wrap_i64 (by omega)) ?_); conv => whnf))))
  refine HCall.mk ((rsum_spec (o3'.ext k4).sl (by omega)).mono ?_)
  rintro e h' ⟨rfl, rfl⟩
  rw [w32_crc]
  ((conv => whnf); (repeat (first | ((with_reducible refine HSeq.go ?_); conv => whnf) | ((with_reducible refine HMust.mk (by decide) ?_); conv => whnf) | ((with_reducible refine HIf.yes (by first | rfl | assumption | decide) ?_); conv => whnf) | ((with_reducible refine HIf.no (by first | rfl | assumption | decide) ?_); conv => whnf) | ((with_reducible refine HInt.mk _ (wrap_i64 (by omega)) ?_); conv => whnf))))
  refine HCall.mk ((four_spec (crc (head4 l ++ l)) (crc_lt _)).mono ?_)
  rintro e h5 ⟨b5, rfl, o5, x5⟩
  ((conv => whnf); (repeat (first | ((with_reducible refine HSeq.go ?_); conv => whnf) | ((with_reducible refine HMust.mk (by decide) ?_); conv => whnf) | ((with_reducible refine HIf.yes (by first | rfl | assumption | decide) ?_); conv => whnf) | ((with_reducible refine HIf.no (by first | rfl | assumption | decide) ?_); conv => whnf) | ((with_reducible refine HInt.mk _ (wrap_i64 (by omega)) ?_); conv => whnf))))
  refine o5.sl.cells ?_
  refine (o4.ext x5).append (m := 4) (Nat.le_trans k4.1 x5.1) rfl (by simp [be32]) bytesV_one (by omega) ?_
  intro h6 a6 c6 o6 k6 _ _
  have x36 : Ext h3 h6 := Ext.keep (Ext.trans k4 x5) k6
  ((conv => whnf); (repeat (first | ((with_reducible refine HSeq.go ?_); conv => whnf) | ((with_reducible refine HMust.mk (by decide) ?_); conv => whnf) | ((with_reducible refine HIf.yes (by first | rfl | assumption | decide) ?_); conv => whnf) | ((with_reducible refine HIf.no (by first | rfl | assumption | decide) ?_); conv => whnf) | ((with_reducible refine HInt.mk _ (wrap_i64 (by omega)) ?_); conv => whnf))))
  refine (x.ext (x1.trans (x13.trans x36))).cells ?_
  refine o6.append (m := n) x36.1 rfl (by simp; omega) bytesV_one (by omega) ?_
  intro h7 a7 c7 o7 k7 _ _
  ((conv => whnf); (repeat (first | ((with_reducible refine HSeq.go ?_); conv => whnf) | ((with_reducible refine HMust.mk (by decide) ?_); conv => whnf) | ((with_reducible refine HIf.yes (by first | rfl | assumption | decide) ?_); conv => whnf) | ((with_reducible refine HIf.no (by first | rfl | assumption | decide) ?_); conv => whnf) | ((with_reducible refine HInt.mk _ (wrap_i64 (by omega)) ?_); conv => whnf))))
  refine ⟨a7, c7, by rw [show 8 + n = 0 + 4 + 4 + n by omega]; rfl, ?_, x1.trans (x13.trans (Ext.keep x36 k7))⟩
  have o8 := o7.lower (Nat.le_trans x1.1 x13.1)
  rw [show 8 + n = 0 + 4 + 4 + n by omega]
  simpa [frameL, head4, hl] using o8

end Go.Proofs.Ytgmlbaikeepniaa.Hc
