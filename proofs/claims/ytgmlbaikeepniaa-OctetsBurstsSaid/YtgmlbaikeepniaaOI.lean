import Derived.Test.YtgmlbaikeepniaaOH
set_option linter.unusedVariables false
set_option linter.unusedSimpArgs false
namespace Go.Proofs.Ytgmlbaikeepniaa.Hc
open Go Go.H Go.Proofs
set_option maxRecDepth 100000

theorem octetsCut_spec (a : Int) (wa : (Lit.int .u64 a).wf = true) (s : ByteArray) (ws : s.size ≤ 1048576) {p1 : Option Addr} {n1 c1 : Nat} {l : List UInt8} {h : Heap} (x : Sl h 1 p1 n1 c1 (l.map byteV)) (hn1 : n1 ≤ 1048576)
    (g : Int) (wg : (Lit.int .i64 g).wf = true) :
    HCalls Try.prog 9 #[.int .u64 a, .string s, .slice p1 n1 c1, .int .i64 g] h fun e h' => e = .returned (.bool true) ∧ Ext h h' := by
  obtain ⟨m, rfl, hm⟩ := wf_u64 wa
  have hg := wf_i64 wg
  have hl : l.length = n1 := by simpa using x.1
  have hlm := leb_len m hm
  have hls := leb_len s.size (by omega)
  have hpm := leb_pos m
  have hps := leb_pos s.size
  refine c9 (by simp) ?_
  ((conv => whnf); (repeat (first | ((with_reducible refine HSeq.go ?_); conv => whnf) | ((with_reducible refine HMust.mk (by decide) ?_); conv => whnf) | ((with_reducible refine HIf.yes (by first | rfl | assumption | decide) ?_); conv => whnf) | ((with_reducible refine HIf.no (by first | rfl | assumption | decide) ?_); conv => whnf) | ((with_reducible refine HInt.mk _ (wrap_i64 (by omega)) ?_); conv => whnf))))
  refine HCall.mk ((live_spec h).mono ?_)
  rintro e h1 ⟨rfl, x1⟩
  ((conv => whnf); (repeat (first | ((with_reducible refine HSeq.go ?_); conv => whnf) | ((with_reducible refine HMust.mk (by decide) ?_); conv => whnf) | ((with_reducible refine HIf.yes (by first | rfl | assumption | decide) ?_); conv => whnf) | ((with_reducible refine HIf.no (by first | rfl | assumption | decide) ?_); conv => whnf) | ((with_reducible refine HInt.mk _ (wrap_i64 (by omega)) ?_); conv => whnf))))
  refine HCall.mk ((framed_spec _).mono ?_)
  rintro e h2 ⟨rfl, x2⟩
  have x12 := x1.trans x2
  ((conv => whnf); (repeat (first | ((with_reducible refine HSeq.go ?_); conv => whnf) | ((with_reducible refine HMust.mk (by decide) ?_); conv => whnf) | ((with_reducible refine HIf.yes (by first | rfl | assumption | decide) ?_); conv => whnf) | ((with_reducible refine HIf.no (by first | rfl | assumption | decide) ?_); conv => whnf) | ((with_reducible refine HInt.mk _ (wrap_i64 (by omega)) ?_); conv => whnf))))
  refine HCall.mk ((num_spec m hm _).mono ?_)
  rintro e h3 ⟨a3, c3, rfl, o3, x3⟩
  ((conv => whnf); (repeat (first | ((with_reducible refine HSeq.go ?_); conv => whnf) | ((with_reducible refine HMust.mk (by decide) ?_); conv => whnf) | ((with_reducible refine HIf.yes (by first | rfl | assumption | decide) ?_); conv => whnf) | ((with_reducible refine HIf.no (by first | rfl | assumption | decide) ?_); conv => whnf) | ((with_reducible refine HInt.mk _ (wrap_i64 (by omega)) ?_); conv => whnf))))
  refine HCall.mk ((text_spec s (by omega) _).mono ?_)
  rintro e h4 ⟨a4, c4, rfl, o4, x4⟩
  have x14 := x12.trans (x3.trans x4)
  ((conv => whnf); (repeat (first | ((with_reducible refine HSeq.go ?_); conv => whnf) | ((with_reducible refine HMust.mk (by decide) ?_); conv => whnf) | ((with_reducible refine HIf.yes (by first | rfl | assumption | decide) ?_); conv => whnf) | ((with_reducible refine HIf.no (by first | rfl | assumption | decide) ?_); conv => whnf) | ((with_reducible refine HInt.mk _ (wrap_i64 (by omega)) ?_); conv => whnf))))
  refine HCall.mk ((frame_spec (x.ext x14) (by omega)).mono ?_)
  rintro e h5 ⟨b5, rfl, hb5, y5, x5⟩
  have x15 := x14.trans x5
  have lf : ((frameL l).map byteV).length = 8 + n1 := by rw [List.length_map, frameL_len, hl]
  have o5 := y5.own hb5
  rw [lf] at o5
  have f1 : ((((leb m).length : Nat) : Int) == 0) = false := by rw [beq_eq_false_iff_ne]; omega
  have f2 : ((((leb s.size).length + s.size : Nat) : Int) == 0) = false := by rw [beq_eq_false_iff_ne]; omega
  have f3 : (((8 + n1 : Nat) : Int) == 0) = false := by rw [beq_eq_false_iff_ne]; omega
  ((conv => whnf); (repeat (first | ((with_reducible refine HSeq.go ?_); conv => whnf) | ((with_reducible refine HMust.mk (by decide) ?_); conv => whnf) | ((with_reducible refine HIf.yes (by first | rfl | assumption | decide) ?_); conv => whnf) | ((with_reducible refine HIf.no (by first | rfl | assumption | decide) ?_); conv => whnf) | ((with_reducible refine HInt.mk _ (wrap_i64 (by omega)) ?_); conv => whnf))))
  have eg : (if (0 : Int) > g then 0 else g) = ((g.toNat : Nat) : Int) := by split <;> omega
  rw [eg]
  generalize g.toNat = q
  have hq1 : q % (leb m).length < (leb m).length := Nat.mod_lt _ (by omega)
  have hq2 : q % ((leb s.size).length + s.size) < (leb s.size).length + s.size := Nat.mod_lt _ (by omega)
  have hq3 : q % (8 + n1) < 8 + n1 := Nat.mod_lt _ (by omega)
  have hc3 := o3.2.1
  have hc4 := o4.2.1
  refine HMust.mk (by omega) ?_
  (conv => whnf)
  refine HBound.mk _ (Int.ofNat_tmod q (leb m).length).symm (by omega) ?_
  ((conv => whnf); (repeat (first | ((with_reducible refine HSeq.go ?_); conv => whnf) | ((with_reducible refine HMust.mk (by decide) ?_); conv => whnf) | ((with_reducible refine HIf.yes (by first | rfl | assumption | decide) ?_); conv => whnf) | ((with_reducible refine HIf.no (by first | rfl | assumption | decide) ?_); conv => whnf) | ((with_reducible refine HInt.mk _ (wrap_i64 (by omega)) ?_); conv => whnf))))
  have s3 := (o3.ext (x4.trans x5)).sl.slice (Nat.zero_le (q % (leb m).length)) (Nat.le_of_lt hq1)
  rw [bytesV_slice, List.drop_zero] at s3
  refine HCall.mk ((readNum_spec s3 (by omega)).mono ?_)
  rintro e h5 ⟨rfl, rfl⟩
  rw [rdn_cut m 0 0 _ (by omega) (by simpa using hm) hq1]
  rw [show tup (0, 0, 20) = .tuple #[.int .u64 0, .int .i64 0, .int .i64 20] from rfl]
  ((conv => whnf); (repeat (first | ((with_reducible refine HSeq.go ?_); conv => whnf) | ((with_reducible refine HMust.mk (by decide) ?_); conv => whnf) | ((with_reducible refine HIf.yes (by first | rfl | assumption | decide) ?_); conv => whnf) | ((with_reducible refine HIf.no (by first | rfl | assumption | decide) ?_); conv => whnf) | ((with_reducible refine HInt.mk _ (wrap_i64 (by omega)) ?_); conv => whnf))))
  refine HMust.mk (by omega) ?_
  (conv => whnf)
  refine HBound.mk _ (Int.ofNat_tmod q _).symm (by omega) ?_
  ((conv => whnf); (repeat (first | ((with_reducible refine HSeq.go ?_); conv => whnf) | ((with_reducible refine HMust.mk (by decide) ?_); conv => whnf) | ((with_reducible refine HIf.yes (by first | rfl | assumption | decide) ?_); conv => whnf) | ((with_reducible refine HIf.no (by first | rfl | assumption | decide) ?_); conv => whnf) | ((with_reducible refine HInt.mk _ (wrap_i64 (by omega)) ?_); conv => whnf))))
  have s4 := (o4.ext x5).sl.slice (Nat.zero_le (q % ((leb s.size).length + s.size))) (Nat.le_of_lt hq2)
  rw [bytesV_slice, List.drop_zero] at s4
  refine HCall.mk ((readText_spec s4 (by omega) s.size (by omega)).mono ?_)
  rintro e h5 ⟨rfl, rfl⟩
  have er := rdt_cut s.data.toList _ (by show s.size < 2 ^ 63; omega) hq2
  rw [show s.data.toList.length = s.size from rfl] at er
  rw [er]
  rw [show tupS ([], 0, 20) = .tuple #[.string ⟨#[]⟩, .int .i64 0, .int .i64 20] from rfl]
  ((conv => whnf); (repeat (first | ((with_reducible refine HSeq.go ?_); conv => whnf) | ((with_reducible refine HMust.mk (by decide) ?_); conv => whnf) | ((with_reducible refine HIf.yes (by first | rfl | assumption | decide) ?_); conv => whnf) | ((with_reducible refine HIf.no (by first | rfl | assumption | decide) ?_); conv => whnf) | ((with_reducible refine HInt.mk _ (wrap_i64 (by omega)) ?_); conv => whnf))))
  refine HMust.mk (by omega) ?_
  (conv => whnf)
  refine HBound.mk _ (Int.ofNat_tmod q _).symm (by omega) ?_
  ((conv => whnf); (repeat (first | ((with_reducible refine HSeq.go ?_); conv => whnf) | ((with_reducible refine HMust.mk (by decide) ?_); conv => whnf) | ((with_reducible refine HIf.yes (by first | rfl | assumption | decide) ?_); conv => whnf) | ((with_reducible refine HIf.no (by first | rfl | assumption | decide) ?_); conv => whnf) | ((with_reducible refine HInt.mk _ (wrap_i64 (by omega)) ?_); conv => whnf))))
  have s5 := o5.sl.slice (Nat.zero_le (q % (8 + n1))) (Nat.le_of_lt hq3)
  rw [bytesV_slice, List.drop_zero] at s5
  refine HCall.mk ((unframe_spec s5 (by omega) n1 (by omega)).mono ?_)
  have eu := unf_cut l (q % (8 + n1)) (by omega) (by omega)
  rw [hl] at eu
  rw [eu]
  rintro e h6 ⟨a6, c6, rfl, o6, x6⟩
  ((conv => whnf); (repeat (first | ((with_reducible refine HSeq.go ?_); conv => whnf) | ((with_reducible refine HMust.mk (by decide) ?_); conv => whnf) | ((with_reducible refine HIf.yes (by first | rfl | assumption | decide) ?_); conv => whnf) | ((with_reducible refine HIf.no (by first | rfl | assumption | decide) ?_); conv => whnf) | ((with_reducible refine HInt.mk _ (wrap_i64 (by omega)) ?_); conv => whnf))))
  exact ⟨rfl, x15.trans x6⟩

end Go.Proofs.Ytgmlbaikeepniaa.Hc
