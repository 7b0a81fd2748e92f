import Derived.Test.YtgmlbaikeepniaaOG
set_option linter.unusedVariables false
set_option linter.unusedSimpArgs false
namespace Go.Proofs.Ytgmlbaikeepniaa.Hc
open Go Go.H Go.Proofs
set_option maxRecDepth 100000

theorem octetsBack_spec (a : Int) (wa : (Lit.int .u64 a).wf = true) (s : ByteArray) (ws : s.size ≤ 1048576) {p1 : Option Addr} {n1 c1 : Nat} {l : List UInt8} {h : Heap} (x : Sl h 1 p1 n1 c1 (l.map byteV)) (hn1 : n1 ≤ 1048576)
    {p2 : Option Addr} {n2 c2 : Nat} {k : List UInt8} (y : Sl h 1 p2 n2 c2 (k.map byteV)) (hn2 : n2 ≤ 1048576) :
    HCalls Try.prog 8 #[.int .u64 a, .string s, .slice p1 n1 c1, .slice p2 n2 c2] h fun e h' => e = .returned (.bool true) ∧ Ext h h' := by
  obtain ⟨m, rfl, hm⟩ := wf_u64 wa
  have hl : l.length = n1 := by simpa using x.1
  have hk : k.length = n2 := by simpa using y.1
  have hlm := leb_len m hm
  have hls := leb_len s.size (by omega)
  refine c8 (by simp) ?_
  ((conv => whnf); (repeat (first | ((with_reducible refine HSeq.go ?_); conv => whnf) | ((with_reducible refine HMust.mk (by decide) ?_); conv => whnf) | ((with_reducible refine HIf.yes (by first | rfl | assumption | decide) ?_); conv => whnf) | ((with_reducible refine HIf.no (by first | rfl | assumption | decide) ?_); conv => whnf) | ((with_reducible refine HInt.mk _ (wrap_i64 (by omega)) ?_); conv => whnf))))
  refine HCall.mk ((live_spec h).mono ?_)
  rintro e h1 ⟨rfl, x1⟩
  ((conv => whnf); (repeat (first | ((with_reducible refine HSeq.go ?_); conv => whnf) | ((with_reducible refine HMust.mk (by decide) ?_); conv => whnf) | ((with_reducible refine HIf.yes (by first | rfl | assumption | decide) ?_); conv => whnf) | ((with_reducible refine HIf.no (by first | rfl | assumption | decide) ?_); conv => whnf) | ((with_reducible refine HInt.mk _ (wrap_i64 (by omega)) ?_); conv => whnf))))
  refine HCall.mk ((framed_spec _).mono ?_)
  rintro e h2 ⟨rfl, x2⟩
  have x12 := x1.trans x2
  ((conv => whnf); (repeat (first | ((with_reducible refine HSeq.go ?_); conv => whnf) | ((with_reducible refine HMust.mk (by decide) ?_); conv => whnf) | ((with_reducible refine HIf.yes (by first | rfl | assumption | decide) ?_); conv => whnf) | ((with_reducible refine HIf.no (by first | rfl | assumption | decide) ?_); conv => whnf) | ((with_reducible refine HInt.mk _ (wrap_i64 (by omega)) ?_); conv => whnf))))
  refine HCall.mk ((num_spec m hm _).mono ?_)
  rintro e h3 ⟨a3, c3, rfl, o3, x3⟩
  have x13 := x12.trans x3
  ((conv => whnf); (repeat (first | ((with_reducible refine HSeq.go ?_); conv => whnf) | ((with_reducible refine HMust.mk (by decide) ?_); conv => whnf) | ((with_reducible refine HIf.yes (by first | rfl | assumption | decide) ?_); conv => whnf) | ((with_reducible refine HIf.no (by first | rfl | assumption | decide) ?_); conv => whnf) | ((with_reducible refine HInt.mk _ (wrap_i64 (by omega)) ?_); conv => whnf))))
  refine (y.ext x13).cells ?_
  refine o3.append (m := n2) x3.1 rfl (by simp; omega) bytesV_one (by omega) ?_
  intro h4 a4 c4 o4 k4 _ _
  rw [← List.map_append] at o4
  have x14 := x13.keep (k4.mono x12.1)
  ((conv => whnf); (repeat (first | ((with_reducible refine HSeq.go ?_); conv => whnf) | ((with_reducible refine HMust.mk (by decide) ?_); conv => whnf) | ((with_reducible refine HIf.yes (by first | rfl | assumption | decide) ?_); conv => whnf) | ((with_reducible refine HIf.no (by first | rfl | assumption | decide) ?_); conv => whnf) | ((with_reducible refine HInt.mk _ (wrap_i64 (by omega)) ?_); conv => whnf))))
  refine HCall.mk ((readNum_spec o4.sl (by omega)).mono ?_)
  rintro e h4 ⟨rfl, rfl⟩
  rw [rdn_leb k m 0 0 (by omega) (by simpa using hm) (by omega)]
  rw [show 0 + m * 128 ^ 0 = m by simp, show 0 + (leb m).length = (leb m).length from Nat.zero_add _]
  rw [show tup (m, (leb m).length, 0) = .tuple #[.int .u64 m, .int .i64 (leb m).length, .int .i64 0] from rfl]
  ((conv => whnf); (repeat (first | ((with_reducible refine HSeq.go ?_); conv => whnf) | ((with_reducible refine HMust.mk (by decide) ?_); conv => whnf) | ((with_reducible refine HIf.yes (by first | rfl | assumption | decide) ?_); conv => whnf) | ((with_reducible refine HIf.no (by first | rfl | assumption | decide) ?_); conv => whnf) | ((with_reducible refine HInt.mk _ (wrap_i64 (by omega)) ?_); conv => whnf))))
  refine HCall.mk ((text_spec s (by omega) _).mono ?_)
  rintro e h5 ⟨a5, c5, rfl, o5, x5⟩
  have x15 := x14.trans x5
  ((conv => whnf); (repeat (first | ((with_reducible refine HSeq.go ?_); conv => whnf) | ((with_reducible refine HMust.mk (by decide) ?_); conv => whnf) | ((with_reducible refine HIf.yes (by first | rfl | assumption | decide) ?_); conv => whnf) | ((with_reducible refine HIf.no (by first | rfl | assumption | decide) ?_); conv => whnf) | ((with_reducible refine HInt.mk _ (wrap_i64 (by omega)) ?_); conv => whnf))))
  refine (y.ext x15).cells ?_
  refine o5.append (m := n2) x5.1 rfl (by simp; omega) bytesV_one (by omega) ?_
  intro h6 a6 c6 o6 k6 _ _
  rw [← List.map_append] at o6
  have x16 := x15.keep (k6.mono x14.1)
  ((conv => whnf); (repeat (first | ((with_reducible refine HSeq.go ?_); conv => whnf) | ((with_reducible refine HMust.mk (by decide) ?_); conv => whnf) | ((with_reducible refine HIf.yes (by first | rfl | assumption | decide) ?_); conv => whnf) | ((with_reducible refine HIf.no (by first | rfl | assumption | decide) ?_); conv => whnf) | ((with_reducible refine HInt.mk _ (wrap_i64 (by omega)) ?_); conv => whnf))))
  refine HCall.mk ((readText_spec o6.sl (by omega) s.size (by omega)).mono ?_)
  rintro e h6 ⟨rfl, rfl⟩
  have er := rdt_leb s.data.toList k (by show s.size < 2 ^ 63; omega)
  rw [show s.data.toList.length = s.size from rfl] at er
  rw [er]
  rw [show tupS (s.data.toList, (leb s.size).length + s.size, 0) = .tuple #[.string s, .int .i64 ((leb s.size).length + s.size : Nat), .int .i64 0] from rfl]
  ((conv => whnf); (repeat (first | ((with_reducible refine HSeq.go ?_); conv => whnf) | ((with_reducible refine HMust.mk (by decide) ?_); conv => whnf) | ((with_reducible refine HIf.yes (by first | rfl | assumption | decide) ?_); conv => whnf) | ((with_reducible refine HIf.no (by first | rfl | assumption | decide) ?_); conv => whnf) | ((with_reducible refine HInt.mk _ (wrap_i64 (by omega)) ?_); conv => whnf))))
  refine HCall.mk ((frame_spec (x.ext x16) (by omega)).mono ?_)
  rintro e h7 ⟨b7, rfl, hb7, y7, x7⟩
  have x17 := x16.trans x7
  have lf : ((frameL l).map byteV).length = 8 + n1 := by rw [List.length_map, frameL_len, hl]
  have o7 := y7.own hb7
  rw [lf] at o7
  ((conv => whnf); (repeat (first | ((with_reducible refine HSeq.go ?_); conv => whnf) | ((with_reducible refine HMust.mk (by decide) ?_); conv => whnf) | ((with_reducible refine HIf.yes (by first | rfl | assumption | decide) ?_); conv => whnf) | ((with_reducible refine HIf.no (by first | rfl | assumption | decide) ?_); conv => whnf) | ((with_reducible refine HInt.mk _ (wrap_i64 (by omega)) ?_); conv => whnf))))
  refine (y.ext x17).cells ?_
  refine o7.append (m := n2) x7.1 rfl (by simp; omega) bytesV_one (by omega) ?_
  intro h8 a8 c8 o8 k8 _ _
  rw [← List.map_append] at o8
  have x18 := x17.keep (k8.mono x16.1)
  ((conv => whnf); (repeat (first | ((with_reducible refine HSeq.go ?_); conv => whnf) | ((with_reducible refine HMust.mk (by decide) ?_); conv => whnf) | ((with_reducible refine HIf.yes (by first | rfl | assumption | decide) ?_); conv => whnf) | ((with_reducible refine HIf.no (by first | rfl | assumption | decide) ?_); conv => whnf) | ((with_reducible refine HInt.mk _ (wrap_i64 (by omega)) ?_); conv => whnf))))
  refine HCall.mk ((unframe_spec o8.sl (by omega) n1 (by omega)).mono ?_)
  have eu := unf_frame l k (by omega)
  rw [hl] at eu
  rw [eu]
  rintro e h9 ⟨a9, c9, he, o9, x9⟩
  have he9 : e = .returned (.tuple #[.slice a9 n1 c9, .int .i64 (8 + n1 : Nat), .int .i64 0]) := by rw [he, ← hl]; rfl
  subst he9
  clear he
  have o9 : Own h9 h8.size 5 1 a9 n1 c9 (l.map byteV) := by rw [← hl]; exact o9
  have x19 := x18.trans x9
  have g0 : ((m : Int) == (m : Int)) = true := beq_self_eq_true _
  have g1 : ((((leb m).length : Nat) : Int) == (((leb m).length : Nat) : Int)) = true := beq_self_eq_true _
  have g2 : strEq s s = true := by unfold strEq; exact beq_self_eq_true _
  have g3 : ((((leb s.size).length + s.size : Nat) : Int) == (((leb s.size).length + s.size : Nat) : Int)) = true := beq_self_eq_true _
  have g4 : (((8 + n1 : Nat) : Int) == ((8 + n1 : Nat) : Int)) = true := beq_self_eq_true _
  ((conv => whnf); (repeat (first | ((with_reducible refine HSeq.go ?_); conv => whnf) | ((with_reducible refine HMust.mk (by decide) ?_); conv => whnf) | ((with_reducible refine HIf.yes (by first | rfl | assumption | decide) ?_); conv => whnf) | ((with_reducible refine HIf.no (by first | rfl | assumption | decide) ?_); conv => whnf) | ((with_reducible refine HInt.mk _ (wrap_i64 (by omega)) ?_); conv => whnf))))
  refine HCall.mk ((num_spec m hm _).mono ?_)
  rintro e h10 ⟨a10, c10, rfl, o10, x10⟩
  ((conv => whnf); (repeat (first | ((with_reducible refine HSeq.go ?_); conv => whnf) | ((with_reducible refine HMust.mk (by decide) ?_); conv => whnf) | ((with_reducible refine HIf.yes (by first | rfl | assumption | decide) ?_); conv => whnf) | ((with_reducible refine HIf.no (by first | rfl | assumption | decide) ?_); conv => whnf) | ((with_reducible refine HInt.mk _ (wrap_i64 (by omega)) ?_); conv => whnf))))
  refine HCall.mk ((text_spec s (by omega) _).mono ?_)
  rintro e h11 ⟨a11, c11, rfl, o11, x11⟩
  ((conv => whnf); (repeat (first | ((with_reducible refine HSeq.go ?_); conv => whnf) | ((with_reducible refine HMust.mk (by decide) ?_); conv => whnf) | ((with_reducible refine HIf.yes (by first | rfl | assumption | decide) ?_); conv => whnf) | ((with_reducible refine HIf.no (by first | rfl | assumption | decide) ?_); conv => whnf) | ((with_reducible refine HInt.mk _ (wrap_i64 (by omega)) ?_); conv => whnf))))
  refine HCall.mk ((same_spec (o9.ext (x10.trans x11)).sl (x.ext (x19.trans (x10.trans x11)))).mono ?_)
  rintro e h11 ⟨rfl, he⟩
  rw [beq_self_eq_true] at he
  subst he
  ((conv => whnf); (repeat (first | ((with_reducible refine HSeq.go ?_); conv => whnf) | ((with_reducible refine HMust.mk (by decide) ?_); conv => whnf) | ((with_reducible refine HIf.yes (by first | rfl | assumption | decide) ?_); conv => whnf) | ((with_reducible refine HIf.no (by first | rfl | assumption | decide) ?_); conv => whnf) | ((with_reducible refine HInt.mk _ (wrap_i64 (by omega)) ?_); conv => whnf))))
  refine HCall.mk ((frame_spec (x.ext (x19.trans (x10.trans x11))) (by omega)).mono ?_)
  rintro e h12 ⟨b12, rfl, hb12, y12, x12'⟩
  ((conv => whnf); (repeat (first | ((with_reducible refine HSeq.go ?_); conv => whnf) | ((with_reducible refine HMust.mk (by decide) ?_); conv => whnf) | ((with_reducible refine HIf.yes (by first | rfl | assumption | decide) ?_); conv => whnf) | ((with_reducible refine HIf.no (by first | rfl | assumption | decide) ?_); conv => whnf) | ((with_reducible refine HInt.mk _ (wrap_i64 (by omega)) ?_); conv => whnf))))
  exact ⟨by rw [← g4]; rfl, x19.trans (x10.trans (x11.trans x12'))⟩

end Go.Proofs.Ytgmlbaikeepniaa.Hc
