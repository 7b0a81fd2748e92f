import Derived.Test.YtkcnjcdggbifeaaAF
set_option linter.unusedVariables false
set_option linter.unusedSimpArgs false
namespace Go.Proofs.Ytkcnjcdggbifeaa.Hc
open Go Go.H Go.Proofs
set_option maxRecDepth 100000
set_option maxHeartbeats 4000000

/-- What Encode answers: an error, or the bytes. -/
def EncR (t : DT) (n : Int) (l : List UInt8) : Prop := Chk t n ∧ (n = 0 → l = enc t) ∧ (n ≠ 0 → l = [])
theorem Chk.same {t : DT} {n m : Int} (x : Chk t n) (y : Chk t m) : n = m := by
  unfold Chk at x y
  rcases x with x | x | x <;> rcases y with y | y | y <;> first | (exact x.2.2.trans y.2.2.symm) | (exact x.2.trans y.2.symm) | (exfalso; omega) | (exact absurd y.1 x.1) | (exact absurd x.1 y.1)
theorem EncR.same {t : DT} {n m : Int} {l k : List UInt8} (x : EncR t n l) (y : EncR t m k) : n = m ∧ l = k := by
  obtain rfl := x.1.same y.1
  refine ⟨rfl, ?_⟩
  by_cases h : n = 0
  · rw [x.2.1 h, y.2.1 h]
  · rw [x.2.2 h, y.2.2 h]
theorem Chk.ok {t : DT} {n : Int} (x : Chk t n) (h : n = 0) : may t ∧ deep t ≤ 20 := by
  unfold Chk at x
  rcases x with x | x | x
  · exact ⟨x.1, x.2.1⟩
  · omega
  · omega
theorem Chk.not31 {t : DT} {n : Int} (x : Chk t n) : n = 0 ∨ n = 30 ∨ n = 31 := by
  unfold Chk at x; omega

theorem encode_spec (t : DT) (h : Heap) (cs : List Value) (ra : Rep h t cs) (hvol : vol t ≤ 1073741824) :
    HCalls Try.prog 8 #[.agg cs.toArray] h fun e h' => ∃ (a : Option Addr) (c : Nat) (l : List UInt8) (n : Int), e = .returned (.tuple #[.slice a l.length c, .int .i64 n]) ∧ Sl h' 1 a l.length c (l.map byteV) ∧ Ext h h' ∧ EncR t n l ∧ l.length ≤ 17179869184 := by
  have hd := deep_vol t
  refine c8 (by simp) ?_
  ((conv => whnf); (repeat (first | ((with_reducible refine HSeq.go ?_); conv => whnf) | ((with_reducible refine HMust.mk (by decide) ?_); conv => whnf) | ((with_reducible refine HIf.yes (by first | rfl | assumption | decide) ?_); conv => whnf) | ((with_reducible refine HIf.no (by first | rfl | assumption | decide) ?_); conv => whnf) | ((with_reducible refine HInt.mk _ (wrap_i64 (by omega)) ?_); conv => whnf))))
  refine new_var (e := 25) cs rfl ?_
  intro h1 bx ox x1 z1 _
  ((conv => whnf); (repeat (first | ((with_reducible refine HSeq.go ?_); conv => whnf) | ((with_reducible refine HMust.mk (by decide) ?_); conv => whnf) | ((with_reducible refine HIf.yes (by first | rfl | assumption | decide) ?_); conv => whnf) | ((with_reducible refine HIf.no (by first | rfl | assumption | decide) ?_); conv => whnf) | ((with_reducible refine HInt.mk _ (wrap_i64 (by omega)) ?_); conv => whnf))))
  refine blk_ldN ox ra.len ?_
  ((conv => whnf); (repeat (first | ((with_reducible refine HSeq.go ?_); conv => whnf) | ((with_reducible refine HMust.mk (by decide) ?_); conv => whnf) | ((with_reducible refine HIf.yes (by first | rfl | assumption | decide) ?_); conv => whnf) | ((with_reducible refine HIf.no (by first | rfl | assumption | decide) ?_); conv => whnf) | ((with_reducible refine HInt.mk _ (wrap_i64 (by omega)) ?_); conv => whnf))))
  refine HCall.mk ((check17_spec t h1 cs (Rep.ext x1 _ _ ra) (by omega)).mono ?_)
  rintro e h2 ⟨n, rfl, hn, x2⟩
  have ox2 := ox.ext x2
  have x12 := x1.trans x2
  ((conv => whnf); (repeat (first | ((with_reducible refine HSeq.go ?_); conv => whnf) | ((with_reducible refine HMust.mk (by decide) ?_); conv => whnf) | ((with_reducible refine HIf.yes (by first | rfl | assumption | decide) ?_); conv => whnf) | ((with_reducible refine HIf.no (by first | rfl | assumption | decide) ?_); conv => whnf) | ((with_reducible refine HInt.mk _ (wrap_i64 (by omega)) ?_); conv => whnf))))
  refine HIf.mk (fun hb => ?_) (fun hb => ?_)
  · have hne : n ≠ 0 := by simpa using hb
    ((conv => whnf); (repeat (first | ((with_reducible refine HSeq.go ?_); conv => whnf) | ((with_reducible refine HMust.mk (by decide) ?_); conv => whnf) | ((with_reducible refine HIf.yes (by first | rfl | assumption | decide) ?_); conv => whnf) | ((with_reducible refine HIf.no (by first | rfl | assumption | decide) ?_); conv => whnf) | ((with_reducible refine HInt.mk _ (wrap_i64 (by omega)) ?_); conv => whnf))))
    exact ⟨none, 0, [], n, rfl, Sl.nil _ _, x12, ⟨hn, fun h => absurd h hne, fun _ => rfl⟩, by simp⟩
  · have hz : n = 0 := by simpa using hb
    subst hz
    have hok := hn.ok rfl
    ((conv => whnf); (repeat (first | ((with_reducible refine HSeq.go ?_); conv => whnf) | ((with_reducible refine HMust.mk (by decide) ?_); conv => whnf) | ((with_reducible refine HIf.yes (by first | rfl | assumption | decide) ?_); conv => whnf) | ((with_reducible refine HIf.no (by first | rfl | assumption | decide) ?_); conv => whnf) | ((with_reducible refine HInt.mk _ (wrap_i64 (by omega)) ?_); conv => whnf))))
    refine blk_ldN ox2 ra.len ?_
    ((conv => whnf); (repeat (first | ((with_reducible refine HSeq.go ?_); conv => whnf) | ((with_reducible refine HMust.mk (by decide) ?_); conv => whnf) | ((with_reducible refine HIf.yes (by first | rfl | assumption | decide) ?_); conv => whnf) | ((with_reducible refine HIf.no (by first | rfl | assumption | decide) ?_); conv => whnf) | ((with_reducible refine HInt.mk _ (wrap_i64 (by omega)) ?_); conv => whnf))))
    refine HCall.mk ((lay_spec t h2 h2 cs none 0 [] (Rep.ext x12 _ _ ra) (Ext.refl _) hok.1 hvol (by simp; omega) (Own.nil _ _ _ _)).mono ?_)
    rintro e h3 ⟨a, c, rfl, o3, g3⟩
    have hle := enc_le hvol hok.1
    ((conv => whnf); (repeat (first | ((with_reducible refine HSeq.go ?_); conv => whnf) | ((with_reducible refine HMust.mk (by decide) ?_); conv => whnf) | ((with_reducible refine HIf.yes (by first | rfl | assumption | decide) ?_); conv => whnf) | ((with_reducible refine HIf.no (by first | rfl | assumption | decide) ?_); conv => whnf) | ((with_reducible refine HInt.mk _ (wrap_i64 (by omega)) ?_); conv => whnf))))
    exact ⟨a, c, enc t, 0, rfl, o3.sl, x12.keep (g3.kept x12.1 (fun p ep => by cases ep)), ⟨hn, fun _ => rfl, fun h => absurd rfl h⟩, by omega⟩

theorem rencode_spec (t : DT) (h : Heap) (cs : List Value) (ra : Rep h t cs) (hvol : vol t ≤ 1073741824) :
    HCalls Try.prog 9 #[.agg cs.toArray] h fun e h' => ∃ (a : Option Addr) (c : Nat) (l : List UInt8) (n : Int), e = .returned (.tuple #[.slice a l.length c, .int .i64 n]) ∧ Sl h' 1 a l.length c (l.map byteV) ∧ Ext h h' ∧ EncR t n l ∧ l.length ≤ 17179869184 := by
  have hd := deep_vol t
  refine c9 (by simp) ?_
  ((conv => whnf); (repeat (first | ((with_reducible refine HSeq.go ?_); conv => whnf) | ((with_reducible refine HMust.mk (by decide) ?_); conv => whnf) | ((with_reducible refine HIf.yes (by first | rfl | assumption | decide) ?_); conv => whnf) | ((with_reducible refine HIf.no (by first | rfl | assumption | decide) ?_); conv => whnf) | ((with_reducible refine HInt.mk _ (wrap_i64 (by omega)) ?_); conv => whnf))))
  refine new_var (e := 25) cs rfl ?_
  intro h1 bx ox x1 z1 _
  ((conv => whnf); (repeat (first | ((with_reducible refine HSeq.go ?_); conv => whnf) | ((with_reducible refine HMust.mk (by decide) ?_); conv => whnf) | ((with_reducible refine HIf.yes (by first | rfl | assumption | decide) ?_); conv => whnf) | ((with_reducible refine HIf.no (by first | rfl | assumption | decide) ?_); conv => whnf) | ((with_reducible refine HInt.mk _ (wrap_i64 (by omega)) ?_); conv => whnf))))
  refine blk_ldN ox ra.len ?_
  ((conv => whnf); (repeat (first | ((with_reducible refine HSeq.go ?_); conv => whnf) | ((with_reducible refine HMust.mk (by decide) ?_); conv => whnf) | ((with_reducible refine HIf.yes (by first | rfl | assumption | decide) ?_); conv => whnf) | ((with_reducible refine HIf.no (by first | rfl | assumption | decide) ?_); conv => whnf) | ((with_reducible refine HInt.mk _ (wrap_i64 (by omega)) ?_); conv => whnf))))
  refine HCall.mk ((rcheckD_spec t h1 cs (Rep.ext x1 _ _ ra) hvol).mono ?_)
  rintro e h2 ⟨n, rfl, hn, x2⟩
  have ox2 := ox.ext x2
  have x12 := x1.trans x2
  ((conv => whnf); (repeat (first | ((with_reducible refine HSeq.go ?_); conv => whnf) | ((with_reducible refine HMust.mk (by decide) ?_); conv => whnf) | ((with_reducible refine HIf.yes (by first | rfl | assumption | decide) ?_); conv => whnf) | ((with_reducible refine HIf.no (by first | rfl | assumption | decide) ?_); conv => whnf) | ((with_reducible refine HInt.mk _ (wrap_i64 (by omega)) ?_); conv => whnf))))
  refine HIf.mk (fun hb => ?_) (fun hb => ?_)
  · have hne : n ≠ 0 := by simpa using hb
    ((conv => whnf); (repeat (first | ((with_reducible refine HSeq.go ?_); conv => whnf) | ((with_reducible refine HMust.mk (by decide) ?_); conv => whnf) | ((with_reducible refine HIf.yes (by first | rfl | assumption | decide) ?_); conv => whnf) | ((with_reducible refine HIf.no (by first | rfl | assumption | decide) ?_); conv => whnf) | ((with_reducible refine HInt.mk _ (wrap_i64 (by omega)) ?_); conv => whnf))))
    exact ⟨none, 0, [], n, rfl, Sl.nil _ _, x12, ⟨hn, fun h => absurd h hne, fun _ => rfl⟩, by simp⟩
  · have hz : n = 0 := by simpa using hb
    subst hz
    have hok := hn.ok rfl
    ((conv => whnf); (repeat (first | ((with_reducible refine HSeq.go ?_); conv => whnf) | ((with_reducible refine HMust.mk (by decide) ?_); conv => whnf) | ((with_reducible refine HIf.yes (by first | rfl | assumption | decide) ?_); conv => whnf) | ((with_reducible refine HIf.no (by first | rfl | assumption | decide) ?_); conv => whnf) | ((with_reducible refine HInt.mk _ (wrap_i64 (by omega)) ?_); conv => whnf))))
    refine blk_ldN ox2 ra.len ?_
    ((conv => whnf); (repeat (first | ((with_reducible refine HSeq.go ?_); conv => whnf) | ((with_reducible refine HMust.mk (by decide) ?_); conv => whnf) | ((with_reducible refine HIf.yes (by first | rfl | assumption | decide) ?_); conv => whnf) | ((with_reducible refine HIf.no (by first | rfl | assumption | decide) ?_); conv => whnf) | ((with_reducible refine HInt.mk _ (wrap_i64 (by omega)) ?_); conv => whnf))))
    refine HCall.mk ((write_spec t h2 cs (Rep.ext x12 _ _ ra) hok.1 hvol).mono ?_)
    rintro e h3 ⟨a, c, rfl, o3, x3⟩
    have hle := enc_le hvol hok.1
    ((conv => whnf); (repeat (first | ((with_reducible refine HSeq.go ?_); conv => whnf) | ((with_reducible refine HMust.mk (by decide) ?_); conv => whnf) | ((with_reducible refine HIf.yes (by first | rfl | assumption | decide) ?_); conv => whnf) | ((with_reducible refine HIf.no (by first | rfl | assumption | decide) ?_); conv => whnf) | ((with_reducible refine HInt.mk _ (wrap_i64 (by omega)) ?_); conv => whnf))))
    exact ⟨a, c, enc t, 0, rfl, o3.sl, x12.trans x3, ⟨hn, fun _ => rfl, fun h => absurd rfl h⟩, by omega⟩

end Go.Proofs.Ytkcnjcdggbifeaa.Hc
