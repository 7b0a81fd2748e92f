import Derived.Test.YtgmlbaikeepniaaOE
set_option linter.unusedVariables false
set_option linter.unusedSimpArgs false
namespace Go.Proofs.Ytgmlbaikeepniaa.Hc
open Go Go.H Go.Proofs
set_option maxRecDepth 100000

def AllU8 (cs : List Value) : Prop := ∀ i (_ : i < cs.length), ∃ k : Int, cs[i] = .int .u8 k
theorem allU8_bytes (l : List UInt8) : AllU8 (l.map byteV) := fun i hi => ⟨_, by simp [byteV]; rfl⟩
theorem allU8_set {cs : List Value} (h : AllU8 cs) (i : Nat) (k : Int) : AllU8 (cs.set i (.int .u8 k)) := by
  intro j hj
  rw [List.getElem_set]
  split
  · exact ⟨k, rfl⟩
  · exact h j (by simpa using hj)

theorem unf_le (l : List UInt8) (most : Int) : (unf l most).1.length ≤ l.length := by
  unfold unf
  repeat' split
  all_goals simp
  omega
theorem own_at {h : Heap} {B e size n c : Nat} {a : Option Addr} {xs : List Value} (x : Own h B e size a n c xs) (p : Addr) (ep : a = some p) : B ≤ p.block := by
  obtain ⟨b, s, rfl, h1, _⟩ := x.2.2.2 p ep
  exact h1

theorem octetsFrames_spec {a : Option Addr} {n c : Nat} {l : List UInt8} {h : Heap} (x : Sl h 1 a n c (l.map byteV)) (hn : n * 1 ≤ 140737488351232) (most : Int) (wm : (Lit.int .i64 most).wf = true) :
    HCalls Try.prog 7 #[.slice a n c, .int .i64 most] h fun e h' => e = .returned (.bool true) ∧ Ext h h' := by
  have hm := wf_i64 wm
  have hl : l.length = n := by simpa using x.1
  refine c7 (by simp) ?_
  ((conv => whnf); (repeat (first | ((with_reducible refine HSeq.go ?_); conv => whnf) | ((with_reducible refine HMust.mk (by decide) ?_); conv => whnf) | ((with_reducible refine HIf.yes (by first | rfl | assumption | decide) ?_); conv => whnf) | ((with_reducible refine HIf.no (by first | rfl | assumption | decide) ?_); conv => whnf) | ((with_reducible refine HInt.mk _ (wrap_i64 (by omega)) ?_); conv => whnf))))
  refine x.cells ?_
  refine (Own.nil h h.size 5 1).append (m := n) (Nat.le_refl _) rfl (by simp; omega) bytesV_one (by omega) ?_
  intro h1 a1 c1 o1 k1 _ _
  have x1 : Ext h h1 := k1
  rw [List.nil_append] at o1
  have o1' : Own h1 h.size 5 1 a1 n c1 (l.map byteV) := by simpa using o1
  rw [show 0 + n = n from Nat.zero_add n]
  ((conv => whnf); (repeat (first | ((with_reducible refine HSeq.go ?_); conv => whnf) | ((with_reducible refine HMust.mk (by decide) ?_); conv => whnf) | ((with_reducible refine HIf.yes (by first | rfl | assumption | decide) ?_); conv => whnf) | ((with_reducible refine HIf.no (by first | rfl | assumption | decide) ?_); conv => whnf) | ((with_reducible refine HInt.mk _ (wrap_i64 (by omega)) ?_); conv => whnf))))
  refine HCall.mk ((frame_spec o1'.sl (by omega)).mono ?_)
  rintro e h2 ⟨bf, rfl, hbf, yf, x2⟩
  ((conv => whnf); (repeat (first | ((with_reducible refine HSeq.go ?_); conv => whnf) | ((with_reducible refine HMust.mk (by decide) ?_); conv => whnf) | ((with_reducible refine HIf.yes (by first | rfl | assumption | decide) ?_); conv => whnf) | ((with_reducible refine HIf.no (by first | rfl | assumption | decide) ?_); conv => whnf) | ((with_reducible refine HInt.mk _ (wrap_i64 (by omega)) ?_); conv => whnf))))
  refine HCall.mk ((unframe_spec (o1'.ext x2).sl (by omega) most hm).mono ?_)
  rintro e h3 ⟨a3, c3, rfl, o3, x3⟩
  ((conv => whnf); (repeat (first | ((with_reducible refine HSeq.go ?_); conv => whnf) | ((with_reducible refine HMust.mk (by decide) ?_); conv => whnf) | ((with_reducible refine HIf.yes (by first | rfl | assumption | decide) ?_); conv => whnf) | ((with_reducible refine HIf.no (by first | rfl | assumption | decide) ?_); conv => whnf) | ((with_reducible refine HInt.mk _ (wrap_i64 (by omega)) ?_); conv => whnf))))
  refine HCall.mk ((runframe_spec (x.ext (x1.trans (x2.trans x3))) (by omega) most hm).mono ?_)
  rintro e h4 ⟨a4, c4, rfl, o4, x4⟩
  ((conv => whnf); (repeat (first | ((with_reducible refine HSeq.go ?_); conv => whnf) | ((with_reducible refine HMust.mk (by decide) ?_); conv => whnf) | ((with_reducible refine HIf.yes (by first | rfl | assumption | decide) ?_); conv => whnf) | ((with_reducible refine HIf.no (by first | rfl | assumption | decide) ?_); conv => whnf) | ((with_reducible refine HInt.mk _ (wrap_i64 (by omega)) ?_); conv => whnf))))
  refine HCall.mk ((rframe_spec (x.ext (x1.trans (x2.trans (x3.trans x4)))) (by omega)).mono ?_)
  rintro e h5 ⟨a5, c5, rfl, o5, x5⟩
  ((conv => whnf); (repeat (first | ((with_reducible refine HSeq.go ?_); conv => whnf) | ((with_reducible refine HMust.mk (by decide) ?_); conv => whnf) | ((with_reducible refine HIf.yes (by first | rfl | assumption | decide) ?_); conv => whnf) | ((with_reducible refine HIf.no (by first | rfl | assumption | decide) ?_); conv => whnf) | ((with_reducible refine HInt.mk _ (wrap_i64 (by omega)) ?_); conv => whnf))))
  have lf : ((frameL l).map byteV).length = 8 + n := by rw [List.length_map, frameL_len, hl]
  have hbf2 := yf.lt
  have hul := unf_le l most
  have yf5 := yf.ext (x3.trans (x4.trans x5))
  have sf : Own h5 0 5 1 (some ⟨bf, 0, none⟩) (8 + n) (8 + n) ((frameL l).map byteV) := by
    have := yf5.own (Nat.zero_le _)
    rw [lf] at this; exact this
  have o1e := (o1'.ext x2).ext (x3.trans (x4.trans x5))
  have o3e := o3.ext (x4.trans x5)
  have o4e := o4.ext x5
  have xx := x1.trans (x2.trans (x3.trans (x4.trans x5)))
  have x25 := x2.trans (x3.trans (x4.trans x5))
  have xe := x.ext xx
  refine HCall.mk ((same_spec sf.sl o5.sl).mono ?_)
  rintro e h5 ⟨rfl, he⟩
  rw [beq_self_eq_true] at he
  subst he
  ((conv => whnf); (repeat (first | ((with_reducible refine HSeq.go ?_); conv => whnf) | ((with_reducible refine HMust.mk (by decide) ?_); conv => whnf) | ((with_reducible refine HIf.yes (by first | rfl | assumption | decide) ?_); conv => whnf) | ((with_reducible refine HIf.no (by first | rfl | assumption | decide) ?_); conv => whnf) | ((with_reducible refine HInt.mk _ (wrap_i64 (by omega)) ?_); conv => whnf))))
  refine HCall.mk ((psum_spec o1e.sl (by omega)).mono ?_)
  rintro e h5 ⟨rfl, rfl⟩
  ((conv => whnf); (repeat (first | ((with_reducible refine HSeq.go ?_); conv => whnf) | ((with_reducible refine HMust.mk (by decide) ?_); conv => whnf) | ((with_reducible refine HIf.yes (by first | rfl | assumption | decide) ?_); conv => whnf) | ((with_reducible refine HIf.no (by first | rfl | assumption | decide) ?_); conv => whnf) | ((with_reducible refine HInt.mk _ (wrap_i64 (by omega)) ?_); conv => whnf))))
  refine HCall.mk ((rsum_spec xe (by omega)).mono ?_)
  rintro e h5 ⟨rfl, rfl⟩
  have hb1 : (w32 (~~~(crcL (BitVec.allOnes 32) l)) == w32 (~~~(crcL (BitVec.allOnes 32) l))) = true := beq_self_eq_true _
  ((conv => whnf); (repeat (first | ((with_reducible refine HSeq.go ?_); conv => whnf) | ((with_reducible refine HMust.mk (by decide) ?_); conv => whnf) | ((with_reducible refine HIf.yes (by first | rfl | assumption | decide) ?_); conv => whnf) | ((with_reducible refine HIf.no (by first | rfl | assumption | decide) ?_); conv => whnf) | ((with_reducible refine HInt.mk _ (wrap_i64 (by omega)) ?_); conv => whnf))))
  refine HCall.mk ((same_spec o3e.sl o4e.sl).mono ?_)
  rintro e h5 ⟨rfl, he⟩
  rw [beq_self_eq_true] at he
  subst he
  have hb2 : ((((unf l most).2.1 : Nat) : Int) == (((unf l most).2.1 : Nat) : Int)) = true := beq_self_eq_true _
  have hb3 : ((((unf l most).2.2 : Nat) : Int) == (((unf l most).2.2 : Nat) : Int)) = true := beq_self_eq_true _
  ((conv => whnf); (repeat (first | ((with_reducible refine HSeq.go ?_); conv => whnf) | ((with_reducible refine HMust.mk (by decide) ?_); conv => whnf) | ((with_reducible refine HIf.yes (by first | rfl | assumption | decide) ?_); conv => whnf) | ((with_reducible refine HIf.no (by first | rfl | assumption | decide) ?_); conv => whnf) | ((with_reducible refine HInt.mk _ (wrap_i64 (by omega)) ?_); conv => whnf))))
  refine loop_rule [62] (fun vs h' => ∃ (i : Nat) (cs : List Value), vs = [.int .i64 i] ∧ i ≤ 8 + n ∧ AllU8 cs ∧ Own h' 0 5 1 (some ⟨bf, 0, none⟩) (8 + n) (8 + n) cs ∧ Off bf h5 h' )
    (fun vs _ => match vs with | [.int _ i] => 8 + n - i.toNat | _ => 0) rfl ?_ ?_
  · exact ⟨0, _, rfl, by omega, allU8_bytes _, sf, Ext.refl _ |>.off⟩
  · intro u h6 v62
    rintro ⟨i, cs, e, hin, hu, o6, f6⟩
    cases e
    ((conv => whnf); (repeat (first | ((with_reducible refine HSeq.go ?_); conv => whnf) | ((with_reducible refine HMust.mk (by decide) ?_); conv => whnf) | ((with_reducible refine HIf.yes (by first | rfl | assumption | decide) ?_); conv => whnf) | ((with_reducible refine HIf.no (by first | rfl | assumption | decide) ?_); conv => whnf) | ((with_reducible refine HInt.mk _ (wrap_i64 (by omega)) ?_); conv => whnf))))
    refine HIf.mk (fun hb => ?_) (fun hb => ?_)
    · have hlt := of_decide_eq_true hb
      have hi : i < 8 + n := by omega
      have hc : i < cs.length := by have := o6.1; omega
      obtain ⟨k, hk⟩ := hu i hc
      ((conv => whnf); (repeat (first | ((with_reducible refine HSeq.go ?_); conv => whnf) | ((with_reducible refine HMust.mk (by decide) ?_); conv => whnf) | ((with_reducible refine HIf.yes (by first | rfl | assumption | decide) ?_); conv => whnf) | ((with_reducible refine HIf.no (by first | rfl | assumption | decide) ?_); conv => whnf) | ((with_reducible refine HInt.mk _ (wrap_i64 (by omega)) ?_); conv => whnf))))
      refine HIdx.mk i rfl hi ?_
      refine sl_some o6.sl hi fun p ep => ?_
      ((conv => whnf); (repeat (first | ((with_reducible refine HSeq.go ?_); conv => whnf) | ((with_reducible refine HMust.mk (by decide) ?_); conv => whnf) | ((with_reducible refine HIf.yes (by first | rfl | assumption | decide) ?_); conv => whnf) | ((with_reducible refine HIf.no (by first | rfl | assumption | decide) ?_); conv => whnf) | ((with_reducible refine HInt.mk _ (wrap_i64 (by omega)) ?_); conv => whnf))))
      refine o6.sl.load ep hc ?_
      rw [hk]
      ((conv => whnf); (repeat (first | ((with_reducible refine HSeq.go ?_); conv => whnf) | ((with_reducible refine HMust.mk (by decide) ?_); conv => whnf) | ((with_reducible refine HIf.yes (by first | rfl | assumption | decide) ?_); conv => whnf) | ((with_reducible refine HIf.no (by first | rfl | assumption | decide) ?_); conv => whnf) | ((with_reducible refine HInt.mk _ (wrap_i64 (by omega)) ?_); conv => whnf))))
      refine HInt.mk (IntKind.u8.wrap (k + 1)) rfl ?_
      ((conv => whnf); (repeat (first | ((with_reducible refine HSeq.go ?_); conv => whnf) | ((with_reducible refine HMust.mk (by decide) ?_); conv => whnf) | ((with_reducible refine HIf.yes (by first | rfl | assumption | decide) ?_); conv => whnf) | ((with_reducible refine HIf.no (by first | rfl | assumption | decide) ?_); conv => whnf) | ((with_reducible refine HInt.mk _ (wrap_i64 (by omega)) ?_); conv => whnf))))
      refine HIdx.mk i rfl hi ?_
      refine sl_some o6.sl hi fun p2 ep2 => ?_
      ((conv => whnf); (repeat (first | ((with_reducible refine HSeq.go ?_); conv => whnf) | ((with_reducible refine HMust.mk (by decide) ?_); conv => whnf) | ((with_reducible refine HIf.yes (by first | rfl | assumption | decide) ?_); conv => whnf) | ((with_reducible refine HIf.no (by first | rfl | assumption | decide) ?_); conv => whnf) | ((with_reducible refine HInt.mk _ (wrap_i64 (by omega)) ?_); conv => whnf))))
      refine o6.store ep2 hi rfl ?_
      intro h7 f7 _ _ o7
      ((conv => whnf); (repeat (first | ((with_reducible refine HSeq.go ?_); conv => whnf) | ((with_reducible refine HMust.mk (by decide) ?_); conv => whnf) | ((with_reducible refine HIf.yes (by first | rfl | assumption | decide) ?_); conv => whnf) | ((with_reducible refine HIf.no (by first | rfl | assumption | decide) ?_); conv => whnf) | ((with_reducible refine HInt.mk _ (wrap_i64 (by omega)) ?_); conv => whnf))))
      refine ⟨⟨i + 1, _, rfl, by omega, allU8_set hu i _, o7, f6.trans ?_⟩, ?_⟩
      · cases ep2; exact f7
      · show 8 + n - (((i : Int) + 1)).toNat < 8 + n - ((i : Int)).toNat
        omega
    · have hge := of_decide_eq_false hb
      have e16 := x25.offNew f6 hbf
      have e06 := xx.offNew f6 (by have := x1.1; omega)
      have o3f := o3e.off f6 (fun p ep => by have := own_at o3e p ep; omega)
      have z6 : h2.size ≤ h6.size := by have := x3.1; have := x4.1; have := x5.1; have := f6.1; omega
      have z1 := x1.1
      have z2 := x2.1
      ((conv => whnf); (repeat (first | ((with_reducible refine HSeq.go ?_); conv => whnf) | ((with_reducible refine HMust.mk (by decide) ?_); conv => whnf) | ((with_reducible refine HIf.yes (by first | rfl | assumption | decide) ?_); conv => whnf) | ((with_reducible refine HIf.no (by first | rfl | assumption | decide) ?_); conv => whnf) | ((with_reducible refine HInt.mk _ (wrap_i64 (by omega)) ?_); conv => whnf))))
      refine loop_rule [74] (fun vs h' => ∃ (i : Nat) (cs : List Value), vs = [.int .i64 i] ∧ i ≤ (unf l most).1.length ∧ AllU8 cs ∧ Own h' h2.size 5 1 a3 (unf l most).1.length c3 cs ∧ Kept h2.size h6 h')
        (fun vs _ => match vs with | [.int _ i] => (unf l most).1.length - i.toNat | _ => 0) rfl ?_ ?_
      · exact ⟨0, _, rfl, by omega, allU8_bytes _, o3f, Kept.refl _ _⟩
      · intro u2 h7 v74
        rintro ⟨j, ds, e, hjn, hv, o7, f7⟩
        cases e
        ((conv => whnf); (repeat (first | ((with_reducible refine HSeq.go ?_); conv => whnf) | ((with_reducible refine HMust.mk (by decide) ?_); conv => whnf) | ((with_reducible refine HIf.yes (by first | rfl | assumption | decide) ?_); conv => whnf) | ((with_reducible refine HIf.no (by first | rfl | assumption | decide) ?_); conv => whnf) | ((with_reducible refine HInt.mk _ (wrap_i64 (by omega)) ?_); conv => whnf))))
        refine HIf.mk (fun hb4 => ?_) (fun hb4 => ?_)
        · have hlt := of_decide_eq_true hb4
          have hj : j < (unf l most).1.length := by omega
          have hc : j < ds.length := by have := o7.1; omega
          obtain ⟨k, hk⟩ := hv j hc
          ((conv => whnf); (repeat (first | ((with_reducible refine HSeq.go ?_); conv => whnf) | ((with_reducible refine HMust.mk (by decide) ?_); conv => whnf) | ((with_reducible refine HIf.yes (by first | rfl | assumption | decide) ?_); conv => whnf) | ((with_reducible refine HIf.no (by first | rfl | assumption | decide) ?_); conv => whnf) | ((with_reducible refine HInt.mk _ (wrap_i64 (by omega)) ?_); conv => whnf))))
          refine HIdx.mk j rfl hj ?_
          refine sl_some o7.sl hj fun p ep => ?_
          ((conv => whnf); (repeat (first | ((with_reducible refine HSeq.go ?_); conv => whnf) | ((with_reducible refine HMust.mk (by decide) ?_); conv => whnf) | ((with_reducible refine HIf.yes (by first | rfl | assumption | decide) ?_); conv => whnf) | ((with_reducible refine HIf.no (by first | rfl | assumption | decide) ?_); conv => whnf) | ((with_reducible refine HInt.mk _ (wrap_i64 (by omega)) ?_); conv => whnf))))
          refine o7.sl.load ep hc ?_
          rw [hk]
          ((conv => whnf); (repeat (first | ((with_reducible refine HSeq.go ?_); conv => whnf) | ((with_reducible refine HMust.mk (by decide) ?_); conv => whnf) | ((with_reducible refine HIf.yes (by first | rfl | assumption | decide) ?_); conv => whnf) | ((with_reducible refine HIf.no (by first | rfl | assumption | decide) ?_); conv => whnf) | ((with_reducible refine HInt.mk _ (wrap_i64 (by omega)) ?_); conv => whnf))))
          refine HInt.mk (IntKind.u8.wrap (k + 1)) rfl ?_
          ((conv => whnf); (repeat (first | ((with_reducible refine HSeq.go ?_); conv => whnf) | ((with_reducible refine HMust.mk (by decide) ?_); conv => whnf) | ((with_reducible refine HIf.yes (by first | rfl | assumption | decide) ?_); conv => whnf) | ((with_reducible refine HIf.no (by first | rfl | assumption | decide) ?_); conv => whnf) | ((with_reducible refine HInt.mk _ (wrap_i64 (by omega)) ?_); conv => whnf))))
          refine HIdx.mk j rfl hj ?_
          refine sl_some o7.sl hj fun p2 ep2 => ?_
          ((conv => whnf); (repeat (first | ((with_reducible refine HSeq.go ?_); conv => whnf) | ((with_reducible refine HMust.mk (by decide) ?_); conv => whnf) | ((with_reducible refine HIf.yes (by first | rfl | assumption | decide) ?_); conv => whnf) | ((with_reducible refine HIf.no (by first | rfl | assumption | decide) ?_); conv => whnf) | ((with_reducible refine HInt.mk _ (wrap_i64 (by omega)) ?_); conv => whnf))))
          refine o7.store ep2 hj rfl ?_
          intro h8 f8 hB8 _ o8
          ((conv => whnf); (repeat (first | ((with_reducible refine HSeq.go ?_); conv => whnf) | ((with_reducible refine HMust.mk (by decide) ?_); conv => whnf) | ((with_reducible refine HIf.yes (by first | rfl | assumption | decide) ?_); conv => whnf) | ((with_reducible refine HIf.no (by first | rfl | assumption | decide) ?_); conv => whnf) | ((with_reducible refine HInt.mk _ (wrap_i64 (by omega)) ?_); conv => whnf))))
          refine ⟨⟨j + 1, _, rfl, by omega, allU8_set hv j _, o8, f7.trans (f8.kept hB8 (by have := f7.1; omega))⟩, ?_⟩
          show (unf l most).1.length - (((j : Int) + 1)).toNat < (unf l most).1.length - ((j : Int)).toNat
          omega
        · have hge := of_decide_eq_false hb4
          have e07 := e06.keep (f7.mono (by omega))
          have e17 := e16.keep (f7.mono z2)
          have xg := x.ext e07
          have o1g := (o1'.ext e17).sl
          ((conv => whnf); (repeat (first | ((with_reducible refine HSeq.go ?_); conv => whnf) | ((with_reducible refine HMust.mk (by decide) ?_); conv => whnf) | ((with_reducible refine HIf.yes (by first | rfl | assumption | decide) ?_); conv => whnf) | ((with_reducible refine HIf.no (by first | rfl | assumption | decide) ?_); conv => whnf) | ((with_reducible refine HInt.mk _ (wrap_i64 (by omega)) ?_); conv => whnf))))
          refine HCall.mk ((live_spec _).mono ?_)
          rintro e h8 ⟨rfl, x8⟩
          ((conv => whnf); (repeat (first | ((with_reducible refine HSeq.go ?_); conv => whnf) | ((with_reducible refine HMust.mk (by decide) ?_); conv => whnf) | ((with_reducible refine HIf.yes (by first | rfl | assumption | decide) ?_); conv => whnf) | ((with_reducible refine HIf.no (by first | rfl | assumption | decide) ?_); conv => whnf) | ((with_reducible refine HInt.mk _ (wrap_i64 (by omega)) ?_); conv => whnf))))
          refine HCall.mk ((framed_spec _).mono ?_)
          rintro e h9 ⟨rfl, x9⟩
          ((conv => whnf); (repeat (first | ((with_reducible refine HSeq.go ?_); conv => whnf) | ((with_reducible refine HMust.mk (by decide) ?_); conv => whnf) | ((with_reducible refine HIf.yes (by first | rfl | assumption | decide) ?_); conv => whnf) | ((with_reducible refine HIf.no (by first | rfl | assumption | decide) ?_); conv => whnf) | ((with_reducible refine HInt.mk _ (wrap_i64 (by omega)) ?_); conv => whnf))))
          refine HCall.mk ((same_spec (o1g.ext (x8.trans x9)) (xg.ext (x8.trans x9))).mono ?_)
          rintro e h9 ⟨rfl, he⟩
          rw [beq_self_eq_true] at he
          subst he
          ((conv => whnf); (repeat (first | ((with_reducible refine HSeq.go ?_); conv => whnf) | ((with_reducible refine HMust.mk (by decide) ?_); conv => whnf) | ((with_reducible refine HIf.yes (by first | rfl | assumption | decide) ?_); conv => whnf) | ((with_reducible refine HIf.no (by first | rfl | assumption | decide) ?_); conv => whnf) | ((with_reducible refine HInt.mk _ (wrap_i64 (by omega)) ?_); conv => whnf))))
          refine ⟨rfl, ?_⟩
          exact e07.trans (x8.trans x9)

end Go.Proofs.Ytgmlbaikeepniaa.Hc
