/- The program's disk: Write, Flush, Cut, On, Clone. -/
import Derived.Test.YtlbmhpjefpdekaaX5
set_option linter.unusedVariables false
set_option linter.unusedSimpArgs false
namespace Go.Proofs.Ytlbmhpjefpdekaa.Hc
open Go Go.H Go.Proofs
set_option maxRecDepth 100000
set_option maxHeartbeats 8000000

theorem act_fields (d : DK) : d.act.2.firm = d.firm ∧ d.act.2.waits = d.waits ∧ d.act.2.many = d.many := by
  unfold DK.act; split <;> exact ⟨rfl, rfl, rfl⟩
theorem DK.write_ok {d : DK} (k : d.Ok) (ha : d.acts ≤ 999999) (i : Int) (b : ByteArray) : (d.write i b).2.Ok := by
  have ka := DK.act_ok k ha
  unfold DK.write
  split
  · exact k
  split
  · exact k
  split
  · rename_i h1 h2 h3
    refine ⟨ka.m1, ka.m2, ka.f1, ka.f2, ka.ac, ?_, ka.fm⟩
    intro j s hj
    have hr : d.refused i = 0 := by simpa using h1
    unfold DK.refused at hr
    have hi : 0 ≤ i ∧ i < d.many := by
      split at hr
      · omega
      · split at hr <;> omega
    have hm := (act_fields d).2.2
    show j < d.act.2.many ∧ _
    rw [hm]
    have hj' : setG d.act.2.waits i.toNat b j = some s := hj
    unfold setG at hj'
    split at hj'
    · rename_i e; cases hj'; exact ⟨by omega, by simpa using h2⟩
    · have := ka.wm j s hj'
      rw [hm] at this; exact this
  · exact ka
theorem DK.flush_ok {d : DK} (k : d.Ok) (ha : d.acts ≤ 999999) : d.flush.2.Ok := by
  have ka := DK.act_ok k ha
  unfold DK.flush
  split
  · exact k
  split
  · refine ⟨ka.m1, ka.m2, ka.f1, ka.f2, ka.ac, (by intro i s h; cases h), ?_⟩
    intro i s h
    have h' : mergeG d.act.2.firm d.act.2.waits i = some s := h
    unfold mergeG at h'
    split at h'
    · rename_i hw; cases h'; exact ka.wm i _ hw
    · exact ka.fm i s h'
  · exact ka
theorem MR.same {h : Heap} {r : Nat} {g g' : Nat → Option ByteArray} (x : MR h r g) (e : g = g') : MR h r g' := e ▸ x
theorem write_spec {h : Heap} {b rf rw : Nat} {d : DK} (x : DR h b rf rw d) (ha : d.acts ≤ 999999) (i : Int) {a : Option Addr} {c : Nat} {l : List UInt8} (s : Sl h 1 a l.length c (l.map byteV)) (hsa : ∀ p, a = some p → p.block ∉ [b, rf, rw] ∧ p.block < h.size) :
    HCalls Try.prog 16 #[.pointer (some ⟨b, 0, none⟩), .int .i64 i, .slice a l.length c] h fun e h' => e = .returned (.int .i64 (d.write i ⟨l.toArray⟩).1) ∧ DR h' b rf rw (d.write i ⟨l.toArray⟩).2 ∧ OffS [b, rf, rw] h h' := by
  have hwo := DK.write_ok x.ok ha i ⟨l.toArray⟩
  refine c16 (by simp) ?_
  ((conv=>whnf);repeat((first|(with_reducible first|refine Z1 ?_|refine Z2 ?_|refine Z3 ?_|refine Z4 ?_|refine Z5 ?_|refine Z9 (by assumption) rfl ?_|refine ZA (by assumption) rfl ?_|refine ZB (by assumption) rfl ?_|refine Z6 ?_|refine Z7 ?_|refine Z8 ?_)|((with_reducible refine ZM ?_ ?_);(focus rfl)));(conv=>whnf)))
  refine HCall.mk ((refused_spec x i).mono ?_)
  rintro e h ⟨rfl, rfl⟩
  have hls : (⟨l.toArray⟩ : ByteArray).size = l.length := rfl
  unfold DK.write at hwo ⊢
  by_cases hr : d.refused i = 0
  rotate_left
  · have q : (d.refused i != 0) = true := bne_iff_ne.2 hr
    rw [if_pos hr] at hwo ⊢
    ((conv=>whnf);repeat((first|(with_reducible first|refine Z1 ?_|refine Z2 ?_|refine Z3 ?_|refine Z4 ?_|refine Z5 ?_|refine Z9 (by assumption) rfl ?_|refine ZA (by assumption) rfl ?_|refine ZB (by assumption) rfl ?_|refine Z6 ?_|refine Z7 ?_|refine Z8 ?_)|((with_reducible refine ZM ?_ ?_);(focus rfl)));(conv=>whnf)))
    exact ⟨rfl, x, OffS.refl _ _⟩
  have q : (d.refused i != 0) = false := by rw [hr]; rfl
  rw [if_neg (by simpa using hr)] at hwo ⊢
  have hi : 0 ≤ i ∧ i < d.many := by
    unfold DK.refused at hr
    split at hr
    · omega
    · split at hr <;> omega
  by_cases hl : l.length = 4096
  rotate_left
  · have q2 : ((l.length : Int) != 4096) = true := bne_iff_ne.2 (by omega)
    rw [if_pos (by rw [hls]; exact hl)] at hwo ⊢
    ((conv=>whnf);repeat((first|(with_reducible first|refine Z1 ?_|refine Z2 ?_|refine Z3 ?_|refine Z4 ?_|refine Z5 ?_|refine Z9 (by assumption) rfl ?_|refine ZA (by assumption) rfl ?_|refine ZB (by assumption) rfl ?_|refine Z6 ?_|refine Z7 ?_|refine Z8 ?_)|((with_reducible refine ZM ?_ ?_);(focus rfl)));(conv=>whnf)))
    exact ⟨rfl, x, OffS.refl _ _⟩
  have q2 : ((l.length : Int) != 4096) = false := by rw [hl]; rfl
  rw [if_neg (by rw [hls]; simpa using hl)] at hwo ⊢
  ((conv=>whnf);repeat((first|(with_reducible first|refine Z1 ?_|refine Z2 ?_|refine Z3 ?_|refine Z4 ?_|refine Z5 ?_|refine Z9 (by assumption) rfl ?_|refine ZA (by assumption) rfl ?_|refine ZB (by assumption) rfl ?_|refine Z6 ?_|refine Z7 ?_|refine Z8 ?_)|((with_reducible refine ZM ?_ ?_);(focus rfl)));(conv=>whnf)))
  refine HCall.mk ((act_spec x ha).mono ?_)
  rintro e h2 ⟨rfl, x2, f2⟩
  by_cases h0 : d.act.1 = 0
  rotate_left
  · have q3 : (d.act.1 == 0) = false := beq_eq_false_iff_ne.2 h0
    rw [if_neg h0]
    ((conv=>whnf);repeat((first|(with_reducible first|refine Z1 ?_|refine Z2 ?_|refine Z3 ?_|refine Z4 ?_|refine Z5 ?_|refine Z9 (by assumption) rfl ?_|refine ZA (by assumption) rfl ?_|refine ZB (by assumption) rfl ?_|refine Z6 ?_|refine Z7 ?_|refine Z8 ?_)|((with_reducible refine ZM ?_ ?_);(focus rfl)));(conv=>whnf)))
    exact ⟨rfl, x2, f2⟩
  have q3 : (d.act.1 == 0) = true := beq_iff_eq.2 h0
  rw [if_pos h0] at hwo ⊢
  obtain ⟨n, rfl⟩ := Int.eq_ofNat_of_zero_le hi.1
  simp only [Int.toNat_natCast] at hwo ⊢
  have hn : n < 2048 := by have := x.ok.m2; omega
  have o2 := x2.o
  have hlt := x2.lt
  have s2 : Sl h2 1 a l.length c (l.map byteV) := by
    exact s.fr (S := fun k => k ∉ [b, rf, rw] ∧ k < h.size) hsa h2 (fun k hk => f2.2 k hk.2 hk.1)
  rw [h0]
  ((conv=>whnf);repeat((first|(with_reducible first|refine Z1 ?_|refine Z2 ?_|refine Z3 ?_|refine Z4 ?_|refine Z5 ?_|refine Z9 (by assumption) rfl ?_|refine ZA (by assumption) rfl ?_|refine ZB (by assumption) rfl ?_|refine Z6 ?_|refine Z7 ?_|refine Z8 ?_)|((with_reducible refine ZM ?_ ?_);(focus rfl)));(conv=>whnf)))
  refine s2.bytes ?_
  ((conv=>whnf);repeat((first|(with_reducible first|refine Z1 ?_|refine Z2 ?_|refine Z3 ?_|refine Z4 ?_|refine Z5 ?_|refine Z9 (by assumption) rfl ?_|refine ZA (by assumption) rfl ?_|refine ZB (by assumption) rfl ?_|refine Z6 ?_|refine Z7 ?_|refine Z8 ?_)|((with_reducible refine ZM ?_ ?_);(focus rfl)));(conv=>whnf)))
  obtain ⟨es, clock, f, e1, m, hf, hcase⟩ := x2.mw.find n
  refine HMapF.mk es clock f e1 hf ?_
  have ne1 := x2.nf
  have ne2 := x2.nw
  have ne3 := x2.ne
  have fin : ∀ (es' : Array MapEntry) (clock' : Nat), MS es'.toList clock' (setG d.act.2.waits n ⟨l.toArray⟩) → DR (h2.setIfInBounds rw (.map es' clock')) b rf rw { d.act.2 with waits := setG d.act.2.waits n ⟨l.toArray⟩ } ∧ OffS [b, rf, rw] h (h2.setIfInBounds rw (.map es' clock')) := by
    intro es' clock' m'
    have po := put_off h2 rw (.map es' clock')
    exact ⟨⟨hwo, o2.offk po.1 ne2, x2.mf.offk po.1 ne3, MR.put hlt.2.2 m', ne3⟩, f2.trans (OffS.of_off po.1 (by simp))⟩
  rcases hcase with ⟨rfl, hnone⟩ | ⟨j, t, e0, rfl, hsome, he0, hk0⟩
  · ((conv=>whnf);repeat((first|(with_reducible first|refine Z1 ?_|refine Z2 ?_|refine Z3 ?_|refine Z4 ?_|refine Z5 ?_|refine Z9 (by assumption) rfl ?_|refine ZA (by assumption) rfl ?_|refine ZB (by assumption) rfl ?_|refine Z6 ?_|refine Z7 ?_|refine Z8 ?_)|((with_reducible refine ZM ?_ ?_);(focus rfl)));(conv=>whnf)))
    obtain ⟨y1, y2⟩ := fin _ _ (m.push (s := ⟨l.toArray⟩) hnone hn (by rw [hls]; exact hl))
    exact ⟨rfl, y1, y2⟩
  · ((conv=>whnf);repeat((first|(with_reducible first|refine Z1 ?_|refine Z2 ?_|refine Z3 ?_|refine Z4 ?_|refine Z5 ?_|refine Z9 (by assumption) rfl ?_|refine ZA (by assumption) rfl ?_|refine ZB (by assumption) rfl ?_|refine Z6 ?_|refine Z7 ?_|refine Z8 ?_)|((with_reducible refine ZM ?_ ?_);(focus rfl)));(conv=>whnf)))
    refine HMust.mk (by show Instr.sameBits 10000 (((es[j]?).map (·.key)).getD (.int .i64 (n : Nat))) (.int .i64 (n : Nat)) = true; rw [he0]; simp [hk0, Instr.sameBits]) ?_
    ((conv=>whnf);repeat((first|(with_reducible first|refine Z1 ?_|refine Z2 ?_|refine Z3 ?_|refine Z4 ?_|refine Z5 ?_|refine Z9 (by assumption) rfl ?_|refine ZA (by assumption) rfl ?_|refine ZB (by assumption) rfl ?_|refine Z6 ?_|refine Z7 ?_|refine Z8 ?_)|((with_reducible refine ZM ?_ ?_);(focus rfl)));(conv=>whnf)))
    obtain ⟨y1, y2⟩ := fin _ _ (m.modify (s := ⟨l.toArray⟩) he0 hk0 hn (by rw [hls]; exact hl))
    exact ⟨rfl, y1, y2⟩

theorem flush_spec {h : Heap} {b rf rw : Nat} {d : DK} (x : DR h b rf rw d) (ha : d.acts ≤ 999999) :
    HCalls Try.prog 14 #[.pointer (some ⟨b, 0, none⟩)] h fun e h' => e = .returned (.int .i64 d.flush.1) ∧ DR h' b rf rw d.flush.2 ∧ OffS [b, rf, rw] h h' := by
  have hwo := DK.flush_ok x.ok ha
  have k := x.ok
  have km := k.m1
  refine c14 (by simp) ?_
  ((conv=>whnf);repeat((first|(with_reducible first|refine Z1 ?_|refine Z2 ?_|refine Z3 ?_|refine Z4 ?_|refine Z5 ?_|refine Z9 (by assumption) rfl ?_|refine ZA (by assumption) rfl ?_|refine ZB (by assumption) rfl ?_|refine Z6 ?_|refine Z7 ?_|refine Z8 ?_)|((with_reducible refine ZM ?_ ?_);(focus rfl)));(conv=>whnf)))
  refine HCall.mk ((refused_spec x 0).mono ?_)
  rintro e h ⟨rfl, rfl⟩
  unfold DK.flush at hwo ⊢
  cases hoff : d.off
  rotate_left
  · have hr : d.refused 0 = 160 := by unfold DK.refused; rw [hoff]; rfl
    rw [hr]
    rw [hoff] at hwo
    ((conv=>whnf);repeat((first|(with_reducible first|refine Z1 ?_|refine Z2 ?_|refine Z3 ?_|refine Z4 ?_|refine Z5 ?_|refine Z9 (by assumption) rfl ?_|refine ZA (by assumption) rfl ?_|refine ZB (by assumption) rfl ?_|refine Z6 ?_|refine Z7 ?_|refine Z8 ?_)|((with_reducible refine ZM ?_ ?_);(focus rfl)));(conv=>whnf)))
    rw [if_pos rfl]
    exact ⟨rfl, x, OffS.refl _ _⟩
  have hr : d.refused 0 = 0 := by unfold DK.refused; rw [hoff, if_neg (by simp), if_neg (by omega)]
  rw [hr]
  rw [hoff] at hwo
  rw [if_neg (by simp)] at hwo ⊢
  ((conv=>whnf);repeat((first|(with_reducible first|refine Z1 ?_|refine Z2 ?_|refine Z3 ?_|refine Z4 ?_|refine Z5 ?_|refine Z9 (by assumption) rfl ?_|refine ZA (by assumption) rfl ?_|refine ZB (by assumption) rfl ?_|refine Z6 ?_|refine Z7 ?_|refine Z8 ?_)|((with_reducible refine ZM ?_ ?_);(focus rfl)));(conv=>whnf)))
  refine HCall.mk ((act_spec x ha).mono ?_)
  rintro e h2 ⟨rfl, x2, f2⟩
  by_cases h0 : d.act.1 = 0
  rotate_left
  · have q3 : (d.act.1 == 0) = false := beq_eq_false_iff_ne.2 h0
    rw [if_neg h0]
    ((conv=>whnf);repeat((first|(with_reducible first|refine Z1 ?_|refine Z2 ?_|refine Z3 ?_|refine Z4 ?_|refine Z5 ?_|refine Z9 (by assumption) rfl ?_|refine ZA (by assumption) rfl ?_|refine ZB (by assumption) rfl ?_|refine Z6 ?_|refine Z7 ?_|refine Z8 ?_)|((with_reducible refine ZM ?_ ?_);(focus rfl)));(conv=>whnf)))
    exact ⟨rfl, x2, f2⟩
  have q3 : (d.act.1 == 0) = true := beq_iff_eq.2 h0
  rw [if_pos h0] at hwo ⊢
  have o2 := x2.o
  have hlt := x2.lt
  have ne1 := x2.nf
  have ne2 := x2.nw
  have ne3 := x2.ne
  rw [h0]
  ((conv=>whnf);repeat((first|(with_reducible first|refine Z1 ?_|refine Z2 ?_|refine Z3 ?_|refine Z4 ?_|refine Z5 ?_|refine Z9 (by assumption) rfl ?_|refine ZA (by assumption) rfl ?_|refine ZB (by assumption) rfl ?_|refine Z6 ?_|refine Z7 ?_|refine Z8 ?_)|((with_reducible refine ZM ?_ ?_);(focus rfl)));(conv=>whnf)))
  refine HCall.mk ((mcopy_spec x2.mf x2.mw ne3).mono ?_)
  rintro e h3 ⟨rfl, m3, f3⟩
  have o3 := o2.offk f3 ne1
  have w3 := x2.mw.offk f3 (Ne.symm ne3)
  have hs3 := f3.1
  clear o2
  ((conv=>whnf);repeat((first|(with_reducible first|refine Z1 ?_|refine Z2 ?_|refine Z3 ?_|refine Z4 ?_|refine Z5 ?_|refine Z9 (by assumption) rfl ?_|refine ZA (by assumption) rfl ?_|refine ZB (by assumption) rfl ?_|refine Z6 ?_|refine Z7 ?_|refine Z8 ?_)|((with_reducible refine ZM ?_ ?_);(focus rfl)));(conv=>whnf)))
  obtain ⟨es, clock, e1, m⟩ := w3
  refine raw_clear (r := rw) (es := es) (clock := clock) rfl rfl rfl Try.underlying55 e1 ?_
  have po := put_off h3 rw (.map #[] clock)
  ((conv=>whnf);repeat((first|(with_reducible first|refine Z1 ?_|refine Z2 ?_|refine Z3 ?_|refine Z4 ?_|refine Z5 ?_|refine Z9 (by assumption) rfl ?_|refine ZA (by assumption) rfl ?_|refine ZB (by assumption) rfl ?_|refine Z6 ?_|refine Z7 ?_|refine Z8 ?_)|((with_reducible refine ZM ?_ ?_);(focus rfl)));(conv=>whnf)))
  refine ⟨rfl, ⟨hwo, o3.offk po.1 ne2, m3.offk po.1 ne3, MR.put (by omega) (MS.empty clock), ne3⟩, f2.trans ((OffS.of_off f3 (by simp)).trans (OffS.of_off po.1 (by simp)))⟩

theorem _root_.Go.H.Sl.offMap {h h' : Heap} {size n c r : Nat} {a : Option Addr} {xs : List Value} {g : Nat → Option ByteArray} (s : Sl h size a n c xs) (m : MR h r g) (o : OffS [r] h h') : Sl h' size a n c xs := by
  obtain ⟨s1, s2, s3, s4⟩ := s
  refine ⟨s1, s2, s3, fun p ep i hi => ?_⟩
  have e := s4 p ep i hi
  have hv : ∃ v, xs[i]? = some v := ⟨xs[i]'(by omega), List.getElem?_eq_getElem (by omega)⟩
  obtain ⟨v, hv⟩ := hv
  rw [hv] at e ⊢
  have hlt := lt_of_hcell e
  rw [add_block] at hlt
  have hne : p.block ≠ r := by
    rintro rfl
    obtain ⟨es, clock, em, _⟩ := m
    unfold hcell at e
    rw [add_block, em] at e
    cases e
  rw [← e]
  exact hcell_of (by rw [add_block]; exact o.2 _ hlt (by simpa using hne))
theorem and1_u8 (c : UInt8) : ibits .and .u8 (c.toNat : Int) 1 = ((c.toNat % 2 : Nat) : Int) := by
  have key : ∀ c : Fin 256, ibits .and .u8 (c.val : Int) 1 = ((c.val % 2 : Nat) : Int) := by decide
  exact key ⟨c.toNat, c.toNat_lt⟩
theorem cutG_step {w f : Nat → Option ByteArray} {ks : List Nat} {mask : List UInt8} {i : Nat} (hi : i < ks.length) : cutG w f ks mask (i + 1) = if bitAt mask i = true then (fun j => if j = ks[i] then w ks[i] else cutG w f ks mask i j) else cutG w f ks mask i := by
  conv => lhs; unfold cutG
  rw [List.getElem?_eq_getElem hi]
theorem cut_spec {h : Heap} {b rf rw : Nat} {d : DK} (x : DR h b rf rw d) {a : Option Addr} {c : Nat} {mask : List UInt8} (hs : ∀ h' : Heap, (∀ k, k < h.size → k ∉ [b, rf, rw] → h'[k]? = h[k]?) → Sl h' 1 a mask.length c (mask.map byteV)) (hml : mask.length ≤ 140737488351232) :
    HCalls Try.prog 18 #[.pointer (some ⟨b, 0, none⟩), .slice a mask.length c] h fun e h' => e = .returned (.tuple #[]) ∧ DR h' b rf rw (d.cut mask) ∧ OffS [b, rf, rw] h h' := by
  have k := x.ok
  have ne1 := x.nf
  have ne2 := x.nw
  have ne3 := x.ne
  refine c18 (by simp) ?_
  ((conv=>whnf);repeat((first|(with_reducible first|refine Z1 ?_|refine Z2 ?_|refine Z3 ?_|refine Z4 ?_|refine Z5 ?_|refine Z9 (by assumption) rfl ?_|refine ZA (by assumption) rfl ?_|refine ZB (by assumption) rfl ?_|refine Z6 ?_|refine Z7 ?_|refine Z8 ?_)|((with_reducible refine ZM ?_ ?_);(focus rfl)));(conv=>whnf)))
  refine HCall.mk ((waiting_spec x).mono ?_)
  rintro e h1 ⟨ka, kc, rfl, sk, x1⟩
  have y1 := x.ext x1
  have hkl : (keysOf d.waits).length ≤ 2048 := by
    unfold keysOf
    have := List.length_filter_le (fun i => (d.waits i).isSome) (List.range 2048)
    rw [List.length_range] at this; exact this
  have hko := DK.cut_ok k mask
  have x1s := x1.1
  ((conv=>whnf);repeat((first|(with_reducible first|refine Z1 ?_|refine Z2 ?_|refine Z3 ?_|refine Z4 ?_|refine Z5 ?_|refine Z9 (by assumption) rfl ?_|refine ZA (by assumption) rfl ?_|refine ZB (by assumption) rfl ?_|refine Z6 ?_|refine Z7 ?_|refine Z8 ?_)|((with_reducible refine ZM ?_ ?_);(focus rfl)));(conv=>whnf)))
  refine loop_rule [9] (fun vs h' => ∃ (i : Nat), vs = [.int .i64 i] ∧ i ≤ (keysOf d.waits).length ∧ MR h' rf (cutG d.waits d.firm (keysOf d.waits) mask i) ∧ OffS [rf] h1 h')
    (fun vs _ => match vs with | [.int _ i] => (keysOf d.waits).length - i.toNat | _ => 0) rfl ?_ ?_
  · exact ⟨0, rfl, by omega, y1.mf, OffS.refl _ _⟩
  intro u h2 v9
  rintro ⟨i, e, hi, mf, of⟩
  cases e
  have o2 := BlkW.offS y1.o of (by simp; exact ne1)
  have mw := MR.offS y1.mw of (by simp; exact Ne.symm ne3)
  have sk2 : Sl h2 1 ka (keysOf d.waits).length kc ((keysOf d.waits).map natV) := by
    exact sk.offMap y1.mf of
  have s2 : Sl h2 1 a mask.length c (mask.map byteV) := hs h2 (fun q hq hn => by rw [of.2 q (by omega) (by simp; rintro rfl; exact hn (by simp)), x1.2 q hq])
  ((conv=>whnf);repeat((first|(with_reducible first|refine Z1 ?_|refine Z2 ?_|refine Z3 ?_|refine Z4 ?_|refine Z5 ?_|refine Z9 (by assumption) rfl ?_|refine ZA (by assumption) rfl ?_|refine ZB (by assumption) rfl ?_|refine Z6 ?_|refine Z7 ?_|refine Z8 ?_)|((with_reducible refine ZM ?_ ?_);(focus rfl)));(conv=>whnf)))
  refine HIf.mk (fun hlt => ?_) (fun hlt => ?_)
  · have hi1 : i < (keysOf d.waits).length := by have := of_decide_eq_true hlt; omega
    have hmu : (keysOf d.waits).length - ((i : Int) + 1).toNat < (keysOf d.waits).length - ((i : Int)).toNat := by omega
    have hst := cutG_step (w := d.waits) (f := d.firm) (ks := keysOf d.waits) (mask := mask) hi1
    have hkm := (keysOf_mem d.waits (keysOf d.waits)[i]).1 (List.getElem_mem hi1)
    ((conv=>whnf);repeat((first|(with_reducible first|refine Z1 ?_|refine Z2 ?_|refine Z3 ?_|refine Z4 ?_|refine Z5 ?_|refine Z9 (by assumption) rfl ?_|refine ZA (by assumption) rfl ?_|refine ZB (by assumption) rfl ?_|refine Z6 ?_|refine Z7 ?_|refine Z8 ?_)|((with_reducible refine ZM ?_ ?_);(focus rfl)));(conv=>whnf)))
    refine HIdx.mk i rfl hi1 ?_
    refine sl_some sk2 hi1 fun p ep => ?_
    ((conv=>whnf);repeat((first|(with_reducible first|refine Z1 ?_|refine Z2 ?_|refine Z3 ?_|refine Z4 ?_|refine Z5 ?_|refine Z9 (by assumption) rfl ?_|refine ZA (by assumption) rfl ?_|refine ZB (by assumption) rfl ?_|refine Z6 ?_|refine Z7 ?_|refine Z8 ?_)|((with_reducible refine ZM ?_ ?_);(focus rfl)));(conv=>whnf)))
    refine sk2.load ep (by simpa using hi1) ?_
    rw [List.getElem_map]
    unfold natV
    generalize (keysOf d.waits)[i] = kk at *
    obtain ⟨ws, hws⟩ := Option.isSome_iff_exists.1 hkm.2
    have hwb := k.wm kk ws hws
    have stay : bitAt mask i = false → ∃ i' : Nat, [Value.int .i64 ((i : Int) + 1)] = [.int .i64 i'] ∧ i' ≤ (keysOf d.waits).length ∧ MR h2 rf (cutG d.waits d.firm (keysOf d.waits) mask i') ∧ OffS [rf] h1 h2 := by
      intro hb
      refine ⟨i + 1, rfl, by omega, ?_, of⟩
      rw [hst, if_neg (by rw [hb]; simp)]; exact mf
    by_cases hm : i < mask.length
    rotate_left
    · have q : decide ((i : Int) < (mask.length : Int)) = false := decide_eq_false (by omega)
      have hb : bitAt mask i = false := by unfold bitAt; rw [List.getElem?_eq_none (by omega)]
      ((conv=>whnf);repeat((first|(with_reducible first|refine Z1 ?_|refine Z2 ?_|refine Z3 ?_|refine Z4 ?_|refine Z5 ?_|refine Z9 (by assumption) rfl ?_|refine ZA (by assumption) rfl ?_|refine ZB (by assumption) rfl ?_|refine Z6 ?_|refine Z7 ?_|refine Z8 ?_)|((with_reducible refine ZM ?_ ?_);(focus rfl)));(conv=>whnf)))
      exact ⟨stay hb, hmu⟩
    have q : decide ((i : Int) < (mask.length : Int)) = true := decide_eq_true (by omega)
    have hbit : bitAt mask i = (mask[i].toNat % 2 == 1) := by unfold bitAt; rw [List.getElem?_eq_getElem hm]
    ((conv=>whnf);repeat((first|(with_reducible first|refine Z1 ?_|refine Z2 ?_|refine Z3 ?_|refine Z4 ?_|refine Z5 ?_|refine Z9 (by assumption) rfl ?_|refine ZA (by assumption) rfl ?_|refine ZB (by assumption) rfl ?_|refine Z6 ?_|refine Z7 ?_|refine Z8 ?_)|((with_reducible refine ZM ?_ ?_);(focus rfl)));(conv=>whnf)))
    refine HIdx.mk i rfl hm ?_
    refine sl_some s2 hm fun p2 ep2 => ?_
    ((conv=>whnf);repeat((first|(with_reducible first|refine Z1 ?_|refine Z2 ?_|refine Z3 ?_|refine Z4 ?_|refine Z5 ?_|refine Z9 (by assumption) rfl ?_|refine ZA (by assumption) rfl ?_|refine ZB (by assumption) rfl ?_|refine Z6 ?_|refine Z7 ?_|refine Z8 ?_)|((with_reducible refine ZM ?_ ?_);(focus rfl)));(conv=>whnf)))
    refine sl_get s2 ep2 hm ?_
    ((conv=>whnf);repeat((first|(with_reducible first|refine Z1 ?_|refine Z2 ?_|refine Z3 ?_|refine Z4 ?_|refine Z5 ?_|refine Z9 (by assumption) rfl ?_|refine ZA (by assumption) rfl ?_|refine ZB (by assumption) rfl ?_|refine Z6 ?_|refine Z7 ?_|refine Z8 ?_)|((with_reducible refine ZM ?_ ?_);(focus rfl)));(conv=>whnf)))
    rw [and1_u8]
    by_cases hodd : mask[i].toNat % 2 = 1
    rotate_left
    · have q2 : (((mask[i].toNat % 2 : Nat) : Int) == 1) = false := beq_eq_false_iff_ne.2 (by omega)
      have hb : bitAt mask i = false := by rw [hbit]; simpa using hodd
      ((conv=>whnf);repeat((first|(with_reducible first|refine Z1 ?_|refine Z2 ?_|refine Z3 ?_|refine Z4 ?_|refine Z5 ?_|refine Z9 (by assumption) rfl ?_|refine ZA (by assumption) rfl ?_|refine ZB (by assumption) rfl ?_|refine Z6 ?_|refine Z7 ?_|refine Z8 ?_)|((with_reducible refine ZM ?_ ?_);(focus rfl)));(conv=>whnf)))
      exact ⟨stay hb, hmu⟩
    have q2 : (((mask[i].toNat % 2 : Nat) : Int) == 1) = true := beq_iff_eq.2 (by omega)
    have hb : bitAt mask i = true := by rw [hbit]; simpa using hodd
    rw [if_pos hb] at hst
    have hset : ∀ g : Nat → Option ByteArray, setG g kk ws = fun j => if j = kk then d.waits kk else g j := by
      intro g; funext j; unfold setG; rw [hws]
    have fin : ∀ (es' : Array MapEntry) (clock' : Nat), MS es'.toList clock' (setG (cutG d.waits d.firm (keysOf d.waits) mask i) kk ws) → ∃ i' : Nat, [Value.int .i64 ((i : Int) + 1)] = [.int .i64 i'] ∧ i' ≤ (keysOf d.waits).length ∧ MR (h2.setIfInBounds rf (.map es' clock')) rf (cutG d.waits d.firm (keysOf d.waits) mask i') ∧ OffS [rf] h1 (h2.setIfInBounds rf (.map es' clock')) := by
      intro es' clock' m'
      refine ⟨i + 1, rfl, by omega, ?_, of.trans (OffS.of_off (put_off h2 rf _).1 (by simp))⟩
      rw [hst, ← hset]
      exact MR.put mf.lt m'
    ((conv=>whnf);repeat((first|(with_reducible first|refine Z1 ?_|refine Z2 ?_|refine Z3 ?_|refine Z4 ?_|refine Z5 ?_|refine Z9 (by assumption) rfl ?_|refine ZA (by assumption) rfl ?_|refine ZB (by assumption) rfl ?_|refine Z6 ?_|refine Z7 ?_|refine Z8 ?_)|((with_reducible refine ZM ?_ ?_);(focus rfl)));(conv=>whnf)))
    refine HAlt.mk ?_ ?_
    all_goals
      ((conv=>whnf);repeat((first|(with_reducible first|refine Z1 ?_|refine Z2 ?_|refine Z3 ?_|refine Z4 ?_|refine Z5 ?_|refine Z9 (by assumption) rfl ?_|refine ZA (by assumption) rfl ?_|refine ZB (by assumption) rfl ?_|refine Z6 ?_|refine Z7 ?_|refine Z8 ?_)|((with_reducible refine ZM ?_ ?_);(focus rfl)));(conv=>whnf)))
      refine MR.look mw ?_
      rintro es clock f (⟨rfl, hw⟩ | ⟨j, s', rfl, hw⟩)
      · rw [hws] at hw; cases hw
      rw [hws] at hw
      cases hw
      ((conv=>whnf);repeat((first|(with_reducible first|refine Z1 ?_|refine Z2 ?_|refine Z3 ?_|refine Z4 ?_|refine Z5 ?_|refine Z9 (by assumption) rfl ?_|refine ZA (by assumption) rfl ?_|refine ZB (by assumption) rfl ?_|refine Z6 ?_|refine Z7 ?_|refine Z8 ?_)|((with_reducible refine ZM ?_ ?_);(focus rfl)));(conv=>whnf)))
      obtain ⟨es, clock, f, e1, m, hf, hcase⟩ := mf.find kk
      refine HMapF.mk es clock f e1 hf ?_
      rcases hcase with ⟨rfl, hnone⟩ | ⟨j', t, e0, rfl, hsome, he0, hk0⟩
      · ((conv=>whnf);repeat((first|(with_reducible first|refine Z1 ?_|refine Z2 ?_|refine Z3 ?_|refine Z4 ?_|refine Z5 ?_|refine Z9 (by assumption) rfl ?_|refine ZA (by assumption) rfl ?_|refine ZB (by assumption) rfl ?_|refine Z6 ?_|refine Z7 ?_|refine Z8 ?_)|((with_reducible refine ZM ?_ ?_);(focus rfl)));(conv=>whnf)))
        exact ⟨fin _ _ (m.push hnone hkm.1 hwb.2), hmu⟩
      · ((conv=>whnf);repeat((first|(with_reducible first|refine Z1 ?_|refine Z2 ?_|refine Z3 ?_|refine Z4 ?_|refine Z5 ?_|refine Z9 (by assumption) rfl ?_|refine ZA (by assumption) rfl ?_|refine ZB (by assumption) rfl ?_|refine Z6 ?_|refine Z7 ?_|refine Z8 ?_)|((with_reducible refine ZM ?_ ?_);(focus rfl)));(conv=>whnf)))
        refine HMust.mk (by show Instr.sameBits 10000 (((es[j']?).map (·.key)).getD (.int .i64 (kk : Nat))) (.int .i64 (kk : Nat)) = true; rw [he0]; simp [hk0, Instr.sameBits]) ?_
        ((conv=>whnf);repeat((first|(with_reducible first|refine Z1 ?_|refine Z2 ?_|refine Z3 ?_|refine Z4 ?_|refine Z5 ?_|refine Z9 (by assumption) rfl ?_|refine ZA (by assumption) rfl ?_|refine ZB (by assumption) rfl ?_|refine Z6 ?_|refine Z7 ?_|refine Z8 ?_)|((with_reducible refine ZM ?_ ?_);(focus rfl)));(conv=>whnf)))
        exact ⟨fin _ _ (m.modify he0 hk0 hkm.1 hwb.2), hmu⟩
  · have hge := of_decide_eq_false hlt
    obtain rfl : i = (keysOf d.waits).length := by omega
    obtain ⟨es, clock, e1, m⟩ := mw
    have hrw : rw < h2.size := by have := y1.lt; have := of.1; omega
    ((conv=>whnf);repeat((first|(with_reducible first|refine Z1 ?_|refine Z2 ?_|refine Z3 ?_|refine Z4 ?_|refine Z5 ?_|refine Z9 (by assumption) rfl ?_|refine ZA (by assumption) rfl ?_|refine ZB (by assumption) rfl ?_|refine Z6 ?_|refine Z7 ?_|refine Z8 ?_)|((with_reducible refine ZM ?_ ?_);(focus rfl)));(conv=>whnf)))
    refine raw_clear (r := rw) (es := es) (clock := clock) rfl rfl rfl Try.underlying55 e1 ?_
    have po := put_off h2 rw (.map #[] clock)
    have o3 := o2.offk po.1 ne2
    have mf3 := mf.offk po.1 ne3
    have mw3 : MR (h2.setIfInBounds rw (.map #[] clock)) rw (fun _ => none) := MR.put hrw (MS.empty clock)
    clear o2
    ((conv=>whnf);repeat((first|(with_reducible first|refine Z1 ?_|refine Z2 ?_|refine Z3 ?_|refine Z4 ?_|refine Z5 ?_|refine Z9 (by assumption) rfl ?_|refine ZA (by assumption) rfl ?_|refine ZB (by assumption) rfl ?_|refine Z6 ?_|refine Z7 ?_|refine Z8 ?_)|((with_reducible refine ZM ?_ ?_);(focus rfl)));(conv=>whnf)))
    refine blk_st (o := 5) o3 (by simp) rfl ?_
    intro h4 f4 z4 o4
    ((conv=>whnf);repeat((first|(with_reducible first|refine Z1 ?_|refine Z2 ?_|refine Z3 ?_|refine Z4 ?_|refine Z5 ?_|refine Z9 (by assumption) rfl ?_|refine ZA (by assumption) rfl ?_|refine ZB (by assumption) rfl ?_|refine Z6 ?_|refine Z7 ?_|refine Z8 ?_)|((with_reducible refine ZM ?_ ?_);(focus rfl)));(conv=>whnf)))
    refine blk_st (o := 2) o4 (by simp) rfl ?_
    intro h5 f5 z5 o5
    have f45 := f4.trans f5
    ((conv=>whnf);repeat((first|(with_reducible first|refine Z1 ?_|refine Z2 ?_|refine Z3 ?_|refine Z4 ?_|refine Z5 ?_|refine Z9 (by assumption) rfl ?_|refine ZA (by assumption) rfl ?_|refine ZB (by assumption) rfl ?_|refine Z6 ?_|refine Z7 ?_|refine Z8 ?_)|((with_reducible refine ZM ?_ ?_);(focus rfl)));(conv=>whnf)))
    refine ⟨rfl, ⟨hko, o5, mf3.offk f45 (Ne.symm ne1), mw3.offk f45 (Ne.symm ne2), ne3⟩, ?_⟩
    refine (OffS.of_ext x1).trans ((of.mono (by simp)).trans ((OffS.of_off po.1 (by simp)).trans (OffS.of_off f45 (by simp))))
theorem on_spec {h : Heap} {b rf rw : Nat} {d : DK} (x : DR h b rf rw d) :
    HCalls Try.prog 11 #[.pointer (some ⟨b, 0, none⟩)] h fun e h' => e = .returned (.tuple #[]) ∧ DR h' b rf rw d.on ∧ OffS [b, rf, rw] h h' := by
  have k := DK.on_ok x.ok
  have o := x.o
  have ne1 := x.nf
  have ne2 := x.nw
  refine c11 (by simp) ?_
  unfold DK.on at k ⊢
  cases hoff : d.off
  · rw [hoff] at o
    ((conv=>whnf);repeat((first|(with_reducible first|refine Z1 ?_|refine Z2 ?_|refine Z3 ?_|refine Z4 ?_|refine Z5 ?_|refine Z9 (by assumption) rfl ?_|refine ZA (by assumption) rfl ?_|refine ZB (by assumption) rfl ?_|refine Z6 ?_|refine Z7 ?_|refine Z8 ?_)|((with_reducible refine ZM ?_ ?_);(focus rfl)));(conv=>whnf)))
    exact ⟨rfl, x, OffS.refl _ _⟩
  · rw [hoff] at o k
    ((conv=>whnf);repeat((first|(with_reducible first|refine Z1 ?_|refine Z2 ?_|refine Z3 ?_|refine Z4 ?_|refine Z5 ?_|refine Z9 (by assumption) rfl ?_|refine ZA (by assumption) rfl ?_|refine ZB (by assumption) rfl ?_|refine Z6 ?_|refine Z7 ?_|refine Z8 ?_)|((with_reducible refine ZM ?_ ?_);(focus rfl)));(conv=>whnf)))
    refine HCall.mk ((cut_spec x (a := none) (c := 0) (mask := []) (fun _ _ => Sl.nil _ _) (by simp)).mono ?_)
    rintro e h2 ⟨rfl, x2, f2⟩
    have o2 := x2.o
    clear o
    ((conv=>whnf);repeat((first|(with_reducible first|refine Z1 ?_|refine Z2 ?_|refine Z3 ?_|refine Z4 ?_|refine Z5 ?_|refine Z9 (by assumption) rfl ?_|refine ZA (by assumption) rfl ?_|refine ZB (by assumption) rfl ?_|refine Z6 ?_|refine Z7 ?_|refine Z8 ?_)|((with_reducible refine ZM ?_ ?_);(focus rfl)));(conv=>whnf)))
    refine blk_st (o := 5) o2 (by simp) rfl ?_
    intro h3 f3 z3 o3
    ((conv=>whnf);repeat((first|(with_reducible first|refine Z1 ?_|refine Z2 ?_|refine Z3 ?_|refine Z4 ?_|refine Z5 ?_|refine Z9 (by assumption) rfl ?_|refine ZA (by assumption) rfl ?_|refine ZB (by assumption) rfl ?_|refine Z6 ?_|refine Z7 ?_|refine Z8 ?_)|((with_reducible refine ZM ?_ ?_);(focus rfl)));(conv=>whnf)))
    exact ⟨rfl, ⟨k, o3, x2.mf.offk f3 (Ne.symm ne1), x2.mw.offk f3 (Ne.symm ne2), x.ne⟩, f2.trans (OffS.of_off f3 (by simp))⟩
theorem clone_spec {h : Heap} {b rf rw : Nat} {d : DK} (x : DR h b rf rw d) :
    HCalls Try.prog 21 #[.pointer (some ⟨b, 0, none⟩)] h fun e h' => ∃ b' rf' rw', e = .returned (.pointer (some ⟨b', 0, none⟩)) ∧ DR h' b' rf' rw' d ∧ Ext h h' ∧ h.size ≤ b' ∧ h.size ≤ rf' ∧ h.size ≤ rw' := by
  have o := x.o
  refine c21 (by simp) ?_
  ((conv=>whnf);repeat((first|(with_reducible first|refine Z1 ?_|refine Z2 ?_|refine Z3 ?_|refine Z4 ?_|refine Z5 ?_|refine Z9 (by assumption) rfl ?_|refine ZA (by assumption) rfl ?_|refine ZB (by assumption) rfl ?_|refine Z6 ?_|refine Z7 ?_|refine Z8 ?_|refine ZB (by assumption) (by assumption) ?_)|((with_reducible refine ZM ?_ ?_);(focus rfl)));(conv=>whnf)))
  refine new_var (e := 57) [.int .i64 0, .int .i64 0, .int .i64 0, .map none, .map none, .bool false] rfl ?_
  intro h1 b1 o1 x1 z1 hb1
  ((conv=>whnf);repeat((first|(with_reducible first|refine Z1 ?_|refine Z2 ?_|refine Z3 ?_|refine Z4 ?_|refine Z5 ?_|refine Z9 (by assumption) rfl ?_|refine ZA (by assumption) rfl ?_|refine ZB (by assumption) rfl ?_|refine Z6 ?_|refine Z7 ?_|refine Z8 ?_)|((with_reducible refine ZM ?_ ?_);(focus rfl)));(conv=>whnf)))
  refine store_blk o1 (by simp) (by simp [isOne]) ?_
  intro h2 f2 z2 o2
  have x02 : Ext h h2 := x1.offNew f2 (by omega)
  have y2 := x.ext x02
  have p2 := y2.o
  have o2' : BlkW h2 b1 57 [.int .i64 d.many, .int .i64 d.acts, .int .i64 d.fuse, .map (some rf), .map (some rw), .bool d.off] := o2
  have b1lt := o2'.lt
  clear o2 o1 o
  ((conv=>whnf);repeat((first|(with_reducible first|refine Z1 ?_|refine Z2 ?_|refine Z3 ?_|refine Z4 ?_|refine Z5 ?_|refine Z9 (by assumption) rfl ?_|refine ZA (by assumption) rfl ?_|refine ZB (by assumption) rfl ?_|refine Z6 ?_|refine Z7 ?_|refine Z8 ?_)|((with_reducible refine ZM ?_ ?_);(focus rfl)));(conv=>whnf)))
  refine HAlt.mk ?_ ?_
  all_goals
    ((conv=>whnf);repeat((first|(with_reducible first|refine Z1 ?_|refine Z2 ?_|refine Z3 ?_|refine Z4 ?_|refine Z5 ?_|refine Z9 (by assumption) rfl ?_|refine ZA (by assumption) rfl ?_|refine ZB (by assumption) rfl ?_|refine Z6 ?_|refine Z7 ?_|refine Z8 ?_)|((with_reducible refine ZM ?_ ?_);(focus rfl)));(conv=>whnf)))
    refine HCall.mk ((mclone_spec y2.mf).mono ?_)
    rintro e h3 ⟨rfl, m3, x3⟩
    have p3 := p2.ext x3
    have o3 := o2'.ext x3
    ((conv=>whnf);repeat((first|(with_reducible first|refine Z1 ?_|refine Z2 ?_|refine Z3 ?_|refine Z4 ?_|refine Z5 ?_|refine Z9 (by assumption) rfl ?_|refine ZA (by assumption) rfl ?_|refine ZB (by assumption) rfl ?_|refine Z6 ?_|refine Z7 ?_|refine Z8 ?_)|((with_reducible refine ZM ?_ ?_);(focus rfl)));(conv=>whnf)))
    refine HCall.mk ((mclone_spec (y2.mw.ext x3)).mono ?_)
    rintro e h4 ⟨rfl, m4, x4⟩
    have o4 := o3.ext x4
    have hs3 := x3.1
    have hs4 := x4.1
    have h3lt := m3.lt
    ((conv=>whnf);repeat((first|(with_reducible first|refine Z1 ?_|refine Z2 ?_|refine Z3 ?_|refine Z4 ?_|refine Z5 ?_|refine Z9 (by assumption) rfl ?_|refine ZA (by assumption) rfl ?_|refine ZB (by assumption) rfl ?_|refine Z6 ?_|refine Z7 ?_|refine Z8 ?_)|((with_reducible refine ZM ?_ ?_);(focus rfl)));(conv=>whnf)))
    refine blk_st (o := 3) o4 (by simp) rfl ?_
    intro h5 f5 z5 o5
    ((conv=>whnf);repeat((first|(with_reducible first|refine Z1 ?_|refine Z2 ?_|refine Z3 ?_|refine Z4 ?_|refine Z5 ?_|refine Z9 (by assumption) rfl ?_|refine ZA (by assumption) rfl ?_|refine ZB (by assumption) rfl ?_|refine Z6 ?_|refine Z7 ?_|refine Z8 ?_)|((with_reducible refine ZM ?_ ?_);(focus rfl)));(conv=>whnf)))
    refine blk_st (o := 4) o5 (by simp) rfl ?_
    intro h6 f6 z6 o6
    have f56 := f5.trans f6
    have hs1 := x1.1
    ((conv=>whnf);repeat((first|(with_reducible first|refine Z1 ?_|refine Z2 ?_|refine Z3 ?_|refine Z4 ?_|refine Z5 ?_|refine Z9 (by assumption) rfl ?_|refine ZA (by assumption) rfl ?_|refine ZB (by assumption) rfl ?_|refine Z6 ?_|refine Z7 ?_|refine Z8 ?_)|((with_reducible refine ZM ?_ ?_);(focus rfl)));(conv=>whnf)))
    refine ⟨b1, h2.size, h3.size, rfl, ⟨x.ok, o6, (m3.ext x4).offk f56 (by omega), m4.offk f56 (by omega), by omega⟩, (x02.trans (x3.trans x4)).offNew f56 (by omega), by omega, by omega, by omega⟩

end Go.Proofs.Ytlbmhpjefpdekaa.Hc
