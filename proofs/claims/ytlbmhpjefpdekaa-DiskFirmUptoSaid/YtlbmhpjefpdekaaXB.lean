/- A call of both disks. -/
import Derived.Test.YtlbmhpjefpdekaaXA
set_option linter.unusedVariables false
set_option linter.unusedSimpArgs false
namespace Go.Proofs.Ytlbmhpjefpdekaa.Hc
open Go Go.H Go.Proofs
set_option maxRecDepth 100000
set_option maxHeartbeats 16000000

/-- Both disks hold the same, apart from each other, above B. -/
structure Two (h : Heap) (B b rf rw b' fb wb : Nat) (d : DK) : Prop where
  d1 : DR h b rf rw d
  r1 : RR h b' fb wb d
  sep : ∀ u ∈ [b, rf, rw], u ∉ [b', fb, wb]
  lo : ∀ u ∈ [b, rf, rw, b', fb, wb], B ≤ u
abbrev six (b rf rw b' fb wb : Nat) : List Nat := [b, rf, rw, b', fb, wb]
def step (d : DK) (o : OpP) : DK := if o.act = 0 ∨ o.act = 1 then (d.write o.i ⟨o.bytes.toArray⟩).2 else if o.act = 2 then d.flush.2 else if o.act = 3 then d else if o.act = 4 then d.fused o.n else if o.act = 5 then d.cut o.b else if o.act = 6 then d.on else d
theorem act_acts (d : DK) : d.act.2.acts ≤ d.acts + 1 := by unfold DK.act; split <;> simp
theorem step_acts (d : DK) (o : OpP) : (step d o).acts ≤ d.acts + 1 := by
  have h1 := act_acts d
  unfold step
  split
  · unfold DK.write
    split
    · simp
    split
    · simp
    split
    · exact h1
    · exact h1
  split
  · unfold DK.flush
    split
    · simp
    split
    · exact h1
    · exact h1
  split
  · simp
  split
  · exact Nat.le_succ _
  split
  · exact Nat.le_succ _
  split
  · unfold DK.on
    split
    · exact Nat.le_succ _
    · exact Nat.le_succ _
  · simp
theorem Two.lt {h : Heap} {B b rf rw b' fb wb : Nat} {d : DK} (x : Two h B b rf rw b' fb wb d) : ∀ u ∈ six b rf rw b' fb wb, u < h.size := by
  have h1 := x.d1.lt
  have h2 := x.r1.lt
  intro u hu
  simp only [List.mem_cons, List.not_mem_nil, or_false] at hu
  omega
theorem Two.ext {h h' : Heap} {B b rf rw b' fb wb : Nat} {d : DK} (x : Two h B b rf rw b' fb wb d) (k : Ext h h') : Two h' B b rf rw b' fb wb d := ⟨x.d1.ext k, x.r1.ext k, x.sep, x.lo⟩
theorem Two.hB {h : Heap} {B b rf rw b' fb wb : Nat} {d : DK} (x : Two h B b rf rw b' fb wb d) : B ≤ h.size := by
  have h1 := x.lo b (by simp)
  have h2 := x.d1.lt
  omega
theorem lowOff {S : List Nat} {h h' : Heap} {B : Nat} (o : OffS S h h') (hs : ∀ u ∈ S, B ≤ u) (hb : B ≤ h.size) : ∀ k, k < B → h'[k]? = h[k]? := fun k hk => o.2 k (by omega) (fun hm => by have := hs k hm; omega)
theorem wideD {b rf rw b' fb wb : Nat} {h1 h2 : Heap} (f : OffS [b, rf, rw] h1 h2) : OffS (six b rf rw b' fb wb) h1 h2 := f.mono (by intro x hx; simp only [List.mem_cons, List.not_mem_nil, or_false] at hx ⊢; grind)
theorem wideR {b rf rw b' fb wb : Nat} {h1 h2 : Heap} (f : OffS [b', fb, wb] h1 h2) : OffS (six b rf rw b' fb wb) h1 h2 := f.mono (by intro x hx; simp only [List.mem_cons, List.not_mem_nil, or_false] at hx ⊢; grind)
theorem sepD {b rf rw b' fb wb : Nat} (s : ∀ u ∈ [b, rf, rw], u ∉ [b', fb, wb]) : b' ∉ [b, rf, rw] ∧ fb ∉ [b, rf, rw] ∧ wb ∉ [b, rf, rw] := by
  have h1 := s b (by simp)
  have h2 := s rf (by simp)
  have h3 := s rw (by simp)
  simp only [List.mem_cons, List.not_mem_nil, or_false] at *
  omega
theorem sepR {b rf rw b' fb wb : Nat} (s : ∀ u ∈ [b, rf, rw], u ∉ [b', fb, wb]) : b ∉ [b', fb, wb] ∧ rf ∉ [b', fb, wb] ∧ rw ∉ [b', fb, wb] := ⟨s b (by simp), s rf (by simp), s rw (by simp)⟩
theorem own_S {S : List Nat} {h h' : Heap} {B e size n c : Nat} {a : Option Addr} {xs : List Value} (x : Own h B e size a n c xs) (o : OffS S h h') (hk : ∀ u ∈ S, u < B) : Own h' B e size a n c xs :=
  x.agree (S := fun q => q < h.size ∧ q ∉ S) (fun q hq => o.2 q hq.1 hq.2) (fun p ep => by have := x.lt p ep; exact ⟨this.2, fun hm => by have := hk _ hm; omega⟩)

theorem do_spec {h : Heap} {B b rf rw b' fb wb : Nat} {d : DK} {o : OpP} {cs : List Value} (t : Two h B b rf rw b' fb wb d) (ha : d.acts ≤ 999998) (ro : OpRep B h o cs) :
    HCalls Try.prog 10 #[.pointer (some ⟨b, 0, none⟩), .pointer (some ⟨b', 0, none⟩), .agg cs.toArray] h fun e h' => e = .returned (.bool true) ∧ Two h' B b rf rw b' fb wb (step d o) ∧ OffS (six b rf rw b' fb wb) h h' := by
  have tlt := t.lt
  have tB := t.hB
  have sD := sepD t.sep
  have sR := sepR t.sep
  have ro0 := ro
  obtain ⟨hn, hbl, oa, oc, rfl, so⟩ := ro
  have hyl := OpP.bytes_len o hbl
  refine c10 (by simp) ?_
  ((conv=>whnf);repeat((first|(with_reducible first|refine Z1 ?_|refine Z2 ?_|refine Z3 ?_|refine Z4 ?_|refine Z5 ?_|refine Z9 (by assumption) rfl ?_|refine ZA (by assumption) rfl ?_|refine ZB (by assumption) rfl ?_|refine Z6 ?_|refine Z7 ?_|refine Z8 ?_)|((with_reducible refine ZM ?_ ?_);(focus rfl)));(conv=>whnf)))
  refine new_var (e := 33) [.int .i64 o.act, .int .i64 o.i, .int .i64 o.n, .slice oa o.b.length oc] rfl ?_
  intro h1 bo ob x1 z1 hbo
  have t1 := t.ext x1
  have hbo6 : ∀ u ∈ six b rf rw b' fb wb, u < bo := fun u hu => by have := tlt u hu; omega
  have boD : bo ∉ [b, rf, rw] := fun hm => by have := hbo6 bo (by simp only [List.mem_cons, List.not_mem_nil, or_false] at hm ⊢; grind); omega
  have boR : bo ∉ [b', fb, wb] := fun hm => by have := hbo6 bo (by simp only [List.mem_cons, List.not_mem_nil, or_false] at hm ⊢; grind); omega
  have ltD : ∀ u ∈ [b, rf, rw], u < h.size := fun u hu => tlt u (by simp only [List.mem_cons, List.not_mem_nil, or_false] at hu ⊢; grind)
  have ltR : ∀ u ∈ [b', fb, wb], u < h.size := fun u hu => tlt u (by simp only [List.mem_cons, List.not_mem_nil, or_false] at hu ⊢; grind)
  have loD : ∀ u ∈ [b, rf, rw], B ≤ u := fun u hu => t.lo u (by simp only [List.mem_cons, List.not_mem_nil, or_false] at hu ⊢; grind)
  have loR : ∀ u ∈ [b', fb, wb], B ≤ u := fun u hu => t.lo u (by simp only [List.mem_cons, List.not_mem_nil, or_false] at hu ⊢; grind)
  have hs1 := x1.1
  have r1 := ro0.agree (fun k hk => x1.2 k (by omega))
  ((conv=>whnf);repeat((first|(with_reducible first|refine Z2 ?_|refine Z3 ?_|refine Z4 ?_|refine Z5 ?_|refine Z9 (by assumption) rfl ?_|refine ZA (by assumption) rfl ?_|refine ZB (by assumption) rfl ?_|refine Z6 ?_|refine Z7 ?_|refine Z8 ?_)|((with_reducible refine ZM ?_ ?_);(focus rfl)));(conv=>whnf)))
  refine cut_rule [] (fun vs h' => vs = [] ∧ Two h' B b rf rw b' fb wb (step d o) ∧ OffS (six b rf rw b' fb wb) h h') rfl ?_ ?_
  · by_cases h01 : o.act = 0 ∨ o.act = 1
    · have est : step d o = (d.write o.i ⟨o.bytes.toArray⟩).2 := by unfold step; rw [if_pos h01]
      rw [est]
      rcases h01 with h0 | h0
      · have q0 : (o.act == 0) = true := beq_iff_eq.2 h0
        ((conv=>whnf);repeat((first|(with_reducible first|refine Z1 ?_|refine Z2 ?_|refine Z3 ?_|refine Z4 ?_|refine Z5 ?_|refine Z9 (by assumption) rfl ?_|refine ZA (by assumption) rfl ?_|refine ZB (by assumption) rfl ?_|refine Z6 ?_|refine Z7 ?_|refine Z8 ?_)|((with_reducible refine ZM ?_ ?_);(focus rfl)));(conv=>whnf)))
        refine HCall.mk ((bytes_spec r1).mono ?_)
        rintro e h2 ⟨a7, c7, rfl, w7, x2⟩
        have ob2 := ob.ext x2
        have t2 := t1.ext x2
        have hs2 := x2.1
        have w7lt := w7.lt
        ((conv=>whnf);repeat((first|(with_reducible first|refine Z1 ?_|refine Z2 ?_|refine Z3 ?_|refine Z4 ?_|refine Z5 ?_|refine Z9 (by assumption) rfl ?_|refine ZA (by assumption) rfl ?_|refine ZB (by assumption) rfl ?_|refine Z6 ?_|refine Z7 ?_|refine Z8 ?_)|((with_reducible refine ZM ?_ ?_);(focus rfl)));(conv=>whnf)))
        refine HCall.mk ((write_spec t2.d1 (by omega) o.i w7.sl (fun p ep => by have := w7lt p ep; exact ⟨fun hm => by have := ltD _ hm; omega, this.2⟩)).mono ?_)
        rintro e h3 ⟨rfl, d3, f3⟩
        have hs3 := f3.1
        have ob3 := BlkW.offS ob2 f3 boD
        have r3 := t2.r1.offS f3 sD.1 sD.2.1 sD.2.2
        have rr3 := ro0.agree (fun k hk => by rw [lowOff f3 loD (by omega) k hk, x2.2 k (by omega), x1.2 k (by omega)])
        have w73 := own_S w7 f3 (fun u hu => by have := ltD u hu; omega)
        clear ob ob2
        ((conv=>whnf);repeat((first|(with_reducible first|refine Z1 ?_|refine Z2 ?_|refine Z3 ?_|refine Z4 ?_|refine Z5 ?_|refine Z9 (by assumption) rfl ?_|refine ZA (by assumption) rfl ?_|refine ZB (by assumption) rfl ?_|refine Z6 ?_|refine Z7 ?_|refine Z8 ?_)|((with_reducible refine ZM ?_ ?_);(focus rfl)));(conv=>whnf)))
        refine HAlt.mk ?_ ?_
        all_goals
          ((conv=>whnf);repeat((first|(with_reducible first|refine Z1 ?_|refine Z2 ?_|refine Z3 ?_|refine Z4 ?_|refine Z5 ?_|refine Z9 (by assumption) rfl ?_|refine ZA (by assumption) rfl ?_|refine ZB (by assumption) rfl ?_|refine Z6 ?_|refine Z7 ?_|refine Z8 ?_)|((with_reducible refine ZM ?_ ?_);(focus rfl)));(conv=>whnf)))
          refine HCall.mk ((bytes_spec rr3).mono ?_)
          rintro e h4 ⟨a8, c8, rfl, w8, x4⟩
          have hs4 := x4.1
          have w8lt := w8.lt
          have ob4 := ob3.ext x4
          ((conv=>whnf);repeat((first|(with_reducible first|refine Z1 ?_|refine Z2 ?_|refine Z3 ?_|refine Z4 ?_|refine Z5 ?_|refine Z9 (by assumption) rfl ?_|refine ZA (by assumption) rfl ?_|refine ZB (by assumption) rfl ?_|refine Z6 ?_|refine Z7 ?_|refine Z8 ?_)|((with_reducible refine ZM ?_ ?_);(focus rfl)));(conv=>whnf)))
          refine HCall.mk ((rwrite_spec (r3.ext x4) (by omega) o.i w8.sl (fun p ep => by have := w8lt p ep; exact ⟨fun hm => by have := ltR _ hm; omega, this.2⟩)).mono ?_)
          rintro e h5 ⟨rfl, r5, f5⟩
          have hs5 := f5.1
          have ob5 := BlkW.offS ob4 f5 boR
          have d5 := (d3.ext x4).offS f5 sR.1 sR.2.1 sR.2.2
          have w75 := own_S (w73.ext x4) f5 (fun u hu => by have := ltR u hu; omega)
          have rr5 := ro0.agree (fun k hk => by rw [lowOff f5 loR (by omega) k hk, x4.2 k (by omega), lowOff f3 loD (by omega) k hk, x2.2 k (by omega), x1.2 k (by omega)])
          clear ob3 ob4
          ((conv=>whnf);repeat((first|(with_reducible first|refine Z1 ?_|refine Z2 ?_|refine Z3 ?_|refine Z4 ?_|refine Z5 ?_|refine Z9 (by assumption) rfl ?_|refine ZA (by assumption) rfl ?_|refine ZB (by assumption) rfl ?_|refine Z6 ?_|refine Z7 ?_|refine Z8 ?_)|((with_reducible refine ZM ?_ ?_);(focus rfl)));(conv=>whnf)))
          refine HCall.mk ((bytes_spec rr5).mono ?_)
          rintro e h6 ⟨a9, c9, rfl, w9, x6⟩
          have hs6 := x6.1
          ((conv=>whnf);repeat((first|(with_reducible first|refine Z1 ?_|refine Z2 ?_|refine Z3 ?_|refine Z4 ?_|refine Z5 ?_|refine Z9 (by assumption) rfl ?_|refine ZA (by assumption) rfl ?_|refine ZB (by assumption) rfl ?_|refine Z6 ?_|refine Z7 ?_|refine Z8 ?_)|((with_reducible refine ZM ?_ ?_);(focus rfl)));(conv=>whnf)))
          refine HCall.mk ((same2_spec (w75.ext x6).sl w9.sl).mono ?_)
          rintro e h6 ⟨rfl, rfl⟩
          rw [decide_eq_true (rfl : o.bytes = o.bytes)]
          have w76 := w75.ext x6
          have w76lt := w76.lt
          have fin6 : OffS (six b rf rw b' fb wb) h h6 := (OffS.of_ext (x1.trans x2)).trans ((wideD f3).trans ((OffS.of_ext x4).trans ((wideR f5).trans (OffS.of_ext x6))))
          have T6 : Two h6 B b rf rw b' fb wb (d.write o.i ⟨o.bytes.toArray⟩).2 := ⟨d5.ext x6, r5.ext x6, t.sep, t.lo⟩
          ((conv=>whnf);repeat((first|(with_reducible first|refine Z1 ?_|refine Z2 ?_|refine Z3 ?_|refine Z4 ?_|refine Z5 ?_|refine Z9 (by assumption) rfl ?_|refine ZA (by assumption) rfl ?_|refine ZB (by assumption) rfl ?_|refine Z6 ?_|refine Z7 ?_|refine Z8 ?_)|((with_reducible refine ZM ?_ ?_);(focus rfl)));(conv=>whnf)))
          refine loop_rule [42] (fun vs h' => ∃ (i : Nat) (ys : List Value), vs = [.int .i64 i] ∧ i ≤ o.bytes.length ∧ Own h' h1.size 5 1 a7 o.bytes.length c7 ys ∧ (∀ v ∈ ys, ∃ z : Int, v = .int .u8 z) ∧ h6.size ≤ h'.size ∧ (∀ k, k < h6.size → (∀ p, a7 = some p → p.block ≠ k) → h'[k]? = h6[k]?))
            (fun vs _ => match vs with | [.int _ i] => o.bytes.length - i.toNat | _ => 0) rfl ?_ ?_
          · exact ⟨0, _, rfl, by omega, w76, by intro v hv; obtain ⟨z, _, rfl⟩ := List.mem_map.1 hv; exact ⟨_, rfl⟩, Nat.le_refl _, fun _ _ _ => rfl⟩
          intro u h7 v42
          rintro ⟨i, ys, e, hi, wy, hys, hs7, ag⟩
          cases e
          have hyl2 : ys.length = o.bytes.length := by have := wy.1; omega
          ((conv=>whnf);repeat((first|(with_reducible first|refine Z1 ?_|refine Z2 ?_|refine Z3 ?_|refine Z4 ?_|refine Z5 ?_|refine Z9 (by assumption) rfl ?_|refine ZA (by assumption) rfl ?_|refine ZB (by assumption) rfl ?_|refine Z6 ?_|refine Z7 ?_|refine Z8 ?_)|((with_reducible refine ZM ?_ ?_);(focus rfl)));(conv=>whnf)))
          refine HIf.mk (fun hlt => ?_) (fun hlt => ?_)
          · have hi1 : i < o.bytes.length := by have := of_decide_eq_true hlt; omega
            have hmu : o.bytes.length - ((i : Int) + 1).toNat < o.bytes.length - ((i : Int)).toNat := by omega
            obtain ⟨z, hz⟩ := hys _ (List.getElem_mem (show i < ys.length by omega))
            ((conv=>whnf);repeat((first|(with_reducible first|refine Z1 ?_|refine Z2 ?_|refine Z3 ?_|refine Z4 ?_|refine Z5 ?_|refine Z9 (by assumption) rfl ?_|refine ZA (by assumption) rfl ?_|refine ZB (by assumption) rfl ?_|refine Z6 ?_|refine Z7 ?_|refine Z8 ?_)|((with_reducible refine ZM ?_ ?_);(focus rfl)));(conv=>whnf)))
            refine HIdx.mk i rfl hi1 ?_
            refine sl_some wy.sl hi1 fun p ep => ?_
            ((conv=>whnf);repeat((first|(with_reducible first|refine Z1 ?_|refine Z2 ?_|refine Z3 ?_|refine Z4 ?_|refine Z5 ?_|refine Z9 (by assumption) rfl ?_|refine ZA (by assumption) rfl ?_|refine ZB (by assumption) rfl ?_|refine Z6 ?_|refine Z7 ?_|refine Z8 ?_)|((with_reducible refine ZM ?_ ?_);(focus rfl)));(conv=>whnf)))
            refine wy.sl.load ep (by omega) ?_
            rw [hz]
            ((conv=>whnf);repeat((first|(with_reducible first|refine Z1 ?_|refine Z2 ?_|refine Z3 ?_|refine Z4 ?_|refine Z5 ?_|refine Z9 (by assumption) rfl ?_|refine ZA (by assumption) rfl ?_|refine ZB (by assumption) rfl ?_|refine Z6 ?_|refine Z7 ?_|refine Z8 ?_)|((with_reducible refine ZM ?_ ?_);(focus rfl)));(conv=>whnf)))
            refine HInt.mk _ rfl ?_
            ((conv=>whnf);repeat((first|(with_reducible first|refine Z1 ?_|refine Z2 ?_|refine Z3 ?_|refine Z4 ?_|refine Z5 ?_|refine Z9 (by assumption) rfl ?_|refine ZA (by assumption) rfl ?_|refine ZB (by assumption) rfl ?_|refine Z6 ?_|refine Z7 ?_|refine Z8 ?_)|((with_reducible refine ZM ?_ ?_);(focus rfl)));(conv=>whnf)))
            refine HIdx.mk i rfl hi1 ?_
            refine sl_some wy.sl hi1 fun p' ep' => ?_
            rw [ep] at ep'
            cases ep'
            ((conv=>whnf);repeat((first|(with_reducible first|refine Z1 ?_|refine Z2 ?_|refine Z3 ?_|refine Z4 ?_|refine Z5 ?_|refine Z9 (by assumption) rfl ?_|refine ZA (by assumption) rfl ?_|refine ZB (by assumption) rfl ?_|refine Z6 ?_|refine Z7 ?_|refine Z8 ?_)|((with_reducible refine ZM ?_ ?_);(focus rfl)));(conv=>whnf)))
            refine Own.store wy ep hi1 rfl ?_
            intro h8 f8 hge8 z8 w8'
            ((conv=>whnf);repeat((first|(with_reducible first|refine Z1 ?_|refine Z2 ?_|refine Z3 ?_|refine Z4 ?_|refine Z5 ?_|refine Z9 (by assumption) rfl ?_|refine ZA (by assumption) rfl ?_|refine ZB (by assumption) rfl ?_|refine Z6 ?_|refine Z7 ?_|refine Z8 ?_)|((with_reducible refine ZM ?_ ?_);(focus rfl)));(conv=>whnf)))
            refine ⟨⟨i + 1, _, rfl, by omega, w8', ?_, by omega, ?_⟩, hmu⟩
            · intro v hv
              rcases List.mem_or_eq_of_mem_set hv with hv | hv
              · exact hys v hv
              · exact ⟨_, hv⟩
            · intro k hk hnk
              rw [f8.2 k (by omega) (fun e => hnk p ep e.symm), ag k hk hnk]
          · have qe : ((d.write o.i ⟨o.bytes.toArray⟩).1 == (d.write o.i ⟨o.bytes.toArray⟩).1) = true := beq_self_eq_true _
            have o7 : OffS [] h6 h7 ∨ True := .inr trivial
            have keep : ∀ k, k < h6.size → k < h1.size → h7[k]? = h6[k]? := fun k hk hk1 => ag k hk (fun p ep => by have := w76lt p ep; omega)
            have x67 : ∀ k, k < h.size → h7[k]? = h6[k]? := fun k hk => keep k (by omega) (by omega)
            ((conv=>whnf);repeat((first|(with_reducible first|refine Z1 ?_|refine Z2 ?_|refine Z3 ?_|refine Z4 ?_|refine Z5 ?_|refine Z9 (by assumption) rfl ?_|refine ZA (by assumption) rfl ?_|refine ZB (by assumption) rfl ?_|refine Z6 ?_|refine Z7 ?_|refine Z8 ?_)|((with_reducible refine ZM ?_ ?_);(focus rfl)));(conv=>whnf)))
            refine ⟨rfl, ?_, ?_⟩
            · have hD : OffS (List.map (fun p : Addr => p.block) a7.toList) h6 h7 := ⟨hs7, fun k hk hn => ag k hk (fun p ep => by rintro rfl; exact hn (by rw [ep]; simp))⟩
              have nd : ∀ u ∈ six b rf rw b' fb wb, u ∉ List.map (fun p : Addr => p.block) a7.toList := by
                intro u hu hm
                obtain ⟨p, hp, rfl⟩ := List.mem_map.1 hm
                have := w76lt p (by simpa using hp)
                have := tlt _ hu
                omega
              exact ⟨T6.d1.offS hD (nd b (by simp)) (nd rf (by simp)) (nd rw (by simp)), T6.r1.offS hD (nd b' (by simp)) (nd fb (by simp)) (nd wb (by simp)), t.sep, t.lo⟩
            · exact ⟨by have := fin6.1; omega, fun k hk hn => by rw [x67 k hk, fin6.2 k hk hn]⟩
      · have q0 : (o.act == 0) = false := beq_eq_false_iff_ne.2 (by omega)
        have q1 : (o.act == 1) = true := beq_iff_eq.2 h0
        ((conv=>whnf);repeat((first|(with_reducible first|refine Z1 ?_|refine Z2 ?_|refine Z3 ?_|refine Z4 ?_|refine Z5 ?_|refine Z9 (by assumption) rfl ?_|refine ZA (by assumption) rfl ?_|refine ZB (by assumption) rfl ?_|refine Z6 ?_|refine Z7 ?_|refine Z8 ?_)|((with_reducible refine ZM ?_ ?_);(focus rfl)));(conv=>whnf)))
        refine HCall.mk ((bytes_spec r1).mono ?_)
        rintro e h2 ⟨a7, c7, rfl, w7, x2⟩
        have ob2 := ob.ext x2
        have t2 := t1.ext x2
        have hs2 := x2.1
        have w7lt := w7.lt
        ((conv=>whnf);repeat((first|(with_reducible first|refine Z1 ?_|refine Z2 ?_|refine Z3 ?_|refine Z4 ?_|refine Z5 ?_|refine Z9 (by assumption) rfl ?_|refine ZA (by assumption) rfl ?_|refine ZB (by assumption) rfl ?_|refine Z6 ?_|refine Z7 ?_|refine Z8 ?_)|((with_reducible refine ZM ?_ ?_);(focus rfl)));(conv=>whnf)))
        refine HCall.mk ((write_spec t2.d1 (by omega) o.i w7.sl (fun p ep => by have := w7lt p ep; exact ⟨fun hm => by have := ltD _ hm; omega, this.2⟩)).mono ?_)
        rintro e h3 ⟨rfl, d3, f3⟩
        have hs3 := f3.1
        have ob3 := BlkW.offS ob2 f3 boD
        have r3 := t2.r1.offS f3 sD.1 sD.2.1 sD.2.2
        have rr3 := ro0.agree (fun k hk => by rw [lowOff f3 loD (by omega) k hk, x2.2 k (by omega), x1.2 k (by omega)])
        have w73 := own_S w7 f3 (fun u hu => by have := ltD u hu; omega)
        clear ob ob2
        ((conv=>whnf);repeat((first|(with_reducible first|refine Z1 ?_|refine Z2 ?_|refine Z3 ?_|refine Z4 ?_|refine Z5 ?_|refine Z9 (by assumption) rfl ?_|refine ZA (by assumption) rfl ?_|refine ZB (by assumption) rfl ?_|refine Z6 ?_|refine Z7 ?_|refine Z8 ?_)|((with_reducible refine ZM ?_ ?_);(focus rfl)));(conv=>whnf)))
        refine HAlt.mk ?_ ?_
        all_goals
          ((conv=>whnf);repeat((first|(with_reducible first|refine Z1 ?_|refine Z2 ?_|refine Z3 ?_|refine Z4 ?_|refine Z5 ?_|refine Z9 (by assumption) rfl ?_|refine ZA (by assumption) rfl ?_|refine ZB (by assumption) rfl ?_|refine Z6 ?_|refine Z7 ?_|refine Z8 ?_)|((with_reducible refine ZM ?_ ?_);(focus rfl)));(conv=>whnf)))
          refine HCall.mk ((bytes_spec rr3).mono ?_)
          rintro e h4 ⟨a8, c8, rfl, w8, x4⟩
          have hs4 := x4.1
          have w8lt := w8.lt
          have ob4 := ob3.ext x4
          ((conv=>whnf);repeat((first|(with_reducible first|refine Z1 ?_|refine Z2 ?_|refine Z3 ?_|refine Z4 ?_|refine Z5 ?_|refine Z9 (by assumption) rfl ?_|refine ZA (by assumption) rfl ?_|refine ZB (by assumption) rfl ?_|refine Z6 ?_|refine Z7 ?_|refine Z8 ?_)|((with_reducible refine ZM ?_ ?_);(focus rfl)));(conv=>whnf)))
          refine HCall.mk ((rwrite_spec (r3.ext x4) (by omega) o.i w8.sl (fun p ep => by have := w8lt p ep; exact ⟨fun hm => by have := ltR _ hm; omega, this.2⟩)).mono ?_)
          rintro e h5 ⟨rfl, r5, f5⟩
          have hs5 := f5.1
          have ob5 := BlkW.offS ob4 f5 boR
          have d5 := (d3.ext x4).offS f5 sR.1 sR.2.1 sR.2.2
          have w75 := own_S (w73.ext x4) f5 (fun u hu => by have := ltR u hu; omega)
          have rr5 := ro0.agree (fun k hk => by rw [lowOff f5 loR (by omega) k hk, x4.2 k (by omega), lowOff f3 loD (by omega) k hk, x2.2 k (by omega), x1.2 k (by omega)])
          clear ob3 ob4
          ((conv=>whnf);repeat((first|(with_reducible first|refine Z1 ?_|refine Z2 ?_|refine Z3 ?_|refine Z4 ?_|refine Z5 ?_|refine Z9 (by assumption) rfl ?_|refine ZA (by assumption) rfl ?_|refine ZB (by assumption) rfl ?_|refine Z6 ?_|refine Z7 ?_|refine Z8 ?_)|((with_reducible refine ZM ?_ ?_);(focus rfl)));(conv=>whnf)))
          refine HCall.mk ((bytes_spec rr5).mono ?_)
          rintro e h6 ⟨a9, c9, rfl, w9, x6⟩
          have hs6 := x6.1
          ((conv=>whnf);repeat((first|(with_reducible first|refine Z1 ?_|refine Z2 ?_|refine Z3 ?_|refine Z4 ?_|refine Z5 ?_|refine Z9 (by assumption) rfl ?_|refine ZA (by assumption) rfl ?_|refine ZB (by assumption) rfl ?_|refine Z6 ?_|refine Z7 ?_|refine Z8 ?_)|((with_reducible refine ZM ?_ ?_);(focus rfl)));(conv=>whnf)))
          refine HCall.mk ((same2_spec (w75.ext x6).sl w9.sl).mono ?_)
          rintro e h6 ⟨rfl, rfl⟩
          rw [decide_eq_true (rfl : o.bytes = o.bytes)]
          have w76 := w75.ext x6
          have w76lt := w76.lt
          have fin6 : OffS (six b rf rw b' fb wb) h h6 := (OffS.of_ext (x1.trans x2)).trans ((wideD f3).trans ((OffS.of_ext x4).trans ((wideR f5).trans (OffS.of_ext x6))))
          have T6 : Two h6 B b rf rw b' fb wb (d.write o.i ⟨o.bytes.toArray⟩).2 := ⟨d5.ext x6, r5.ext x6, t.sep, t.lo⟩
          ((conv=>whnf);repeat((first|(with_reducible first|refine Z1 ?_|refine Z2 ?_|refine Z3 ?_|refine Z4 ?_|refine Z5 ?_|refine Z9 (by assumption) rfl ?_|refine ZA (by assumption) rfl ?_|refine ZB (by assumption) rfl ?_|refine Z6 ?_|refine Z7 ?_|refine Z8 ?_)|((with_reducible refine ZM ?_ ?_);(focus rfl)));(conv=>whnf)))
          refine loop_rule [42] (fun vs h' => ∃ (i : Nat) (ys : List Value), vs = [.int .i64 i] ∧ i ≤ o.bytes.length ∧ Own h' h1.size 5 1 a7 o.bytes.length c7 ys ∧ (∀ v ∈ ys, ∃ z : Int, v = .int .u8 z) ∧ h6.size ≤ h'.size ∧ (∀ k, k < h6.size → (∀ p, a7 = some p → p.block ≠ k) → h'[k]? = h6[k]?))
            (fun vs _ => match vs with | [.int _ i] => o.bytes.length - i.toNat | _ => 0) rfl ?_ ?_
          · exact ⟨0, _, rfl, by omega, w76, by intro v hv; obtain ⟨z, _, rfl⟩ := List.mem_map.1 hv; exact ⟨_, rfl⟩, Nat.le_refl _, fun _ _ _ => rfl⟩
          intro u h7 v42
          rintro ⟨i, ys, e, hi, wy, hys, hs7, ag⟩
          cases e
          have hyl2 : ys.length = o.bytes.length := by have := wy.1; omega
          ((conv=>whnf);repeat((first|(with_reducible first|refine Z1 ?_|refine Z2 ?_|refine Z3 ?_|refine Z4 ?_|refine Z5 ?_|refine Z9 (by assumption) rfl ?_|refine ZA (by assumption) rfl ?_|refine ZB (by assumption) rfl ?_|refine Z6 ?_|refine Z7 ?_|refine Z8 ?_)|((with_reducible refine ZM ?_ ?_);(focus rfl)));(conv=>whnf)))
          refine HIf.mk (fun hlt => ?_) (fun hlt => ?_)
          · have hi1 : i < o.bytes.length := by have := of_decide_eq_true hlt; omega
            have hmu : o.bytes.length - ((i : Int) + 1).toNat < o.bytes.length - ((i : Int)).toNat := by omega
            obtain ⟨z, hz⟩ := hys _ (List.getElem_mem (show i < ys.length by omega))
            ((conv=>whnf);repeat((first|(with_reducible first|refine Z1 ?_|refine Z2 ?_|refine Z3 ?_|refine Z4 ?_|refine Z5 ?_|refine Z9 (by assumption) rfl ?_|refine ZA (by assumption) rfl ?_|refine ZB (by assumption) rfl ?_|refine Z6 ?_|refine Z7 ?_|refine Z8 ?_)|((with_reducible refine ZM ?_ ?_);(focus rfl)));(conv=>whnf)))
            refine HIdx.mk i rfl hi1 ?_
            refine sl_some wy.sl hi1 fun p ep => ?_
            ((conv=>whnf);repeat((first|(with_reducible first|refine Z1 ?_|refine Z2 ?_|refine Z3 ?_|refine Z4 ?_|refine Z5 ?_|refine Z9 (by assumption) rfl ?_|refine ZA (by assumption) rfl ?_|refine ZB (by assumption) rfl ?_|refine Z6 ?_|refine Z7 ?_|refine Z8 ?_)|((with_reducible refine ZM ?_ ?_);(focus rfl)));(conv=>whnf)))
            refine wy.sl.load ep (by omega) ?_
            rw [hz]
            ((conv=>whnf);repeat((first|(with_reducible first|refine Z1 ?_|refine Z2 ?_|refine Z3 ?_|refine Z4 ?_|refine Z5 ?_|refine Z9 (by assumption) rfl ?_|refine ZA (by assumption) rfl ?_|refine ZB (by assumption) rfl ?_|refine Z6 ?_|refine Z7 ?_|refine Z8 ?_)|((with_reducible refine ZM ?_ ?_);(focus rfl)));(conv=>whnf)))
            refine HInt.mk _ rfl ?_
            ((conv=>whnf);repeat((first|(with_reducible first|refine Z1 ?_|refine Z2 ?_|refine Z3 ?_|refine Z4 ?_|refine Z5 ?_|refine Z9 (by assumption) rfl ?_|refine ZA (by assumption) rfl ?_|refine ZB (by assumption) rfl ?_|refine Z6 ?_|refine Z7 ?_|refine Z8 ?_)|((with_reducible refine ZM ?_ ?_);(focus rfl)));(conv=>whnf)))
            refine HIdx.mk i rfl hi1 ?_
            refine sl_some wy.sl hi1 fun p' ep' => ?_
            rw [ep] at ep'
            cases ep'
            ((conv=>whnf);repeat((first|(with_reducible first|refine Z1 ?_|refine Z2 ?_|refine Z3 ?_|refine Z4 ?_|refine Z5 ?_|refine Z9 (by assumption) rfl ?_|refine ZA (by assumption) rfl ?_|refine ZB (by assumption) rfl ?_|refine Z6 ?_|refine Z7 ?_|refine Z8 ?_)|((with_reducible refine ZM ?_ ?_);(focus rfl)));(conv=>whnf)))
            refine Own.store wy ep hi1 rfl ?_
            intro h8 f8 hge8 z8 w8'
            ((conv=>whnf);repeat((first|(with_reducible first|refine Z1 ?_|refine Z2 ?_|refine Z3 ?_|refine Z4 ?_|refine Z5 ?_|refine Z9 (by assumption) rfl ?_|refine ZA (by assumption) rfl ?_|refine ZB (by assumption) rfl ?_|refine Z6 ?_|refine Z7 ?_|refine Z8 ?_)|((with_reducible refine ZM ?_ ?_);(focus rfl)));(conv=>whnf)))
            refine ⟨⟨i + 1, _, rfl, by omega, w8', ?_, by omega, ?_⟩, hmu⟩
            · intro v hv
              rcases List.mem_or_eq_of_mem_set hv with hv | hv
              · exact hys v hv
              · exact ⟨_, hv⟩
            · intro k hk hnk
              rw [f8.2 k (by omega) (fun e => hnk p ep e.symm), ag k hk hnk]
          · have qe : ((d.write o.i ⟨o.bytes.toArray⟩).1 == (d.write o.i ⟨o.bytes.toArray⟩).1) = true := beq_self_eq_true _
            have o7 : OffS [] h6 h7 ∨ True := .inr trivial
            have keep : ∀ k, k < h6.size → k < h1.size → h7[k]? = h6[k]? := fun k hk hk1 => ag k hk (fun p ep => by have := w76lt p ep; omega)
            have x67 : ∀ k, k < h.size → h7[k]? = h6[k]? := fun k hk => keep k (by omega) (by omega)
            ((conv=>whnf);repeat((first|(with_reducible first|refine Z1 ?_|refine Z2 ?_|refine Z3 ?_|refine Z4 ?_|refine Z5 ?_|refine Z9 (by assumption) rfl ?_|refine ZA (by assumption) rfl ?_|refine ZB (by assumption) rfl ?_|refine Z6 ?_|refine Z7 ?_|refine Z8 ?_)|((with_reducible refine ZM ?_ ?_);(focus rfl)));(conv=>whnf)))
            refine ⟨rfl, ?_, ?_⟩
            · have hD : OffS (List.map (fun p : Addr => p.block) a7.toList) h6 h7 := ⟨hs7, fun k hk hn => ag k hk (fun p ep => by rintro rfl; exact hn (by rw [ep]; simp))⟩
              have nd : ∀ u ∈ six b rf rw b' fb wb, u ∉ List.map (fun p : Addr => p.block) a7.toList := by
                intro u hu hm
                obtain ⟨p, hp, rfl⟩ := List.mem_map.1 hm
                have := w76lt p (by simpa using hp)
                have := tlt _ hu
                omega
              exact ⟨T6.d1.offS hD (nd b (by simp)) (nd rf (by simp)) (nd rw (by simp)), T6.r1.offS hD (nd b' (by simp)) (nd fb (by simp)) (nd wb (by simp)), t.sep, t.lo⟩
            · exact ⟨by have := fin6.1; omega, fun k hk hn => by rw [x67 k hk, fin6.2 k hk hn]⟩
    have h0n : (o.act == 0) = false := beq_eq_false_iff_ne.2 (by omega)
    have h1n : (o.act == 1) = false := beq_eq_false_iff_ne.2 (by omega)
    by_cases h2' : o.act = 2
    · have est : step d o = d.flush.2 := by unfold step; rw [if_neg h01, if_pos h2']
      have q2 : (o.act == 2) = true := beq_iff_eq.2 h2'
      rw [est]
      ((conv=>whnf);repeat((first|(with_reducible first|refine Z1 ?_|refine Z2 ?_|refine Z3 ?_|refine Z4 ?_|refine Z5 ?_|refine Z9 (by assumption) rfl ?_|refine ZA (by assumption) rfl ?_|refine ZB (by assumption) rfl ?_|refine Z6 ?_|refine Z7 ?_|refine Z8 ?_)|((with_reducible refine ZM ?_ ?_);(focus rfl)));(conv=>whnf)))
      refine HCall.mk ((flush_spec t1.d1 (by omega)).mono ?_)
      rintro e h3 ⟨rfl, d3, f3⟩
      have r3 := t1.r1.offS f3 sD.1 sD.2.1 sD.2.2
      ((conv=>whnf);repeat((first|(with_reducible first|refine Z1 ?_|refine Z2 ?_|refine Z3 ?_|refine Z4 ?_|refine Z5 ?_|refine Z9 (by assumption) rfl ?_|refine ZA (by assumption) rfl ?_|refine ZB (by assumption) rfl ?_|refine Z6 ?_|refine Z7 ?_|refine Z8 ?_)|((with_reducible refine ZM ?_ ?_);(focus rfl)));(conv=>whnf)))
      refine HCall.mk ((rflush_spec r3 (by omega)).mono ?_)
      rintro e h5 ⟨rfl, r5, f5⟩
      ((conv=>whnf);repeat((first|(with_reducible first|refine Z1 ?_|refine Z2 ?_|refine Z3 ?_|refine Z4 ?_|refine Z5 ?_|refine Z9 (by assumption) rfl ?_|refine ZA (by assumption) rfl ?_|refine ZB (by assumption) rfl ?_|refine Z6 ?_|refine Z7 ?_|refine Z8 ?_)|((with_reducible refine ZM ?_ ?_);(focus rfl)));(conv=>whnf)))
      refine ⟨?_, ⟨d3.offS f5 sR.1 sR.2.1 sR.2.2, r5, t.sep, t.lo⟩, (OffS.of_ext x1).trans ((wideD f3).trans (wideR f5))⟩
      show Ending.returned (.bool (d.flush.1 == d.flush.1)) = _
      rw [beq_self_eq_true]
    have h2n : (o.act == 2) = false := beq_eq_false_iff_ne.2 h2'
    by_cases h3' : o.act = 3
    · have est : step d o = d := by unfold step; rw [if_neg h01, if_neg h2', if_pos h3']
      have q3 : (o.act == 3) = true := beq_iff_eq.2 h3'
      rw [est]
      ((conv=>whnf);repeat((first|(with_reducible first|refine Z1 ?_|refine Z2 ?_|refine Z3 ?_|refine Z4 ?_|refine Z5 ?_|refine Z9 (by assumption) rfl ?_|refine ZA (by assumption) rfl ?_|refine ZB (by assumption) rfl ?_|refine Z6 ?_|refine Z7 ?_|refine Z8 ?_)|((with_reducible refine ZM ?_ ?_);(focus rfl)));(conv=>whnf)))
      refine HCall.mk ((read_spec t1.d1 o.i).mono ?_)
      rintro e h3 ⟨a7, c7, rfl, w7, x3⟩
      have hs3 := x3.1
      have ob3 := ob.ext x3
      have t3 := t1.ext x3
      clear ob
      ((conv=>whnf);repeat((first|(with_reducible first|refine Z1 ?_|refine Z2 ?_|refine Z3 ?_|refine Z4 ?_|refine Z5 ?_|refine Z9 (by assumption) rfl ?_|refine ZA (by assumption) rfl ?_|refine ZB (by assumption) rfl ?_|refine Z6 ?_|refine Z7 ?_|refine Z8 ?_)|((with_reducible refine ZM ?_ ?_);(focus rfl)));(conv=>whnf)))
      refine HCall.mk ((rread_spec t3.r1 o.i).mono ?_)
      rintro e h5 ⟨a8, c8, rfl, w8, x5⟩
      have hs5 := x5.1
      ((conv=>whnf);repeat((first|(with_reducible first|refine Z1 ?_|refine Z2 ?_|refine Z3 ?_|refine Z4 ?_|refine Z5 ?_|refine Z9 (by assumption) rfl ?_|refine ZA (by assumption) rfl ?_|refine ZB (by assumption) rfl ?_|refine Z6 ?_|refine Z7 ?_|refine Z8 ?_)|((with_reducible refine ZM ?_ ?_);(focus rfl)));(conv=>whnf)))
      refine HCall.mk ((same2_spec (w7.ext x5).sl w8.sl).mono ?_)
      rintro e h6 ⟨rfl, rfl⟩
      rw [decide_eq_true (rfl : d.told o.i = d.told o.i)]
      have w76 := w7.ext x5
      have w76lt := w76.lt
      have fin6 : OffS (six b rf rw b' fb wb) h h6 := OffS.of_ext (x1.trans (x3.trans x5))
      have T6 : Two h6 B b rf rw b' fb wb d := t3.ext x5
      have htl : (d.told o.i).length ≤ 4096 := by
        unfold DK.told
        split
        · rw [DK.sec_len t.d1.ok]; exact Nat.le_refl _
        · simp
      ((conv=>whnf);repeat((first|(with_reducible first|refine Z1 ?_|refine Z2 ?_|refine Z3 ?_|refine Z4 ?_|refine Z5 ?_|refine Z9 (by assumption) rfl ?_|refine ZA (by assumption) rfl ?_|refine ZB (by assumption) rfl ?_|refine Z6 ?_|refine Z7 ?_|refine Z8 ?_)|((with_reducible refine ZM ?_ ?_);(focus rfl)));(conv=>whnf)))
      refine loop_rule [86] (fun vs h' => ∃ (i : Nat) (ys : List Value), vs = [.int .i64 i] ∧ i ≤ (d.told o.i).length ∧ Own h' h1.size 5 1 a7 (d.told o.i).length c7 ys ∧ (∀ v ∈ ys, ∃ z : Int, v = .int .u8 z) ∧ h6.size ≤ h'.size ∧ (∀ k, k < h6.size → (∀ p, a7 = some p → p.block ≠ k) → h'[k]? = h6[k]?))
        (fun vs _ => match vs with | [.int _ i] => (d.told o.i).length - i.toNat | _ => 0) rfl ?_ ?_
      · exact ⟨0, _, rfl, by omega, w76, by intro v hv; obtain ⟨z, _, rfl⟩ := List.mem_map.1 hv; exact ⟨_, rfl⟩, Nat.le_refl _, fun _ _ _ => rfl⟩
      intro u h7 v86
      rintro ⟨i, ys, e, hi, wy, hys, hs7, ag⟩
      cases e
      have hyl2 : ys.length = (d.told o.i).length := by have := wy.1; omega
      ((conv=>whnf);repeat((first|(with_reducible first|refine Z1 ?_|refine Z2 ?_|refine Z3 ?_|refine Z4 ?_|refine Z5 ?_|refine Z9 (by assumption) rfl ?_|refine ZA (by assumption) rfl ?_|refine ZB (by assumption) rfl ?_|refine Z6 ?_|refine Z7 ?_|refine Z8 ?_)|((with_reducible refine ZM ?_ ?_);(focus rfl)));(conv=>whnf)))
      refine HIf.mk (fun hlt => ?_) (fun hlt => ?_)
      · have hi1 : i < (d.told o.i).length := by have := of_decide_eq_true hlt; omega
        have hmu : (d.told o.i).length - ((i : Int) + 1).toNat < (d.told o.i).length - ((i : Int)).toNat := by omega
        obtain ⟨z, hz⟩ := hys _ (List.getElem_mem (show i < ys.length by omega))
        ((conv=>whnf);repeat((first|(with_reducible first|refine Z1 ?_|refine Z2 ?_|refine Z3 ?_|refine Z4 ?_|refine Z5 ?_|refine Z9 (by assumption) rfl ?_|refine ZA (by assumption) rfl ?_|refine ZB (by assumption) rfl ?_|refine Z6 ?_|refine Z7 ?_|refine Z8 ?_)|((with_reducible refine ZM ?_ ?_);(focus rfl)));(conv=>whnf)))
        refine HIdx.mk i rfl hi1 ?_
        refine sl_some wy.sl hi1 fun p ep => ?_
        ((conv=>whnf);repeat((first|(with_reducible first|refine Z1 ?_|refine Z2 ?_|refine Z3 ?_|refine Z4 ?_|refine Z5 ?_|refine Z9 (by assumption) rfl ?_|refine ZA (by assumption) rfl ?_|refine ZB (by assumption) rfl ?_|refine Z6 ?_|refine Z7 ?_|refine Z8 ?_)|((with_reducible refine ZM ?_ ?_);(focus rfl)));(conv=>whnf)))
        refine wy.sl.load ep (by omega) ?_
        rw [hz]
        ((conv=>whnf);repeat((first|(with_reducible first|refine Z1 ?_|refine Z2 ?_|refine Z3 ?_|refine Z4 ?_|refine Z5 ?_|refine Z9 (by assumption) rfl ?_|refine ZA (by assumption) rfl ?_|refine ZB (by assumption) rfl ?_|refine Z6 ?_|refine Z7 ?_|refine Z8 ?_)|((with_reducible refine ZM ?_ ?_);(focus rfl)));(conv=>whnf)))
        refine HInt.mk _ rfl ?_
        ((conv=>whnf);repeat((first|(with_reducible first|refine Z1 ?_|refine Z2 ?_|refine Z3 ?_|refine Z4 ?_|refine Z5 ?_|refine Z9 (by assumption) rfl ?_|refine ZA (by assumption) rfl ?_|refine ZB (by assumption) rfl ?_|refine Z6 ?_|refine Z7 ?_|refine Z8 ?_)|((with_reducible refine ZM ?_ ?_);(focus rfl)));(conv=>whnf)))
        refine HIdx.mk i rfl hi1 ?_
        refine sl_some wy.sl hi1 fun p' ep' => ?_
        rw [ep] at ep'
        cases ep'
        ((conv=>whnf);repeat((first|(with_reducible first|refine Z1 ?_|refine Z2 ?_|refine Z3 ?_|refine Z4 ?_|refine Z5 ?_|refine Z9 (by assumption) rfl ?_|refine ZA (by assumption) rfl ?_|refine ZB (by assumption) rfl ?_|refine Z6 ?_|refine Z7 ?_|refine Z8 ?_)|((with_reducible refine ZM ?_ ?_);(focus rfl)));(conv=>whnf)))
        refine Own.store wy ep hi1 rfl ?_
        intro h8 f8 hge8 z8 w8'
        ((conv=>whnf);repeat((first|(with_reducible first|refine Z1 ?_|refine Z2 ?_|refine Z3 ?_|refine Z4 ?_|refine Z5 ?_|refine Z9 (by assumption) rfl ?_|refine ZA (by assumption) rfl ?_|refine ZB (by assumption) rfl ?_|refine Z6 ?_|refine Z7 ?_|refine Z8 ?_)|((with_reducible refine ZM ?_ ?_);(focus rfl)));(conv=>whnf)))
        refine ⟨⟨i + 1, _, rfl, by omega, w8', ?_, by omega, ?_⟩, hmu⟩
        · intro v hv
          rcases List.mem_or_eq_of_mem_set hv with hv | hv
          · exact hys v hv
          · exact ⟨_, hv⟩
        · intro k hk hnk
          rw [f8.2 k (by omega) (fun e => hnk p ep e.symm), ag k hk hnk]
      · have qe : (d.refused o.i == d.refused o.i) = true := beq_self_eq_true _
        have x67 : ∀ k, k < h.size → h7[k]? = h6[k]? := fun k hk => ag k (by omega) (fun p ep => by have := w76lt p ep; omega)
        ((conv=>whnf);repeat((first|(with_reducible first|refine Z1 ?_|refine Z2 ?_|refine Z3 ?_|refine Z4 ?_|refine Z5 ?_|refine Z9 (by assumption) rfl ?_|refine ZA (by assumption) rfl ?_|refine ZB (by assumption) rfl ?_|refine Z6 ?_|refine Z7 ?_|refine Z8 ?_)|((with_reducible refine ZM ?_ ?_);(focus rfl)));(conv=>whnf)))
        refine ⟨rfl, ?_, ?_⟩
        · have hD : OffS (List.map (fun p : Addr => p.block) a7.toList) h6 h7 := ⟨hs7, fun k hk hn => ag k hk (fun p ep => by rintro rfl; exact hn (by rw [ep]; simp))⟩
          have nd : ∀ u ∈ six b rf rw b' fb wb, u ∉ List.map (fun p : Addr => p.block) a7.toList := by
            intro u hu hm
            obtain ⟨p, hp, rfl⟩ := List.mem_map.1 hm
            have := w76lt p (by simpa using hp)
            have := tlt _ hu
            omega
          exact ⟨T6.d1.offS hD (nd b (by simp)) (nd rf (by simp)) (nd rw (by simp)), T6.r1.offS hD (nd b' (by simp)) (nd fb (by simp)) (nd wb (by simp)), t.sep, t.lo⟩
        · exact ⟨by have := fin6.1; omega, fun k hk hn => by rw [x67 k hk, fin6.2 k hk hn]⟩
    have h3n : (o.act == 3) = false := beq_eq_false_iff_ne.2 h3'
    by_cases h4' : o.act = 4
    · have est : step d o = d.fused o.n := by unfold step; rw [if_neg h01, if_neg h2', if_neg h3', if_pos h4']
      have q4 : (o.act == 4) = true := beq_iff_eq.2 h4'
      rw [est]
      ((conv=>whnf);repeat((first|(with_reducible first|refine Z1 ?_|refine Z2 ?_|refine Z3 ?_|refine Z4 ?_|refine Z5 ?_|refine Z9 (by assumption) rfl ?_|refine ZA (by assumption) rfl ?_|refine ZB (by assumption) rfl ?_|refine Z6 ?_|refine Z7 ?_|refine Z8 ?_)|((with_reducible refine ZM ?_ ?_);(focus rfl)));(conv=>whnf)))
      refine HCall.mk ((fuse_spec t1.d1 o.n hn.2).mono ?_)
      rintro e h3 ⟨rfl, d3, f3⟩
      have r3 := t1.r1.offS f3 sD.1 sD.2.1 sD.2.2
      have ob3 := BlkW.offS ob f3 boD
      clear ob
      ((conv=>whnf);repeat((first|(with_reducible first|refine Z1 ?_|refine Z2 ?_|refine Z3 ?_|refine Z4 ?_|refine Z5 ?_|refine Z9 (by assumption) rfl ?_|refine ZA (by assumption) rfl ?_|refine ZB (by assumption) rfl ?_|refine Z6 ?_|refine Z7 ?_|refine Z8 ?_)|((with_reducible refine ZM ?_ ?_);(focus rfl)));(conv=>whnf)))
      refine HCall.mk ((rfuse_spec r3 o.n hn.2).mono ?_)
      rintro e h5 ⟨rfl, r5, f5⟩
      ((conv=>whnf);repeat((first|(with_reducible first|refine Z1 ?_|refine Z2 ?_|refine Z3 ?_|refine Z4 ?_|refine Z5 ?_|refine Z9 (by assumption) rfl ?_|refine ZA (by assumption) rfl ?_|refine ZB (by assumption) rfl ?_|refine Z6 ?_|refine Z7 ?_|refine Z8 ?_)|((with_reducible refine ZM ?_ ?_);(focus rfl)));(conv=>whnf)))
      exact ⟨rfl, ⟨d3.offS f5 sR.1 sR.2.1 sR.2.2, r5, t.sep, t.lo⟩, (OffS.of_ext x1).trans ((wideD f3).trans (wideR f5))⟩
    have h4n : (o.act == 4) = false := beq_eq_false_iff_ne.2 h4'
    by_cases h5' : o.act = 5
    · have est : step d o = d.cut o.b := by unfold step; rw [if_neg h01, if_neg h2', if_neg h3', if_neg h4', if_pos h5']
      have q5 : (o.act == 5) = true := beq_iff_eq.2 h5'
      rw [est]
      ((conv=>whnf);repeat((first|(with_reducible first|refine Z1 ?_|refine Z2 ?_|refine Z3 ?_|refine Z4 ?_|refine Z5 ?_|refine Z9 (by assumption) rfl ?_|refine ZA (by assumption) rfl ?_|refine ZB (by assumption) rfl ?_|refine Z6 ?_|refine Z7 ?_|refine Z8 ?_)|((with_reducible refine ZM ?_ ?_);(focus rfl)));(conv=>whnf)))
      refine HCall.mk ((cut_spec t1.d1 (fun h' k => so h' (fun q hq => by rw [k q (by omega) (fun hm => by have := loD _ hm; omega), x1.2 q (by omega)])) (by omega)).mono ?_)
      rintro e h3 ⟨rfl, d3, f3⟩
      have r3 := t1.r1.offS f3 sD.1 sD.2.1 sD.2.2
      have ob3 := BlkW.offS ob f3 boD
      have hs3 := f3.1
      clear ob
      ((conv=>whnf);repeat((first|(with_reducible first|refine Z1 ?_|refine Z2 ?_|refine Z3 ?_|refine Z4 ?_|refine Z5 ?_|refine Z9 (by assumption) rfl ?_|refine ZA (by assumption) rfl ?_|refine ZB (by assumption) rfl ?_|refine Z6 ?_|refine Z7 ?_|refine Z8 ?_)|((with_reducible refine ZM ?_ ?_);(focus rfl)));(conv=>whnf)))
      refine HCall.mk ((rcut_spec r3 (fun h' k => so h' (fun q hq => by rw [k q (by omega) (fun hm => by have := loR _ hm; omega), lowOff f3 loD (by omega) q hq, x1.2 q (by omega)])) (by omega)).mono ?_)
      rintro e h5 ⟨rfl, r5, f5⟩
      ((conv=>whnf);repeat((first|(with_reducible first|refine Z1 ?_|refine Z2 ?_|refine Z3 ?_|refine Z4 ?_|refine Z5 ?_|refine Z9 (by assumption) rfl ?_|refine ZA (by assumption) rfl ?_|refine ZB (by assumption) rfl ?_|refine Z6 ?_|refine Z7 ?_|refine Z8 ?_)|((with_reducible refine ZM ?_ ?_);(focus rfl)));(conv=>whnf)))
      exact ⟨rfl, ⟨d3.offS f5 sR.1 sR.2.1 sR.2.2, r5, t.sep, t.lo⟩, (OffS.of_ext x1).trans ((wideD f3).trans (wideR f5))⟩
    have h5n : (o.act == 5) = false := beq_eq_false_iff_ne.2 h5'
    by_cases h6' : o.act = 6
    · have est : step d o = d.on := by unfold step; rw [if_neg h01, if_neg h2', if_neg h3', if_neg h4', if_neg h5', if_pos h6']
      have q6 : (o.act == 6) = true := beq_iff_eq.2 h6'
      rw [est]
      ((conv=>whnf);repeat((first|(with_reducible first|refine Z1 ?_|refine Z2 ?_|refine Z3 ?_|refine Z4 ?_|refine Z5 ?_|refine Z9 (by assumption) rfl ?_|refine ZA (by assumption) rfl ?_|refine ZB (by assumption) rfl ?_|refine Z6 ?_|refine Z7 ?_|refine Z8 ?_)|((with_reducible refine ZM ?_ ?_);(focus rfl)));(conv=>whnf)))
      refine HCall.mk ((on_spec t1.d1).mono ?_)
      rintro e h3 ⟨rfl, d3, f3⟩
      have r3 := t1.r1.offS f3 sD.1 sD.2.1 sD.2.2
      ((conv=>whnf);repeat((first|(with_reducible first|refine Z1 ?_|refine Z2 ?_|refine Z3 ?_|refine Z4 ?_|refine Z5 ?_|refine Z9 (by assumption) rfl ?_|refine ZA (by assumption) rfl ?_|refine ZB (by assumption) rfl ?_|refine Z6 ?_|refine Z7 ?_|refine Z8 ?_)|((with_reducible refine ZM ?_ ?_);(focus rfl)));(conv=>whnf)))
      refine HCall.mk ((ron_spec r3).mono ?_)
      rintro e h5 ⟨rfl, r5, f5⟩
      ((conv=>whnf);repeat((first|(with_reducible first|refine Z1 ?_|refine Z2 ?_|refine Z3 ?_|refine Z4 ?_|refine Z5 ?_|refine Z9 (by assumption) rfl ?_|refine ZA (by assumption) rfl ?_|refine ZB (by assumption) rfl ?_|refine Z6 ?_|refine Z7 ?_|refine Z8 ?_)|((with_reducible refine ZM ?_ ?_);(focus rfl)));(conv=>whnf)))
      exact ⟨rfl, ⟨d3.offS f5 sR.1 sR.2.1 sR.2.2, r5, t.sep, t.lo⟩, (OffS.of_ext x1).trans ((wideD f3).trans (wideR f5))⟩
    have h6n : (o.act == 6) = false := beq_eq_false_iff_ne.2 h6'
    have est : step d o = d := by unfold step; rw [if_neg h01, if_neg h2', if_neg h3', if_neg h4', if_neg h5', if_neg h6']
    rw [est]
    ((conv=>whnf);repeat((first|(with_reducible first|refine Z1 ?_|refine Z2 ?_|refine Z3 ?_|refine Z4 ?_|refine Z5 ?_|refine Z9 (by assumption) rfl ?_|refine ZA (by assumption) rfl ?_|refine ZB (by assumption) rfl ?_|refine Z6 ?_|refine Z7 ?_|refine Z8 ?_)|((with_reducible refine ZM ?_ ?_);(focus rfl)));(conv=>whnf)))
    exact ⟨rfl, t1, OffS.of_ext x1⟩
  intro u h2
  rintro ⟨e, t2, f2⟩
  cases e
  have hkl : (keysOf (step d o).waits).length ≤ 2048 := by
    unfold keysOf
    have := List.length_filter_le (fun i => ((step d o).waits i).isSome) (List.range 2048)
    rw [List.length_range] at this; exact this
  generalize step d o = dd at *
  ((conv=>whnf);repeat((first|(with_reducible first|refine Z1 ?_|refine Z2 ?_|refine Z3 ?_|refine Z4 ?_|refine Z5 ?_|refine Z9 (by assumption) rfl ?_|refine ZA (by assumption) rfl ?_|refine ZB (by assumption) rfl ?_|refine Z6 ?_|refine Z7 ?_|refine Z8 ?_)|((with_reducible refine ZM ?_ ?_);(focus rfl)));(conv=>whnf)))
  refine HCall.mk ((waiting_spec t2.d1).mono ?_)
  rintro e h3 ⟨a3, c3, rfl, s3, x3⟩
  have t3 := t2.ext x3
  ((conv=>whnf);repeat((first|(with_reducible first|refine Z1 ?_|refine Z2 ?_|refine Z3 ?_|refine Z4 ?_|refine Z5 ?_|refine Z9 (by assumption) rfl ?_|refine ZA (by assumption) rfl ?_|refine ZB (by assumption) rfl ?_|refine Z6 ?_|refine Z7 ?_|refine Z8 ?_)|((with_reducible refine ZM ?_ ?_);(focus rfl)));(conv=>whnf)))
  refine HCall.mk ((rwaiting_spec t3.r1).mono ?_)
  rintro e h4 ⟨a4, c4, rfl, w4, x4⟩
  have t4 := t3.ext x4
  ((conv=>whnf);repeat((first|(with_reducible first|refine Z1 ?_|refine Z2 ?_|refine Z3 ?_|refine Z4 ?_|refine Z5 ?_|refine Z9 (by assumption) rfl ?_|refine ZA (by assumption) rfl ?_|refine ZB (by assumption) rfl ?_|refine Z6 ?_|refine Z7 ?_|refine Z8 ?_)|((with_reducible refine ZM ?_ ?_);(focus rfl)));(conv=>whnf)))
  refine HCall.mk ((sameInts_spec (s3.ext x4) w4.sl (by omega)).mono ?_)
  rintro e h4 ⟨rfl, rfl⟩
  rw [decide_eq_true (rfl : keysOf dd.waits = keysOf dd.waits)]
  ((conv=>whnf);repeat((first|(with_reducible first|refine Z1 ?_|refine Z2 ?_|refine Z3 ?_|refine Z4 ?_|refine Z5 ?_|refine Z9 (by assumption) rfl ?_|refine ZA (by assumption) rfl ?_|refine ZB (by assumption) rfl ?_|refine Z6 ?_|refine Z7 ?_|refine Z8 ?_)|((with_reducible refine ZM ?_ ?_);(focus rfl)));(conv=>whnf)))
  refine HCall.mk ((acts_spec t4.d1).mono ?_)
  rintro e h4 ⟨rfl, rfl⟩
  ((conv=>whnf);repeat((first|(with_reducible first|refine Z1 ?_|refine Z2 ?_|refine Z3 ?_|refine Z4 ?_|refine Z5 ?_|refine Z9 (by assumption) rfl ?_|refine ZA (by assumption) rfl ?_|refine ZB (by assumption) rfl ?_|refine Z6 ?_|refine Z7 ?_|refine Z8 ?_)|((with_reducible refine ZM ?_ ?_);(focus rfl)));(conv=>whnf)))
  refine HCall.mk ((racts_spec t4.r1).mono ?_)
  rintro e h4 ⟨rfl, rfl⟩
  have qa : (((dd.acts : Nat) : Int) == ((dd.acts : Nat) : Int)) = true := beq_self_eq_true _
  ((conv=>whnf);repeat((first|(with_reducible first|refine Z1 ?_|refine Z2 ?_|refine Z3 ?_|refine Z4 ?_|refine Z5 ?_|refine Z9 (by assumption) rfl ?_|refine ZA (by assumption) rfl ?_|refine ZB (by assumption) rfl ?_|refine Z6 ?_|refine Z7 ?_|refine Z8 ?_)|((with_reducible refine ZM ?_ ?_);(focus rfl)));(conv=>whnf)))
  refine HCall.mk ((isOn_spec t4.d1).mono ?_)
  rintro e h4 ⟨rfl, rfl⟩
  ((conv=>whnf);repeat((first|(with_reducible first|refine Z1 ?_|refine Z2 ?_|refine Z3 ?_|refine Z4 ?_|refine Z5 ?_|refine Z9 (by assumption) rfl ?_|refine ZA (by assumption) rfl ?_|refine ZB (by assumption) rfl ?_|refine Z6 ?_|refine Z7 ?_|refine Z8 ?_)|((with_reducible refine ZM ?_ ?_);(focus rfl)));(conv=>whnf)))
  refine HCall.mk ((rison_spec t4.r1).mono ?_)
  rintro e h4 ⟨rfl, rfl⟩
  have qb : (bif false then !((!dd.off) == (!dd.off)) else ((!dd.off) == (!dd.off))) = true := by simp
  ((conv=>whnf);repeat((first|(with_reducible first|refine Z1 ?_|refine Z2 ?_|refine Z3 ?_|refine Z4 ?_|refine Z5 ?_|refine Z9 (by assumption) rfl ?_|refine ZA (by assumption) rfl ?_|refine ZB (by assumption) rfl ?_|refine Z6 ?_|refine Z7 ?_|refine Z8 ?_)|((with_reducible refine ZM ?_ ?_);(focus rfl)));(conv=>whnf)))
  refine HCall.mk ((sectors_spec t4.d1).mono ?_)
  rintro e h4 ⟨rfl, rfl⟩
  ((conv=>whnf);repeat((first|(with_reducible first|refine Z1 ?_|refine Z2 ?_|refine Z3 ?_|refine Z4 ?_|refine Z5 ?_|refine Z9 (by assumption) rfl ?_|refine ZA (by assumption) rfl ?_|refine ZB (by assumption) rfl ?_|refine Z6 ?_|refine Z7 ?_|refine Z8 ?_)|((with_reducible refine ZM ?_ ?_);(focus rfl)));(conv=>whnf)))
  refine HCall.mk ((rsectors_spec t4.r1).mono ?_)
  rintro e h4 ⟨rfl, rfl⟩
  ((conv=>whnf);repeat((first|(with_reducible first|refine Z1 ?_|refine Z2 ?_|refine Z3 ?_|refine Z4 ?_|refine Z5 ?_|refine Z9 (by assumption) rfl ?_|refine ZA (by assumption) rfl ?_|refine ZB (by assumption) rfl ?_|refine Z6 ?_|refine Z7 ?_|refine Z8 ?_)|((with_reducible refine ZM ?_ ?_);(focus rfl)));(conv=>whnf)))
  refine ⟨?_, t4, f2.trans (OffS.of_ext (x3.trans x4))⟩
  show Ending.returned (.bool (((dd.many : Nat) : Int) == ((dd.many : Nat) : Int))) = _
  rw [beq_self_eq_true]

end Go.Proofs.Ytlbmhpjefpdekaa.Hc
