/- The reference's disk: Cut, On, New. -/
import Derived.Test.YtlbmhpjefpdekaaX8
set_option linter.unusedVariables false
set_option linter.unusedSimpArgs false
namespace Go.Proofs.Ytlbmhpjefpdekaa.Hc
open Go Go.H Go.Proofs
set_option maxRecDepth 100000
set_option maxHeartbeats 8000000

theorem keys_nodup (g : Nat → Option ByteArray) : (keysOf g).Nodup := (List.nodup_range).filter _
theorem take_mem_succ {ks : List Nat} {i : Nat} (hi : i < ks.length) (j : Nat) : j ∈ ks.take (i + 1) ↔ j ∈ ks.take i ∨ j = ks[i] := by
  rw [List.take_add_one, List.getElem?_eq_getElem hi, List.mem_append]
  simp
theorem not_mem_take {ks : List Nat} (hd : ks.Nodup) {i : Nat} (hi : i < ks.length) : ks[i] ∉ ks.take i := by
  intro hm
  obtain ⟨j, hj, e⟩ := List.getElem_of_mem hm
  rw [List.length_take] at hj
  rw [List.getElem_take] at e
  exact List.pairwise_iff_getElem.1 hd j i (by omega) hi (by omega) e
theorem rcut_spec {h : Heap} {b fb wb : Nat} {d : DK} (x : RR h b fb wb d) {a : Option Addr} {c : Nat} {mask : List UInt8} (hs : ∀ h' : Heap, (∀ k, k < h.size → k ∉ [b, fb, wb] → h'[k]? = h[k]?) → Sl h' 1 a mask.length c (mask.map byteV)) (hml : mask.length ≤ 140737488351232) :
    HCalls Try.prog 32 #[.pointer (some ⟨b, 0, none⟩), .slice a mask.length c] h fun e h' => e = .returned (.tuple #[]) ∧ RR h' b fb wb (d.cut mask) ∧ OffS [b, fb, wb] h h' := by
  have k := x.ok
  have hko := DK.cut_ok k mask
  have xlt := x.lt
  refine c32 (by simp) ?_
  ((conv=>whnf);repeat((first|(with_reducible first|refine Z1 ?_|refine Z2 ?_|refine Z3 ?_|refine Z4 ?_|refine Z5 ?_|refine Z9 (by assumption) rfl ?_|refine ZA (by assumption) rfl ?_|refine ZB (by assumption) rfl ?_|refine Z6 ?_|refine Z7 ?_|refine Z8 ?_)|((with_reducible refine ZM ?_ ?_);(focus rfl)));(conv=>whnf)))
  refine HCall.mk ((rwaiting_spec x).mono ?_)
  rintro e h1 ⟨ka, kc, rfl, wk, x1⟩
  have y1 := x.ext x1
  have wklt := wk.lt
  have hkl : (keysOf d.waits).length ≤ 2048 := by
    unfold keysOf
    have := List.length_filter_le (fun i => (d.waits i).isSome) (List.range 2048)
    rw [List.length_range] at this; exact this
  have x1s := x1.1
  obtain ⟨fc, wc, o1, f1, w1⟩ := y1.fc
  ((conv=>whnf);repeat((first|(with_reducible first|refine Z1 ?_|refine Z2 ?_|refine Z3 ?_|refine Z4 ?_|refine Z5 ?_|refine Z9 (by assumption) rfl ?_|refine ZA (by assumption) rfl ?_|refine ZB (by assumption) rfl ?_|refine Z6 ?_|refine Z7 ?_|refine Z8 ?_)|((with_reducible refine ZM ?_ ?_);(focus rfl)));(conv=>whnf)))
  refine loop_rule [9] (fun vs h' => ∃ (i : Nat), vs = [.int .i64 i] ∧ i ≤ (keysOf d.waits).length ∧ OffS [fb, wb] h1 h' ∧ Own h' 0 9 1 (some ⟨fb, 0, none⟩) d.many fc (tab d.many fun j => (cutG d.waits d.firm (keysOf d.waits) mask i j).getD zeroB) ∧
      Own h' 0 9 1 (some ⟨wb, 0, none⟩) d.many wc (tab d.many fun j => if j ∈ (keysOf d.waits).take i then ⟨#[]⟩ else d.wV j))
    (fun vs _ => match vs with | [.int _ i] => (keysOf d.waits).length - i.toNat | _ => 0) rfl ?_ ?_
  · refine ⟨0, rfl, by omega, OffS.refl _ _, f1, ?_⟩
    rw [show (tab d.many fun j => if j ∈ (keysOf d.waits).take 0 then ⟨#[]⟩ else d.wV j) = tab d.many d.wV from tab_congr fun j _ => by simp]; exact w1
  clear f1 w1
  intro u h2 v9
  rintro ⟨i, e, hi, of, f, w⟩
  cases e
  have o2 := BlkW.offS o1 of (by simp; exact ⟨x.n1, x.n2⟩)
  have sk2 : Sl h2 1 ka (keysOf d.waits).length kc ((keysOf d.waits).map natV) := wk.sl.fr (S := fun q => q < h1.size ∧ q ∉ [fb, wb]) (fun p ep => by have := wklt p ep; exact ⟨this.2, by simp; omega⟩) h2 (fun q hq => of.2 q hq.1 hq.2)
  have s2 : Sl h2 1 a mask.length c (mask.map byteV) := hs h2 (fun q hq hn => by rw [of.2 q (by omega) (by simp at hn ⊢; omega), x1.2 q hq])
  ((conv=>whnf);repeat((first|(with_reducible first|refine Z1 ?_|refine Z2 ?_|refine Z3 ?_|refine Z4 ?_|refine Z5 ?_|refine Z9 (by assumption) rfl ?_|refine ZA (by assumption) rfl ?_|refine ZB (by assumption) rfl ?_|refine Z6 ?_|refine Z7 ?_|refine Z8 ?_)|((with_reducible refine ZM ?_ ?_);(focus rfl)));(conv=>whnf)))
  refine HIf.mk (fun hlt => ?_) (fun hlt => ?_)
  · have hi1 : i < (keysOf d.waits).length := by have := of_decide_eq_true hlt; omega
    have hmu : (keysOf d.waits).length - ((i : Int) + 1).toNat < (keysOf d.waits).length - ((i : Int)).toNat := by omega
    have hst := cutG_step (w := d.waits) (f := d.firm) (ks := keysOf d.waits) (mask := mask) hi1
    have hkm := (keysOf_mem d.waits (keysOf d.waits)[i]).1 (List.getElem_mem hi1)
    have hnt := not_mem_take (keys_nodup d.waits) hi1
    have hts := take_mem_succ hi1
    ((conv=>whnf);repeat((first|(with_reducible first|refine Z1 ?_|refine Z2 ?_|refine Z3 ?_|refine Z4 ?_|refine Z5 ?_|refine Z9 (by assumption) rfl ?_|refine ZA (by assumption) rfl ?_|refine ZB (by assumption) rfl ?_|refine Z6 ?_|refine Z7 ?_|refine Z8 ?_)|((with_reducible refine ZM ?_ ?_);(focus rfl)));(conv=>whnf)))
    refine HIdx.mk i rfl hi1 ?_
    refine sl_some sk2 hi1 fun p ep => ?_
    ((conv=>whnf);repeat((first|(with_reducible first|refine Z1 ?_|refine Z2 ?_|refine Z3 ?_|refine Z4 ?_|refine Z5 ?_|refine Z9 (by assumption) rfl ?_|refine ZA (by assumption) rfl ?_|refine ZB (by assumption) rfl ?_|refine Z6 ?_|refine Z7 ?_|refine Z8 ?_)|((with_reducible refine ZM ?_ ?_);(focus rfl)));(conv=>whnf)))
    refine sk2.load ep (by simpa using hi1) ?_
    rw [List.getElem_map]
    unfold natV
    generalize (keysOf d.waits)[i] = kk at *
    obtain ⟨ws, hws⟩ := Option.isSome_iff_exists.1 hkm.2
    have hwb := k.wm kk ws hws
    -- what stands behind the test
    have tail : ∀ (h4 : Heap) (fcs : List Value), Own h4 0 9 1 (some ⟨fb, 0, none⟩) d.many fc fcs → (fcs = tab d.many fun j => (cutG d.waits d.firm (keysOf d.waits) mask (i + 1) j).getD zeroB) → Own h4 0 9 1 (some ⟨wb, 0, none⟩) d.many wc ((tab d.many fun j => if j ∈ (keysOf d.waits).take i then ⟨#[]⟩ else d.wV j).set kk (.string ⟨#[]⟩)) → OffS [fb, wb] h1 h4 →
        ∃ i' : Nat, [Value.int .i64 ((i : Int) + 1)] = [.int .i64 i'] ∧ i' ≤ (keysOf d.waits).length ∧ OffS [fb, wb] h1 h4 ∧ Own h4 0 9 1 (some ⟨fb, 0, none⟩) d.many fc (tab d.many fun j => (cutG d.waits d.firm (keysOf d.waits) mask i' j).getD zeroB) ∧ Own h4 0 9 1 (some ⟨wb, 0, none⟩) d.many wc (tab d.many fun j => if j ∈ (keysOf d.waits).take i' then ⟨#[]⟩ else d.wV j) := by
      intro h4 fcs hf hfe hw ho
      refine ⟨i + 1, rfl, by omega, ho, hfe ▸ hf, ?_⟩
      rw [tab_set] at hw
      rw [show (tab d.many fun j => if j ∈ (keysOf d.waits).take (i + 1) then ⟨#[]⟩ else d.wV j) = tab d.many (fun j => if j = kk then ⟨#[]⟩ else if j ∈ (keysOf d.waits).take i then ⟨#[]⟩ else d.wV j) from tab_congr fun j _ => ?_]
      · exact hw
      · by_cases e : j = kk
        · rw [if_pos ((hts j).2 (.inr e)), if_pos e]
        · rw [if_neg e]
          by_cases e2 : j ∈ (keysOf d.waits).take i
          · rw [if_pos ((hts j).2 (.inl e2)), if_pos e2]
          · rw [if_neg (fun hm => by rcases (hts j).1 hm with hm | hm; exact e2 hm; exact e hm), if_neg e2]
    have hkk : kk < d.many := hwb.1
    have wvk : d.wV kk = ws := DK.wV_some hws
    by_cases hb : bitAt mask i = true
    rotate_left
    · have hbf : bitAt mask i = false := by simpa using hb
      rw [if_neg hb] at hst
      by_cases hm : i < mask.length
      · have q : decide ((i : Int) < (mask.length : Int)) = true := decide_eq_true (by omega)
        have hbit : bitAt mask i = (mask[i].toNat % 2 == 1) := by unfold bitAt; rw [List.getElem?_eq_getElem hm]
        have e2 : ((mask[i].toNat : Nat) : Int).tmod 2 = ((mask[i].toNat % 2 : Nat) : Int) := (Int.ofNat_tmod _ 2).symm
        have q2 : (((mask[i].toNat : Nat) : Int).tmod 2 == 1) = false := by
          rw [e2]
          rw [hbf] at hbit
          have : mask[i].toNat % 2 ≠ 1 := by intro e; rw [e] at hbit; cases hbit
          exact beq_eq_false_iff_ne.2 (by omega)
        ((conv=>whnf);repeat((first|(with_reducible first|refine Z1 ?_|refine Z2 ?_|refine Z3 ?_|refine Z4 ?_|refine Z5 ?_|refine Z9 (by assumption) rfl ?_|refine ZA (by assumption) rfl ?_|refine ZB (by assumption) rfl ?_|refine Z6 ?_|refine Z7 ?_|refine Z8 ?_)|((with_reducible refine ZM ?_ ?_);(focus rfl)));(conv=>whnf)))
        refine HIdx.mk i rfl hm ?_
        refine sl_some s2 hm fun p2 ep2 => ?_
        ((conv=>whnf);repeat((first|(with_reducible first|refine Z1 ?_|refine Z2 ?_|refine Z3 ?_|refine Z4 ?_|refine Z5 ?_|refine Z9 (by assumption) rfl ?_|refine ZA (by assumption) rfl ?_|refine ZB (by assumption) rfl ?_|refine Z6 ?_|refine Z7 ?_|refine Z8 ?_)|((with_reducible refine ZM ?_ ?_);(focus rfl)));(conv=>whnf)))
        refine sl_get s2 ep2 hm ?_
        ((conv=>whnf);repeat((first|(with_reducible first|refine Z1 ?_|refine Z2 ?_|refine Z3 ?_|refine Z4 ?_|refine Z5 ?_|refine Z9 (by assumption) rfl ?_|refine ZA (by assumption) rfl ?_|refine ZB (by assumption) rfl ?_|refine Z6 ?_|refine Z7 ?_|refine Z8 ?_)|((with_reducible refine ZM ?_ ?_);(focus rfl)));(conv=>whnf)))
        refine HIdx.mk kk rfl hkk ?_
        refine sl_some w.sl hkk fun p ep => ?_
        cases ep
        ((conv=>whnf);repeat((first|(with_reducible first|refine Z1 ?_|refine Z2 ?_|refine Z3 ?_|refine Z4 ?_|refine Z5 ?_|refine Z9 (by assumption) rfl ?_|refine ZA (by assumption) rfl ?_|refine ZB (by assumption) rfl ?_|refine Z6 ?_|refine Z7 ?_|refine Z8 ?_)|((with_reducible refine ZM ?_ ?_);(focus rfl)));(conv=>whnf)))
        refine Own.store w rfl hkk rfl ?_
        intro h3 f3 hge3 z3 w3
        ((conv=>whnf);repeat((first|(with_reducible first|refine Z1 ?_|refine Z2 ?_|refine Z3 ?_|refine Z4 ?_|refine Z5 ?_|refine Z9 (by assumption) rfl ?_|refine ZA (by assumption) rfl ?_|refine ZB (by assumption) rfl ?_|refine Z6 ?_|refine Z7 ?_|refine Z8 ?_)|((with_reducible refine ZM ?_ ?_);(focus rfl)));(conv=>whnf)))
        exact ⟨tail h3 _ (own_off f f3 x.n3) (by rw [hst]) w3 (of.trans (OffS.of_off f3 (by simp))), hmu⟩
      · have q : decide ((i : Int) < (mask.length : Int)) = false := decide_eq_false (by omega)
        ((conv=>whnf);repeat((first|(with_reducible first|refine Z1 ?_|refine Z2 ?_|refine Z3 ?_|refine Z4 ?_|refine Z5 ?_|refine Z9 (by assumption) rfl ?_|refine ZA (by assumption) rfl ?_|refine ZB (by assumption) rfl ?_|refine Z6 ?_|refine Z7 ?_|refine Z8 ?_)|((with_reducible refine ZM ?_ ?_);(focus rfl)));(conv=>whnf)))
        refine HIdx.mk kk rfl hkk ?_
        refine sl_some w.sl hkk fun p ep => ?_
        cases ep
        ((conv=>whnf);repeat((first|(with_reducible first|refine Z1 ?_|refine Z2 ?_|refine Z3 ?_|refine Z4 ?_|refine Z5 ?_|refine Z9 (by assumption) rfl ?_|refine ZA (by assumption) rfl ?_|refine ZB (by assumption) rfl ?_|refine Z6 ?_|refine Z7 ?_|refine Z8 ?_)|((with_reducible refine ZM ?_ ?_);(focus rfl)));(conv=>whnf)))
        refine Own.store w rfl hkk rfl ?_
        intro h3 f3 hge3 z3 w3
        ((conv=>whnf);repeat((first|(with_reducible first|refine Z1 ?_|refine Z2 ?_|refine Z3 ?_|refine Z4 ?_|refine Z5 ?_|refine Z9 (by assumption) rfl ?_|refine ZA (by assumption) rfl ?_|refine ZB (by assumption) rfl ?_|refine Z6 ?_|refine Z7 ?_|refine Z8 ?_)|((with_reducible refine ZM ?_ ?_);(focus rfl)));(conv=>whnf)))
        exact ⟨tail h3 _ (own_off f f3 x.n3) (by rw [hst]) w3 (of.trans (OffS.of_off f3 (by simp))), hmu⟩
    · rw [if_pos hb] at hst
      have hm : i < mask.length := by
        rcases Nat.lt_or_ge i mask.length with h | h
        · exact h
        · unfold bitAt at hb; rw [List.getElem?_eq_none h] at hb; cases hb
      have q : decide ((i : Int) < (mask.length : Int)) = true := decide_eq_true (by omega)
      have hbit : bitAt mask i = (mask[i].toNat % 2 == 1) := by unfold bitAt; rw [List.getElem?_eq_getElem hm]
      have e2 : ((mask[i].toNat : Nat) : Int).tmod 2 = ((mask[i].toNat % 2 : Nat) : Int) := (Int.ofNat_tmod _ 2).symm
      have q2 : (((mask[i].toNat : Nat) : Int).tmod 2 == 1) = true := by
        rw [e2]
        rw [hb] at hbit
        have : mask[i].toNat % 2 = 1 := by simpa using hbit.symm
        rw [this]; rfl
      ((conv=>whnf);repeat((first|(with_reducible first|refine Z1 ?_|refine Z2 ?_|refine Z3 ?_|refine Z4 ?_|refine Z5 ?_|refine Z9 (by assumption) rfl ?_|refine ZA (by assumption) rfl ?_|refine ZB (by assumption) rfl ?_|refine Z6 ?_|refine Z7 ?_|refine Z8 ?_)|((with_reducible refine ZM ?_ ?_);(focus rfl)));(conv=>whnf)))
      refine HIdx.mk i rfl hm ?_
      refine sl_some s2 hm fun p2 ep2 => ?_
      ((conv=>whnf);repeat((first|(with_reducible first|refine Z1 ?_|refine Z2 ?_|refine Z3 ?_|refine Z4 ?_|refine Z5 ?_|refine Z9 (by assumption) rfl ?_|refine ZA (by assumption) rfl ?_|refine ZB (by assumption) rfl ?_|refine Z6 ?_|refine Z7 ?_|refine Z8 ?_)|((with_reducible refine ZM ?_ ?_);(focus rfl)));(conv=>whnf)))
      refine sl_get s2 ep2 hm ?_
      ((conv=>whnf);repeat((first|(with_reducible first|refine Z1 ?_|refine Z2 ?_|refine Z3 ?_|refine Z4 ?_|refine Z5 ?_|refine Z9 (by assumption) rfl ?_|refine ZA (by assumption) rfl ?_|refine ZB (by assumption) rfl ?_|refine Z6 ?_|refine Z7 ?_|refine Z8 ?_)|((with_reducible refine ZM ?_ ?_);(focus rfl)));(conv=>whnf)))
      refine HIdx.mk kk rfl hkk ?_
      refine sl_some w.sl hkk fun p ep => ?_
      cases ep
      ((conv=>whnf);repeat((first|(with_reducible first|refine Z1 ?_|refine Z2 ?_|refine Z3 ?_|refine Z4 ?_|refine Z5 ?_|refine Z9 (by assumption) rfl ?_|refine ZA (by assumption) rfl ?_|refine ZB (by assumption) rfl ?_|refine Z6 ?_|refine Z7 ?_|refine Z8 ?_)|((with_reducible refine ZM ?_ ?_);(focus rfl)));(conv=>whnf)))
      refine w.sl.load rfl (by rw [tab_len]; exact hkk) ?_
      rw [tab_get, if_neg hnt, wvk]
      ((conv=>whnf);repeat((first|(with_reducible first|refine Z1 ?_|refine Z2 ?_|refine Z3 ?_|refine Z4 ?_|refine Z5 ?_|refine Z9 (by assumption) rfl ?_|refine ZA (by assumption) rfl ?_|refine ZB (by assumption) rfl ?_|refine Z6 ?_|refine Z7 ?_|refine Z8 ?_)|((with_reducible refine ZM ?_ ?_);(focus rfl)));(conv=>whnf)))
      refine HIdx.mk kk rfl hkk ?_
      refine sl_some f.sl hkk fun p ep => ?_
      cases ep
      ((conv=>whnf);repeat((first|(with_reducible first|refine Z1 ?_|refine Z2 ?_|refine Z3 ?_|refine Z4 ?_|refine Z5 ?_|refine Z9 (by assumption) rfl ?_|refine ZA (by assumption) rfl ?_|refine ZB (by assumption) rfl ?_|refine Z6 ?_|refine Z7 ?_|refine Z8 ?_)|((with_reducible refine ZM ?_ ?_);(focus rfl)));(conv=>whnf)))
      refine Own.store f rfl hkk rfl ?_
      intro h3 f3 hge3 z3 w3
      replace w3 : Own h3 0 9 1 (some ⟨fb, 0, none⟩) d.many fc ((tab d.many fun j => (cutG d.waits d.firm (keysOf d.waits) mask i j).getD zeroB).set kk (.string ws)) := w3
      rw [tab_set] at w3
      have o3 := o2.offk f3 x.n1
      have ww := own_off w f3 (Ne.symm x.n3)
      clear o2 f w
      ((conv=>whnf);repeat((first|(with_reducible first|refine Z1 ?_|refine Z2 ?_|refine Z3 ?_|refine Z4 ?_|refine Z5 ?_|refine Z9 (by assumption) rfl ?_|refine ZA (by assumption) rfl ?_|refine ZB (by assumption) rfl ?_|refine Z6 ?_|refine Z7 ?_|refine Z8 ?_)|((with_reducible refine ZM ?_ ?_);(focus rfl)));(conv=>whnf)))
      refine HIdx.mk kk rfl hkk ?_
      refine sl_some ww.sl hkk fun p ep => ?_
      cases ep
      ((conv=>whnf);repeat((first|(with_reducible first|refine Z1 ?_|refine Z2 ?_|refine Z3 ?_|refine Z4 ?_|refine Z5 ?_|refine Z9 (by assumption) rfl ?_|refine ZA (by assumption) rfl ?_|refine ZB (by assumption) rfl ?_|refine Z6 ?_|refine Z7 ?_|refine Z8 ?_)|((with_reducible refine ZM ?_ ?_);(focus rfl)));(conv=>whnf)))
      refine Own.store ww rfl hkk rfl ?_
      intro h4 f4 hge4 z4 w4
      ((conv=>whnf);repeat((first|(with_reducible first|refine Z1 ?_|refine Z2 ?_|refine Z3 ?_|refine Z4 ?_|refine Z5 ?_|refine Z9 (by assumption) rfl ?_|refine ZA (by assumption) rfl ?_|refine ZB (by assumption) rfl ?_|refine Z6 ?_|refine Z7 ?_|refine Z8 ?_)|((with_reducible refine ZM ?_ ?_);(focus rfl)));(conv=>whnf)))
      refine ⟨tail h4 _ (own_off w3 f4 x.n3) ?_ w4 (of.trans ((OffS.of_off f3 (by simp)).trans (OffS.of_off f4 (by simp)))), hmu⟩
      apply tab_congr
      intro j _
      rw [hst]
      by_cases e : j = kk
      · rw [if_pos e]; show ws = Option.getD (if j = kk then d.waits kk else _) zeroB; rw [if_pos e, hws]; rfl
      · rw [if_neg e]; show _ = Option.getD (if j = kk then d.waits kk else _) zeroB; rw [if_neg e]
  · have hge := of_decide_eq_false hlt
    obtain rfl : i = (keysOf d.waits).length := by omega
    ((conv=>whnf);repeat((first|(with_reducible first|refine Z1 ?_|refine Z2 ?_|refine Z3 ?_|refine Z4 ?_|refine Z5 ?_|refine Z9 (by assumption) rfl ?_|refine ZA (by assumption) rfl ?_|refine ZB (by assumption) rfl ?_|refine Z6 ?_|refine Z7 ?_|refine Z8 ?_)|((with_reducible refine ZM ?_ ?_);(focus rfl)));(conv=>whnf)))
    refine blk_st (o := 2) o2 (by simp) rfl ?_
    intro h4 f4 z4 o4
    ((conv=>whnf);repeat((first|(with_reducible first|refine Z1 ?_|refine Z2 ?_|refine Z3 ?_|refine Z4 ?_|refine Z5 ?_|refine Z9 (by assumption) rfl ?_|refine ZA (by assumption) rfl ?_|refine ZB (by assumption) rfl ?_|refine Z6 ?_|refine Z7 ?_|refine Z8 ?_)|((with_reducible refine ZM ?_ ?_);(focus rfl)));(conv=>whnf)))
    refine blk_st (o := 3) o4 (by simp) rfl ?_
    intro h5 f5 z5 o5
    have f45 := f4.trans f5
    ((conv=>whnf);repeat((first|(with_reducible first|refine Z1 ?_|refine Z2 ?_|refine Z3 ?_|refine Z4 ?_|refine Z5 ?_|refine Z9 (by assumption) rfl ?_|refine ZA (by assumption) rfl ?_|refine ZB (by assumption) rfl ?_|refine Z6 ?_|refine Z7 ?_|refine Z8 ?_)|((with_reducible refine ZM ?_ ?_);(focus rfl)));(conv=>whnf)))
    refine ⟨rfl, ⟨hko, ⟨fc, wc, o5, own_off f f45 (Ne.symm x.n1), ?_⟩, x.n1, x.n2, x.n3⟩, (OffS.of_ext x1).trans ((of.mono (by simp)).trans (OffS.of_off f45 (by simp)))⟩
    have := own_off w f45 (Ne.symm x.n2)
    rw [List.take_length] at this
    rw [show tab (d.cut mask).many (d.cut mask).wV = tab d.many (fun j => if j ∈ keysOf d.waits then ⟨#[]⟩ else d.wV j) from tab_congr fun j hj => ?_]
    · exact this
    · show (⟨#[]⟩ : ByteArray) = _
      by_cases e : j ∈ keysOf d.waits
      · rw [if_pos e]
      · rw [if_neg e]
        have hn : d.waits j = none := by
          cases hw : d.waits j with
          | none => rfl
          | some s => exact absurd ((keysOf_mem d.waits j).2 ⟨by have := (k.wm j s hw).1; have := k.m2; omega, by rw [hw]; rfl⟩) e
        exact (DK.wV_none hn).symm
theorem ron_spec {h : Heap} {b fb wb : Nat} {d : DK} (x : RR h b fb wb d) :
    HCalls Try.prog 12 #[.pointer (some ⟨b, 0, none⟩)] h fun e h' => e = .returned (.tuple #[]) ∧ RR h' b fb wb d.on ∧ OffS [b, fb, wb] h h' := by
  have k := DK.on_ok x.ok
  obtain ⟨fc, wc, o, f, w⟩ := x.fc
  refine c12 (by simp) ?_
  unfold DK.on at k ⊢
  cases hoff : d.off
  · rw [hoff] at o
    ((conv=>whnf);repeat((first|(with_reducible first|refine Z1 ?_|refine Z2 ?_|refine Z3 ?_|refine Z4 ?_|refine Z5 ?_|refine Z9 (by assumption) rfl ?_|refine ZA (by assumption) rfl ?_|refine ZB (by assumption) rfl ?_|refine Z6 ?_|refine Z7 ?_|refine Z8 ?_)|((with_reducible refine ZM ?_ ?_);(focus rfl)));(conv=>whnf)))
    exact ⟨rfl, x, OffS.refl _ _⟩
  · rw [hoff] at o k
    ((conv=>whnf);repeat((first|(with_reducible first|refine Z1 ?_|refine Z2 ?_|refine Z3 ?_|refine Z4 ?_|refine Z5 ?_|refine Z9 (by assumption) rfl ?_|refine ZA (by assumption) rfl ?_|refine ZB (by assumption) rfl ?_|refine Z6 ?_|refine Z7 ?_|refine Z8 ?_)|((with_reducible refine ZM ?_ ?_);(focus rfl)));(conv=>whnf)))
    refine HCall.mk ((rcut_spec x (a := none) (c := 0) (mask := []) (fun _ _ => Sl.nil _ _) (by simp)).mono ?_)
    rintro e h2 ⟨rfl, x2, f2⟩
    clear o f w
    obtain ⟨fc, wc, o, f, w⟩ := x2.fc
    ((conv=>whnf);repeat((first|(with_reducible first|refine Z1 ?_|refine Z2 ?_|refine Z3 ?_|refine Z4 ?_|refine Z5 ?_|refine Z9 (by assumption) rfl ?_|refine ZA (by assumption) rfl ?_|refine ZB (by assumption) rfl ?_|refine Z6 ?_|refine Z7 ?_|refine Z8 ?_)|((with_reducible refine ZM ?_ ?_);(focus rfl)));(conv=>whnf)))
    refine blk_st (o := 2) o (by simp) rfl ?_
    intro h3 f3 z3 o3
    ((conv=>whnf);repeat((first|(with_reducible first|refine Z1 ?_|refine Z2 ?_|refine Z3 ?_|refine Z4 ?_|refine Z5 ?_|refine Z9 (by assumption) rfl ?_|refine ZA (by assumption) rfl ?_|refine ZB (by assumption) rfl ?_|refine Z6 ?_|refine Z7 ?_|refine Z8 ?_)|((with_reducible refine ZM ?_ ?_);(focus rfl)));(conv=>whnf)))
    exact ⟨rfl, ⟨k, ⟨fc, wc, o3, own_off f f3 (Ne.symm x.n1), own_off w f3 (Ne.symm x.n2)⟩, x.n1, x.n2, x.n3⟩, f2.trans (OffS.of_off f3 (by simp))⟩

end Go.Proofs.Ytlbmhpjefpdekaa.Hc
