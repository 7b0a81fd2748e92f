/- The law Last. -/
import Derived.Test.YtlbmhpjefpdekaaXD
set_option linter.unusedVariables false
set_option linter.unusedSimpArgs false
namespace Go.Proofs.Ytlbmhpjefpdekaa.Hc
open Go Go.H Go.Proofs
set_option maxRecDepth 100000
set_option maxHeartbeats 16000000

theorem act_many (d : DK) : d.act.2.many = d.many := by unfold DK.act; split <;> rfl
theorem on_many (d : DK) : d.on.many = d.many := by unfold DK.on; split <;> rfl
theorem on_off (d : DK) : d.on.off = false := by
  unfold DK.on
  cases h : d.off
  · rw [if_neg (by simp)]; exact h
  · rw [if_pos rfl]
theorem on_acts (d : DK) : d.on.acts = d.acts := by unfold DK.on; split <;> rfl
theorem write_many (d : DK) (i : Int) (b : ByteArray) : (d.write i b).2.many = d.many := by
  unfold DK.write
  split
  · rfl
  split
  · rfl
  split
  · exact act_many d
  · exact act_many d
theorem flush_many (d : DK) : d.flush.2.many = d.many := by
  unfold DK.flush
  split
  · rfl
  split
  · exact act_many d
  · exact act_many d
theorem step_many (d : DK) (o : OpP) : (step d o).many = d.many := by
  unfold step
  split
  · exact write_many d _ _
  split
  · exact flush_many d
  split
  · rfl
  split
  · rfl
  split
  · rfl
  split
  · exact on_many d
  · rfl
theorem OpRep.up {B C : Nat} {h h' : Heap} {o : OpP} {cs : List Value} (x : OpRep B h o cs) (k : ∀ b, b < B → h'[b]? = h[b]?) (hb : B ≤ C) : OpRep C h' o cs := by
  obtain ⟨h1, h2, a, c, e, s⟩ := x
  exact ⟨h1, h2, a, c, e, fun h'' k2 => s h'' (fun b hb => by rw [k2 b (by omega), k b hb])⟩
theorem ops_up {B C : Nat} {h h' : Heap} {l : List OpP} {xs : List Value} (e : Els (OpRep B) h l xs) (k : ∀ b, b < B → h'[b]? = h[b]?) (hb : B ≤ C) : Els (OpRep C) h' l xs := e.map (fun o cs r => r.up k hb)
/-- What a sector is told as. -/
def DK.toldB (d : DK) (i : Nat) : ByteArray := ⟨(d.told (i : Int)).toArray⟩
theorem refused_in {d : DK} {i : Nat} (h1 : d.off = false) (h2 : i < d.many) : d.refused (i : Int) = 0 := by
  unfold DK.refused; rw [h1, if_neg (by simp), if_neg (by omega)]
theorem toldB_in {d : DK} {i : Nat} (h1 : d.off = false) (h2 : i < d.many) : d.toldB i = d.sec i := by
  unfold DK.toldB DK.told
  rw [if_pos (refused_in h1 h2)]; simp
/-- A Write: what it tells, and what the sectors are then. -/
theorem write_told {d : DK} (h1 : d.off = false) (i : Int) (b : ByteArray) :
    ((d.write i b).1 = 0 ∧ 0 ≤ i ∧ i < d.many ∧ (d.write i b).2.off = false ∧ ∀ j, (d.write i b).2.sec j = if (j : Int) = i then b else d.sec j) ∨
    ((d.write i b).1 ≠ 0 ∧ ((d.write i b).1 = 160 → (d.write i b).2.off = true) ∧ ∀ j, (d.write i b).2.sec j = d.sec j) := by
  unfold DK.write
  by_cases hr : d.refused i = 0
  · rw [if_neg (by simpa using hr)]
    by_cases hs : b.size = 4096
    · rw [if_neg (by simpa using hs)]
      have hi : ¬ (i < 0 ∨ (d.many : Int) ≤ i) := by
        intro hh
        unfold DK.refused at hr
        rw [h1, if_neg (by simp), if_pos hh] at hr
        cases hr
      unfold DK.act
      by_cases hf : d.fuse = 0
      · rw [if_pos hf, if_neg (by simp)]
        exact .inr ⟨by simp, fun _ => rfl, fun j => rfl⟩
      · rw [if_neg hf, if_pos rfl]
        refine .inl ⟨rfl, by omega, by omega, h1, fun j => ?_⟩
        unfold DK.sec setG
        dsimp only
        by_cases hj : j = i.toNat
        · rw [if_pos hj, if_pos (by omega)]
        · rw [if_neg hj, if_neg (by omega)]
    · rw [if_pos hs]
      exact .inr ⟨by simp, fun e => by simp at e, fun j => rfl⟩
  · rw [if_pos hr]
    refine .inr ⟨hr, fun e => ?_, fun j => rfl⟩
    unfold DK.refused at e
    rw [h1, if_neg (by simp)] at e
    split at e <;> cases e

theorem diskLast_spec {h : Heap} {a : Option Addr} {c : Nat} {l : List OpP} {xs : List Value} (s : Sl h 4 a l.length c xs) (es : Els (OpRep h.size) h l xs) (hl : l.length ≤ 1048576) {o : OpP} {co : List Value} (ro : OpRep h.size h o co) :
    HCalls Try.prog 5 #[.slice a l.length c, .agg co.toArray] h fun e h' => e = .returned (.bool true) ∧ Ext h h' := by
  have ro0 := ro
  obtain ⟨hn, hbl, oa, oc, rfl, so⟩ := ro
  have hyl := OpP.bytes_len o hbl
  refine c5 (by simp) ?_
  ((conv=>whnf);repeat((first|(with_reducible first|refine Z1 ?_|refine Z2 ?_|refine Z3 ?_|refine Z4 ?_|refine Z5 ?_|refine Z9 (by assumption) rfl ?_|refine ZA (by assumption) rfl ?_|refine ZB (by assumption) rfl ?_|refine Z6 ?_|refine Z7 ?_|refine Z8 ?_)|((with_reducible refine ZM ?_ ?_);(focus rfl)));(conv=>whnf)))
  refine new_var (e := 33) [.int .i64 o.act, .int .i64 o.i, .int .i64 o.n, .slice oa o.b.length oc] rfl ?_
  intro h0 bo ob x0 z0 hbo
  ((conv=>whnf);repeat((first|(with_reducible first|refine Z1 ?_|refine Z2 ?_|refine Z3 ?_|refine Z4 ?_|refine Z5 ?_|refine Z9 (by assumption) rfl ?_|refine ZA (by assumption) rfl ?_|refine ZB (by assumption) rfl ?_|refine Z6 ?_|refine Z7 ?_|refine Z8 ?_)|((with_reducible refine ZM ?_ ?_);(focus rfl)));(conv=>whnf)))
  refine HCall.mk ((live_spec h0).mono ?_)
  rintro e h1 ⟨rfl, x1⟩
  have ob1 := ob.ext x1
  have hbolt : bo < h1.size := ob1.lt
  clear ob
  ((conv=>whnf);repeat((first|(with_reducible first|refine Z1 ?_|refine Z2 ?_|refine Z3 ?_|refine Z4 ?_|refine Z5 ?_|refine Z9 (by assumption) rfl ?_|refine ZA (by assumption) rfl ?_|refine ZB (by assumption) rfl ?_|refine Z6 ?_|refine Z7 ?_|refine Z8 ?_)|((with_reducible refine ZM ?_ ?_);(focus rfl)));(conv=>whnf)))
  refine HCall.mk ((new_disk 6 h1).mono ?_)
  rintro e h2 ⟨x2, ⟨_, _, b, rf, rw, rfl, d2, g1, g2, g3⟩ | ⟨hno, rfl⟩⟩
  rotate_left
  · exact absurd (by decide) hno
  have qb : (bif false then !(some (⟨b, 0, none⟩ : Addr)).isNone else (some (⟨b, 0, none⟩ : Addr)).isNone) = false := rfl
  by_cases h60 : l.length ≤ 60
  rotate_left
  · have q : decide ((l.length : Int) > 60) = true := decide_eq_true (by omega)
    ((conv=>whnf);repeat((first|(with_reducible first|refine Z1 ?_|refine Z2 ?_|refine Z3 ?_|refine Z4 ?_|refine Z5 ?_|refine Z9 (by assumption) rfl ?_|refine ZA (by assumption) rfl ?_|refine ZB (by assumption) rfl ?_|refine Z6 ?_|refine Z7 ?_|refine Z8 ?_)|((with_reducible refine ZM ?_ ?_);(focus rfl)));(conv=>whnf)))
    exact ⟨rfl, x0.trans (x1.trans x2)⟩
  have q : decide ((l.length : Int) > 60) = false := decide_eq_false (by omega)
  ((conv=>whnf);repeat((first|(with_reducible first|refine Z1 ?_|refine Z2 ?_|refine Z3 ?_|refine Z4 ?_|refine Z5 ?_|refine Z9 (by assumption) rfl ?_|refine ZA (by assumption) rfl ?_|refine ZB (by assumption) rfl ?_|refine Z6 ?_|refine Z7 ?_|refine Z8 ?_)|((with_reducible refine ZM ?_ ?_);(focus rfl)));(conv=>whnf)))
  refine HCall.mk ((rnew_spec 6 h2).mono ?_)
  rintro e h3 ⟨x3, ⟨_, _, b', fb, wb, rfl, r3, k1, k2, k3⟩ | ⟨hno, _⟩⟩
  rotate_left
  · exact absurd (by decide) hno
  have t3 : Two h3 h1.size b rf rw b' fb wb (DK.new 6) := Two.new d2 r3 x3 (Nat.le_refl _) g1 g2 g3 k1 k2 k3
  have x01 := x0.trans x1
  have es1 : Els (OpRep h1.size) h1 l xs := ops_up es x01.2 x01.1
  have s1 := s.ext x01
  have ro1 := ro0.up x01.2 x01.1
  have x03 := x2.trans x3
  ((conv=>whnf);repeat((first|(with_reducible first|refine Z1 ?_|refine Z2 ?_|refine Z3 ?_|refine Z4 ?_|refine Z5 ?_|refine Z9 (by assumption) rfl ?_|refine ZA (by assumption) rfl ?_|refine ZB (by assumption) rfl ?_|refine Z6 ?_|refine Z7 ?_|refine Z8 ?_)|((with_reducible refine ZM ?_ ?_);(focus rfl)));(conv=>whnf)))
  refine loop_rule [44] (fun vs h' => ∃ (i : Nat) (dd : DK), vs = [.int .i64 i] ∧ i ≤ l.length ∧ Two h' h1.size b rf rw b' fb wb dd ∧ dd.acts ≤ i ∧ dd.many = 6 ∧ Ext h1 h')
    (fun vs _ => match vs with | [.int _ i] => l.length - i.toNat | _ => 0) rfl ?_ ?_
  · exact ⟨0, _, rfl, by omega, t3, Nat.le_refl _, rfl, x03⟩
  intro u h4 v44
  rintro ⟨i, dd, e, hi, t4, hac, hmy, x4⟩
  cases e
  ((conv=>whnf);repeat((first|(with_reducible first|refine Z1 ?_|refine Z2 ?_|refine Z3 ?_|refine Z4 ?_|refine Z5 ?_|refine Z9 (by assumption) rfl ?_|refine ZA (by assumption) rfl ?_|refine ZB (by assumption) rfl ?_|refine Z6 ?_|refine Z7 ?_|refine Z8 ?_)|((with_reducible refine ZM ?_ ?_);(focus rfl)));(conv=>whnf)))
  refine HIf.mk (fun hlt => ?_) (fun hlt => ?_)
  · have hi1 : i < l.length := by have := of_decide_eq_true hlt; omega
    have hmu : l.length - ((i : Int) + 1).toNat < l.length - ((i : Int)).toNat := by omega
    ((conv=>whnf);repeat((first|(with_reducible first|refine Z1 ?_|refine Z2 ?_|refine Z3 ?_|refine Z4 ?_|refine Z5 ?_|refine Z9 (by assumption) rfl ?_|refine ZA (by assumption) rfl ?_|refine ZB (by assumption) rfl ?_|refine Z6 ?_|refine Z7 ?_|refine Z8 ?_)|((with_reducible refine ZM ?_ ?_);(focus rfl)));(conv=>whnf)))
    refine HIdx.mk i rfl hi1 ?_
    refine sl_some s1 hi1 fun p ep => ?_
    ((conv=>whnf);repeat((first|(with_reducible first|refine Z1 ?_|refine Z2 ?_|refine Z3 ?_|refine Z4 ?_|refine Z5 ?_|refine Z9 (by assumption) rfl ?_|refine ZA (by assumption) rfl ?_|refine ZB (by assumption) rfl ?_|refine Z6 ?_|refine Z7 ?_|refine Z8 ?_)|((with_reducible refine ZM ?_ ?_);(focus rfl)));(conv=>whnf)))
    refine (s1.ext x4).loadEl (fun o cs r => r.len) (ops_at es1 x4) ep hi1 fun cs ro => ?_
    ((conv=>whnf);repeat((first|(with_reducible first|refine Z1 ?_|refine Z2 ?_|refine Z3 ?_|refine Z4 ?_|refine Z5 ?_|refine Z9 (by assumption) rfl ?_|refine ZA (by assumption) rfl ?_|refine ZB (by assumption) rfl ?_|refine Z6 ?_|refine Z7 ?_|refine Z8 ?_)|((with_reducible refine ZM ?_ ?_);(focus rfl)));(conv=>whnf)))
    refine new_var (e := 33) [.int .i64 0, .int .i64 0, .int .i64 0, .slice none 0 0] rfl ?_
    intro h5 b5 o5 x5 z5 hb5
    ((conv=>whnf);repeat((first|(with_reducible first|refine Z1 ?_|refine Z2 ?_|refine Z3 ?_|refine Z4 ?_|refine Z5 ?_|refine Z9 (by assumption) rfl ?_|refine ZA (by assumption) rfl ?_|refine ZB (by assumption) rfl ?_|refine Z6 ?_|refine Z7 ?_|refine Z8 ?_)|((with_reducible refine ZM ?_ ?_);(focus rfl)));(conv=>whnf)))
    have hcl := ro.len
    refine HMust.mk (by simpa using hcl) ?_
    refine store_blk o5 (by simp [hcl]) (by simpa using ro.one) ?_
    intro h6 f6 z6 o6
    have o6' : BlkW h6 b5 33 cs := by
      have e : ([Value.int .i64 0, .int .i64 0, .int .i64 0, .slice none 0 0] : List Value).drop (0 + cs.toArray.toList.length) = [] := by simp [hcl]
      rw [e] at o6
      simpa using o6
    have x46 : Ext h4 h6 := x5.offNew f6 (by omega)
    have t6 := t4.ext x46
    have ro6 : OpRep h1.size h6 l[i] cs := ro.agree (fun k hk => x46.2 k (by have := x4.1; omega))
    clear o5 o6
    ((conv=>whnf);repeat((first|(with_reducible first|refine Z1 ?_|refine Z2 ?_|refine Z3 ?_|refine Z4 ?_|refine Z5 ?_|refine Z9 (by assumption) rfl ?_|refine ZA (by assumption) rfl ?_|refine ZB (by assumption) rfl ?_|refine Z6 ?_|refine Z7 ?_|refine Z8 ?_)|((with_reducible refine ZM ?_ ?_);(focus rfl)));(conv=>whnf)))
    refine blk_ldN o6' hcl ?_
    ((conv=>whnf);repeat((first|(with_reducible first|refine Z1 ?_|refine Z2 ?_|refine Z3 ?_|refine Z4 ?_|refine Z5 ?_|refine Z9 (by assumption) rfl ?_|refine ZA (by assumption) rfl ?_|refine ZB (by assumption) rfl ?_|refine Z6 ?_|refine Z7 ?_|refine Z8 ?_)|((with_reducible refine ZM ?_ ?_);(focus rfl)));(conv=>whnf)))
    refine HCall.mk ((do_spec t6 (by omega) ro6).mono ?_)
    rintro e h7 ⟨rfl, t7, f7⟩
    ((conv=>whnf);repeat((first|(with_reducible first|refine Z1 ?_|refine Z2 ?_|refine Z3 ?_|refine Z4 ?_|refine Z5 ?_|refine Z9 (by assumption) rfl ?_|refine ZA (by assumption) rfl ?_|refine ZB (by assumption) rfl ?_|refine Z6 ?_|refine Z7 ?_|refine Z8 ?_)|((with_reducible refine ZM ?_ ?_);(focus rfl)));(conv=>whnf)))
    exact ⟨⟨i + 1, step dd l[i], rfl, by omega, t7, by have := step_acts dd l[i]; omega, by rw [step_many]; exact hmy, t6.extO (x4.trans x46) f7⟩, hmu⟩
  have hge := of_decide_eq_false hlt
  obtain rfl : i = l.length := by omega
  ((conv=>whnf);repeat((first|(with_reducible first|refine Z1 ?_|refine Z2 ?_|refine Z3 ?_|refine Z4 ?_|refine Z5 ?_|refine Z9 (by assumption) rfl ?_|refine ZA (by assumption) rfl ?_|refine ZB (by assumption) rfl ?_|refine Z6 ?_|refine Z7 ?_|refine Z8 ?_)|((with_reducible refine ZM ?_ ?_);(focus rfl)));(conv=>whnf)))
  refine HCall.mk ((on_spec t4.d1).mono ?_)
  rintro e h5 ⟨rfl, d5, f5⟩
  have x5 : Ext h1 h5 := t4.extO x4 (wideD f5)
  have hD1 := on_off dd
  have hD2 : dd.on.many = 6 := by rw [on_many]; exact hmy
  have hD3 : dd.on.acts ≤ 60 := by rw [on_acts]; omega
  generalize dd.on = D at hD1 hD2 hD3 d5
  have ltD := d5.lt
  have loD : ∀ u ∈ [b, rf, rw], h1.size ≤ u := fun u hu => by simp only [List.mem_cons, List.not_mem_nil, or_false] at hu; omega
  ((conv=>whnf);repeat((first|(with_reducible first|refine Z1 ?_|refine Z2 ?_|refine Z3 ?_|refine Z4 ?_|refine Z5 ?_|refine Z9 (by assumption) rfl ?_|refine ZA (by assumption) rfl ?_|refine ZB (by assumption) rfl ?_|refine Z6 ?_|refine Z7 ?_|refine Z8 ?_)|((with_reducible refine ZM ?_ ?_);(focus rfl)));(conv=>whnf)))
  refine new_var (e := 47) (tab 6 fun _ => ⟨#[]⟩) rfl ?_
  intro h6 bw w6 x6 z6 hbw
  ((conv=>whnf);repeat((first|(with_reducible first|refine Z1 ?_|refine Z2 ?_|refine Z3 ?_|refine Z4 ?_|refine Z5 ?_|refine Z9 (by assumption) rfl ?_|refine ZA (by assumption) rfl ?_|refine ZB (by assumption) rfl ?_|refine Z6 ?_|refine Z7 ?_|refine Z8 ?_)|((with_reducible refine ZM ?_ ?_);(focus rfl)));(conv=>whnf)))
  refine loop_rule [55] (fun vs h' => ∃ (i : Nat), vs = [.int .i64 i] ∧ i ≤ 6 ∧ BlkW h' bw 47 (tab 6 fun j => if j < i then D.toldB j else ⟨#[]⟩) ∧ Ext h5 h')
    (fun vs _ => match vs with | [.int _ i] => 6 - i.toNat | _ => 0) rfl ?_ ?_
  · exact ⟨0, rfl, by omega, w6, x6⟩
  intro u h7 v55
  rintro ⟨i, e, hi, w7, x7⟩
  cases e
  ((conv=>whnf);repeat((first|(with_reducible first|refine Z1 ?_|refine Z2 ?_|refine Z3 ?_|refine Z4 ?_|refine Z5 ?_|refine Z9 (by assumption) rfl ?_|refine ZA (by assumption) rfl ?_|refine ZB (by assumption) rfl ?_|refine Z6 ?_|refine Z7 ?_|refine Z8 ?_)|((with_reducible refine ZM ?_ ?_);(focus rfl)));(conv=>whnf)))
  refine HIf.mk (fun hlt2 => ?_) (fun hlt2 => ?_)
  · have hi1 : i < 6 := by have := of_decide_eq_true hlt2; omega
    have hmu : 6 - ((i : Int) + 1).toNat < 6 - ((i : Int)).toNat := by omega
    ((conv=>whnf);repeat((first|(with_reducible first|refine Z1 ?_|refine Z2 ?_|refine Z3 ?_|refine Z4 ?_|refine Z5 ?_|refine Z9 (by assumption) rfl ?_|refine ZA (by assumption) rfl ?_|refine ZB (by assumption) rfl ?_|refine Z6 ?_|refine Z7 ?_|refine Z8 ?_)|((with_reducible refine ZM ?_ ?_);(focus rfl)));(conv=>whnf)))
    refine HCall.mk ((read_spec (d5.ext x7) i).mono ?_)
    rintro e h8 ⟨a8, c8, rfl, w8, x8⟩
    have w78 := w7.ext x8
    clear w7
    ((conv=>whnf);repeat((first|(with_reducible first|refine Z1 ?_|refine Z2 ?_|refine Z3 ?_|refine Z4 ?_|refine Z5 ?_|refine Z9 (by assumption) rfl ?_|refine ZA (by assumption) rfl ?_|refine ZB (by assumption) rfl ?_|refine Z6 ?_|refine Z7 ?_|refine Z8 ?_)|((with_reducible refine ZM ?_ ?_);(focus rfl)));(conv=>whnf)))
    refine w8.sl.bytes ?_
    ((conv=>whnf);repeat((first|(with_reducible first|refine Z1 ?_|refine Z2 ?_|refine Z3 ?_|refine Z4 ?_|refine Z5 ?_|refine Z9 (by assumption) rfl ?_|refine ZA (by assumption) rfl ?_|refine ZB (by assumption) rfl ?_|refine Z6 ?_|refine Z7 ?_|refine Z8 ?_)|((with_reducible refine ZM ?_ ?_);(focus rfl)));(conv=>whnf)))
    refine HIdx.mk i rfl hi1 ?_
    ((conv=>whnf);repeat((first|(with_reducible first|refine Z1 ?_|refine Z2 ?_|refine Z3 ?_|refine Z4 ?_|refine Z5 ?_|refine Z9 (by assumption) rfl ?_|refine ZA (by assumption) rfl ?_|refine ZB (by assumption) rfl ?_|refine Z6 ?_|refine Z7 ?_|refine Z8 ?_)|((with_reducible refine ZM ?_ ?_);(focus rfl)));(conv=>whnf)))
    rw [Nat.mul_one]
    refine blk_st (o := i) w78 (by rw [tab_len]; exact hi1) rfl ?_
    intro h9 f9 z9 w9
    replace w9 : BlkW h9 bw 47 ((tab 6 fun j => if j < i then D.toldB j else ⟨#[]⟩).set i (.string (D.toldB i))) := w9
    rw [tab_set] at w9
    ((conv=>whnf);repeat((first|(with_reducible first|refine Z1 ?_|refine Z2 ?_|refine Z3 ?_|refine Z4 ?_|refine Z5 ?_|refine Z9 (by assumption) rfl ?_|refine ZA (by assumption) rfl ?_|refine ZB (by assumption) rfl ?_|refine Z6 ?_|refine Z7 ?_|refine Z8 ?_)|((with_reducible refine ZM ?_ ?_);(focus rfl)));(conv=>whnf)))
    refine ⟨⟨i + 1, rfl, by omega, ?_, (x7.trans x8).offNew f9 (by omega)⟩, hmu⟩
    rw [tab_congr (G := fun j => if j < i + 1 then D.toldB j else ⟨#[]⟩)] at w9
    · exact w9
    · intro j hj
      by_cases e : j = i
      · subst e; rw [if_pos rfl, if_pos (by omega)]
      · rw [if_neg e]
        by_cases h2 : j < i
        · rw [if_pos h2, if_pos (by omega)]
        · rw [if_neg h2, if_neg (by omega)]
  have hge2 := of_decide_eq_false hlt2
  obtain rfl : i = 6 := by omega
  rw [tab_congr (G := D.sec) (fun j hj => by rw [if_pos hj, toldB_in hD1 (by omega)])] at w7
  have x17 := x5.trans x7
  have ob7 := ob1.ext x17
  have d7 := d5.ext x7
  clear ob1
  ((conv=>whnf);repeat((first|(with_reducible first|refine Z1 ?_|refine Z2 ?_|refine Z3 ?_|refine Z4 ?_|refine Z5 ?_|refine Z9 (by assumption) rfl ?_|refine ZA (by assumption) rfl ?_|refine ZB (by assumption) rfl ?_|refine Z6 ?_|refine Z7 ?_|refine Z8 ?_)|((with_reducible refine ZM ?_ ?_);(focus rfl)));(conv=>whnf)))
  refine HCall.mk ((bytes_spec (ro1.agree (fun k hk => x17.2 k hk))).mono ?_)
  rintro e h8 ⟨a8, c8, rfl, w8, x8⟩
  have ob8 := ob7.ext x8
  have d8 := d7.ext x8
  have w78 := w7.ext x8
  have w8lt := w8.lt
  clear ob7 w7
  have hs8 := x8.1
  have hs7 := x7.1
  have hs6 := x6.1
  ((conv=>whnf);repeat((first|(with_reducible first|refine Z1 ?_|refine Z2 ?_|refine Z3 ?_|refine Z4 ?_|refine Z5 ?_|refine Z9 (by assumption) rfl ?_|refine ZA (by assumption) rfl ?_|refine ZB (by assumption) rfl ?_|refine Z6 ?_|refine Z7 ?_|refine Z8 ?_)|((with_reducible refine ZM ?_ ?_);(focus rfl)));(conv=>whnf)))
  refine HCall.mk ((write_spec d8 (by omega) o.i w8.sl (fun p ep => by have := w8lt p ep; exact ⟨fun hm => by simp only [List.mem_cons, List.not_mem_nil, or_false] at hm; omega, this.2⟩)).mono ?_)
  rintro e h9 ⟨rfl, d9, f9⟩
  have wt := write_told hD1 o.i ⟨o.bytes.toArray⟩
  have wm := write_many D o.i ⟨o.bytes.toArray⟩
  generalize D.write o.i ⟨o.bytes.toArray⟩ = r at d9 wt wm
  have hboD : bo ∉ [b, rf, rw] := fun hm => by have := loD bo hm; omega
  have hbwD : bw ∉ [b, rf, rw] := fun hm => by simp only [List.mem_cons, List.not_mem_nil, or_false] at hm; omega
  have ob9 := BlkW.offS ob8 f9 hboD
  have w79 := BlkW.offS w78 f9 hbwD
  have x19 := f9.ext (x17.trans x8) loD
  have hs9 := f9.1
  clear ob8 w78
  have ro9 := ro1.agree (fun k hk => x19.2 k hk)
  ((conv=>whnf);repeat((first|(with_reducible first|refine Z2 ?_|refine Z3 ?_|refine Z4 ?_|refine Z5 ?_|refine Z9 (by assumption) rfl ?_|refine ZA (by assumption) rfl ?_|refine ZB (by assumption) rfl ?_|refine Z6 ?_|refine Z7 ?_|refine Z8 ?_)|((with_reducible refine ZM ?_ ?_);(focus rfl)));(conv=>whnf)))
  refine cut_rule [] (fun vs h' => vs = [] ∧ DR h' b rf rw r.2 ∧ Ext h1 h' ∧ h9.size ≤ h'.size ∧ BlkW h' bw 47 (tab 6 fun j => if r.1 = 0 ∧ (j : Int) = o.i then ⟨o.bytes.toArray⟩ else D.sec j)) rfl ?_ ?_
  · rcases wt with ⟨e0, i0, i6, _, _⟩ | ⟨e0, _⟩
    · have q0 : (r.1 == 0) = true := beq_iff_eq.2 e0
      obtain ⟨n, hn'⟩ := Int.eq_ofNat_of_zero_le i0
      have w89 := own_S w8 f9 (fun u hu => by simp only [List.mem_cons, List.not_mem_nil, or_false] at hu; omega)
      have hn6 : n < 6 := by omega
      ((conv=>whnf);repeat((first|(with_reducible first|refine Z1 ?_|refine Z2 ?_|refine Z3 ?_|refine Z4 ?_|refine Z5 ?_|refine Z9 (by assumption) rfl ?_|refine ZA (by assumption) rfl ?_|refine ZB (by assumption) rfl ?_|refine Z6 ?_|refine Z7 ?_|refine Z8 ?_)|((with_reducible refine ZM ?_ ?_);(focus rfl)));(conv=>whnf)))
      refine w89.sl.bytes ?_
      ((conv=>whnf);repeat((first|(with_reducible first|refine Z1 ?_|refine Z2 ?_|refine Z3 ?_|refine Z4 ?_|refine Z5 ?_|refine Z9 (by assumption) rfl ?_|refine ZA (by assumption) rfl ?_|refine ZB (by assumption) rfl ?_|refine Z6 ?_|refine Z7 ?_|refine Z8 ?_)|((with_reducible refine ZM ?_ ?_);(focus rfl)));(conv=>whnf)))
      refine HIdx.mk n (by rw [hn']) hn6 ?_
      ((conv=>whnf);repeat((first|(with_reducible first|refine Z1 ?_|refine Z2 ?_|refine Z3 ?_|refine Z4 ?_|refine Z5 ?_|refine Z9 (by assumption) rfl ?_|refine ZA (by assumption) rfl ?_|refine ZB (by assumption) rfl ?_|refine Z6 ?_|refine Z7 ?_|refine Z8 ?_)|((with_reducible refine ZM ?_ ?_);(focus rfl)));(conv=>whnf)))
      rw [Nat.mul_one]
      refine blk_st (o := n) w79 (by rw [tab_len]; exact hn6) rfl ?_
      intro h10 f10 z10 w10
      replace w10 : BlkW h10 bw 47 ((tab 6 D.sec).set n (.string ⟨o.bytes.toArray⟩)) := w10
      rw [tab_set, tab_congr (G := fun j => if r.1 = 0 ∧ (j : Int) = o.i then ⟨o.bytes.toArray⟩ else D.sec j)] at w10
      · ((conv=>whnf);repeat((first|(with_reducible first|refine Z1 ?_|refine Z2 ?_|refine Z3 ?_|refine Z4 ?_|refine Z5 ?_|refine Z9 (by assumption) rfl ?_|refine ZA (by assumption) rfl ?_|refine ZB (by assumption) rfl ?_|refine Z6 ?_|refine Z7 ?_|refine Z8 ?_)|((with_reducible refine ZM ?_ ?_);(focus rfl)));(conv=>whnf)))
        exact ⟨rfl, d9.offS (OffS.of_off f10 (S := [bw]) (by simp)) (by simp; omega) (by simp; omega) (by simp; omega), x19.offNew f10 (by omega), f10.1, w10⟩
      · intro j hj
        by_cases e : j = n
        · rw [if_pos e, if_pos ⟨e0, by omega⟩]
        · rw [if_neg e, if_neg (by omega)]
    · have q0 : (r.1 == 0) = false := beq_eq_false_iff_ne.2 e0
      ((conv=>whnf);repeat((first|(with_reducible first|refine Z1 ?_|refine Z2 ?_|refine Z3 ?_|refine Z4 ?_|refine Z5 ?_|refine Z9 (by assumption) rfl ?_|refine ZA (by assumption) rfl ?_|refine ZB (by assumption) rfl ?_|refine Z6 ?_|refine Z7 ?_|refine Z8 ?_)|((with_reducible refine ZM ?_ ?_);(focus rfl)));(conv=>whnf)))
      refine ⟨rfl, d9, x19, Nat.le_refl _, ?_⟩
      rw [tab_congr (G := D.sec) (fun j hj => by rw [if_neg (fun hh => e0 hh.1)])]
      exact w79
  clear w79 ob9
  intro fr10 h10
  rintro ⟨-, d10, x10, hs10, w10⟩
  have hG : r.2.off = false → ∀ j, j < 6 → r.2.toldB j = (if r.1 = 0 ∧ (j : Int) = o.i then ⟨o.bytes.toArray⟩ else D.sec j) := by
    intro ho j hj
    rw [toldB_in ho (by omega)]
    rcases wt with ⟨e0, i0, i6, _, hj2⟩ | ⟨e0, _, hj2⟩
    · rw [hj2]
      by_cases e : (j : Int) = o.i
      · rw [if_pos e, if_pos ⟨e0, e⟩]
      · rw [if_neg e, if_neg (fun hh => e hh.2)]
    · rw [hj2, if_neg (fun hh => e0 hh.1)]
  ((conv=>whnf);repeat((first|(with_reducible first|refine Z1 ?_|refine Z2 ?_|refine Z3 ?_|refine Z4 ?_|refine Z5 ?_|refine Z9 (by assumption) rfl ?_|refine ZA (by assumption) rfl ?_|refine ZB (by assumption) rfl ?_|refine Z6 ?_|refine Z7 ?_|refine Z8 ?_)|((with_reducible refine ZM ?_ ?_);(focus rfl)));(conv=>whnf)))
  refine loop_rule [83] (fun vs h' => ∃ (i : Nat), vs = [.int .i64 i] ∧ i ≤ 6 ∧ Ext h10 h')
    (fun vs _ => match vs with | [.int _ i] => 6 - i.toNat | _ => 0) rfl ?_ ?_
  · exact ⟨0, rfl, by omega, Ext.refl _⟩
  intro u h11 v83
  rintro ⟨i, e, hi, x11⟩
  cases e
  have w11 := w10.ext x11
  have d11 := d10.ext x11
  ((conv=>whnf);repeat((first|(with_reducible first|refine Z1 ?_|refine Z2 ?_|refine Z3 ?_|refine Z4 ?_|refine Z5 ?_|refine Z9 (by assumption) rfl ?_|refine ZA (by assumption) rfl ?_|refine ZB (by assumption) rfl ?_|refine Z6 ?_|refine Z7 ?_|refine Z8 ?_)|((with_reducible refine ZM ?_ ?_);(focus rfl)));(conv=>whnf)))
  refine HIf.mk (fun hlt3 => ?_) (fun hlt3 => ?_)
  · have hi1 : i < 6 := by have := of_decide_eq_true hlt3; omega
    have hmu : 6 - ((i : Int) + 1).toNat < 6 - ((i : Int)).toNat := by omega
    ((conv=>whnf);repeat((first|(with_reducible first|refine Z1 ?_|refine Z2 ?_|refine Z3 ?_|refine Z4 ?_|refine Z5 ?_|refine Z9 (by assumption) rfl ?_|refine ZA (by assumption) rfl ?_|refine ZB (by assumption) rfl ?_|refine Z6 ?_|refine Z7 ?_|refine Z8 ?_)|((with_reducible refine ZM ?_ ?_);(focus rfl)));(conv=>whnf)))
    refine HCall.mk ((read_spec d11 i).mono ?_)
    rintro e h12 ⟨a12, c12, rfl, w12, x12⟩
    have w112 := w11.ext x12
    clear w11
    ((conv=>whnf);repeat((first|(with_reducible first|refine Z1 ?_|refine Z2 ?_|refine Z3 ?_|refine Z4 ?_|refine Z5 ?_|refine Z9 (by assumption) rfl ?_|refine ZA (by assumption) rfl ?_|refine ZB (by assumption) rfl ?_|refine Z6 ?_|refine Z7 ?_|refine Z8 ?_)|((with_reducible refine ZM ?_ ?_);(focus rfl)));(conv=>whnf)))
    refine HCall.mk ((isOn_spec (d11.ext x12)).mono ?_)
    rintro e h12 ⟨rfl, rfl⟩
    by_cases ho : r.2.off = true
    · rw [ho]
      ((conv=>whnf);repeat((first|(with_reducible first|refine Z1 ?_|refine Z2 ?_|refine Z3 ?_|refine Z4 ?_|refine Z5 ?_|refine Z9 (by assumption) rfl ?_|refine ZA (by assumption) rfl ?_|refine ZB (by assumption) rfl ?_|refine Z6 ?_|refine Z7 ?_|refine Z8 ?_)|((with_reducible refine ZM ?_ ?_);(focus rfl)));(conv=>whnf)))
      exact ⟨⟨i + 1, rfl, by omega, x11.trans x12⟩, hmu⟩
    · have ho' : r.2.off = false := by simpa using ho
      rw [ho']
      have hg := hG ho' i hi1
      have q1 : (r.2.refused (i : Int) != 0) = false := by rw [refused_in ho' (by omega)]; rfl
      ((conv=>whnf);repeat((first|(with_reducible first|refine Z1 ?_|refine Z2 ?_|refine Z3 ?_|refine Z4 ?_|refine Z5 ?_|refine Z9 (by assumption) rfl ?_|refine ZA (by assumption) rfl ?_|refine ZB (by assumption) rfl ?_|refine Z6 ?_|refine Z7 ?_|refine Z8 ?_)|((with_reducible refine ZM ?_ ?_);(focus rfl)));(conv=>whnf)))
      refine w12.sl.bytes ?_
      ((conv=>whnf);repeat((first|(with_reducible first|refine Z1 ?_|refine Z2 ?_|refine Z3 ?_|refine Z4 ?_|refine Z5 ?_|refine Z9 (by assumption) rfl ?_|refine ZA (by assumption) rfl ?_|refine ZB (by assumption) rfl ?_|refine Z6 ?_|refine Z7 ?_|refine Z8 ?_)|((with_reducible refine ZM ?_ ?_);(focus rfl)));(conv=>whnf)))
      refine HIdx.mk i rfl hi1 ?_
      ((conv=>whnf);repeat((first|(with_reducible first|refine Z1 ?_|refine Z2 ?_|refine Z3 ?_|refine Z4 ?_|refine Z5 ?_|refine Z9 (by assumption) rfl ?_|refine ZA (by assumption) rfl ?_|refine ZB (by assumption) rfl ?_|refine Z6 ?_|refine Z7 ?_|refine Z8 ?_)|((with_reducible refine ZM ?_ ?_);(focus rfl)));(conv=>whnf)))
      rw [Nat.mul_one]
      refine blk_ld (o := i) w112 (List.getElem?_eq_getElem (by rw [tab_len]; exact hi1)) ?_
      rw [tab_get, ← hg]
      have q2 : (!strEq (⟨(r.2.told (i : Int)).toArray⟩ : ByteArray) (r.2.toldB i)) = false := by show (!strEq (r.2.toldB i) (r.2.toldB i)) = false; rw [(strEq_iff _ _).2 rfl]; rfl
      ((conv=>whnf);repeat((first|(with_reducible first|refine Z1 ?_|refine Z2 ?_|refine Z3 ?_|refine Z4 ?_|refine Z5 ?_|refine Z9 (by assumption) rfl ?_|refine ZA (by assumption) rfl ?_|refine ZB (by assumption) rfl ?_|refine Z6 ?_|refine Z7 ?_|refine Z8 ?_)|((with_reducible refine ZM ?_ ?_);(focus rfl)));(conv=>whnf)))
      exact ⟨⟨i + 1, rfl, by omega, x11.trans x12⟩, hmu⟩
  · rcases wt with ⟨e0, _⟩ | ⟨e0, e160, _⟩
    · have q0 : (r.1 == 0) = true := beq_iff_eq.2 e0
      ((conv=>whnf);repeat((first|(with_reducible first|refine Z1 ?_|refine Z2 ?_|refine Z3 ?_|refine Z4 ?_|refine Z5 ?_|refine Z9 (by assumption) rfl ?_|refine ZA (by assumption) rfl ?_|refine ZB (by assumption) rfl ?_|refine Z6 ?_|refine Z7 ?_|refine Z8 ?_)|((with_reducible refine ZM ?_ ?_);(focus rfl)));(conv=>whnf)))
      exact ⟨rfl, x01.trans (x10.trans x11)⟩
    · have q0 : (r.1 == 0) = false := beq_eq_false_iff_ne.2 e0
      by_cases e1 : r.1 = 160
      · have q1 : (r.1 != 160) = false := by rw [e1]; rfl
        ((conv=>whnf);repeat((first|(with_reducible first|refine Z1 ?_|refine Z2 ?_|refine Z3 ?_|refine Z4 ?_|refine Z5 ?_|refine Z9 (by assumption) rfl ?_|refine ZA (by assumption) rfl ?_|refine ZB (by assumption) rfl ?_|refine Z6 ?_|refine Z7 ?_|refine Z8 ?_)|((with_reducible refine ZM ?_ ?_);(focus rfl)));(conv=>whnf)))
        refine HCall.mk ((isOn_spec d11).mono ?_)
        rintro e h12 ⟨rfl, rfl⟩
        rw [e160 e1]
        ((conv=>whnf);repeat((first|(with_reducible first|refine Z1 ?_|refine Z2 ?_|refine Z3 ?_|refine Z4 ?_|refine Z5 ?_|refine Z9 (by assumption) rfl ?_|refine ZA (by assumption) rfl ?_|refine ZB (by assumption) rfl ?_|refine Z6 ?_|refine Z7 ?_|refine Z8 ?_)|((with_reducible refine ZM ?_ ?_);(focus rfl)));(conv=>whnf)))
        exact ⟨rfl, x01.trans (x10.trans x11)⟩
      · have q1 : (r.1 != 160) = true := bne_iff_ne.2 e1
        ((conv=>whnf);repeat((first|(with_reducible first|refine Z1 ?_|refine Z2 ?_|refine Z3 ?_|refine Z4 ?_|refine Z5 ?_|refine Z9 (by assumption) rfl ?_|refine ZA (by assumption) rfl ?_|refine ZB (by assumption) rfl ?_|refine Z6 ?_|refine Z7 ?_|refine Z8 ?_)|((with_reducible refine ZM ?_ ?_);(focus rfl)));(conv=>whnf)))
        exact ⟨rfl, x01.trans (x10.trans x11)⟩

end Go.Proofs.Ytlbmhpjefpdekaa.Hc
