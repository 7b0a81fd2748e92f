/- The law Clones. -/
import Derived.Test.YtlbmhpjefpdekaaXF
set_option linter.unusedVariables false
set_option linter.unusedSimpArgs false
namespace Go.Proofs.Ytlbmhpjefpdekaa.Hc
open Go Go.H Go.Proofs
set_option maxRecDepth 100000
set_option maxHeartbeats 16000000

/-- The state behind some calls. -/
def runD (l : List OpP) (d : DK) : DK := l.foldl step d
theorem runD_take (l : List OpP) (d : DK) (i : Nat) (hi : i < l.length) : runD (l.take (i + 1)) d = step (runD (l.take i) d) l[i] := by
  unfold runD
  rw [List.take_add_one, List.getElem?_eq_getElem hi, List.foldl_append]; rfl
theorem two_off {h h' : Heap} {b1 f1 w1 b fb wb b' rf rw : Nat} {d : DK} (x : DR h b rf rw d) (o : OffS (six b1 f1 w1 b' fb wb) h h') (hn : ∀ u ∈ [b, rf, rw], u ∉ six b1 f1 w1 b' fb wb) : DR h' b rf rw d := x.offS o (hn b (by simp)) (hn rf (by simp)) (hn rw (by simp))

theorem diskClones_spec {h : Heap} {a a' : Option Addr} {c c' : Nat} {l m : List OpP} {xs ys : List Value} (s : Sl h 4 a l.length c xs) (es : Els (OpRep h.size) h l xs) (hl : l.length ≤ 1048576) (s' : Sl h 4 a' m.length c' ys) (em : Els (OpRep h.size) h m ys) (hm : m.length ≤ 1048576) :
    HCalls Try.prog 6 #[.slice a l.length c, .slice a' m.length c'] h fun e h' => e = .returned (.bool true) ∧ Ext h h' := by
  refine c6 (by simp) ?_
  ((conv=>whnf);repeat((first|(with_reducible first|refine Z1 ?_|refine Z2 ?_|refine Z3 ?_|refine Z4 ?_|refine Z5 ?_|refine Z9 (by assumption) rfl ?_|refine ZA (by assumption) rfl ?_|refine ZB (by assumption) rfl ?_|refine Z6 ?_|refine Z7 ?_|refine Z8 ?_)|((with_reducible refine ZM ?_ ?_);(focus rfl)));(conv=>whnf)))
  refine HCall.mk ((live_spec h).mono ?_)
  rintro e h1 ⟨rfl, x1⟩
  ((conv=>whnf);repeat((first|(with_reducible first|refine Z1 ?_|refine Z2 ?_|refine Z3 ?_|refine Z4 ?_|refine Z5 ?_|refine Z9 (by assumption) rfl ?_|refine ZA (by assumption) rfl ?_|refine ZB (by assumption) rfl ?_|refine Z6 ?_|refine Z7 ?_|refine Z8 ?_)|((with_reducible refine ZM ?_ ?_);(focus rfl)));(conv=>whnf)))
  refine HCall.mk ((new_disk 6 h1).mono ?_)
  rintro e h2 ⟨x2, ⟨_, _, b, rf, rw, rfl, d2, g1, g2, g3⟩ | ⟨hno, rfl⟩⟩
  rotate_left
  · exact absurd (by decide) hno
  have qb : (bif false then !(some (⟨b, 0, none⟩ : Addr)).isNone else (some (⟨b, 0, none⟩ : Addr)).isNone) = false := rfl
  by_cases h60 : l.length ≤ 60
  rotate_left
  · have q : decide ((l.length : Int) > 60) = true := decide_eq_true (by omega)
    ((conv=>whnf);repeat((first|(with_reducible first|refine Z1 ?_|refine Z2 ?_|refine Z3 ?_|refine Z4 ?_|refine Z5 ?_|refine Z9 (by assumption) rfl ?_|refine ZA (by assumption) rfl ?_|refine ZB (by assumption) rfl ?_|refine Z6 ?_|refine Z7 ?_|refine Z8 ?_)|((with_reducible refine ZM ?_ ?_);(focus rfl)));(conv=>whnf)))
    exact ⟨rfl, x1.trans x2⟩
  have q : decide ((l.length : Int) > 60) = false := decide_eq_false (by omega)
  by_cases h60' : m.length ≤ 60
  rotate_left
  · have q' : decide ((m.length : Int) > 60) = true := decide_eq_true (by omega)
    ((conv=>whnf);repeat((first|(with_reducible first|refine Z1 ?_|refine Z2 ?_|refine Z3 ?_|refine Z4 ?_|refine Z5 ?_|refine Z9 (by assumption) rfl ?_|refine ZA (by assumption) rfl ?_|refine ZB (by assumption) rfl ?_|refine Z6 ?_|refine Z7 ?_|refine Z8 ?_)|((with_reducible refine ZM ?_ ?_);(focus rfl)));(conv=>whnf)))
    exact ⟨rfl, x1.trans x2⟩
  have q' : decide ((m.length : Int) > 60) = false := decide_eq_false (by omega)
  ((conv=>whnf);repeat((first|(with_reducible first|refine Z1 ?_|refine Z2 ?_|refine Z3 ?_|refine Z4 ?_|refine Z5 ?_|refine Z9 (by assumption) rfl ?_|refine ZA (by assumption) rfl ?_|refine ZB (by assumption) rfl ?_|refine Z6 ?_|refine Z7 ?_|refine Z8 ?_)|((with_reducible refine ZM ?_ ?_);(focus rfl)));(conv=>whnf)))
  refine HCall.mk ((rnew_spec 6 h2).mono ?_)
  rintro e h3 ⟨x3, ⟨_, _, b', fb, wb, rfl, r3, k1, k2, k3⟩ | ⟨hno, _⟩⟩
  rotate_left
  · exact absurd (by decide) hno
  have t3 : Two h3 h1.size b rf rw b' fb wb (DK.new 6) := Two.new d2 r3 x3 (Nat.le_refl _) g1 g2 g3 k1 k2 k3
  have es1 : Els (OpRep h1.size) h1 l xs := ops_up es x1.2 x1.1
  have em1 : Els (OpRep h1.size) h1 m ys := ops_up em x1.2 x1.1
  have s1 := s.ext x1
  have s1' := s'.ext x1
  have x03 := x2.trans x3
  ((conv=>whnf);repeat((first|(with_reducible first|refine Z1 ?_|refine Z2 ?_|refine Z3 ?_|refine Z4 ?_|refine Z5 ?_|refine Z9 (by assumption) rfl ?_|refine ZA (by assumption) rfl ?_|refine ZB (by assumption) rfl ?_|refine Z6 ?_|refine Z7 ?_|refine Z8 ?_)|((with_reducible refine ZM ?_ ?_);(focus rfl)));(conv=>whnf)))
  refine loop_rule [54] (fun vs h' => ∃ (i : Nat), vs = [.int .i64 i] ∧ i ≤ l.length ∧ Two h' h1.size b rf rw b' fb wb (runD (l.take i) (DK.new 6)) ∧ (runD (l.take i) (DK.new 6)).acts ≤ i ∧ (runD (l.take i) (DK.new 6)).many = 6 ∧ Ext h1 h')
    (fun vs _ => match vs with | [.int _ i] => l.length - i.toNat | _ => 0) rfl ?_ ?_
  · exact ⟨0, rfl, by omega, t3, Nat.le_refl _, rfl, x03⟩
  intro u h4 v54
  rintro ⟨i, e, hi, t4, hac, hmy, x4⟩
  cases e
  ((conv=>whnf);repeat((first|(with_reducible first|refine Z1 ?_|refine Z2 ?_|refine Z3 ?_|refine Z4 ?_|refine Z5 ?_|refine Z9 (by assumption) rfl ?_|refine ZA (by assumption) rfl ?_|refine ZB (by assumption) rfl ?_|refine Z6 ?_|refine Z7 ?_|refine Z8 ?_)|((with_reducible refine ZM ?_ ?_);(focus rfl)));(conv=>whnf)))
  refine HIf.mk (fun hlt => ?_) (fun hlt => ?_)
  · have hi1 : i < l.length := by have := of_decide_eq_true hlt; omega
    have hmu : l.length - ((i : Int) + 1).toNat < l.length - ((i : Int)).toNat := by omega
    have st := runD_take l (DK.new 6) i hi1
    generalize runD (l.take i) (DK.new 6) = dd at t4 hac hmy st
    ((conv=>whnf);repeat((first|(with_reducible first|refine Z1 ?_|refine Z2 ?_|refine Z3 ?_|refine Z4 ?_|refine Z5 ?_|refine Z9 (by assumption) rfl ?_|refine ZA (by assumption) rfl ?_|refine ZB (by assumption) rfl ?_|refine Z6 ?_|refine Z7 ?_|refine Z8 ?_)|((with_reducible refine ZM ?_ ?_);(focus rfl)));(conv=>whnf)))
    refine HIdx.mk i rfl hi1 ?_
    refine sl_some s1 hi1 fun p ep => ?_
    ((conv=>whnf);repeat((first|(with_reducible first|refine Z1 ?_|refine Z2 ?_|refine Z3 ?_|refine Z4 ?_|refine Z5 ?_|refine Z9 (by assumption) rfl ?_|refine ZA (by assumption) rfl ?_|refine ZB (by assumption) rfl ?_|refine Z6 ?_|refine Z7 ?_|refine Z8 ?_)|((with_reducible refine ZM ?_ ?_);(focus rfl)));(conv=>whnf)))
    refine (s1.ext x4).loadEl (fun o cs r => r.len) (ops_at es1 x4) ep hi1 fun cs ro => ?_
    ((conv=>whnf);repeat((first|(with_reducible first|refine Z1 ?_|refine Z2 ?_|refine Z3 ?_|refine Z4 ?_|refine Z5 ?_|refine Z9 (by assumption) rfl ?_|refine ZA (by assumption) rfl ?_|refine ZB (by assumption) rfl ?_|refine Z6 ?_|refine Z7 ?_|refine Z8 ?_)|((with_reducible refine ZM ?_ ?_);(focus rfl)));(conv=>whnf)))
    refine new_var (e := 33) [.int .i64 0, .int .i64 0, .int .i64 0, .slice none 0 0] rfl ?_
    intro h5 b5 o5 x5 z5 hb5
    ((conv=>whnf);repeat((first|(with_reducible first|refine Z1 ?_|refine Z2 ?_|refine Z3 ?_|refine Z4 ?_|refine Z5 ?_|refine Z9 (by assumption) rfl ?_|refine ZA (by assumption) rfl ?_|refine ZB (by assumption) rfl ?_|refine Z6 ?_|refine Z7 ?_|refine Z8 ?_)|((with_reducible refine ZM ?_ ?_);(focus rfl)));(conv=>whnf)))
    have hcl := ro.len
    refine HMust.mk (by simpa using hcl) ?_
    refine store_blk o5 (by simp [hcl]) (by simpa using ro.one) ?_
    intro h6 f6 z6 o6
    have o6' : BlkW h6 b5 33 cs := by
      have e : ([Value.int .i64 0, .int .i64 0, .int .i64 0, .slice none 0 0] : List Value).drop (0 + cs.toArray.toList.length) = [] := by simp [hcl]
      rw [e] at o6
      simpa using o6
    have x46 : Ext h4 h6 := x5.offNew f6 (by omega)
    have t6 := t4.ext x46
    have ro6 : OpRep h1.size h6 l[i] cs := ro.agree (fun k hk => x46.2 k (by have := x4.1; omega))
    clear o5 o6
    ((conv=>whnf);repeat((first|(with_reducible first|refine Z1 ?_|refine Z2 ?_|refine Z3 ?_|refine Z4 ?_|refine Z5 ?_|refine Z9 (by assumption) rfl ?_|refine ZA (by assumption) rfl ?_|refine ZB (by assumption) rfl ?_|refine Z6 ?_|refine Z7 ?_|refine Z8 ?_)|((with_reducible refine ZM ?_ ?_);(focus rfl)));(conv=>whnf)))
    refine blk_ldN o6' hcl ?_
    ((conv=>whnf);repeat((first|(with_reducible first|refine Z1 ?_|refine Z2 ?_|refine Z3 ?_|refine Z4 ?_|refine Z5 ?_|refine Z9 (by assumption) rfl ?_|refine ZA (by assumption) rfl ?_|refine ZB (by assumption) rfl ?_|refine Z6 ?_|refine Z7 ?_|refine Z8 ?_)|((with_reducible refine ZM ?_ ?_);(focus rfl)));(conv=>whnf)))
    refine HCall.mk ((do_spec t6 (by omega) ro6).mono ?_)
    rintro e h7 ⟨rfl, t7, f7⟩
    ((conv=>whnf);repeat((first|(with_reducible first|refine Z1 ?_|refine Z2 ?_|refine Z3 ?_|refine Z4 ?_|refine Z5 ?_|refine Z9 (by assumption) rfl ?_|refine ZA (by assumption) rfl ?_|refine ZB (by assumption) rfl ?_|refine Z6 ?_|refine Z7 ?_|refine Z8 ?_)|((with_reducible refine ZM ?_ ?_);(focus rfl)));(conv=>whnf)))
    exact ⟨⟨i + 1, rfl, by omega, by rw [st]; exact t7, by rw [st]; have := step_acts dd l[i]; omega, by rw [st, step_many]; exact hmy, t6.extO (x4.trans x46) f7⟩, hmu⟩
  have hge := of_decide_eq_false hlt
  obtain rfl : i = l.length := by omega
  rw [List.take_length] at t4 hac hmy
  have L := t4.lt
  have t4lo := t4.lo
  ((conv=>whnf);repeat((first|(with_reducible first|refine Z1 ?_|refine Z2 ?_|refine Z3 ?_|refine Z4 ?_|refine Z5 ?_|refine Z9 (by assumption) rfl ?_|refine ZA (by assumption) rfl ?_|refine ZB (by assumption) rfl ?_|refine Z6 ?_|refine Z7 ?_|refine Z8 ?_)|((with_reducible refine ZM ?_ ?_);(focus rfl)));(conv=>whnf)))
  refine HCall.mk ((clone_spec t4.d1).mono ?_)
  rintro e h5 ⟨b2, rf2, rw2, rfl, d5, x5, j1, j2, j3⟩
  have t5 := t4.ext x5
  have c5 : Two h5 h1.size b2 rf2 rw2 b' fb wb (runD l (DK.new 6)) := by
    refine ⟨d5, t5.r1, ?_, ?_⟩
    · intro u hu hv
      have := L u (by simp only [List.mem_cons, List.not_mem_nil, or_false] at hv ⊢; grind)
      simp only [List.mem_cons, List.not_mem_nil, or_false] at hu
      omega
    · intro u hu
      have hh := t4.hB
      simp only [List.mem_cons, List.not_mem_nil, or_false] at hu t4lo
      rcases hu with rfl | rfl | rfl | rfl | rfl | rfl
      · omega
      · omega
      · omega
      · exact t4lo _ (by simp)
      · exact t4lo _ (by simp)
      · exact t4lo _ (by simp)
  have apart : ∀ u ∈ [b, rf, rw], u ∉ six b2 rf2 rw2 b' fb wb := by
    intro u hu hv
    have h1' := L u (by simp only [List.mem_cons, List.not_mem_nil, or_false] at hu ⊢; grind)
    have h2' := t4.sep u hu
    simp only [List.mem_cons, List.not_mem_nil, or_false] at hv h2'
    omega
  have x15 := x4.trans x5
  have qb2 : (bif false then !(some (⟨b2, 0, none⟩ : Addr)).isNone else (some (⟨b2, 0, none⟩ : Addr)).isNone) = false := rfl
  ((conv=>whnf);repeat((first|(with_reducible first|refine Z1 ?_|refine Z2 ?_|refine Z3 ?_|refine Z4 ?_|refine Z5 ?_|refine Z9 (by assumption) rfl ?_|refine ZA (by assumption) rfl ?_|refine ZB (by assumption) rfl ?_|refine Z6 ?_|refine Z7 ?_|refine Z8 ?_)|((with_reducible refine ZM ?_ ?_);(focus rfl)));(conv=>whnf)))
  refine HCall.mk ((isOn_spec c5.d1).mono ?_)
  rintro e h5 ⟨rfl, rfl⟩
  ((conv=>whnf);repeat((first|(with_reducible first|refine Z1 ?_|refine Z2 ?_|refine Z3 ?_|refine Z4 ?_|refine Z5 ?_|refine Z9 (by assumption) rfl ?_|refine ZA (by assumption) rfl ?_|refine ZB (by assumption) rfl ?_|refine Z6 ?_|refine Z7 ?_|refine Z8 ?_)|((with_reducible refine ZM ?_ ?_);(focus rfl)));(conv=>whnf)))
  refine HCall.mk ((isOn_spec t5.d1).mono ?_)
  rintro e h5 ⟨rfl, rfl⟩
  have q1 : (bif true then !((!(runD l (DK.new 6)).off) == (!(runD l (DK.new 6)).off)) else ((!(runD l (DK.new 6)).off) == (!(runD l (DK.new 6)).off))) = false := by simp
  ((conv=>whnf);repeat((first|(with_reducible first|refine Z1 ?_|refine Z2 ?_|refine Z3 ?_|refine Z4 ?_|refine Z5 ?_|refine Z9 (by assumption) rfl ?_|refine ZA (by assumption) rfl ?_|refine ZB (by assumption) rfl ?_|refine Z6 ?_|refine Z7 ?_|refine Z8 ?_)|((with_reducible refine ZM ?_ ?_);(focus rfl)));(conv=>whnf)))
  refine HCall.mk ((acts_spec c5.d1).mono ?_)
  rintro e h5 ⟨rfl, rfl⟩
  ((conv=>whnf);repeat((first|(with_reducible first|refine Z1 ?_|refine Z2 ?_|refine Z3 ?_|refine Z4 ?_|refine Z5 ?_|refine Z9 (by assumption) rfl ?_|refine ZA (by assumption) rfl ?_|refine ZB (by assumption) rfl ?_|refine Z6 ?_|refine Z7 ?_|refine Z8 ?_)|((with_reducible refine ZM ?_ ?_);(focus rfl)));(conv=>whnf)))
  refine HCall.mk ((acts_spec t5.d1).mono ?_)
  rintro e h5 ⟨rfl, rfl⟩
  have q2 : (((runD l (DK.new 6)).acts : Int) != ((runD l (DK.new 6)).acts : Int)) = false := by simp
  ((conv=>whnf);repeat((first|(with_reducible first|refine Z1 ?_|refine Z2 ?_|refine Z3 ?_|refine Z4 ?_|refine Z5 ?_|refine Z9 (by assumption) rfl ?_|refine ZA (by assumption) rfl ?_|refine ZB (by assumption) rfl ?_|refine Z6 ?_|refine Z7 ?_|refine Z8 ?_)|((with_reducible refine ZM ?_ ?_);(focus rfl)));(conv=>whnf)))
  refine HCall.mk ((waiting_spec c5.d1).mono ?_)
  rintro e h6 ⟨a6, c6, rfl, s6, x6⟩
  ((conv=>whnf);repeat((first|(with_reducible first|refine Z1 ?_|refine Z2 ?_|refine Z3 ?_|refine Z4 ?_|refine Z5 ?_|refine Z9 (by assumption) rfl ?_|refine ZA (by assumption) rfl ?_|refine ZB (by assumption) rfl ?_|refine Z6 ?_|refine Z7 ?_|refine Z8 ?_)|((with_reducible refine ZM ?_ ?_);(focus rfl)));(conv=>whnf)))
  refine HCall.mk ((waiting_spec (t5.d1.ext x6)).mono ?_)
  rintro e h7 ⟨a7, c7, rfl, s7, x7⟩
  have hkl : (keysOf (runD l (DK.new 6)).waits).length ≤ 140737488351232 := by
    have := List.length_filter_le (fun i => ((runD l (DK.new 6)).waits i).isSome) (List.range 2048)
    rw [List.length_range] at this
    show (List.filter _ _).length ≤ _
    omega
  ((conv=>whnf);repeat((first|(with_reducible first|refine Z1 ?_|refine Z2 ?_|refine Z3 ?_|refine Z4 ?_|refine Z5 ?_|refine Z9 (by assumption) rfl ?_|refine ZA (by assumption) rfl ?_|refine ZB (by assumption) rfl ?_|refine Z6 ?_|refine Z7 ?_|refine Z8 ?_)|((with_reducible refine ZM ?_ ?_);(focus rfl)));(conv=>whnf)))
  refine HCall.mk ((sameInts_spec (s6.ext x7) s7 hkl).mono ?_)
  rintro e h7 ⟨rfl, rfl⟩
  rw [decide_eq_true rfl]
  have x57 := x6.trans x7
  have c7 := c5.ext x57
  have t7 := t5.ext x57
  have hs57 := x57.1
  ((conv=>whnf);repeat((first|(with_reducible first|refine Z1 ?_|refine Z2 ?_|refine Z3 ?_|refine Z4 ?_|refine Z5 ?_|refine Z9 (by assumption) rfl ?_|refine ZA (by assumption) rfl ?_|refine ZB (by assumption) rfl ?_|refine Z6 ?_|refine Z7 ?_|refine Z8 ?_)|((with_reducible refine ZM ?_ ?_);(focus rfl)));(conv=>whnf)))
  refine loop_rule [91] (fun vs h' => ∃ (i : Nat) (dd : DK), vs = [.int .i64 i] ∧ i ≤ m.length ∧ Two h' h1.size b2 rf2 rw2 b' fb wb dd ∧ dd.acts ≤ 60 + i ∧ Ext h1 h' ∧ DR h' b rf rw (runD l (DK.new 6)))
    (fun vs _ => match vs with | [.int _ i] => m.length - i.toNat | _ => 0) rfl ?_ ?_
  · exact ⟨0, _, rfl, by omega, c7, by omega, x15.trans x57, t7.d1⟩
  intro u8 h8 v91
  rintro ⟨i, dd, e, hi, t8, hac8, x8, d8⟩
  cases e
  ((conv=>whnf);repeat((first|(with_reducible first|refine Z1 ?_|refine Z2 ?_|refine Z3 ?_|refine Z4 ?_|refine Z5 ?_|refine Z9 (by assumption) rfl ?_|refine ZA (by assumption) rfl ?_|refine ZB (by assumption) rfl ?_|refine Z6 ?_|refine Z7 ?_|refine Z8 ?_)|((with_reducible refine ZM ?_ ?_);(focus rfl)));(conv=>whnf)))
  refine HIf.mk (fun hlt2 => ?_) (fun hlt2 => ?_)
  · have hi1 : i < m.length := by have := of_decide_eq_true hlt2; omega
    have hmu : m.length - ((i : Int) + 1).toNat < m.length - ((i : Int)).toNat := by omega
    ((conv=>whnf);repeat((first|(with_reducible first|refine Z1 ?_|refine Z2 ?_|refine Z3 ?_|refine Z4 ?_|refine Z5 ?_|refine Z9 (by assumption) rfl ?_|refine ZA (by assumption) rfl ?_|refine ZB (by assumption) rfl ?_|refine Z6 ?_|refine Z7 ?_|refine Z8 ?_)|((with_reducible refine ZM ?_ ?_);(focus rfl)));(conv=>whnf)))
    refine HIdx.mk i rfl hi1 ?_
    refine sl_some s1' hi1 fun p ep => ?_
    ((conv=>whnf);repeat((first|(with_reducible first|refine Z1 ?_|refine Z2 ?_|refine Z3 ?_|refine Z4 ?_|refine Z5 ?_|refine Z9 (by assumption) rfl ?_|refine ZA (by assumption) rfl ?_|refine ZB (by assumption) rfl ?_|refine Z6 ?_|refine Z7 ?_|refine Z8 ?_)|((with_reducible refine ZM ?_ ?_);(focus rfl)));(conv=>whnf)))
    refine (s1'.ext x8).loadEl (fun o cs r => r.len) (ops_at em1 x8) ep hi1 fun cs ro => ?_
    ((conv=>whnf);repeat((first|(with_reducible first|refine Z1 ?_|refine Z2 ?_|refine Z3 ?_|refine Z4 ?_|refine Z5 ?_|refine Z9 (by assumption) rfl ?_|refine ZA (by assumption) rfl ?_|refine ZB (by assumption) rfl ?_|refine Z6 ?_|refine Z7 ?_|refine Z8 ?_)|((with_reducible refine ZM ?_ ?_);(focus rfl)));(conv=>whnf)))
    refine new_var (e := 33) [.int .i64 0, .int .i64 0, .int .i64 0, .slice none 0 0] rfl ?_
    intro h9 b9 o9 x9 z9 hb9
    ((conv=>whnf);repeat((first|(with_reducible first|refine Z1 ?_|refine Z2 ?_|refine Z3 ?_|refine Z4 ?_|refine Z5 ?_|refine Z9 (by assumption) rfl ?_|refine ZA (by assumption) rfl ?_|refine ZB (by assumption) rfl ?_|refine Z6 ?_|refine Z7 ?_|refine Z8 ?_)|((with_reducible refine ZM ?_ ?_);(focus rfl)));(conv=>whnf)))
    have hcl := ro.len
    refine HMust.mk (by simpa using hcl) ?_
    refine store_blk o9 (by simp [hcl]) (by simpa using ro.one) ?_
    intro h10 f10 z10 o10
    have o10' : BlkW h10 b9 33 cs := by
      have e : ([Value.int .i64 0, .int .i64 0, .int .i64 0, .slice none 0 0] : List Value).drop (0 + cs.toArray.toList.length) = [] := by simp [hcl]
      rw [e] at o10
      simpa using o10
    have x810 : Ext h8 h10 := x9.offNew f10 (by omega)
    have t10 := t8.ext x810
    have ro10 : OpRep h1.size h10 m[i] cs := ro.agree (fun k hk => x810.2 k (by have := x8.1; omega))
    clear o9 o10
    ((conv=>whnf);repeat((first|(with_reducible first|refine Z1 ?_|refine Z2 ?_|refine Z3 ?_|refine Z4 ?_|refine Z5 ?_|refine Z9 (by assumption) rfl ?_|refine ZA (by assumption) rfl ?_|refine ZB (by assumption) rfl ?_|refine Z6 ?_|refine Z7 ?_|refine Z8 ?_)|((with_reducible refine ZM ?_ ?_);(focus rfl)));(conv=>whnf)))
    refine blk_ldN o10' hcl ?_
    ((conv=>whnf);repeat((first|(with_reducible first|refine Z1 ?_|refine Z2 ?_|refine Z3 ?_|refine Z4 ?_|refine Z5 ?_|refine Z9 (by assumption) rfl ?_|refine ZA (by assumption) rfl ?_|refine ZB (by assumption) rfl ?_|refine Z6 ?_|refine Z7 ?_|refine Z8 ?_)|((with_reducible refine ZM ?_ ?_);(focus rfl)));(conv=>whnf)))
    refine HCall.mk ((do_spec t10 (by omega) ro10).mono ?_)
    rintro e h11 ⟨rfl, t11, f11⟩
    ((conv=>whnf);repeat((first|(with_reducible first|refine Z1 ?_|refine Z2 ?_|refine Z3 ?_|refine Z4 ?_|refine Z5 ?_|refine Z9 (by assumption) rfl ?_|refine ZA (by assumption) rfl ?_|refine ZB (by assumption) rfl ?_|refine Z6 ?_|refine Z7 ?_|refine Z8 ?_)|((with_reducible refine ZM ?_ ?_);(focus rfl)));(conv=>whnf)))
    exact ⟨⟨i + 1, step dd m[i], rfl, by omega, t11, by have := step_acts dd m[i]; omega, t10.extO (x8.trans x810) f11, two_off (d8.ext x810) f11 apart⟩, hmu⟩
  ((conv=>whnf);repeat((first|(with_reducible first|refine Z1 ?_|refine Z2 ?_|refine Z3 ?_|refine Z4 ?_|refine Z5 ?_|refine Z9 (by assumption) rfl ?_|refine ZA (by assumption) rfl ?_|refine ZB (by assumption) rfl ?_|refine Z6 ?_|refine Z7 ?_|refine Z8 ?_)|((with_reducible refine ZM ?_ ?_);(focus rfl)));(conv=>whnf)))
  refine HCall.mk ((rnew_spec 6 h8).mono ?_)
  rintro e h9 ⟨x9, ⟨_, _, b4, fb4, wb4, rfl, r9, l1, l2, l3⟩ | ⟨hno, _⟩⟩
  rotate_left
  · exact absurd (by decide) hno
  ((conv=>whnf);repeat((first|(with_reducible first|refine Z1 ?_|refine Z2 ?_|refine Z3 ?_|refine Z4 ?_|refine Z5 ?_|refine Z9 (by assumption) rfl ?_|refine ZA (by assumption) rfl ?_|refine ZB (by assumption) rfl ?_|refine Z6 ?_|refine Z7 ?_|refine Z8 ?_)|((with_reducible refine ZM ?_ ?_);(focus rfl)));(conv=>whnf)))
  refine HCall.mk ((new_disk 6 h9).mono ?_)
  rintro e h10 ⟨x10, ⟨_, _, b3, rf3, rw3, rfl, d10, m1, m2, m3⟩ | ⟨hno, rfl⟩⟩
  rotate_left
  · exact absurd (by decide) hno
  have qb3 : (bif false then !(some (⟨b3, 0, none⟩ : Addr)).isNone else (some (⟨b3, 0, none⟩ : Addr)).isNone) = false := rfl
  have L8 := d8.lt
  have hs8 := x8.1
  have t10 : Two h10 h8.size b3 rf3 rw3 b4 fb4 wb4 (DK.new 6) := by
    have r9lt := r9.lt
    refine ⟨d10, r9.ext x10, ?_, ?_⟩
    · intro u hu
      simp only [List.mem_cons, List.not_mem_nil, or_false] at hu ⊢
      omega
    · intro u hu
      have := x9.1
      simp only [List.mem_cons, List.not_mem_nil, or_false] at hu
      omega
  have e8 : Els (OpRep h8.size) h8 l xs := ops_up es1 x8.2 hs8
  have s8 := s1.ext x8
  ((conv=>whnf);repeat((first|(with_reducible first|refine Z1 ?_|refine Z2 ?_|refine Z3 ?_|refine Z4 ?_|refine Z5 ?_|refine Z9 (by assumption) rfl ?_|refine ZA (by assumption) rfl ?_|refine ZB (by assumption) rfl ?_|refine Z6 ?_|refine Z7 ?_|refine Z8 ?_)|((with_reducible refine ZM ?_ ?_);(focus rfl)));(conv=>whnf)))
  refine loop_rule [116] (fun vs h' => ∃ (i : Nat), vs = [.int .i64 i] ∧ i ≤ l.length ∧ Two h' h8.size b3 rf3 rw3 b4 fb4 wb4 (runD (l.take i) (DK.new 6)) ∧ (runD (l.take i) (DK.new 6)).acts ≤ i ∧ Ext h8 h')
    (fun vs _ => match vs with | [.int _ i] => l.length - i.toNat | _ => 0) rfl ?_ ?_
  · exact ⟨0, rfl, by omega, t10, Nat.le_refl _, x9.trans x10⟩
  intro u11 h11 v116
  rintro ⟨i, e, hi, t11, hac11, x11⟩
  cases e
  ((conv=>whnf);repeat((first|(with_reducible first|refine Z1 ?_|refine Z2 ?_|refine Z3 ?_|refine Z4 ?_|refine Z5 ?_|refine Z9 (by assumption) rfl ?_|refine ZA (by assumption) rfl ?_|refine ZB (by assumption) rfl ?_|refine Z6 ?_|refine Z7 ?_|refine Z8 ?_)|((with_reducible refine ZM ?_ ?_);(focus rfl)));(conv=>whnf)))
  refine HIf.mk (fun hlt3 => ?_) (fun hlt3 => ?_)
  · have hi1 : i < l.length := by have := of_decide_eq_true hlt3; omega
    have hmu : l.length - ((i : Int) + 1).toNat < l.length - ((i : Int)).toNat := by omega
    have st := runD_take l (DK.new 6) i hi1
    generalize runD (l.take i) (DK.new 6) = dd at t11 hac11 st
    ((conv=>whnf);repeat((first|(with_reducible first|refine Z1 ?_|refine Z2 ?_|refine Z3 ?_|refine Z4 ?_|refine Z5 ?_|refine Z9 (by assumption) rfl ?_|refine ZA (by assumption) rfl ?_|refine ZB (by assumption) rfl ?_|refine Z6 ?_|refine Z7 ?_|refine Z8 ?_)|((with_reducible refine ZM ?_ ?_);(focus rfl)));(conv=>whnf)))
    refine HIdx.mk i rfl hi1 ?_
    refine sl_some s8 hi1 fun p ep => ?_
    ((conv=>whnf);repeat((first|(with_reducible first|refine Z1 ?_|refine Z2 ?_|refine Z3 ?_|refine Z4 ?_|refine Z5 ?_|refine Z9 (by assumption) rfl ?_|refine ZA (by assumption) rfl ?_|refine ZB (by assumption) rfl ?_|refine Z6 ?_|refine Z7 ?_|refine Z8 ?_)|((with_reducible refine ZM ?_ ?_);(focus rfl)));(conv=>whnf)))
    refine (s8.ext x11).loadEl (fun o cs r => r.len) (ops_at e8 x11) ep hi1 fun cs ro => ?_
    ((conv=>whnf);repeat((first|(with_reducible first|refine Z1 ?_|refine Z2 ?_|refine Z3 ?_|refine Z4 ?_|refine Z5 ?_|refine Z9 (by assumption) rfl ?_|refine ZA (by assumption) rfl ?_|refine ZB (by assumption) rfl ?_|refine Z6 ?_|refine Z7 ?_|refine Z8 ?_)|((with_reducible refine ZM ?_ ?_);(focus rfl)));(conv=>whnf)))
    refine new_var (e := 33) [.int .i64 0, .int .i64 0, .int .i64 0, .slice none 0 0] rfl ?_
    intro h12 b12 o12 x12 z12 hb12
    ((conv=>whnf);repeat((first|(with_reducible first|refine Z1 ?_|refine Z2 ?_|refine Z3 ?_|refine Z4 ?_|refine Z5 ?_|refine Z9 (by assumption) rfl ?_|refine ZA (by assumption) rfl ?_|refine ZB (by assumption) rfl ?_|refine Z6 ?_|refine Z7 ?_|refine Z8 ?_)|((with_reducible refine ZM ?_ ?_);(focus rfl)));(conv=>whnf)))
    have hcl := ro.len
    refine HMust.mk (by simpa using hcl) ?_
    refine store_blk o12 (by simp [hcl]) (by simpa using ro.one) ?_
    intro h13 f13 z13 o13
    have o13' : BlkW h13 b12 33 cs := by
      have e : ([Value.int .i64 0, .int .i64 0, .int .i64 0, .slice none 0 0] : List Value).drop (0 + cs.toArray.toList.length) = [] := by simp [hcl]
      rw [e] at o13
      simpa using o13
    have x1113 : Ext h11 h13 := x12.offNew f13 (by omega)
    have t13 := t11.ext x1113
    have ro13 : OpRep h8.size h13 l[i] cs := ro.agree (fun k hk => x1113.2 k (by have := x11.1; omega))
    clear o12 o13
    ((conv=>whnf);repeat((first|(with_reducible first|refine Z1 ?_|refine Z2 ?_|refine Z3 ?_|refine Z4 ?_|refine Z5 ?_|refine Z9 (by assumption) rfl ?_|refine ZA (by assumption) rfl ?_|refine ZB (by assumption) rfl ?_|refine Z6 ?_|refine Z7 ?_|refine Z8 ?_)|((with_reducible refine ZM ?_ ?_);(focus rfl)));(conv=>whnf)))
    refine blk_ldN o13' hcl ?_
    ((conv=>whnf);repeat((first|(with_reducible first|refine Z1 ?_|refine Z2 ?_|refine Z3 ?_|refine Z4 ?_|refine Z5 ?_|refine Z9 (by assumption) rfl ?_|refine ZA (by assumption) rfl ?_|refine ZB (by assumption) rfl ?_|refine Z6 ?_|refine Z7 ?_|refine Z8 ?_)|((with_reducible refine ZM ?_ ?_);(focus rfl)));(conv=>whnf)))
    refine HCall.mk ((do_spec t13 (by omega) ro13).mono ?_)
    rintro e h14 ⟨rfl, t14, f14⟩
    ((conv=>whnf);repeat((first|(with_reducible first|refine Z1 ?_|refine Z2 ?_|refine Z3 ?_|refine Z4 ?_|refine Z5 ?_|refine Z9 (by assumption) rfl ?_|refine ZA (by assumption) rfl ?_|refine ZB (by assumption) rfl ?_|refine Z6 ?_|refine Z7 ?_|refine Z8 ?_)|((with_reducible refine ZM ?_ ?_);(focus rfl)));(conv=>whnf)))
    exact ⟨⟨i + 1, rfl, by omega, by rw [st]; exact t14, by rw [st]; have := step_acts dd l[i]; omega, t13.extO (x11.trans x1113) f14⟩, hmu⟩
  have hge3 := of_decide_eq_false hlt3
  obtain rfl : i = l.length := by omega
  rw [List.take_length] at t11 hac11
  have d11 := d8.ext x11
  have lo11 := t11.lo
  have lt11 := t11.lt
  have lod : ∀ u ∈ [b, rf, rw], h1.size ≤ u := fun u hu => t4lo u (by simp only [List.mem_cons, List.not_mem_nil, or_false] at hu ⊢; grind)
  ((conv=>whnf);repeat((first|(with_reducible first|refine Z1 ?_|refine Z2 ?_|refine Z3 ?_|refine Z4 ?_|refine Z5 ?_|refine Z9 (by assumption) rfl ?_|refine ZA (by assumption) rfl ?_|refine ZB (by assumption) rfl ?_|refine Z6 ?_|refine Z7 ?_|refine Z8 ?_)|((with_reducible refine ZM ?_ ?_);(focus rfl)));(conv=>whnf)))
  refine HCall.mk ((on_spec d11).mono ?_)
  rintro e h12 ⟨rfl, d12, f12⟩
  have n1 : ∀ u ∈ six b3 rf3 rw3 b4 fb4 wb4, u ∉ [b, rf, rw] := by
    intro u hu hv
    have := lo11 u hu
    simp only [List.mem_cons, List.not_mem_nil, or_false] at hv
    omega
  have z12 := t11.d1.offS f12 (n1 b3 (by simp)) (n1 rf3 (by simp)) (n1 rw3 (by simp))
  ((conv=>whnf);repeat((first|(with_reducible first|refine Z1 ?_|refine Z2 ?_|refine Z3 ?_|refine Z4 ?_|refine Z5 ?_|refine Z9 (by assumption) rfl ?_|refine ZA (by assumption) rfl ?_|refine ZB (by assumption) rfl ?_|refine Z6 ?_|refine Z7 ?_|refine Z8 ?_)|((with_reducible refine ZM ?_ ?_);(focus rfl)));(conv=>whnf)))
  refine HCall.mk ((on_spec z12).mono ?_)
  rintro e h13 ⟨rfl, z13, f13⟩
  have n2 : ∀ u ∈ [b, rf, rw], u ∉ [b3, rf3, rw3] := fun u hu hv => n1 u (by simp only [List.mem_cons, List.not_mem_nil, or_false] at hv ⊢; grind) hu
  have d13 := d12.offS f13 (n2 b (by simp)) (n2 rf (by simp)) (n2 rw (by simp))
  have x12 : Ext h1 h12 := f12.ext (x8.trans x11) lod
  have x13 : Ext h1 h13 := f13.ext x12 (fun u hu => by have := lo11 u (by simp only [List.mem_cons, List.not_mem_nil, or_false] at hu ⊢; grind); omega)
  generalize (runD l (DK.new 6)).on = D at d13 z13
  ((conv=>whnf);repeat((first|(with_reducible first|refine Z1 ?_|refine Z2 ?_|refine Z3 ?_|refine Z4 ?_|refine Z5 ?_|refine Z9 (by assumption) rfl ?_|refine ZA (by assumption) rfl ?_|refine ZB (by assumption) rfl ?_|refine Z6 ?_|refine Z7 ?_|refine Z8 ?_)|((with_reducible refine ZM ?_ ?_);(focus rfl)));(conv=>whnf)))
  refine loop_rule [129] (fun vs h' => ∃ (i : Nat), vs = [.int .i64 i] ∧ i ≤ 6 ∧ Ext h13 h')
    (fun vs _ => match vs with | [.int _ i] => 6 - i.toNat | _ => 0) rfl ?_ ?_
  · exact ⟨0, rfl, by omega, Ext.refl _⟩
  intro u14 h14 v129
  rintro ⟨i, e, hi, x14⟩
  cases e
  ((conv=>whnf);repeat((first|(with_reducible first|refine Z1 ?_|refine Z2 ?_|refine Z3 ?_|refine Z4 ?_|refine Z5 ?_|refine Z9 (by assumption) rfl ?_|refine ZA (by assumption) rfl ?_|refine ZB (by assumption) rfl ?_|refine Z6 ?_|refine Z7 ?_|refine Z8 ?_)|((with_reducible refine ZM ?_ ?_);(focus rfl)));(conv=>whnf)))
  refine HIf.mk (fun hlt4 => ?_) (fun hlt4 => ?_)
  · have hi1 : i < 6 := by have := of_decide_eq_true hlt4; omega
    have hmu : 6 - ((i : Int) + 1).toNat < 6 - ((i : Int)).toNat := by omega
    ((conv=>whnf);repeat((first|(with_reducible first|refine Z1 ?_|refine Z2 ?_|refine Z3 ?_|refine Z4 ?_|refine Z5 ?_|refine Z9 (by assumption) rfl ?_|refine ZA (by assumption) rfl ?_|refine ZB (by assumption) rfl ?_|refine Z6 ?_|refine Z7 ?_|refine Z8 ?_)|((with_reducible refine ZM ?_ ?_);(focus rfl)));(conv=>whnf)))
    refine HCall.mk ((read_spec (d13.ext x14) i).mono ?_)
    rintro e h15 ⟨a15, c15, rfl, w15, x15⟩
    ((conv=>whnf);repeat((first|(with_reducible first|refine Z1 ?_|refine Z2 ?_|refine Z3 ?_|refine Z4 ?_|refine Z5 ?_|refine Z9 (by assumption) rfl ?_|refine ZA (by assumption) rfl ?_|refine ZB (by assumption) rfl ?_|refine Z6 ?_|refine Z7 ?_|refine Z8 ?_)|((with_reducible refine ZM ?_ ?_);(focus rfl)));(conv=>whnf)))
    refine HCall.mk ((read_spec (z13.ext (x14.trans x15)) i).mono ?_)
    rintro e h16 ⟨a16, c16, rfl, w16, x16⟩
    ((conv=>whnf);repeat((first|(with_reducible first|refine Z1 ?_|refine Z2 ?_|refine Z3 ?_|refine Z4 ?_|refine Z5 ?_|refine Z9 (by assumption) rfl ?_|refine ZA (by assumption) rfl ?_|refine ZB (by assumption) rfl ?_|refine Z6 ?_|refine Z7 ?_|refine Z8 ?_)|((with_reducible refine ZM ?_ ?_);(focus rfl)));(conv=>whnf)))
    refine HCall.mk ((same2_spec (w15.ext x16).sl w16.sl).mono ?_)
    rintro e h16 ⟨rfl, rfl⟩
    rw [decide_eq_true rfl]
    ((conv=>whnf);repeat((first|(with_reducible first|refine Z1 ?_|refine Z2 ?_|refine Z3 ?_|refine Z4 ?_|refine Z5 ?_|refine Z9 (by assumption) rfl ?_|refine ZA (by assumption) rfl ?_|refine ZB (by assumption) rfl ?_|refine Z6 ?_|refine Z7 ?_|refine Z8 ?_)|((with_reducible refine ZM ?_ ?_);(focus rfl)));(conv=>whnf)))
    exact ⟨⟨i + 1, rfl, by omega, x14.trans (x15.trans x16)⟩, hmu⟩
  · ((conv=>whnf);repeat((first|(with_reducible first|refine Z1 ?_|refine Z2 ?_|refine Z3 ?_|refine Z4 ?_|refine Z5 ?_|refine Z9 (by assumption) rfl ?_|refine ZA (by assumption) rfl ?_|refine ZB (by assumption) rfl ?_|refine Z6 ?_|refine Z7 ?_|refine Z8 ?_)|((with_reducible refine ZM ?_ ?_);(focus rfl)));(conv=>whnf)))
    exact ⟨rfl, x1.trans (x13.trans x14)⟩

end Go.Proofs.Ytlbmhpjefpdekaa.Hc
