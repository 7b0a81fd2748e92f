/- The law Firm. -/
import Derived.Test.YtlbmhpjefpdekaaXF
set_option linter.unusedVariables false
set_option linter.unusedSimpArgs false
namespace Go.Proofs.Ytlbmhpjefpdekaa.Hc
open Go Go.H Go.Proofs
set_option maxRecDepth 100000
set_option maxHeartbeats 16000000

/-- Nothing is to fail. -/
structure DK.Calm (d : DK) : Prop where
  f : d.fuse = -1
  o : d.off = false
theorem act_calm {d : DK} (k : d.Calm) : d.act = (0, { d with acts := d.acts + 1 }) := by
  unfold DK.act
  rw [if_neg (by rw [k.f]; decide), if_neg (by rw [k.f]; decide)]
theorem write_calm {d : DK} (k : d.Calm) (i : Int) (b : ByteArray) :
    ((d.write i b).1 = 0 ∧ 0 ≤ i ∧ i < d.many ∧ b.size = 4096 ∧ (d.write i b).2 = { d with acts := d.acts + 1, waits := setG d.waits i.toNat b }) ∨ ((d.write i b).1 ≠ 0 ∧ (d.write i b).2 = d) := by
  unfold DK.write
  by_cases hr : d.refused i = 0
  · rw [if_neg (by simpa using hr)]
    have hi : ¬ (i < 0 ∨ (d.many : Int) ≤ i) := by
      intro hh
      unfold DK.refused at hr
      rw [k.o, if_neg (by simp), if_pos hh] at hr
      cases hr
    by_cases hs : b.size = 4096
    · rw [if_neg (by simpa using hs), act_calm k, if_pos rfl]
      exact .inl ⟨rfl, by omega, by omega, hs, rfl⟩
    · rw [if_pos hs]; exact .inr ⟨by simp, rfl⟩
  · rw [if_pos hr]; exact .inr ⟨hr, rfl⟩
theorem flush_calm {d : DK} (k : d.Calm) : d.flush = (0, { d with acts := d.acts + 1, firm := mergeG d.firm d.waits, waits := fun _ => none }) := by
  unfold DK.flush
  rw [if_neg (by rw [k.o]; simp), act_calm k]
  refine (if_pos rfl).trans ?_
  rfl
theorem step_calm {d : DK} (k : d.Calm) (o : OpP) (h4 : o.act < 4) : (step d o).Calm := by
  unfold step
  split
  · rcases write_calm k o.i ⟨o.bytes.toArray⟩ with ⟨_, _, _, _, e⟩ | ⟨_, e⟩
    · rw [e]; exact ⟨k.f, k.o⟩
    · rw [e]; exact k
  split
  · rw [flush_calm k]; exact ⟨k.f, k.o⟩
  split
  · exact k
  rw [if_neg (by omega), if_neg (by omega), if_neg (by omega)]
  exact k
theorem cutG_or {w f : Nat → Option ByteArray} {ks : List Nat} {mask : List UInt8} (hk : ∀ k ∈ ks, (w k).isSome = true) : ∀ n j, cutG w f ks mask n j = f j ∨ ∃ s, w j = some s ∧ cutG w f ks mask n j = some s
  | 0, j => .inl rfl
  | n + 1, j => by
    unfold cutG
    cases hn : ks[n]? with
    | none => exact cutG_or hk n j
    | some k =>
      dsimp only
      by_cases hb : bitAt mask n = true
      · rw [if_pos hb]
        by_cases e : j = k
        · subst e
          have := hk j (List.mem_of_getElem? hn)
          obtain ⟨s, hs⟩ := Option.isSome_iff_exists.1 this
          rw [if_pos rfl]
          exact .inr ⟨s, hs, hs⟩
        · rw [if_neg e]; exact cutG_or hk n j
      · rw [if_neg hb]; exact cutG_or hk n j
/-- A Cut, and On behind it. -/
theorem cut_on {d : DK} (mask : List UInt8) : (d.cut mask).on.off = false ∧ (d.cut mask).on.waits = (fun _ => none) ∧ (d.cut mask).on.many = d.many ∧ ∀ j, (d.cut mask).on.firm j = d.firm j ∨ ∃ s, d.waits j = some s ∧ (d.cut mask).on.firm j = some s := by
  refine ⟨on_off _, rfl, on_many _, fun j => ?_⟩
  have e : (d.cut mask).on.firm = (d.cut mask).firm := by
    unfold DK.on
    rw [if_pos (show (d.cut mask).off = true from rfl)]
    show cutG (fun _ => none) (d.cut mask).firm (keysOf fun _ => none) [] (keysOf fun _ => none).length = _
    rw [keys0]; rfl
  rw [e]
  exact cutG_or (w := d.waits) (f := d.firm) (ks := keysOf d.waits) (mask := mask) (fun k hk => ((keysOf_mem d.waits k).1 hk).2) _ j
/-- What was written last, and what waits. -/
def LastOf (E : DK) (L : Nat → ByteArray) : Prop := ∀ j, (L j = ⟨#[]⟩ ∧ E.waits j = none) ∨ (L j ≠ ⟨#[]⟩ ∧ E.waits j = some (L j))
theorem LastOf.set {E E' : DK} {L : Nat → ByteArray} {i : Nat} {b : ByteArray} (x : LastOf E L) (hb : b.size = 4096) (e : E'.waits = setG E.waits i b) : LastOf E' (fun j => if j = i then b else L j) := by
  intro j
  rw [e]
  unfold setG
  dsimp only
  by_cases hj : j = i
  · rw [if_pos hj, if_pos hj]
    refine .inr ⟨?_, rfl⟩
    intro hh
    rw [hh] at hb
    exact absurd hb (by decide)
  · rw [if_neg hj, if_neg hj]; exact x j

theorem diskFirm_spec0 {h : Heap} {a a' am : Option Addr} {c c' cm : Nat} {l m : List OpP} {xs ys : List Value} {mask : List UInt8} (s : Sl h 4 a l.length c xs) (es : Els (OpRep h.size) h l xs) (hl : l.length ≤ 1048576) (s' : Sl h 4 a' m.length c' ys) (em : Els (OpRep h.size) h m ys) (hm : m.length ≤ 1048576) (sk : ∀ h' : Heap, (∀ k, k < h.size → h'[k]? = h[k]?) → Sl h' 1 am mask.length cm (mask.map byteV)) (hk : mask.length ≤ 1048576) :
    HCalls Try.prog 4 #[.slice a l.length c, .slice a' m.length c', .slice am mask.length cm] h fun e h' => e = .returned (.bool true) ∧ Ext h h' := by
  refine c4 (by simp) ?_
  ((conv=>whnf);repeat((first|(with_reducible first|refine Z1 ?_|refine Z2 ?_|refine Z3 ?_|refine Z4 ?_|refine Z5 ?_|refine Z9 (by assumption) rfl ?_|refine ZA (by assumption) rfl ?_|refine ZB (by assumption) rfl ?_|refine Z6 ?_|refine Z7 ?_|refine Z8 ?_)|((with_reducible refine ZM ?_ ?_);(focus rfl)));(conv=>whnf)))
  refine HCall.mk ((live_spec h).mono ?_)
  rintro e h1 ⟨rfl, x1⟩
  ((conv=>whnf);repeat((first|(with_reducible first|refine Z1 ?_|refine Z2 ?_|refine Z3 ?_|refine Z4 ?_|refine Z5 ?_|refine Z9 (by assumption) rfl ?_|refine ZA (by assumption) rfl ?_|refine ZB (by assumption) rfl ?_|refine Z6 ?_|refine Z7 ?_|refine Z8 ?_)|((with_reducible refine ZM ?_ ?_);(focus rfl)));(conv=>whnf)))
  refine HCall.mk ((new_disk 8 h1).mono ?_)
  rintro e h2 ⟨x2, ⟨_, _, b, rf, rw, rfl, d2, g1, g2, g3⟩ | ⟨hno, rfl⟩⟩
  rotate_left
  · exact absurd (by decide) hno
  have qb : (bif false then !(some (⟨b, 0, none⟩ : Addr)).isNone else (some (⟨b, 0, none⟩ : Addr)).isNone) = false := rfl
  by_cases h60 : l.length ≤ 60
  rotate_left
  · have q : decide ((l.length : Int) > 60) = true := decide_eq_true (by omega)
    ((conv=>whnf);repeat((first|(with_reducible first|refine Z1 ?_|refine Z2 ?_|refine Z3 ?_|refine Z4 ?_|refine Z5 ?_|refine Z9 (by assumption) rfl ?_|refine ZA (by assumption) rfl ?_|refine ZB (by assumption) rfl ?_|refine Z6 ?_|refine Z7 ?_|refine Z8 ?_)|((with_reducible refine ZM ?_ ?_);(focus rfl)));(conv=>whnf)))
    exact ⟨rfl, x1.trans x2⟩
  have q : decide ((l.length : Int) > 60) = false := decide_eq_false (by omega)
  by_cases h60' : m.length ≤ 60
  rotate_left
  · have q' : decide ((m.length : Int) > 60) = true := decide_eq_true (by omega)
    ((conv=>whnf);repeat((first|(with_reducible first|refine Z1 ?_|refine Z2 ?_|refine Z3 ?_|refine Z4 ?_|refine Z5 ?_|refine Z9 (by assumption) rfl ?_|refine ZA (by assumption) rfl ?_|refine ZB (by assumption) rfl ?_|refine Z6 ?_|refine Z7 ?_|refine Z8 ?_)|((with_reducible refine ZM ?_ ?_);(focus rfl)));(conv=>whnf)))
    exact ⟨rfl, x1.trans x2⟩
  have q' : decide ((m.length : Int) > 60) = false := decide_eq_false (by omega)
  ((conv=>whnf);repeat((first|(with_reducible first|refine Z1 ?_|refine Z2 ?_|refine Z3 ?_|refine Z4 ?_|refine Z5 ?_|refine Z9 (by assumption) rfl ?_|refine ZA (by assumption) rfl ?_|refine ZB (by assumption) rfl ?_|refine Z6 ?_|refine Z7 ?_|refine Z8 ?_)|((with_reducible refine ZM ?_ ?_);(focus rfl)));(conv=>whnf)))
  refine HCall.mk ((rnew_spec 8 h2).mono ?_)
  rintro e h3 ⟨x3, ⟨_, _, b', fb, wb, rfl, r3, k1, k2, k3⟩ | ⟨hno, _⟩⟩
  rotate_left
  · exact absurd (by decide) hno
  have t3 : Two h3 h1.size b rf rw b' fb wb (DK.new 8) := Two.new d2 r3 x3 (Nat.le_refl _) g1 g2 g3 k1 k2 k3
  have es1 : Els (OpRep h1.size) h1 l xs := ops_up es x1.2 x1.1
  have em1 : Els (OpRep h1.size) h1 m ys := ops_up em x1.2 x1.1
  have s1 := s.ext x1
  have s1' := s'.ext x1
  have x03 := x2.trans x3
  ((conv=>whnf);repeat((first|(with_reducible first|refine Z1 ?_|refine Z2 ?_|refine Z3 ?_|refine Z4 ?_|refine Z5 ?_|refine Z9 (by assumption) rfl ?_|refine ZA (by assumption) rfl ?_|refine ZB (by assumption) rfl ?_|refine Z6 ?_|refine Z7 ?_|refine Z8 ?_)|((with_reducible refine ZM ?_ ?_);(focus rfl)));(conv=>whnf)))
  refine loop_rule [52] (fun vs h' => ∃ (i : Nat) (dd : DK), vs = [.int .i64 i] ∧ i ≤ l.length ∧ Two h' h1.size b rf rw b' fb wb dd ∧ dd.acts ≤ i ∧ dd.many = 8 ∧ dd.Calm ∧ Ext h1 h')
    (fun vs _ => match vs with | [.int _ i] => l.length - i.toNat | _ => 0) rfl ?_ ?_
  · exact ⟨0, _, rfl, by omega, t3, Nat.le_refl _, rfl, ⟨rfl, rfl⟩, x03⟩
  intro u h4 v52
  rintro ⟨i, dd, e, hi, t4, hac, hmy, calm, x4⟩
  cases e
  ((conv=>whnf);repeat((first|(with_reducible first|refine Z1 ?_|refine Z2 ?_|refine Z3 ?_|refine Z4 ?_|refine Z5 ?_|refine Z9 (by assumption) rfl ?_|refine ZA (by assumption) rfl ?_|refine ZB (by assumption) rfl ?_|refine Z6 ?_|refine Z7 ?_|refine Z8 ?_)|((with_reducible refine ZM ?_ ?_);(focus rfl)));(conv=>whnf)))
  refine HIf.mk (fun hlt => ?_) (fun hlt => ?_)
  · have hi1 : i < l.length := by have := of_decide_eq_true hlt; omega
    have hmu : l.length - ((i : Int) + 1).toNat < l.length - ((i : Int)).toNat := by omega
    ((conv=>whnf);repeat((first|(with_reducible first|refine Z1 ?_|refine Z2 ?_|refine Z3 ?_|refine Z4 ?_|refine Z5 ?_|refine Z9 (by assumption) rfl ?_|refine ZA (by assumption) rfl ?_|refine ZB (by assumption) rfl ?_|refine Z6 ?_|refine Z7 ?_|refine Z8 ?_)|((with_reducible refine ZM ?_ ?_);(focus rfl)));(conv=>whnf)))
    refine HIdx.mk i rfl hi1 ?_
    refine sl_some s1 hi1 fun p ep => ?_
    ((conv=>whnf);repeat((first|(with_reducible first|refine Z1 ?_|refine Z2 ?_|refine Z3 ?_|refine Z4 ?_|refine Z5 ?_|refine Z9 (by assumption) rfl ?_|refine ZA (by assumption) rfl ?_|refine ZB (by assumption) rfl ?_|refine Z6 ?_|refine Z7 ?_|refine Z8 ?_)|((with_reducible refine ZM ?_ ?_);(focus rfl)));(conv=>whnf)))
    refine (s1.ext x4).loadEl (fun o cs r => r.len) (ops_at es1 x4) ep hi1 fun cs ro => ?_
    have ro0 := ro
    obtain ⟨hn, hbl, oa, oc, rfl, so⟩ := ro
    ((conv=>whnf);repeat((first|(with_reducible first|refine Z1 ?_|refine Z2 ?_|refine Z3 ?_|refine Z4 ?_|refine Z5 ?_|refine Z9 (by assumption) rfl ?_|refine ZA (by assumption) rfl ?_|refine ZB (by assumption) rfl ?_|refine Z6 ?_|refine Z7 ?_|refine Z8 ?_)|((with_reducible refine ZM ?_ ?_);(focus rfl)));(conv=>whnf)))
    refine new_var (e := 33) [.int .i64 0, .int .i64 0, .int .i64 0, .slice none 0 0] rfl ?_
    intro h5 b5 o5 x5 z5 hb5
    ((conv=>whnf);repeat((first|(with_reducible first|refine Z1 ?_|refine Z2 ?_|refine Z3 ?_|refine Z4 ?_|refine Z5 ?_|refine Z9 (by assumption) rfl ?_|refine ZA (by assumption) rfl ?_|refine ZB (by assumption) rfl ?_|refine Z6 ?_|refine Z7 ?_|refine Z8 ?_)|((with_reducible refine ZM ?_ ?_);(focus rfl)));(conv=>whnf)))
    refine store_blk o5 (by simp) (by simp [isOne]) ?_
    intro h6 f6 z6 o6
    have o6' : BlkW h6 b5 33 [.int .i64 l[i].act, .int .i64 l[i].i, .int .i64 l[i].n, .slice oa l[i].b.length oc] := by simpa using o6
    have x46 : Ext h4 h6 := x5.offNew f6 (by omega)
    have t6 := t4.ext x46
    have ro6 := ro0.agree (fun k hk => x46.2 k (by have := x4.1; omega))
    clear o5 o6
    by_cases h4' : l[i].act < 4
    · have q4 : decide (l[i].act < 4) = true := decide_eq_true h4'
      ((conv=>whnf);repeat((first|(with_reducible first|refine Z1 ?_|refine Z2 ?_|refine Z3 ?_|refine Z4 ?_|refine Z5 ?_|refine Z9 (by assumption) rfl ?_|refine ZA (by assumption) rfl ?_|refine ZB (by assumption) rfl ?_|refine Z6 ?_|refine Z7 ?_|refine Z8 ?_)|((with_reducible refine ZM ?_ ?_);(focus rfl)));(conv=>whnf)))
      refine HCall.mk ((do_spec t6 (by omega) ro6).mono ?_)
      rintro e h7 ⟨rfl, t7, f7⟩
      ((conv=>whnf);repeat((first|(with_reducible first|refine Z1 ?_|refine Z2 ?_|refine Z3 ?_|refine Z4 ?_|refine Z5 ?_|refine Z9 (by assumption) rfl ?_|refine ZA (by assumption) rfl ?_|refine ZB (by assumption) rfl ?_|refine Z6 ?_|refine Z7 ?_|refine Z8 ?_)|((with_reducible refine ZM ?_ ?_);(focus rfl)));(conv=>whnf)))
      exact ⟨⟨i + 1, step dd l[i], rfl, by omega, t7, by have := step_acts dd l[i]; omega, by rw [step_many]; exact hmy, step_calm calm _ h4', t6.extO (x4.trans x46) f7⟩, hmu⟩
    · have q4 : decide (l[i].act < 4) = false := decide_eq_false h4'
      ((conv=>whnf);repeat((first|(with_reducible first|refine Z1 ?_|refine Z2 ?_|refine Z3 ?_|refine Z4 ?_|refine Z5 ?_|refine Z9 (by assumption) rfl ?_|refine ZA (by assumption) rfl ?_|refine ZB (by assumption) rfl ?_|refine Z6 ?_|refine Z7 ?_|refine Z8 ?_)|((with_reducible refine ZM ?_ ?_);(focus rfl)));(conv=>whnf)))
      exact ⟨⟨i + 1, dd, rfl, by omega, t6, by omega, hmy, calm, x4.trans x46⟩, hmu⟩
  have hge := of_decide_eq_false hlt
  obtain rfl : i = l.length := by omega
  ((conv=>whnf);repeat((first|(with_reducible first|refine Z1 ?_|refine Z2 ?_|refine Z3 ?_|refine Z4 ?_|refine Z5 ?_|refine Z9 (by assumption) rfl ?_|refine ZA (by assumption) rfl ?_|refine ZB (by assumption) rfl ?_|refine Z6 ?_|refine Z7 ?_|refine Z8 ?_)|((with_reducible refine ZM ?_ ?_);(focus rfl)));(conv=>whnf)))
  refine HCall.mk ((flush_spec t4.d1 (by omega)).mono ?_)
  rintro e h5 ⟨rfl, d5, f5⟩
  have x5 : Ext h1 h5 := t4.extO x4 (wideD f5)
  rw [flush_calm calm] at d5
  rw [flush_calm calm]
  have hD0 : DK.Calm { dd with acts := dd.acts + 1, firm := mergeG dd.firm dd.waits, waits := fun _ => none } := ⟨calm.f, calm.o⟩
  have hD2 : ({ dd with acts := dd.acts + 1, firm := mergeG dd.firm dd.waits, waits := fun _ => none } : DK).many = 8 := hmy
  have hD3 : ({ dd with acts := dd.acts + 1, firm := mergeG dd.firm dd.waits, waits := fun _ => none } : DK).acts ≤ 61 := by show dd.acts + 1 ≤ 61; omega
  have hD4 : ({ dd with acts := dd.acts + 1, firm := mergeG dd.firm dd.waits, waits := fun _ => none } : DK).waits = fun _ => none := rfl
  dsimp only at d5
  generalize ({ dd with acts := dd.acts + 1, firm := mergeG dd.firm dd.waits, waits := fun _ => none } : DK) = D at hD0 hD2 hD3 hD4 d5
  have ltD := d5.lt
  have loD : ∀ u ∈ [b, rf, rw], h1.size ≤ u := fun u hu => by simp only [List.mem_cons, List.not_mem_nil, or_false] at hu; omega
  have qf : (((0 : Int), D).1 != 0) = false := rfl
  ((conv=>whnf);repeat((first|(with_reducible first|refine Z1 ?_|refine Z2 ?_|refine Z3 ?_|refine Z4 ?_|refine Z5 ?_|refine Z9 (by assumption) rfl ?_|refine ZA (by assumption) rfl ?_|refine ZB (by assumption) rfl ?_|refine Z6 ?_|refine Z7 ?_|refine Z8 ?_)|((with_reducible refine ZM ?_ ?_);(focus rfl)));(conv=>whnf)))
  refine new_var (e := 38) (tab 8 fun _ => ⟨#[]⟩) rfl ?_
  intro h6 bf w6 x6 z6 hbf
  ((conv=>whnf);repeat((first|(with_reducible first|refine Z1 ?_|refine Z2 ?_|refine Z3 ?_|refine Z4 ?_|refine Z5 ?_|refine Z9 (by assumption) rfl ?_|refine ZA (by assumption) rfl ?_|refine ZB (by assumption) rfl ?_|refine Z6 ?_|refine Z7 ?_|refine Z8 ?_)|((with_reducible refine ZM ?_ ?_);(focus rfl)));(conv=>whnf)))
  refine new_var (e := 38) (tab 8 fun _ => ⟨#[]⟩) rfl ?_
  intro h6' bl v6 x6' z6' hbl'
  have w6' := w6.ext x6'
  clear w6
  have x56 := x6.trans x6'
  have hs6 := x6.1
  have hs6' := x6'.1
  ((conv=>whnf);repeat((first|(with_reducible first|refine Z1 ?_|refine Z2 ?_|refine Z3 ?_|refine Z4 ?_|refine Z5 ?_|refine Z9 (by assumption) rfl ?_|refine ZA (by assumption) rfl ?_|refine ZB (by assumption) rfl ?_|refine Z6 ?_|refine Z7 ?_|refine Z8 ?_)|((with_reducible refine ZM ?_ ?_);(focus rfl)));(conv=>whnf)))
  refine loop_rule [67] (fun vs h' => ∃ (i : Nat), vs = [.int .i64 i] ∧ i ≤ 8 ∧ BlkW h' bf 38 (tab 8 fun j => if j < i then D.toldB j else ⟨#[]⟩) ∧ BlkW h' bl 38 (tab 8 fun _ => ⟨#[]⟩) ∧ Ext h5 h' ∧ h6'.size ≤ h'.size)
    (fun vs _ => match vs with | [.int _ i] => 8 - i.toNat | _ => 0) rfl ?_ ?_
  · exact ⟨0, rfl, by omega, w6', v6, x56, Nat.le_refl _⟩
  intro u h7 v67
  rintro ⟨i, e, hi, w7, v7, x7, hs7⟩
  cases e
  ((conv=>whnf);repeat((first|(with_reducible first|refine Z1 ?_|refine Z2 ?_|refine Z3 ?_|refine Z4 ?_|refine Z5 ?_|refine Z9 (by assumption) rfl ?_|refine ZA (by assumption) rfl ?_|refine ZB (by assumption) rfl ?_|refine Z6 ?_|refine Z7 ?_|refine Z8 ?_)|((with_reducible refine ZM ?_ ?_);(focus rfl)));(conv=>whnf)))
  refine HIf.mk (fun hlt2 => ?_) (fun hlt2 => ?_)
  · have hi1 : i < 8 := by have := of_decide_eq_true hlt2; omega
    have hmu : 8 - ((i : Int) + 1).toNat < 8 - ((i : Int)).toNat := by omega
    ((conv=>whnf);repeat((first|(with_reducible first|refine Z1 ?_|refine Z2 ?_|refine Z3 ?_|refine Z4 ?_|refine Z5 ?_|refine Z9 (by assumption) rfl ?_|refine ZA (by assumption) rfl ?_|refine ZB (by assumption) rfl ?_|refine Z6 ?_|refine Z7 ?_|refine Z8 ?_)|((with_reducible refine ZM ?_ ?_);(focus rfl)));(conv=>whnf)))
    refine HCall.mk ((read_spec (d5.ext x7) i).mono ?_)
    rintro e h8 ⟨a8, c8, rfl, w8, x8⟩
    have w78 := w7.ext x8
    have v78 := v7.ext x8
    have hs8 := x8.1
    clear w7 v7
    ((conv=>whnf);repeat((first|(with_reducible first|refine Z1 ?_|refine Z2 ?_|refine Z3 ?_|refine Z4 ?_|refine Z5 ?_|refine Z9 (by assumption) rfl ?_|refine ZA (by assumption) rfl ?_|refine ZB (by assumption) rfl ?_|refine Z6 ?_|refine Z7 ?_|refine Z8 ?_)|((with_reducible refine ZM ?_ ?_);(focus rfl)));(conv=>whnf)))
    refine w8.sl.bytes ?_
    ((conv=>whnf);repeat((first|(with_reducible first|refine Z1 ?_|refine Z2 ?_|refine Z3 ?_|refine Z4 ?_|refine Z5 ?_|refine Z9 (by assumption) rfl ?_|refine ZA (by assumption) rfl ?_|refine ZB (by assumption) rfl ?_|refine Z6 ?_|refine Z7 ?_|refine Z8 ?_)|((with_reducible refine ZM ?_ ?_);(focus rfl)));(conv=>whnf)))
    refine HIdx.mk i rfl hi1 ?_
    ((conv=>whnf);repeat((first|(with_reducible first|refine Z1 ?_|refine Z2 ?_|refine Z3 ?_|refine Z4 ?_|refine Z5 ?_|refine Z9 (by assumption) rfl ?_|refine ZA (by assumption) rfl ?_|refine ZB (by assumption) rfl ?_|refine Z6 ?_|refine Z7 ?_|refine Z8 ?_)|((with_reducible refine ZM ?_ ?_);(focus rfl)));(conv=>whnf)))
    rw [Nat.mul_one]
    refine blk_st (o := i) w78 (by rw [tab_len]; exact hi1) rfl ?_
    intro h9 f9 z9 w9
    have v9 := BlkW.offS v78 (OffS.of_off f9 (S := [bf]) (by simp)) (by simp; omega)
    replace w9 : BlkW h9 bf 38 ((tab 8 fun j => if j < i then D.toldB j else ⟨#[]⟩).set i (.string (D.toldB i))) := w9
    rw [tab_set] at w9
    have hs9 := f9.1
    clear v78 w78
    ((conv=>whnf);repeat((first|(with_reducible first|refine Z1 ?_|refine Z2 ?_|refine Z3 ?_|refine Z4 ?_|refine Z5 ?_|refine Z9 (by assumption) rfl ?_|refine ZA (by assumption) rfl ?_|refine ZB (by assumption) rfl ?_|refine Z6 ?_|refine Z7 ?_|refine Z8 ?_)|((with_reducible refine ZM ?_ ?_);(focus rfl)));(conv=>whnf)))
    refine ⟨⟨i + 1, rfl, by omega, ?_, v9, (x7.trans x8).offNew f9 (by omega), by omega⟩, hmu⟩
    rw [tab_congr (G := fun j => if j < i + 1 then D.toldB j else ⟨#[]⟩)] at w9
    · exact w9
    · intro j hj
      by_cases e : j = i
      · subst e; rw [if_pos rfl, if_pos (by omega)]
      · rw [if_neg e]
        by_cases h2 : j < i
        · rw [if_pos h2, if_pos (by omega)]
        · rw [if_neg h2, if_neg (by omega)]
  have hge2 := of_decide_eq_false hlt2
  obtain rfl : i = 8 := by omega
  rw [tab_congr (G := D.sec) (fun j hj => by rw [if_pos hj, toldB_in hD0.o (by omega)])] at w7
  have x17 := x5.trans x7
  have hh7 := x7.1
  ((conv=>whnf);repeat((first|(with_reducible first|refine Z1 ?_|refine Z2 ?_|refine Z3 ?_|refine Z4 ?_|refine Z5 ?_|refine Z9 (by assumption) rfl ?_|refine ZA (by assumption) rfl ?_|refine ZB (by assumption) rfl ?_|refine Z6 ?_|refine Z7 ?_|refine Z8 ?_)|((with_reducible refine ZM ?_ ?_);(focus rfl)));(conv=>whnf)))
  refine loop_rule [83] (fun vs h' => ∃ (i : Nat) (E : DK) (L : Nat → ByteArray), vs = [.int .i64 i] ∧ i ≤ m.length ∧ DR h' b rf rw E ∧ E.Calm ∧ E.many = 8 ∧ E.acts ≤ 61 + i ∧ E.firm = D.firm ∧ LastOf E L ∧ BlkW h' bf 38 (tab 8 D.sec) ∧ BlkW h' bl 38 (tab 8 L) ∧ Ext h1 h' ∧ h7.size ≤ h'.size)
    (fun vs _ => match vs with | [.int _ i] => m.length - i.toNat | _ => 0) rfl ?_ ?_
  · exact ⟨0, D, fun _ => ⟨#[]⟩, rfl, by omega, d5.ext x7, hD0, hD2, hD3, rfl, fun j => .inl ⟨rfl, by rw [hD4]⟩, w7, v7, x17, Nat.le_refl _⟩
  intro u h8 v83
  rintro ⟨i, E, L, e, hi, d8, ecalm, emy, eac, efm, elast, w8, v8, x8, hs8⟩
  cases e
  clear w7 v7
  ((conv=>whnf);repeat((first|(with_reducible first|refine Z1 ?_|refine Z2 ?_|refine Z3 ?_|refine Z4 ?_|refine Z5 ?_|refine Z9 (by assumption) rfl ?_|refine ZA (by assumption) rfl ?_|refine ZB (by assumption) rfl ?_|refine Z6 ?_|refine Z7 ?_|refine Z8 ?_)|((with_reducible refine ZM ?_ ?_);(focus rfl)));(conv=>whnf)))
  refine HIf.mk (fun hlt3 => ?_) (fun hlt3 => ?_)
  · have hi1 : i < m.length := by have := of_decide_eq_true hlt3; omega
    have hmu : m.length - ((i : Int) + 1).toNat < m.length - ((i : Int)).toNat := by omega
    ((conv=>whnf);repeat((first|(with_reducible first|refine Z1 ?_|refine Z2 ?_|refine Z3 ?_|refine Z4 ?_|refine Z5 ?_|refine Z9 (by assumption) rfl ?_|refine ZA (by assumption) rfl ?_|refine ZB (by assumption) rfl ?_|refine Z6 ?_|refine Z7 ?_|refine Z8 ?_)|((with_reducible refine ZM ?_ ?_);(focus rfl)));(conv=>whnf)))
    refine HIdx.mk i rfl hi1 ?_
    refine sl_some s1' hi1 fun p ep => ?_
    ((conv=>whnf);repeat((first|(with_reducible first|refine Z1 ?_|refine Z2 ?_|refine Z3 ?_|refine Z4 ?_|refine Z5 ?_|refine Z9 (by assumption) rfl ?_|refine ZA (by assumption) rfl ?_|refine ZB (by assumption) rfl ?_|refine Z6 ?_|refine Z7 ?_|refine Z8 ?_)|((with_reducible refine ZM ?_ ?_);(focus rfl)));(conv=>whnf)))
    refine (s1'.ext x8).loadEl (fun o cs r => r.len) (ops_at em1 x8) ep hi1 fun cs ro => ?_
    have ro0 := ro
    obtain ⟨hn, hbl3, oa, oc, rfl, so⟩ := ro
    have hyl := OpP.bytes_len m[i] hbl3
    ((conv=>whnf);repeat((first|(with_reducible first|refine Z1 ?_|refine Z2 ?_|refine Z3 ?_|refine Z4 ?_|refine Z5 ?_|refine Z9 (by assumption) rfl ?_|refine ZA (by assumption) rfl ?_|refine ZB (by assumption) rfl ?_|refine Z6 ?_|refine Z7 ?_|refine Z8 ?_)|((with_reducible refine ZM ?_ ?_);(focus rfl)));(conv=>whnf)))
    refine new_var (e := 33) [.int .i64 0, .int .i64 0, .int .i64 0, .slice none 0 0] rfl ?_
    intro h9 b9 o9 x9 z9 hb9
    ((conv=>whnf);repeat((first|(with_reducible first|refine Z1 ?_|refine Z2 ?_|refine Z3 ?_|refine Z4 ?_|refine Z5 ?_|refine Z9 (by assumption) rfl ?_|refine ZA (by assumption) rfl ?_|refine ZB (by assumption) rfl ?_|refine Z6 ?_|refine Z7 ?_|refine Z8 ?_)|((with_reducible refine ZM ?_ ?_);(focus rfl)));(conv=>whnf)))
    refine store_blk o9 (by simp) (by simp [isOne]) ?_
    intro h10 f10 z10 o10
    have o10' : BlkW h10 b9 33 [.int .i64 m[i].act, .int .i64 m[i].i, .int .i64 m[i].n, .slice oa m[i].b.length oc] := by simpa using o10
    have x810 : Ext h8 h10 := x9.offNew f10 (by omega)
    have d10 := d8.ext x810
    have w10 := w8.ext x810
    have v10 := v8.ext x810
    have x110 := x8.trans x810
    have hs10 := x810.1
    have d8lt := d8.lt
    have ro10 := ro0.agree (fun k hk => x810.2 k (by have := x8.1; omega))
    clear o9 o10 w8 v8
    by_cases h2' : m[i].act < 2
    · have q4 : decide (m[i].act < 2) = true := decide_eq_true h2'
      ((conv=>whnf);repeat((first|(with_reducible first|refine Z1 ?_|refine Z2 ?_|refine Z3 ?_|refine Z4 ?_|refine Z5 ?_|refine Z9 (by assumption) rfl ?_|refine ZA (by assumption) rfl ?_|refine ZB (by assumption) rfl ?_|refine Z6 ?_|refine Z7 ?_|refine Z8 ?_)|((with_reducible refine ZM ?_ ?_);(focus rfl)));(conv=>whnf)))
      refine HAlt.mk ?_ ?_
      all_goals
        ((conv=>whnf);repeat((first|(with_reducible first|refine Z1 ?_|refine Z2 ?_|refine Z3 ?_|refine Z4 ?_|refine Z5 ?_|refine Z9 (by assumption) rfl ?_|refine ZA (by assumption) rfl ?_|refine ZB (by assumption) rfl ?_|refine Z6 ?_|refine Z7 ?_|refine Z8 ?_)|((with_reducible refine ZM ?_ ?_);(focus rfl)));(conv=>whnf)))
        refine HCall.mk ((bytes_spec ro10).mono ?_)
        rintro e h11 ⟨a11, c11, rfl, w11, x11⟩
        have o11 := o10'.ext x11
        have d11 := d10.ext x11
        have w11' := w10.ext x11
        have v11 := v10.ext x11
        have w11lt := w11.lt
        have hs11 := x11.1
        clear o10' w10 v10
        ((conv=>whnf);repeat((first|(with_reducible first|refine Z1 ?_|refine Z2 ?_|refine Z3 ?_|refine Z4 ?_|refine Z5 ?_|refine Z9 (by assumption) rfl ?_|refine ZA (by assumption) rfl ?_|refine ZB (by assumption) rfl ?_|refine Z6 ?_|refine Z7 ?_|refine Z8 ?_)|((with_reducible refine ZM ?_ ?_);(focus rfl)));(conv=>whnf)))
        refine HCall.mk ((write_spec d11 (by omega) m[i].i w11.sl (fun p ep => by have := w11lt p ep; exact ⟨fun hm => by simp only [List.mem_cons, List.not_mem_nil, or_false] at hm; omega, this.2⟩)).mono ?_)
        rintro e h12 ⟨rfl, d12, f12⟩
        have wc := write_calm ecalm m[i].i ⟨m[i].bytes.toArray⟩
        generalize E.write m[i].i ⟨m[i].bytes.toArray⟩ = r at d12 wc
        have o12 := BlkW.offS o11 f12 (fun hm => by simp only [List.mem_cons, List.not_mem_nil, or_false] at hm; omega)
        have w12 := BlkW.offS w11' f12 (fun hm => by simp only [List.mem_cons, List.not_mem_nil, or_false] at hm; omega)
        have v12 := BlkW.offS v11 f12 (fun hm => by simp only [List.mem_cons, List.not_mem_nil, or_false] at hm; omega)
        have x112 := f12.ext (x110.trans x11) loD
        have hs12 := f12.1
        have ro12 := (ro0.agree (fun k hk => by rw [x112.2 k hk, ← x8.2 k hk] : ∀ k, k < h1.size → h12[k]? = h8[k]?))
        clear o11 w11' v11
        rcases wc with ⟨e0, i0, i8, hsz, e2⟩ | ⟨e0, e2⟩
        · have q0 : (r.1 == 0) = true := beq_iff_eq.2 e0
          obtain ⟨n, hn'⟩ := Int.eq_ofNat_of_zero_le i0
          have hn8 : n < 8 := by omega
          ((conv=>whnf);repeat((first|(with_reducible first|refine Z1 ?_|refine Z2 ?_|refine Z3 ?_|refine Z4 ?_|refine Z5 ?_|refine Z9 (by assumption) rfl ?_|refine ZA (by assumption) rfl ?_|refine ZB (by assumption) rfl ?_|refine Z6 ?_|refine Z7 ?_|refine Z8 ?_)|((with_reducible refine ZM ?_ ?_);(focus rfl)));(conv=>whnf)))
          refine HAlt.mk ?_ ?_
          all_goals
            ((conv=>whnf);repeat((first|(with_reducible first|refine Z1 ?_|refine Z2 ?_|refine Z3 ?_|refine Z4 ?_|refine Z5 ?_|refine Z9 (by assumption) rfl ?_|refine ZA (by assumption) rfl ?_|refine ZB (by assumption) rfl ?_|refine Z6 ?_|refine Z7 ?_|refine Z8 ?_)|((with_reducible refine ZM ?_ ?_);(focus rfl)));(conv=>whnf)))
            refine HCall.mk ((bytes_spec ro12).mono ?_)
            rintro e h13 ⟨a13, c13, rfl, w13, x13⟩
            have o13 := o12.ext x13
            have w13' := w12.ext x13
            have v13 := v12.ext x13
            have hs13 := x13.1
            clear o12 w12 v12
            ((conv=>whnf);repeat((first|(with_reducible first|refine Z1 ?_|refine Z2 ?_|refine Z3 ?_|refine Z4 ?_|refine Z5 ?_|refine Z9 (by assumption) rfl ?_|refine ZA (by assumption) rfl ?_|refine ZB (by assumption) rfl ?_|refine Z6 ?_|refine Z7 ?_|refine Z8 ?_)|((with_reducible refine ZM ?_ ?_);(focus rfl)));(conv=>whnf)))
            refine w13.sl.bytes ?_
            ((conv=>whnf);repeat((first|(with_reducible first|refine Z1 ?_|refine Z2 ?_|refine Z3 ?_|refine Z4 ?_|refine Z5 ?_|refine Z9 (by assumption) rfl ?_|refine ZA (by assumption) rfl ?_|refine ZB (by assumption) rfl ?_|refine Z6 ?_|refine Z7 ?_|refine Z8 ?_)|((with_reducible refine ZM ?_ ?_);(focus rfl)));(conv=>whnf)))
            refine HIdx.mk n (by rw [hn']) hn8 ?_
            ((conv=>whnf);repeat((first|(with_reducible first|refine Z1 ?_|refine Z2 ?_|refine Z3 ?_|refine Z4 ?_|refine Z5 ?_|refine Z9 (by assumption) rfl ?_|refine ZA (by assumption) rfl ?_|refine ZB (by assumption) rfl ?_|refine Z6 ?_|refine Z7 ?_|refine Z8 ?_)|((with_reducible refine ZM ?_ ?_);(focus rfl)));(conv=>whnf)))
            rw [Nat.mul_one]
            refine blk_st (o := n) v13 (by rw [tab_len]; exact hn8) rfl ?_
            intro h14 f14 z14 v14
            replace v14 : BlkW h14 bl 38 ((tab 8 L).set n (.string ⟨m[i].bytes.toArray⟩)) := v14
            rw [tab_set] at v14
            have w14 := BlkW.offS w13' (OffS.of_off f14 (S := [bl]) (by simp)) (by simp; omega)
            have d14 := (d12.ext x13).offS (OffS.of_off f14 (S := [bl]) (by simp)) (by simp; omega) (by simp; omega) (by simp; omega)
            have hs14 := f14.1
            have e3 : r.2.waits = setG E.waits n ⟨m[i].bytes.toArray⟩ := by rw [e2, hn', Int.toNat_natCast]
            clear o13 v13 w13'
            ((conv=>whnf);repeat((first|(with_reducible first|refine Z1 ?_|refine Z2 ?_|refine Z3 ?_|refine Z4 ?_|refine Z5 ?_|refine Z9 (by assumption) rfl ?_|refine ZA (by assumption) rfl ?_|refine ZB (by assumption) rfl ?_|refine Z6 ?_|refine Z7 ?_|refine Z8 ?_)|((with_reducible refine ZM ?_ ?_);(focus rfl)));(conv=>whnf)))
            exact ⟨⟨i + 1, r.2, fun j => if j = n then ⟨m[i].bytes.toArray⟩ else L j, rfl, by omega, d14, by rw [e2]; exact ⟨ecalm.f, ecalm.o⟩, by rw [e2]; exact emy, by rw [e2]; show E.acts + 1 ≤ _; omega, by rw [e2]; exact efm, elast.set hsz e3, w14, v14, (x112.trans x13).offNew f14 (by omega), by omega⟩, hmu⟩
        · have q0 : (r.1 == 0) = false := beq_eq_false_iff_ne.2 e0
          ((conv=>whnf);repeat((first|(with_reducible first|refine Z1 ?_|refine Z2 ?_|refine Z3 ?_|refine Z4 ?_|refine Z5 ?_|refine Z9 (by assumption) rfl ?_|refine ZA (by assumption) rfl ?_|refine ZB (by assumption) rfl ?_|refine Z6 ?_|refine Z7 ?_|refine Z8 ?_)|((with_reducible refine ZM ?_ ?_);(focus rfl)));(conv=>whnf)))
          exact ⟨⟨i + 1, r.2, L, rfl, by omega, d12, by rw [e2]; exact ecalm, by rw [e2]; exact emy, by rw [e2]; omega, by rw [e2]; exact efm, by rw [e2]; exact elast, w12, v12, x112, by omega⟩, hmu⟩
    · have q4 : decide (m[i].act < 2) = false := decide_eq_false h2'
      ((conv=>whnf);repeat((first|(with_reducible first|refine Z1 ?_|refine Z2 ?_|refine Z3 ?_|refine Z4 ?_|refine Z5 ?_|refine Z9 (by assumption) rfl ?_|refine ZA (by assumption) rfl ?_|refine ZB (by assumption) rfl ?_|refine Z6 ?_|refine Z7 ?_|refine Z8 ?_)|((with_reducible refine ZM ?_ ?_);(focus rfl)));(conv=>whnf)))
      refine HAlt.mk ?_ ?_
      all_goals
        ((conv=>whnf);repeat((first|(with_reducible first|refine Z1 ?_|refine Z2 ?_|refine Z3 ?_|refine Z4 ?_|refine Z5 ?_|refine Z9 (by assumption) rfl ?_|refine ZA (by assumption) rfl ?_|refine ZB (by assumption) rfl ?_|refine Z6 ?_|refine Z7 ?_|refine Z8 ?_)|((with_reducible refine ZM ?_ ?_);(focus rfl)));(conv=>whnf)))
        exact ⟨⟨i + 1, E, L, rfl, by omega, d10, ecalm, emy, by omega, efm, elast, w10, v10, x110, by omega⟩, hmu⟩
  have d8lt := d8.lt
  ((conv=>whnf);repeat((first|(with_reducible first|refine Z1 ?_|refine Z2 ?_|refine Z3 ?_|refine Z4 ?_|refine Z5 ?_|refine Z9 (by assumption) rfl ?_|refine ZA (by assumption) rfl ?_|refine ZB (by assumption) rfl ?_|refine Z6 ?_|refine Z7 ?_|refine Z8 ?_)|((with_reducible refine ZM ?_ ?_);(focus rfl)));(conv=>whnf)))
  refine HCall.mk ((cut_spec (mask := mask) d8 (fun h' hag => sk h' (fun k hk' => by rw [hag k (by have := x1.1; have := x8.1; omega) (fun hm => by have := loD k hm; have := x1.1; omega), x8.2 k (by have := x1.1; omega), x1.2 k hk'])) (by omega)).mono ?_)
  rintro e h9 ⟨rfl, d9, f9⟩
  ((conv=>whnf);repeat((first|(with_reducible first|refine Z1 ?_|refine Z2 ?_|refine Z3 ?_|refine Z4 ?_|refine Z5 ?_|refine Z9 (by assumption) rfl ?_|refine ZA (by assumption) rfl ?_|refine ZB (by assumption) rfl ?_|refine Z6 ?_|refine Z7 ?_|refine Z8 ?_)|((with_reducible refine ZM ?_ ?_);(focus rfl)));(conv=>whnf)))
  refine HCall.mk ((on_spec d9).mono ?_)
  rintro e h10 ⟨rfl, d10, f10⟩
  have f810 := f9.trans f10
  have w10 := BlkW.offS w8 f810 (fun hm => by simp only [List.mem_cons, List.not_mem_nil, or_false] at hm; omega)
  have v10 := BlkW.offS v8 f810 (fun hm => by simp only [List.mem_cons, List.not_mem_nil, or_false] at hm; omega)
  have x10 := f810.ext x8 loD
  obtain ⟨goff, gw, gm, gf⟩ := cut_on (d := E) mask
  have gsec : ∀ j, j < 8 → (E.cut mask).on.toldB j = D.sec j ∨ (L j ≠ ⟨#[]⟩ ∧ (E.cut mask).on.toldB j = L j) := by
    intro j hj
    rw [toldB_in goff (by rw [gm, emy]; exact hj)]
    unfold DK.sec
    rw [gw, hD4]
    dsimp only
    rcases gf j with e | ⟨s', e1, e2⟩
    · rw [e, efm]; exact .inl rfl
    · rcases elast j with ⟨e3, e4⟩ | ⟨e3, e4⟩
      · rw [e1] at e4; cases e4
      · rw [e1] at e4; cases e4
        rw [e2]; exact .inr ⟨e3, rfl⟩
  generalize (E.cut mask).on = G at d10 goff gw gm gsec
  clear w8 v8
  ((conv=>whnf);repeat((first|(with_reducible first|refine Z1 ?_|refine Z2 ?_|refine Z3 ?_|refine Z4 ?_|refine Z5 ?_|refine Z9 (by assumption) rfl ?_|refine ZA (by assumption) rfl ?_|refine ZB (by assumption) rfl ?_|refine Z6 ?_|refine Z7 ?_|refine Z8 ?_)|((with_reducible refine ZM ?_ ?_);(focus rfl)));(conv=>whnf)))
  refine loop_rule [111] (fun vs h' => ∃ (i : Nat), vs = [.int .i64 i] ∧ i ≤ 8 ∧ Ext h10 h')
    (fun vs _ => match vs with | [.int _ i] => 8 - i.toNat | _ => 0) rfl ?_ ?_
  · exact ⟨0, rfl, by omega, Ext.refl _⟩
  intro u h11 v111
  rintro ⟨i, e, hi, x11⟩
  cases e
  have w11 := w10.ext x11
  have v11 := v10.ext x11
  have d11 := d10.ext x11
  ((conv=>whnf);repeat((first|(with_reducible first|refine Z1 ?_|refine Z2 ?_|refine Z3 ?_|refine Z4 ?_|refine Z5 ?_|refine Z9 (by assumption) rfl ?_|refine ZA (by assumption) rfl ?_|refine ZB (by assumption) rfl ?_|refine Z6 ?_|refine Z7 ?_|refine Z8 ?_)|((with_reducible refine ZM ?_ ?_);(focus rfl)));(conv=>whnf)))
  refine HIf.mk (fun hlt4 => ?_) (fun hlt4 => ?_)
  · have hi1 : i < 8 := by have := of_decide_eq_true hlt4; omega
    have hmu : 8 - ((i : Int) + 1).toNat < 8 - ((i : Int)).toNat := by omega
    ((conv=>whnf);repeat((first|(with_reducible first|refine Z1 ?_|refine Z2 ?_|refine Z3 ?_|refine Z4 ?_|refine Z5 ?_|refine Z9 (by assumption) rfl ?_|refine ZA (by assumption) rfl ?_|refine ZB (by assumption) rfl ?_|refine Z6 ?_|refine Z7 ?_|refine Z8 ?_)|((with_reducible refine ZM ?_ ?_);(focus rfl)));(conv=>whnf)))
    refine HCall.mk ((read_spec d11 i).mono ?_)
    rintro e h12 ⟨a12, c12, rfl, w12, x12⟩
    have w112 := w11.ext x12
    have v112 := v11.ext x12
    clear w11 v11
    have q1 : (G.refused (i : Int) != 0) = false := by rw [refused_in goff (by omega)]; rfl
    ((conv=>whnf);repeat((first|(with_reducible first|refine Z1 ?_|refine Z2 ?_|refine Z3 ?_|refine Z4 ?_|refine Z5 ?_|refine Z9 (by assumption) rfl ?_|refine ZA (by assumption) rfl ?_|refine ZB (by assumption) rfl ?_|refine Z6 ?_|refine Z7 ?_|refine Z8 ?_)|((with_reducible refine ZM ?_ ?_);(focus rfl)));(conv=>whnf)))
    refine w12.sl.bytes ?_
    ((conv=>whnf);repeat((first|(with_reducible first|refine Z1 ?_|refine Z2 ?_|refine Z3 ?_|refine Z4 ?_|refine Z5 ?_|refine Z9 (by assumption) rfl ?_|refine ZA (by assumption) rfl ?_|refine ZB (by assumption) rfl ?_|refine Z6 ?_|refine Z7 ?_|refine Z8 ?_)|((with_reducible refine ZM ?_ ?_);(focus rfl)));(conv=>whnf)))
    refine HIdx.mk i rfl hi1 ?_
    ((conv=>whnf);repeat((first|(with_reducible first|refine Z1 ?_|refine Z2 ?_|refine Z3 ?_|refine Z4 ?_|refine Z5 ?_|refine Z9 (by assumption) rfl ?_|refine ZA (by assumption) rfl ?_|refine ZB (by assumption) rfl ?_|refine Z6 ?_|refine Z7 ?_|refine Z8 ?_)|((with_reducible refine ZM ?_ ?_);(focus rfl)));(conv=>whnf)))
    rw [Nat.mul_one]
    refine blk_ld (o := i) w112 (List.getElem?_eq_getElem (by rw [tab_len]; exact hi1)) ?_
    rw [tab_get]
    by_cases hq : G.toldB i = D.sec i
    · have q2 : (!strEq (⟨(G.told (i : Int)).toArray⟩ : ByteArray) (D.sec i)) = false := by rw [← hq]; show (!strEq (G.toldB i) (G.toldB i)) = false; rw [(strEq_iff _ _).2 rfl]; rfl
      ((conv=>whnf);repeat((first|(with_reducible first|refine Z1 ?_|refine Z2 ?_|refine Z3 ?_|refine Z4 ?_|refine Z5 ?_|refine Z9 (by assumption) rfl ?_|refine ZA (by assumption) rfl ?_|refine ZB (by assumption) rfl ?_|refine Z6 ?_|refine Z7 ?_|refine Z8 ?_)|((with_reducible refine ZM ?_ ?_);(focus rfl)));(conv=>whnf)))
      exact ⟨⟨i + 1, rfl, by omega, x11.trans x12⟩, hmu⟩
    · have q2 : (!strEq (⟨(G.told (i : Int)).toArray⟩ : ByteArray) (D.sec i)) = true := by show (!strEq (G.toldB i) (D.sec i)) = true; rw [(strEq_no _ _).2 hq]; rfl
      rcases gsec i hi1 with hg | ⟨hg1, hg2⟩
      · exact absurd hg hq
      have q3 : strEq (L i) ⟨#[]⟩ = false := (strEq_no _ _).2 hg1
      have q5 : (!strEq (⟨(G.told (i : Int)).toArray⟩ : ByteArray) (L i)) = false := by rw [← hg2]; show (!strEq (G.toldB i) (G.toldB i)) = false; rw [(strEq_iff _ _).2 rfl]; rfl
      ((conv=>whnf);repeat((first|(with_reducible first|refine Z1 ?_|refine Z2 ?_|refine Z3 ?_|refine Z4 ?_|refine Z5 ?_|refine Z9 (by assumption) rfl ?_|refine ZA (by assumption) rfl ?_|refine ZB (by assumption) rfl ?_|refine Z6 ?_|refine Z7 ?_|refine Z8 ?_)|((with_reducible refine ZM ?_ ?_);(focus rfl)));(conv=>whnf)))
      refine HIdx.mk i rfl hi1 ?_
      ((conv=>whnf);repeat((first|(with_reducible first|refine Z1 ?_|refine Z2 ?_|refine Z3 ?_|refine Z4 ?_|refine Z5 ?_|refine Z9 (by assumption) rfl ?_|refine ZA (by assumption) rfl ?_|refine ZB (by assumption) rfl ?_|refine Z6 ?_|refine Z7 ?_|refine Z8 ?_)|((with_reducible refine ZM ?_ ?_);(focus rfl)));(conv=>whnf)))
      rw [Nat.mul_one]
      refine blk_ld (o := i) v112 (List.getElem?_eq_getElem (by rw [tab_len]; exact hi1)) ?_
      rw [tab_get]
      ((conv=>whnf);repeat((first|(with_reducible first|refine Z1 ?_|refine Z2 ?_|refine Z3 ?_|refine Z4 ?_|refine Z5 ?_|refine Z9 (by assumption) rfl ?_|refine ZA (by assumption) rfl ?_|refine ZB (by assumption) rfl ?_|refine Z6 ?_|refine Z7 ?_|refine Z8 ?_)|((with_reducible refine ZM ?_ ?_);(focus rfl)));(conv=>whnf)))
      refine w12.sl.bytes ?_
      ((conv=>whnf);repeat((first|(with_reducible first|refine Z1 ?_|refine Z2 ?_|refine Z3 ?_|refine Z4 ?_|refine Z5 ?_|refine Z9 (by assumption) rfl ?_|refine ZA (by assumption) rfl ?_|refine ZB (by assumption) rfl ?_|refine Z6 ?_|refine Z7 ?_|refine Z8 ?_)|((with_reducible refine ZM ?_ ?_);(focus rfl)));(conv=>whnf)))
      refine HIdx.mk i rfl hi1 ?_
      ((conv=>whnf);repeat((first|(with_reducible first|refine Z1 ?_|refine Z2 ?_|refine Z3 ?_|refine Z4 ?_|refine Z5 ?_|refine Z9 (by assumption) rfl ?_|refine ZA (by assumption) rfl ?_|refine ZB (by assumption) rfl ?_|refine Z6 ?_|refine Z7 ?_|refine Z8 ?_)|((with_reducible refine ZM ?_ ?_);(focus rfl)));(conv=>whnf)))
      rw [Nat.mul_one]
      refine blk_ld (o := i) v112 (List.getElem?_eq_getElem (by rw [tab_len]; exact hi1)) ?_
      rw [tab_get]
      ((conv=>whnf);repeat((first|(with_reducible first|refine Z1 ?_|refine Z2 ?_|refine Z3 ?_|refine Z4 ?_|refine Z5 ?_|refine Z9 (by assumption) rfl ?_|refine ZA (by assumption) rfl ?_|refine ZB (by assumption) rfl ?_|refine Z6 ?_|refine Z7 ?_|refine Z8 ?_)|((with_reducible refine ZM ?_ ?_);(focus rfl)));(conv=>whnf)))
      exact ⟨⟨i + 1, rfl, by omega, x11.trans x12⟩, hmu⟩
  · ((conv=>whnf);repeat((first|(with_reducible first|refine Z1 ?_|refine Z2 ?_|refine Z3 ?_|refine Z4 ?_|refine Z5 ?_|refine Z9 (by assumption) rfl ?_|refine ZA (by assumption) rfl ?_|refine ZB (by assumption) rfl ?_|refine Z6 ?_|refine Z7 ?_|refine Z8 ?_)|((with_reducible refine ZM ?_ ?_);(focus rfl)));(conv=>whnf)))
    refine HCall.mk ((waiting_spec d11).mono ?_)
    rintro e h12 ⟨a12, c12, rfl, s12, x12⟩
    rw [gw, keys0]
    ((conv=>whnf);repeat((first|(with_reducible first|refine Z1 ?_|refine Z2 ?_|refine Z3 ?_|refine Z4 ?_|refine Z5 ?_|refine Z9 (by assumption) rfl ?_|refine ZA (by assumption) rfl ?_|refine ZB (by assumption) rfl ?_|refine Z6 ?_|refine Z7 ?_|refine Z8 ?_)|((with_reducible refine ZM ?_ ?_);(focus rfl)));(conv=>whnf)))
    exact ⟨rfl, x1.trans (x10.trans (x11.trans x12))⟩

end Go.Proofs.Ytlbmhpjefpdekaa.Hc
