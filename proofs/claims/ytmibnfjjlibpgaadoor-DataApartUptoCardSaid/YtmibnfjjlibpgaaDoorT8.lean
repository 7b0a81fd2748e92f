/- Copy: memory of its own. -/
import Derived.Test.YtmibnfjjlibpgaaDoorT7
import Derived.Test.YtmibnfjjlibpgaaDoorG1
set_option linter.unusedVariables false
set_option linter.unusedSimpArgs false
namespace Go.Proofs.YtmibnfjjlibpgaaDoor.Hc
open Go Go.H Go.Proofs
set_option maxRecDepth 100000
set_option maxHeartbeats 8000000

theorem Own.storeN {h : Heap} {B e n c i size : Nat} {a : Option Addr} {xs vs : List Value} {p : Addr} {K : Heap → Prop} (x : Own h B e size a n c xs) (ep : a = some p) (hi : i < n) (hv : vs.length = size) (one : ∀ v ∈ vs, isOne v = true)
    (k : ∀ h', Off p.block h h' → h'.size = h.size → Own h' B e size a n c (xs.take (i * size) ++ (vs ++ xs.drop (i * size + size))) → K h') : HStore h (p.add (i * size)) vs K := by
  obtain ⟨h1, h2, h3, h4⟩ := x
  obtain ⟨b, spare, rfl, hb, hs, y⟩ := h4 p ep
  have hle : i * size + size ≤ n * size := by rw [← Nat.succ_mul]; exact Nat.mul_le_mul_right _ hi
  rw [add_mk, Nat.zero_add]
  refine store_blk y (by rw [List.length_append, h1]; omega) one ?_
  intro h' f z o
  refine k h' f z ⟨?_, h2, h3, ?_⟩
  · rw [List.length_append, List.length_append, List.length_take, List.length_drop, hv, h1]; omega
  · intro p' ep'
    rw [ep] at ep'
    cases ep'
    refine ⟨b, spare, rfl, hb, hs, ?_⟩
    rw [hv, List.take_append_of_le_length (by omega), List.drop_append_of_le_length (by omega)] at o
    simpa [List.append_assoc] using o
theorem Sl.loadAt {h : Heap} {size n c i : Nat} {a : Option Addr} {xs pre cs post : List Value} {p : Addr} {K : Value → Prop} (x : Sl h size a n c xs) (ep : a = some p) (hx : xs = pre ++ (cs ++ post)) (hp : pre.length = i * size) (hc : cs.length = size)
    (k : K (.agg cs.toArray)) : HLoadN h (p.add (i * size)) size K := by
  refine ⟨cs, hc, fun j hj => ?_, k⟩
  have hlt : i * size + j < n * size := by
    have := x.1
    rw [hx, List.length_append, List.length_append] at this; omega
  rw [add_add, x.2.2.2 p ep (i * size + j) hlt, hx, List.getElem?_append_right (by omega), List.getElem?_append_left (by omega)]
  congr 1; omega

mutual
/-- A tree whose memory is its own: blocks from lo on, below hi. -/
def OT (h : Heap) : Nat → Nat → DT → List Value → Prop
  | lo, hi, .mk k n s ks l, cs => i64 k ∧ i64 n ∧ s.size ≤ 140737488351232 ∧ ks.length ≤ 140737488351232 ∧ l.length ≤ 140737488351232 ∧ (∀ x ∈ ks, x.size ≤ 140737488351232) ∧
      ∃ ka kc la lc xs mid, cs = [.int .i64 k, .int .i64 n, .string s, .slice ka ks.length kc, .slice la l.length lc] ∧ Own h lo 9 1 ka ks.length kc (ks.map .string) ∧ Own h lo 25 5 la l.length lc xs ∧
        (∀ p, ka = some p → p.block < mid) ∧ (∀ p, la = some p → p.block < mid ∧ ∀ q, ka = some q → q.block ≠ p.block) ∧ lo ≤ mid ∧ mid ≤ hi ∧ OTs h mid hi l xs
def OTs (h : Heap) : Nat → Nat → List DT → List Value → Prop
  | lo, hi, [], xs => xs = []
  | lo, hi, d :: r, xs => ∃ m a b, lo ≤ m ∧ m ≤ hi ∧ xs = a ++ b ∧ OT h lo m d a ∧ OTs h m hi r b
end
mutual
theorem OT.agree {h h' : Heap} : ∀ (d : DT) (lo hi : Nat) (cs : List Value), OT h lo hi d cs → Agree (fun b => lo ≤ b ∧ b < hi) h h' → OT h' lo hi d cs
  | .mk k n s ks l, lo, hi, cs, r, ag => by
    simp only [OT] at r ⊢
    obtain ⟨h1, h2, h3, h4, h5, h6, ka, kc, la, lc, xs, mid, e, o1, o2, b1, b2, m1, m2, r'⟩ := r
    refine ⟨h1, h2, h3, h4, h5, h6, ka, kc, la, lc, xs, mid, e, ?_, ?_, b1, b2, m1, m2, OTs.agree l mid hi xs r' (ag.mono fun b hb => ⟨by omega, hb.2⟩)⟩
    · exact o1.agree ag fun p ep => by have := o1.lt p ep; have := b1 p ep; omega
    · exact o2.agree ag fun p ep => by have := o2.lt p ep; have := (b2 p ep).1; omega
theorem OTs.agree {h h' : Heap} : ∀ (l : List DT) (lo hi : Nat) (xs : List Value), OTs h lo hi l xs → Agree (fun b => lo ≤ b ∧ b < hi) h h' → OTs h' lo hi l xs
  | [], lo, hi, xs, r, ag => by simp only [OTs] at r ⊢; exact r
  | d :: l, lo, hi, xs, r, ag => by
    simp only [OTs] at r ⊢
    obtain ⟨m, a, b, h1, h2, e, r1, r2⟩ := r
    exact ⟨m, a, b, h1, h2, e, OT.agree d lo m a r1 (ag.mono fun b hb => ⟨hb.1, by omega⟩), OTs.agree l m hi b r2 (ag.mono fun b hb => ⟨by omega, hb.2⟩)⟩
end
mutual
theorem OT.rep {h : Heap} : ∀ (d : DT) (lo hi : Nat) (cs : List Value), OT h lo hi d cs → Rep h d cs
  | .mk k n s ks l, lo, hi, cs, r => by
    simp only [OT] at r
    obtain ⟨h1, h2, h3, h4, h5, h6, ka, kc, la, lc, xs, mid, e, o1, o2, b1, b2, m1, m2, r'⟩ := r
    simp only [Rep]
    exact ⟨h1, h2, h3, h4, h5, h6, ka, kc, la, lc, xs, e, o1.sl, o2.sl, OTs.rep l mid hi xs r'⟩
theorem OTs.rep {h : Heap} : ∀ (l : List DT) (lo hi : Nat) (xs : List Value), OTs h lo hi l xs → Reps h l xs
  | [], lo, hi, xs, r => by simp only [OTs] at r; simp only [Reps]; exact r
  | d :: l, lo, hi, xs, r => by
    simp only [OTs] at r
    obtain ⟨m, a, b, h1, h2, e, r1, r2⟩ := r
    simp only [Reps]
    exact ⟨a, b, e, OT.rep d lo m a r1, OTs.rep l m hi b r2⟩
end
theorem OT.lower {h : Heap} {lo lo' hi : Nat} {d : DT} {cs : List Value} (r : OT h lo hi d cs) (hl : lo' ≤ lo) : OT h lo' hi d cs := by
  obtain ⟨k, n, s, ks, l⟩ := d
  simp only [OT] at r ⊢
  obtain ⟨h1, h2, h3, h4, h5, h6, ka, kc, la, lc, xs, mid, e, o1, o2, b1, b2, m1, m2, r'⟩ := r
  exact ⟨h1, h2, h3, h4, h5, h6, ka, kc, la, lc, xs, mid, e, o1.lower hl, o2.lower hl, b1, b2, by omega, m2, r'⟩
theorem OTs.snoc {h : Heap} {d : DT} {ds : List Value} {s e : Nat} (r : OT h s e d ds) (hse : s ≤ e) : ∀ (l : List DT) (lo m : Nat) (ys : List Value), OTs h lo m l ys → lo ≤ m → m ≤ s → OTs h lo e (l ++ [d]) (ys ++ ds)
  | [], lo, m, ys, q, hlm, hm => by
    simp only [OTs] at q
    subst q
    simp only [List.nil_append, OTs]
    exact ⟨e, ds, [], by omega, Nat.le_refl _, by simp, r.lower (by omega), rfl⟩
  | x :: l, lo, m, ys, q, hlm, hm => by
    simp only [OTs] at q
    obtain ⟨m', a, b, h1, h2, rfl, r1, r2⟩ := q
    simp only [List.cons_append, OTs]
    exact ⟨m', a, b ++ ds, h1, by omega, by simp, r1, OTs.snoc r hse l m' m b r2 h2 hm⟩
theorem OTs.raise {h : Heap} {hi hi' : Nat} (hh : hi ≤ hi') : ∀ (l : List DT) (lo : Nat) (xs : List Value), OTs h lo hi l xs → OTs h lo hi' l xs
  | [], lo, xs, r => by simp only [OTs] at r ⊢; exact r
  | d :: l, lo, xs, r => by
    simp only [OTs] at r ⊢
    obtain ⟨m, a, b, h1, h2, e, r1, r2⟩ := r
    exact ⟨m, a, b, h1, by omega, e, r1, OTs.raise hh l m b r2⟩
theorem OT.le {h : Heap} {lo hi : Nat} {d : DT} {cs : List Value} (r : OT h lo hi d cs) : lo ≤ hi := by
  obtain ⟨k, n, s, ks, l⟩ := d
  simp only [OT] at r
  obtain ⟨h1, h2, h3, h4, h5, h6, ka, kc, la, lc, xs, mid, e, o1, o2, b1, b2, m1, m2, r'⟩ := r
  omega

theorem cloneS_spec {h : Heap} {a : Option Addr} {c : Nat} {ks : List ByteArray} (x : Sl h 1 a ks.length c (ks.map .string)) (hl : ks.length * 16 ≤ 140737488355328) :
    HCalls Tryd.prog 34 #[.slice a ks.length c] h fun e h' => ∃ (a' : Option Addr) (c' : Nat), e = .returned (.slice a' ks.length c') ∧ Own h' h.size 9 1 a' ks.length c' (ks.map .string) ∧ Ext h h' := by
  refine c34 (by simp) ?_
  cases a with
  | none =>
    have h0 : ks.length = 0 := by have := x.2.2.1 rfl; have := x.2.1; omega
    obtain rfl : ks = [] := List.length_eq_zero_iff.1 h0
    ((conv=>whnf);repeat((first|(with_reducible first|refine Z1 ?_|refine Z2 ?_|refine Z3 ?_|refine Z4 ?_|refine Z5 ?_|refine Z9 (by assumption) rfl ?_|refine ZA (by assumption) rfl ?_|refine ZB (by assumption) rfl ?_|refine Z6 ?_|refine Z7 ?_|refine Z8 ?_)|((with_reducible refine ZM ?_ ?_);(focus rfl)));(conv=>whnf)))
    exact ⟨none, 0, rfl, Own.nil _ _ _ _, Ext.refl _⟩
  | some p =>
    ((conv=>whnf);repeat((first|(with_reducible first|refine Z1 ?_|refine Z2 ?_|refine Z3 ?_|refine Z4 ?_|refine Z5 ?_|refine Z9 (by assumption) rfl ?_|refine ZA (by assumption) rfl ?_|refine ZB (by assumption) rfl ?_|refine Z6 ?_|refine Z7 ?_|refine Z8 ?_)|((with_reducible refine ZM ?_ ?_);(focus rfl)));(conv=>whnf)))
    refine HIf.no rfl ?_
    ((conv=>whnf);repeat((first|(with_reducible first|refine Z1 ?_|refine Z2 ?_|refine Z3 ?_|refine Z4 ?_|refine Z5 ?_|refine Z9 (by assumption) rfl ?_|refine ZA (by assumption) rfl ?_|refine ZB (by assumption) rfl ?_|refine Z6 ?_|refine Z7 ?_|refine Z8 ?_)|((with_reducible refine ZM ?_ ?_);(focus rfl)));(conv=>whnf)))
    refine new_own (e := 9) 1 0 [] rfl rfl ?_
    intro h1 b1 w1 x1 z1 hb1
    ((conv=>whnf);repeat((first|(with_reducible first|refine Z1 ?_|refine Z2 ?_|refine Z3 ?_|refine Z4 ?_|refine Z5 ?_|refine Z9 (by assumption) rfl ?_|refine ZA (by assumption) rfl ?_|refine ZB (by assumption) rfl ?_|refine Z6 ?_|refine Z7 ?_|refine Z8 ?_)|((with_reducible refine ZM ?_ ?_);(focus rfl)));(conv=>whnf)))
    refine (x.ext x1).cells ?_
    refine Own.append w1 (m := ks.length) (by omega) rfl (by simp) strsV_one (by omega) ?_
    intro h2 a2 c2 w2 k2 _ _
    rw [Nat.zero_add, List.nil_append] at w2
    rw [Nat.zero_add]
    ((conv=>whnf);repeat((first|(with_reducible first|refine Z1 ?_|refine Z2 ?_|refine Z3 ?_|refine Z4 ?_|refine Z5 ?_|refine Z9 (by assumption) rfl ?_|refine ZA (by assumption) rfl ?_|refine ZB (by assumption) rfl ?_|refine Z6 ?_|refine Z7 ?_|refine Z8 ?_)|((with_reducible refine ZM ?_ ?_);(focus rfl)));(conv=>whnf)))
    exact ⟨a2, c2, rfl, w2, x1.keep k2⟩
theorem cloneD_spec {h : Heap} {a : Option Addr} {c n : Nat} {xs : List Value} (x : Sl h 5 a n c xs) (hl : n * 80 ≤ 140737488355328) (one : ∀ v ∈ xs, isOne v = true) :
    HCalls Tryd.prog 35 #[.slice a n c] h fun e h' => ∃ (a' : Option Addr) (c' : Nat), e = .returned (.slice a' n c') ∧ Own h' h.size 25 5 a' n c' xs ∧ Ext h h' := by
  refine c35 (by simp) ?_
  cases a with
  | none =>
    have h0 : n = 0 := by have := x.2.2.1 rfl; have := x.2.1; omega
    subst h0
    obtain rfl : xs = [] := List.length_eq_zero_iff.1 (by simpa using x.1)
    ((conv=>whnf);repeat((first|(with_reducible first|refine Z1 ?_|refine Z2 ?_|refine Z3 ?_|refine Z4 ?_|refine Z5 ?_|refine Z9 (by assumption) rfl ?_|refine ZA (by assumption) rfl ?_|refine ZB (by assumption) rfl ?_|refine Z6 ?_|refine Z7 ?_|refine Z8 ?_)|((with_reducible refine ZM ?_ ?_);(focus rfl)));(conv=>whnf)))
    exact ⟨none, 0, rfl, Own.nil _ _ _ _, Ext.refl _⟩
  | some p =>
    ((conv=>whnf);repeat((first|(with_reducible first|refine Z1 ?_|refine Z2 ?_|refine Z3 ?_|refine Z4 ?_|refine Z5 ?_|refine Z9 (by assumption) rfl ?_|refine ZA (by assumption) rfl ?_|refine ZB (by assumption) rfl ?_|refine Z6 ?_|refine Z7 ?_|refine Z8 ?_)|((with_reducible refine ZM ?_ ?_);(focus rfl)));(conv=>whnf)))
    refine HIf.no rfl ?_
    ((conv=>whnf);repeat((first|(with_reducible first|refine Z1 ?_|refine Z2 ?_|refine Z3 ?_|refine Z4 ?_|refine Z5 ?_|refine Z9 (by assumption) rfl ?_|refine ZA (by assumption) rfl ?_|refine ZB (by assumption) rfl ?_|refine Z6 ?_|refine Z7 ?_|refine Z8 ?_)|((with_reducible refine ZM ?_ ?_);(focus rfl)));(conv=>whnf)))
    refine new_own (e := 25) 5 0 [] rfl rfl ?_
    intro h1 b1 w1 x1 z1 hb1
    ((conv=>whnf);repeat((first|(with_reducible first|refine Z1 ?_|refine Z2 ?_|refine Z3 ?_|refine Z4 ?_|refine Z5 ?_|refine Z9 (by assumption) rfl ?_|refine ZA (by assumption) rfl ?_|refine ZB (by assumption) rfl ?_|refine Z6 ?_|refine Z7 ?_|refine Z8 ?_)|((with_reducible refine ZM ?_ ?_);(focus rfl)));(conv=>whnf)))
    refine (x.ext x1).cells ?_
    refine Own.append w1 (m := n) (by omega) rfl x.1 one (by omega) ?_
    intro h2 a2 c2 w2 k2 _ _
    rw [Nat.zero_add, List.nil_append] at w2
    rw [Nat.zero_add]
    ((conv=>whnf);repeat((first|(with_reducible first|refine Z1 ?_|refine Z2 ?_|refine Z3 ?_|refine Z4 ?_|refine Z5 ?_|refine Z9 (by assumption) rfl ?_|refine ZA (by assumption) rfl ?_|refine ZB (by assumption) rfl ?_|refine Z6 ?_|refine Z7 ?_|refine Z8 ?_)|((with_reducible refine ZM ?_ ?_);(focus rfl)));(conv=>whnf)))
    exact ⟨a2, c2, rfl, w2, x1.keep k2⟩

theorem copy_spec : ∀ (a : DT) (h : Heap) (cs : List Value), Rep h a cs → vol a ≤ 1073741824 →
    HCalls Tryd.prog 21 #[.agg cs.toArray] h fun e h' => ∃ ds : List Value, e = .returned (.agg ds.toArray) ∧ Ext h h' ∧ OT h' h.size h'.size a ds := by
  intro a
  induction a using (measure (fun d : DT => SizeOf.sizeOf d)).wf.induction with
  | _ a ih =>
  intro h cs ra hvol
  obtain ⟨k1, n1, s1, ks1, l1⟩ := a
  simp only [Rep] at ra
  obtain ⟨a1, a2, a3, a4, a5, a6, ka, kc, la, lc, xs, rfl, a7, a8, a9⟩ := ra
  have hkl := kvol_len ks1
  have hvl := vols_len l1
  have xone : ∀ v ∈ xs, isOne v = true := Els.one_of (fun d cs r => r.one) (Reps_iff.1 a9)
  simp only [vol] at hvol
  refine c21 (by simp) ?_
  ((conv=>whnf);repeat((first|(with_reducible first|refine Z1 ?_|refine Z2 ?_|refine Z3 ?_|refine Z4 ?_|refine Z5 ?_|refine Z9 (by assumption) rfl ?_|refine ZA (by assumption) rfl ?_|refine ZB (by assumption) rfl ?_|refine Z6 ?_|refine Z7 ?_|refine Z8 ?_)|((with_reducible refine ZM ?_ ?_);(focus rfl)));(conv=>whnf)))
  refine new_var (e := 25) [.int .i64 k1, .int .i64 n1, .string s1, .slice ka ks1.length kc, .slice la l1.length lc] rfl ?_
  intro h1 bx ox x1 z1 hbx
  ((conv=>whnf);repeat((first|(with_reducible first|refine Z1 ?_|refine Z2 ?_|refine Z3 ?_|refine Z4 ?_|refine Z5 ?_|refine Z9 (by assumption) rfl ?_|refine ZA (by assumption) rfl ?_|refine ZB (by assumption) rfl ?_|refine Z6 ?_|refine Z7 ?_|refine Z8 ?_)|((with_reducible refine ZM ?_ ?_);(focus rfl)));(conv=>whnf)))
  refine new_var (e := 25) zeroD rfl ?_
  intro h2 b2 o2 x2 z2 hb2
  have ox2 := ox.ext x2
  have x12 := x1.trans x2
  clear ox
  ((conv=>whnf);repeat((first|(with_reducible first|refine Z2 ?_|refine Z3 ?_|refine Z4 ?_|refine Z5 ?_|refine Z9 (by assumption) rfl ?_|refine ZA (by assumption) rfl ?_|refine ZB (by assumption) rfl ?_|refine Z6 ?_|refine Z7 ?_|refine Z8 ?_)|((with_reducible refine ZM ?_ ?_);(focus rfl)));(conv=>whnf)))
  refine cut_rule [] (fun vs h' => vs = [] ∧ ∃ ka' kc' la' lc', Ext h h' ∧ h2.size ≤ h'.size ∧ Own h' h2.size 9 1 ka' ks1.length kc' (ks1.map .string) ∧ Own h' h2.size 25 5 la' l1.length lc' xs ∧ (∀ p, la' = some p → ∀ q, ka' = some q → q.block ≠ p.block) ∧
      BlkW h' b2 25 zeroD ∧ BlkW h' bx 25 [.int .i64 k1, .int .i64 n1, .string s1, .slice ka' ks1.length kc', .slice la' l1.length lc']) rfl ?_ ?_
  · ((conv=>whnf);repeat((first|(with_reducible first|refine Z1 ?_|refine Z2 ?_|refine Z3 ?_|refine Z4 ?_|refine Z5 ?_|refine Z9 (by assumption) rfl ?_|refine ZA (by assumption) rfl ?_|refine ZB (by assumption) rfl ?_|refine Z6 ?_|refine Z7 ?_|refine Z8 ?_)|((with_reducible refine ZM ?_ ?_);(focus rfl)));(conv=>whnf)))
    refine HAlt.mk ?_ ?_
    all_goals
      ((conv=>whnf);repeat((first|(with_reducible first|refine Z1 ?_|refine Z2 ?_|refine Z3 ?_|refine Z4 ?_|refine Z5 ?_|refine Z9 (by assumption) rfl ?_|refine ZA (by assumption) rfl ?_|refine ZB (by assumption) rfl ?_|refine Z6 ?_|refine Z7 ?_|refine Z8 ?_)|((with_reducible refine ZM ?_ ?_);(focus rfl)));(conv=>whnf)))
      refine HCall.mk ((cloneS_spec (a7.ext x12) (by omega)).mono ?_)
      rintro e h3 ⟨ka', kc', rfl, w3, x3⟩
      have ox3 := ox2.ext x3
      have o23 := o2.ext x3
      have w3lt := w3.lt
      ((conv=>whnf);repeat((first|(with_reducible first|refine Z1 ?_|refine Z2 ?_|refine Z3 ?_|refine Z4 ?_|refine Z5 ?_|refine Z9 (by assumption) rfl ?_|refine ZA (by assumption) rfl ?_|refine ZB (by assumption) rfl ?_|refine Z6 ?_|refine Z7 ?_|refine Z8 ?_)|((with_reducible refine ZM ?_ ?_);(focus rfl)));(conv=>whnf)))
      refine HCall.mk ((cloneD_spec (a8.ext (x12.trans x3)) (by omega) xone).mono ?_)
      rintro e h4 ⟨la', lc', rfl, w4, x4⟩
      have ox4 := ox3.ext x4
      have o24 := o23.ext x4
      have w4lt := w4.lt
      have hs3 := x3.1
      have hs4 := x4.1
      ((conv=>whnf);repeat((first|(with_reducible first|refine Z1 ?_|refine Z2 ?_|refine Z3 ?_|refine Z4 ?_|refine Z5 ?_|refine Z9 (by assumption) rfl ?_|refine ZA (by assumption) rfl ?_|refine ZB (by assumption) rfl ?_|refine Z6 ?_|refine Z7 ?_|refine Z8 ?_)|((with_reducible refine ZM ?_ ?_);(focus rfl)));(conv=>whnf)))
      refine blk_st (o := 3) ox4 (by simp) rfl ?_
      intro h5 f5 z5 o5
      ((conv=>whnf);repeat((first|(with_reducible first|refine Z1 ?_|refine Z2 ?_|refine Z3 ?_|refine Z4 ?_|refine Z5 ?_|refine Z9 (by assumption) rfl ?_|refine ZA (by assumption) rfl ?_|refine ZB (by assumption) rfl ?_|refine Z6 ?_|refine Z7 ?_|refine Z8 ?_)|((with_reducible refine ZM ?_ ?_);(focus rfl)));(conv=>whnf)))
      refine blk_st (o := 4) o5 (by simp) rfl ?_
      intro h6 f6 z6 o6
      have f56 : Off bx h4 h6 := f5.trans f6
      ((conv=>whnf);repeat((first|(with_reducible first|refine Z1 ?_|refine Z2 ?_|refine Z3 ?_|refine Z4 ?_|refine Z5 ?_|refine Z9 (by assumption) rfl ?_|refine ZA (by assumption) rfl ?_|refine ZB (by assumption) rfl ?_|refine Z6 ?_|refine Z7 ?_|refine Z8 ?_)|((with_reducible refine ZM ?_ ?_);(focus rfl)));(conv=>whnf)))
      refine ⟨rfl, ka', kc', la', lc', ?_, by omega, ?_, ?_, ?_, ?_, o6⟩
      · exact ((x12.trans (x3.trans x4)).offNew f56 (by omega))
      · exact (w3.ext x4).off f56 (fun p ep => by have := w3lt p ep; omega)
      · exact (w4.lower hs3).off f56 (fun p ep => by have := w4lt p ep; omega)
      · intro p ep q eq
        have := w4lt p ep
        have := w3lt q eq
        omega
      · exact o24.offk f56 (by omega)
  intro u h3
  rintro ⟨e, ka', kc', la', lc', x3, hs3, w3, w4, hne, o23, ox3⟩
  cases e
  clear ox2 o2
  have w3lt := w3.lt
  have w4lt := w4.lt
  have hs2 := x12.1
  ((conv=>whnf);repeat((first|(with_reducible first|refine Z1 ?_|refine Z2 ?_|refine Z3 ?_|refine Z4 ?_|refine Z5 ?_|refine Z9 (by assumption) rfl ?_|refine ZA (by assumption) rfl ?_|refine ZB (by assumption) rfl ?_|refine Z6 ?_|refine Z7 ?_|refine Z8 ?_)|((with_reducible refine ZM ?_ ?_);(focus rfl)));(conv=>whnf)))
  refine loop_rule [16] (fun vs h' => ∃ (i m : Nat) (ys : List Value), vs = [.int .i64 i] ∧ i ≤ l1.length ∧ h3.size ≤ m ∧ m ≤ h'.size ∧ (∀ b, b < h3.size → (∀ p, la' = some p → p.block ≠ b) → h'[b]? = h3[b]?) ∧ Own h' h2.size 25 5 la' l1.length lc' (ys ++ xs.drop (i * 5)) ∧ OTs h' h3.size m (l1.take i) ys ∧ ys.length = i * 5)
    (fun vs _ => match vs with | [.int _ i] => l1.length - i.toNat | _ => 0) rfl ?_ ?_
  · exact ⟨0, h3.size, [], rfl, by omega, Nat.le_refl _, Nat.le_refl _, fun _ _ _ => rfl, by simpa using w4, by simp [OTs], rfl⟩
  intro u h4 v16
  rintro ⟨i, m, ys, e, hi, hm1, hm2, ag, own, ots, hys⟩
  cases e
  have x04 : Ext h h4 := ⟨by have := x3.1; omega, fun b hb => by rw [ag b (by have := x3.1; omega) (fun p ep => by have := w4lt p ep; omega), x3.2 b hb]⟩
  have ox4 : BlkW h4 bx 25 _ := ox3.of (ag _ ox3.lt (fun p ep => by have := w4lt p ep; omega))
  have o24 : BlkW h4 b2 25 _ := o23.of (ag _ o23.lt (fun p ep => by have := w4lt p ep; omega))
  have ownlt := own.lt
  ((conv=>whnf);repeat((first|(with_reducible first|refine Z1 ?_|refine Z2 ?_|refine Z3 ?_|refine Z4 ?_|refine Z5 ?_|refine Z9 (by assumption) rfl ?_|refine ZA (by assumption) rfl ?_|refine ZB (by assumption) rfl ?_|refine Z6 ?_|refine Z7 ?_|refine Z8 ?_)|((with_reducible refine ZM ?_ ?_);(focus rfl)));(conv=>whnf)))
  refine HIf.mk (fun hlt => ?_) (fun hlt => ?_)
  · have hi1 : i < l1.length := by have := of_decide_eq_true hlt; omega
    have hmu : l1.length - ((i : Int) + 1).toNat < l1.length - ((i : Int)).toNat := by omega
    have hvi := vols_mem l1 l1[i] (List.getElem_mem hi1)
    obtain ⟨as', ra1, hxa⟩ := a9.get i hi1
    have hal := ra1.len
    have hxl := a9.len
    have hxs : xs.drop (i * 5) = as' ++ xs.drop ((i + 1) * 5) := by
      apply List.ext_getElem?
      intro j
      rw [List.getElem?_drop]
      rcases Nat.lt_or_ge j 5 with hj | hj
      · rw [hxa j hj, List.getElem?_append_left (by omega)]
      · rw [List.getElem?_append_right (by omega), List.getElem?_drop, hal]; congr 1; omega
    ((conv=>whnf);repeat((first|(with_reducible first|refine Z1 ?_|refine Z2 ?_|refine Z3 ?_|refine Z4 ?_|refine Z5 ?_|refine Z9 (by assumption) rfl ?_|refine ZA (by assumption) rfl ?_|refine ZB (by assumption) rfl ?_|refine Z6 ?_|refine Z7 ?_|refine Z8 ?_)|((with_reducible refine ZM ?_ ?_);(focus rfl)));(conv=>whnf)))
    refine HIdx.mk i rfl hi1 ?_
    refine sl_some own.sl hi1 fun p ep => ?_
    ((conv=>whnf);repeat((first|(with_reducible first|refine Z1 ?_|refine Z2 ?_|refine Z3 ?_|refine Z4 ?_|refine Z5 ?_|refine Z9 (by assumption) rfl ?_|refine ZA (by assumption) rfl ?_|refine ZB (by assumption) rfl ?_|refine Z6 ?_|refine Z7 ?_|refine Z8 ?_)|((with_reducible refine ZM ?_ ?_);(focus rfl)));(conv=>whnf)))
    refine Sl.loadAt own.sl ep (pre := ys) (cs := as') (post := xs.drop ((i + 1) * 5)) (by rw [hxs]) hys hal ?_
    ((conv=>whnf);repeat((first|(with_reducible first|refine Z1 ?_|refine Z2 ?_|refine Z3 ?_|refine Z4 ?_|refine Z5 ?_|refine Z9 (by assumption) rfl ?_|refine ZA (by assumption) rfl ?_|refine ZB (by assumption) rfl ?_|refine Z6 ?_|refine Z7 ?_|refine Z8 ?_)|((with_reducible refine ZM ?_ ?_);(focus rfl)));(conv=>whnf)))
    refine new_var (e := 25) zeroD rfl ?_
    intro h5 b5 o5 x5 z5 hb5
    ((conv=>whnf);repeat((first|(with_reducible first|refine Z1 ?_|refine Z2 ?_|refine Z3 ?_|refine Z4 ?_|refine Z5 ?_|refine Z9 (by assumption) rfl ?_|refine ZA (by assumption) rfl ?_|refine ZB (by assumption) rfl ?_|refine Z6 ?_|refine Z7 ?_|refine Z8 ?_)|((with_reducible refine ZM ?_ ?_);(focus rfl)));(conv=>whnf)))
    refine HMust.mk (by simpa using hal) ?_
    refine store_new o5 (by simp [hal]) (by simpa using ra1.one) ?_
    intro h6 f6 z6 o6
    have x46 : Ext h4 h6 := x5.offNew f6 (by omega)
    have ox6 := ox4.ext x46
    clear ox4 ox3 o5
    have hs46 := x46.1
    ((conv=>whnf);repeat((first|(with_reducible first|refine Z1 ?_|refine Z2 ?_|refine Z3 ?_|refine Z4 ?_|refine Z5 ?_|refine Z9 (by assumption) rfl ?_|refine ZA (by assumption) rfl ?_|refine ZB (by assumption) rfl ?_|refine Z6 ?_|refine Z7 ?_|refine Z8 ?_)|((with_reducible refine ZM ?_ ?_);(focus rfl)));(conv=>whnf)))
    refine blk_ldN o6 (by simpa using hal) ?_
    ((conv=>whnf);repeat((first|(with_reducible first|refine Z1 ?_|refine Z2 ?_|refine Z3 ?_|refine Z4 ?_|refine Z5 ?_|refine Z9 (by assumption) rfl ?_|refine ZA (by assumption) rfl ?_|refine ZB (by assumption) rfl ?_|refine Z6 ?_|refine Z7 ?_|refine Z8 ?_)|((with_reducible refine ZM ?_ ?_);(focus rfl)));(conv=>whnf)))
    refine HAlt.mk ?_ ?_
    all_goals
      ((conv=>whnf);repeat((first|(with_reducible first|refine Z1 ?_|refine Z2 ?_|refine Z3 ?_|refine Z4 ?_|refine Z5 ?_|refine Z9 (by assumption) rfl ?_|refine ZA (by assumption) rfl ?_|refine ZB (by assumption) rfl ?_|refine Z6 ?_|refine Z7 ?_|refine Z8 ?_)|((with_reducible refine ZM ?_ ?_);(focus rfl)));(conv=>whnf)))
      refine HCall.mk ((ih l1[i] (dt_lt hi1) h6 as' (Rep.ext (x04.trans x46) _ _ ra1) (by omega)).mono ?_)
      rintro e h7 ⟨ds, rfl, x7, ot⟩
      have x47 := x46.trans x7
      have ox7 := ox6.ext x7
      have own7 := own.ext x47
      have otle := ot.le
      have otr := ot.rep
      have hdl : ds.length = 5 := (OT.rep _ _ _ _ ot).len
      ((conv=>whnf);repeat((first|(with_reducible first|refine Z1 ?_|refine Z2 ?_|refine Z3 ?_|refine Z4 ?_|refine Z5 ?_|refine Z9 (by assumption) rfl ?_|refine ZA (by assumption) rfl ?_|refine ZB (by assumption) rfl ?_|refine Z6 ?_|refine Z7 ?_|refine Z8 ?_)|((with_reducible refine ZM ?_ ?_);(focus rfl)));(conv=>whnf)))
      refine HIdx.mk i rfl hi1 ?_
      refine sl_some own7.sl hi1 fun p ep => ?_
      ((conv=>whnf);repeat((first|(with_reducible first|refine Z1 ?_|refine Z2 ?_|refine Z3 ?_|refine Z4 ?_|refine Z5 ?_|refine Z9 (by assumption) rfl ?_|refine ZA (by assumption) rfl ?_|refine ZB (by assumption) rfl ?_|refine Z6 ?_|refine Z7 ?_|refine Z8 ?_)|((with_reducible refine ZM ?_ ?_);(focus rfl)));(conv=>whnf)))
      refine HMust.mk (by simpa using hdl) ?_
      refine Own.storeN own7 ep hi1 (by simpa using hdl) (by simpa using (OT.rep _ _ _ _ ot).one) ?_
      intro h8 f8 z8 own8
      have hpl := ownlt p ep
      have hpw := w4lt p ep
      have e8 : (ys ++ xs.drop (i * 5)).take (i * 5) ++ (ds.toArray.toList ++ (ys ++ xs.drop (i * 5)).drop (i * 5 + 5)) = (ys ++ ds) ++ xs.drop ((i + 1) * 5) := by
        rw [← hys, List.take_left, ← List.drop_drop, List.drop_left, hys, hxs]
        have : (as' ++ xs.drop ((i + 1) * 5)).drop 5 = xs.drop ((i + 1) * 5) := by rw [← hal, List.drop_left]
        rw [this]; simp
      rw [e8] at own8
      ((conv=>whnf);repeat((first|(with_reducible first|refine Z1 ?_|refine Z2 ?_|refine Z3 ?_|refine Z4 ?_|refine Z5 ?_|refine Z9 (by assumption) rfl ?_|refine ZA (by assumption) rfl ?_|refine ZB (by assumption) rfl ?_|refine Z6 ?_|refine Z7 ?_|refine Z8 ?_)|((with_reducible refine ZM ?_ ?_);(focus rfl)));(conv=>whnf)))
      refine ⟨⟨i + 1, h7.size, ys ++ ds, rfl, by omega, by have := x47.1; omega, by omega, ?_, own8, ?_, by rw [List.length_append, hys, hdl]; omega⟩, hmu⟩
      · intro b hb hnb
        rw [f8.2 b (by have := x47.1; omega) (fun e => hnb p ep e.symm), x47.2 b (by omega), ag b hb hnb]
      · rw [take_succ' hi1]
        refine OTs.snoc (s := h6.size) (OT.agree _ _ _ _ ot (f8.agree fun b hb => ⟨hb.2, by omega⟩)) otle _ _ m ys (OTs.agree _ _ _ _ ots ?_) hm1 (by omega)
        intro b hb
        rw [f8.2 b (by have := x47.1; omega) (by omega), x47.2 b (by omega)]
  · have hge := of_decide_eq_false hlt
    obtain rfl : i = l1.length := by omega
    rw [List.take_length] at ots
    have hxl := a9.len
    have hd : xs.drop (l1.length * 5) = [] := List.drop_eq_nil_of_le (by omega)
    rw [hd, List.append_nil] at own
    have w34 : Own h4 h2.size 9 1 ka' ks1.length kc' (ks1.map .string) := w3.agree (S := fun b => b < h3.size ∧ ∀ p, la' = some p → p.block ≠ b) (fun b hb => ag b hb.1 hb.2) (fun q eq => ⟨(w3lt q eq).2, fun p ep => fun e => hne p ep q eq e.symm⟩)
    ((conv=>whnf);repeat((first|(with_reducible first|refine Z1 ?_|refine Z2 ?_|refine Z3 ?_|refine Z4 ?_|refine Z5 ?_|refine Z9 (by assumption) rfl ?_|refine ZA (by assumption) rfl ?_|refine ZB (by assumption) rfl ?_|refine Z6 ?_|refine Z7 ?_|refine Z8 ?_)|((with_reducible refine ZM ?_ ?_);(focus rfl)));(conv=>whnf)))
    refine store_new o24 rfl (by simp [isOne]) ?_
    intro h5 f5 z5 o5
    have hb2' : b2 < h2.size := by omega
    ((conv=>whnf);repeat((first|(with_reducible first|refine Z1 ?_|refine Z2 ?_|refine Z3 ?_|refine Z4 ?_|refine Z5 ?_|refine Z9 (by assumption) rfl ?_|refine ZA (by assumption) rfl ?_|refine ZB (by assumption) rfl ?_|refine Z6 ?_|refine Z7 ?_|refine Z8 ?_)|((with_reducible refine ZM ?_ ?_);(focus rfl)));(conv=>whnf)))
    refine ⟨_, rfl, ⟨by have := x04.1; omega, fun b hb => by rw [f5.2 b (by have := x04.1; omega) (by omega), x04.2 b hb]⟩, ?_⟩
    simp only [OT]
    refine ⟨a1, a2, a3, a4, a5, a6, ka', kc', la', lc', ys, h3.size, rfl, ?_, ?_, fun p ep => (w3lt p ep).2, fun p ep => ⟨(w4lt p ep).2, hne p ep⟩, by omega, by omega, ?_⟩
    · exact (w34.off f5 (fun p ep => by have := w3lt p ep; omega)).lower (by omega)
    · exact (own.off f5 (fun p ep => by have := w4lt p ep; omega)).lower (by omega)
    · have := OTs.agree _ _ _ _ ots (f5.agree fun b hb => ⟨by omega, by omega⟩)
      exact OTs.raise (by omega) _ _ _ this

end Go.Proofs.YtmibnfjjlibpgaaDoor.Hc
