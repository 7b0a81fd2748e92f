import Derived.Test.YthagjflkdoafmaaNB
set_option linter.unusedVariables false
set_option linter.unusedSimpArgs false
namespace Go.Proofs.Ythagjflkdoafmaa.Hc
open Go Go.H Go.Proofs
set_option maxRecDepth 100000
set_option maxHeartbeats 4000000

theorem after_txt {h' : Heap} {br er : Nat} {r : List UInt8} {e : Ending} (x : After h' br r er (rTxt r) ⟨#[]⟩ e fun n => .string n) :
    ∃ s r' er', e = .returned (.string s) ∧ s.size ≤ 1024 ∧ r'.length ≤ r.length ∧ RdrR h' br r' er' ∧ ((er ≠ 0 ∧ er' = er) ∨ (er = 0 ∧ er' ≠ 0 ∧ rTxt r = .no er') ∨ (er = 0 ∧ er' = 0 ∧ rTxt r = .ok s r')) := by
  by_cases h0 : er = 0
  · have := x.2 h0
    cases hr : rTxt r with
    | no k => rw [hr] at this; exact ⟨_, r, k, this.2.2, by decide, Nat.le_refl _, this.2.1, .inr (.inl ⟨h0, this.1, rfl⟩)⟩
    | ok s r' => rw [hr] at this; have h2 := rTxt_ok hr; exact ⟨s, r', 0, this.2, h2.1, by omega, this.1, .inr (.inr ⟨h0, rfl, rfl⟩)⟩
  · have := x.1 h0
    exact ⟨_, r, er, this.2, by decide, Nat.le_refl _, this.1, .inl ⟨h0, rfl⟩⟩
theorem after_num {h' : Heap} {br er most : Nat} {r : List UInt8} {e : Ending} (x : After h' br r er (rNum most r) 0 e fun n => .int .i64 n) :
    ∃ (s : Nat) (r' : List UInt8) (er' : Nat), e = .returned (.int .i64 s) ∧ s ≤ most ∧ r'.length ≤ r.length ∧ RdrR h' br r' er' ∧ ((er ≠ 0 ∧ er' = er) ∨ (er = 0 ∧ er' ≠ 0 ∧ s = 0 ∧ rNum most r = .no er') ∨ (er = 0 ∧ er' = 0 ∧ rNum most r = .ok s r')) := by
  by_cases h0 : er = 0
  · have := x.2 h0
    cases hr : rNum most r with
    | no k => rw [hr] at this; exact ⟨0, r, k, this.2.2, Nat.zero_le _, Nat.le_refl _, this.2.1, .inr (.inl ⟨h0, this.1, rfl, rfl⟩)⟩
    | ok s r' => rw [hr] at this; have h2 := rNum_ok hr; exact ⟨s, r', 0, this.2, h2.1, by omega, this.1, .inr (.inr ⟨h0, rfl, rfl⟩)⟩
  · have := x.1 h0
    exact ⟨0, r, er, this.2, Nat.zero_le _, Nat.le_refl _, this.1, .inl ⟨h0, rfl⟩⟩

/-- What the reference's reading of a node leaves. -/
def NodeR (h : Heap) (br : Nat) (rd : Rd ND) (e : Ending) (h' : Heap) : Prop :=
  Off br h h' ∧ ∃ er r cs, e = .returned (.agg cs.toArray) ∧ cs.length = 3 ∧ (∀ v ∈ cs, isOne v = true) ∧ (∃ ka kn kc va vn vc ia n ic, cs = [.slice ka kn kc, .slice va vn vc, .slice ia n ic]) ∧ RdrR h' br r er ∧ match rd with
    | .no k => er = k ∧ er ≠ 0
    | .ok d r' => er = 0 ∧ r = r' ∧ NFr h' h.size d cs

theorem rnodeR_spec {h : Heap} {br : Nat} {l : List UInt8} (x : RdrR h br l 0) (hl : l.length ≤ 17179869184) :
    HCalls Try.prog 42 #[.pointer (some ⟨br, 0, none⟩)] h (NodeR h br (rNode0 l)) := by
  have hbr := x.lt
  refine c42 (by simp) ?_
  (conv => whnf)
  refine new_var (e := 25) zeroN rfl ?_
  intro h1 b2 o2 x1 z1 hb2
  ((conv=>whnf);repeat((first|(with_reducible first|refine Z1 ?_|refine Z2 ?_|refine Z3 ?_|refine Z4 ?_|refine Z5 ?_|refine Z9 (by assumption) rfl ?_|refine ZA (by assumption) rfl ?_|refine ZB (by assumption) rfl ?_|refine Z6 ?_|refine Z7 ?_|refine Z8 ?_)|((with_reducible refine ZM ?_ ?_);(focus rfl)));(conv=>whnf)))
  refine new_var (e := 25) zeroN rfl ?_
  intro h2 b3 o3 x2 z2 hb3
  have o22 := o2.ext x2
  have x02 := x1.trans x2
  have r2 := x.ext x02
  have f2 : Off br h h2 := x02.off
  obtain ⟨a, c, ob, sl, hp⟩ := r2
  have r2 : RdrR h2 br l 0 := ⟨a, c, ob, sl, hp⟩
  have hc := sl.2.1
  have bad : ∀ (hh : Heap) (rd : Rd ND) (k : Nat) (r : List UInt8), Off br h hh → RdrR hh br r k → rd = .no k → k ≠ 0 → NodeR h br rd (.returned (.agg zeroN.toArray)) hh := by
    rintro hh rd k r fh rr rfl hk
    exact ⟨fh, k, r, zeroN, rfl, rfl, zeroN_one, ⟨none, 0, 0, none, 0, 0, none, 0, 0, rfl⟩, rr, rfl, hk⟩
  ((conv=>whnf);repeat((first|(with_reducible first|refine Z2 ?_|refine Z3 ?_|refine Z4 ?_|refine Z5 ?_|refine Z9 (by assumption) rfl ?_|refine ZA (by assumption) rfl ?_|refine ZB (by assumption) rfl ?_|refine Z6 ?_|refine Z7 ?_|refine Z8 ?_)|((with_reducible refine ZM ?_ ?_);(focus rfl)));(conv=>whnf)))
  (refine HSeq.go ?_; conv => whnf)
  cases l with
  | nil =>
    ((conv=>whnf);repeat((first|(with_reducible first|refine Z2 ?_|refine Z3 ?_|refine Z4 ?_|refine Z5 ?_|refine Z9 (by assumption) rfl ?_|refine ZA (by assumption) rfl ?_|refine ZB (by assumption) rfl ?_|refine Z6 ?_|refine Z7 ?_|refine Z8 ?_)|((with_reducible refine ZM ?_ ?_);(focus rfl)));(conv=>whnf)))
    refine HCall.mk ((fail_spec (k := 20) r2).mono ?_)
    rintro e h3 ⟨rfl, f3, z3, r3⟩
    have o33 := o3.offk f3 (by omega)
    have o23 := o22.offk f3 (by omega)
    ((conv=>whnf);repeat((first|(with_reducible first|refine Z1 ?_|refine Z2 ?_|refine Z3 ?_|refine Z4 ?_|refine Z5 ?_|refine Z9 (by assumption) rfl ?_|refine ZA (by assumption) rfl ?_|refine ZB (by assumption) rfl ?_|refine Z6 ?_|refine Z7 ?_|refine Z8 ?_)|((with_reducible refine ZM ?_ ?_);(focus rfl)));(conv=>whnf)))
    refine store_new o23 rfl zeroN_one ?_
    intro h4 f4 z4 o24
    ((conv=>whnf);repeat((first|(with_reducible first|refine Z1 ?_|refine Z2 ?_|refine Z3 ?_|refine Z4 ?_|refine Z5 ?_|refine Z9 (by assumption) rfl ?_|refine ZA (by assumption) rfl ?_|refine ZB (by assumption) rfl ?_|refine Z6 ?_|refine Z7 ?_|refine Z8 ?_)|((with_reducible refine ZM ?_ ?_);(focus rfl)));(conv=>whnf)))
    exact bad h4 _ 20 [] (off_new (f2.trans f3) f4 (by omega)) (r3.offk f4 (by omega)) rfl (by omega)
  | cons kd l1 =>
    have q0 : (((kd :: l1).length : Int) == 0) = false := by rw [beq_eq_false_iff_ne]; simp only [List.length_cons]; omega
    ((conv=>whnf);repeat((first|(with_reducible first|refine Z2 ?_|refine Z3 ?_|refine Z4 ?_|refine Z5 ?_|refine Z9 (by assumption) rfl ?_|refine ZA (by assumption) rfl ?_|refine ZB (by assumption) rfl ?_|refine Z6 ?_|refine Z7 ?_|refine Z8 ?_)|((with_reducible refine ZM ?_ ?_);(focus rfl)));(conv=>whnf)))
    refine HIdx.mk 0 rfl (by simp) ?_
    refine sl_some (i := 0) sl (by simp) fun p ep => ?_
    ((conv=>whnf);repeat((first|(with_reducible first|refine Z2 ?_|refine Z3 ?_|refine Z4 ?_|refine Z5 ?_|refine Z9 (by assumption) rfl ?_|refine ZA (by assumption) rfl ?_|refine ZB (by assumption) rfl ?_|refine Z6 ?_|refine Z7 ?_|refine Z8 ?_)|((with_reducible refine ZM ?_ ?_);(focus rfl)));(conv=>whnf)))
    refine sl.load (i := 0) ep (by simp) ?_
    ((conv=>whnf);repeat((first|(with_reducible first|refine Z2 ?_|refine Z3 ?_|refine Z4 ?_|refine Z5 ?_|refine Z9 (by assumption) rfl ?_|refine ZA (by assumption) rfl ?_|refine ZB (by assumption) rfl ?_|refine Z6 ?_|refine Z7 ?_|refine Z8 ?_)|((with_reducible refine ZM ?_ ?_);(focus rfl)));(conv=>whnf)))
    (refine HSeq.go ?_; conv => whnf)
    by_cases hk : 1 < kd.toNat
    · have q1 : decide ((kd.toNat : Int) > 1) = true := decide_eq_true (by omega)
      have hN0 : rNode0 (kd :: l1) = .no 22 := by simp only [rNode0, if_pos hk]
      ((conv=>whnf);repeat((first|(with_reducible first|refine Z2 ?_|refine Z3 ?_|refine Z4 ?_|refine Z5 ?_|refine Z9 (by assumption) rfl ?_|refine ZA (by assumption) rfl ?_|refine ZB (by assumption) rfl ?_|refine Z6 ?_|refine Z7 ?_|refine Z8 ?_)|((with_reducible refine ZM ?_ ?_);(focus rfl)));(conv=>whnf)))
      refine HCall.mk ((fail_spec (k := 22) r2).mono ?_)
      rintro e h3 ⟨rfl, f3, z3, r3⟩
      have o33 := o3.offk f3 (by omega)
      have o23 := o22.offk f3 (by omega)
      ((conv=>whnf);repeat((first|(with_reducible first|refine Z1 ?_|refine Z2 ?_|refine Z3 ?_|refine Z4 ?_|refine Z5 ?_|refine Z9 (by assumption) rfl ?_|refine ZA (by assumption) rfl ?_|refine ZB (by assumption) rfl ?_|refine Z6 ?_|refine Z7 ?_|refine Z8 ?_)|((with_reducible refine ZM ?_ ?_);(focus rfl)));(conv=>whnf)))
      refine store_new o23 rfl zeroN_one ?_
      intro h4 f4 z4 o24
      ((conv=>whnf);repeat((first|(with_reducible first|refine Z1 ?_|refine Z2 ?_|refine Z3 ?_|refine Z4 ?_|refine Z5 ?_|refine Z9 (by assumption) rfl ?_|refine ZA (by assumption) rfl ?_|refine ZB (by assumption) rfl ?_|refine Z6 ?_|refine Z7 ?_|refine Z8 ?_)|((with_reducible refine ZM ?_ ?_);(focus rfl)));(conv=>whnf)))
      exact bad h4 _ 22 _ (off_new (f2.trans f3) f4 (by omega)) (r3.offk f4 (by omega)) hN0 (by omega)
    have q1 : decide ((kd.toNat : Int) > 1) = false := decide_eq_false (by omega)
    ((conv=>whnf);repeat((first|(with_reducible first|refine Z2 ?_|refine Z3 ?_|refine Z4 ?_|refine Z5 ?_|refine Z9 (by assumption) rfl ?_|refine ZA (by assumption) rfl ?_|refine ZB (by assumption) rfl ?_|refine Z6 ?_|refine Z7 ?_|refine Z8 ?_)|((with_reducible refine ZM ?_ ?_);(focus rfl)));(conv=>whnf)))
    refine HBound.mk 1 rfl (by simp only [List.length_cons] at hc ⊢; omega) ?_
    ((conv=>whnf);repeat((first|(with_reducible first|refine Z2 ?_|refine Z3 ?_|refine Z4 ?_|refine Z5 ?_|refine Z9 (by assumption) rfl ?_|refine ZA (by assumption) rfl ?_|refine ZB (by assumption) rfl ?_|refine Z6 ?_|refine Z7 ?_|refine Z8 ?_)|((with_reducible refine ZM ?_ ?_);(focus rfl)));(conv=>whnf)))
    refine stepR ob sl hp (k := 1) (by simp) fun h3 f3 z3 r3 => ?_
    have r3 : RdrR h3 br l1 0 := r3
    have o33 := o3.offk f3 (by omega)
    have o23 := o22.offk f3 (by omega)
    have f03 : Off br h h3 := f2.trans f3
    have hl1 : l1.length ≤ 17179869184 := by simp only [List.length_cons] at hl; omega
    ((conv=>whnf);repeat((first|(with_reducible first|refine Z2 ?_|refine Z3 ?_|refine Z4 ?_|refine Z5 ?_|refine Z9 (by assumption) rfl ?_|refine ZA (by assumption) rfl ?_|refine ZB (by assumption) rfl ?_|refine Z6 ?_|refine Z7 ?_|refine Z8 ?_)|((with_reducible refine ZM ?_ ?_);(focus rfl)));(conv=>whnf)))
    refine HCall.mk ((rnumR_spec 12 (by omega) r3 hl1).mono ?_)
    rintro e h4 ⟨f4, z4, af⟩
    obtain ⟨m, r4', er4, rfl, hm, hlr4, r4, haf⟩ := after_num af
    have o34 := o33.offk f4 (by omega)
    have o24 := o23.offk f4 (by omega)
    have f04 : Off br h h4 := f03.trans f4
    have hX0 : er4 = 0 → rNode0 (kd :: l1) = rBody kd.toNat m r4' := by
      intro h0
      rcases haf with h | h | h
      · omega
      · omega
      · simp only [rNode0, if_neg hk, h.2.2]
    have hX1 : er4 ≠ 0 → rNode0 (kd :: l1) = .no er4 ∧ m = 0 := by
      intro h0
      rcases haf with h | h | h
      · omega
      · refine ⟨?_, h.2.2.1⟩
        simp only [rNode0, if_neg hk, h.2.2.2]
      · omega
    clear haf af
    generalize rNode0 (kd :: l1) = X at hX0 hX1 ⊢
    have hlr4 : r4'.length ≤ 17179869184 := by omega
    have fin : ∀ (hh : Heap) (kl vl : List ByteArray) (ks : List Int) (ka va ia : Option Addr) (kc vc ic er : Nat) (r : List UInt8), kl.length ≤ 12 → vl.length ≤ 12 → ks.length ≤ 12 → (∀ x ∈ kl, x.size ≤ 1024) → (∀ x ∈ vl, x.size ≤ 1024) → (∀ x ∈ ks, 0 ≤ x ∧ x ≤ 2147483647) →
        Own hh h2.size 9 1 ka kl.length kc (kl.map .string) → Own hh h2.size 9 1 va vl.length vc (vl.map .string) → Own hh h2.size 3 1 ia ks.length ic (ks.map (.int .i64)) → RdrR hh br r er → Off br h hh → (er = 0 → X = .ok ⟨kl, vl, ks⟩ r) → (er ≠ 0 → X = .no er) →
        NodeR h br X (.returned (.agg #[.slice ka kl.length kc, .slice va vl.length vc, .slice ia ks.length ic])) hh := by
      intro hh kl vl ks ka va ia kc vc ic er r h1 h2 h3 h4 h5 h6 w1 w2 w3 rr fh hx0 hx1
      refine ⟨fh, er, r, _, rfl, rfl, by intro v hv; simp only [List.mem_cons, List.not_mem_nil, or_false] at hv; rcases hv with rfl | rfl | rfl <;> rfl, ⟨_, _, _, _, _, _, _, _, _, rfl⟩, rr, ?_⟩
      by_cases h0 : er = 0
      · rw [hx0 h0]
        exact ⟨h0, rfl, nfr_of (d := ⟨kl, vl, ks⟩) ⟨h1, h2, h3, h4, h5, h6⟩ (by omega) w1 w2 w3⟩
      · rw [hx1 h0]
        exact ⟨rfl, h0⟩
    have fresh : ∀ {hh : Heap} {B e : Nat} {a : Option Addr} {n c : Nat} {xs : List Value} (w : Own hh h2.size e 1 a n c xs), ∀ p, a = some p → h2.size ≤ p.block ∧ p.block < hh.size := fun w p ep => w.lt p ep
    by_cases hk0 : kd.toNat = 0
    · have q2 : ((kd.toNat : Int) == 0) = true := by rw [beq_iff_eq]; omega
      have hX0' : er4 = 0 → X = (rKV true m r4').map fun q => ⟨q.1, q.2, []⟩ := by
        intro h0
        rw [hX0 h0]; unfold rBody; rw [if_neg (by omega)]
      have hno : ∀ e, rKV true m r4' = .no e → 0 < m → X = .no e := by
        intro e he hm0
        by_cases h0 : er4 = 0
        · rw [hX0' h0, he]; rfl
        · have := (hX1 h0).2; omega
      obtain ⟨ks, hks⟩ : ∃ ks : List Int, ks = [] := ⟨_, rfl⟩
      obtain ⟨ia, hia⟩ : ∃ ia : Option Addr, ia = none := ⟨_, rfl⟩
      obtain ⟨ic, hic⟩ : ∃ ic : Nat, ic = 0 := ⟨_, rfl⟩
      have wi4 : Own h4 h2.size 3 1 ia ks.length ic (ks.map (.int .i64)) := by subst hks hia hic; exact Own.nil _ _ _ _
      have o34' : BlkW h4 b3 25 [.slice none 0 0, .slice none 0 0, .slice ia ks.length ic] := by subst hks hia hic; exact o34
      clear o34
      ((conv=>whnf);repeat((first|(with_reducible first|refine Z2 ?_|refine Z3 ?_|refine Z4 ?_|refine Z5 ?_|refine Z9 (by assumption) rfl ?_|refine ZA (by assumption) rfl ?_|refine ZB (by assumption) rfl ?_|refine Z6 ?_|refine Z7 ?_|refine Z8 ?_)|((with_reducible refine ZM ?_ ?_);(focus rfl)));(conv=>whnf)))
      (refine HSeq.go ?_; conv => whnf)
      ((conv=>whnf);repeat((first|(with_reducible first|refine Z2 ?_|refine Z3 ?_|refine Z4 ?_|refine Z5 ?_|refine Z9 (by assumption) rfl ?_|refine ZA (by assumption) rfl ?_|refine ZB (by assumption) rfl ?_|refine Z6 ?_|refine Z7 ?_|refine Z8 ?_)|((with_reducible refine ZM ?_ ?_);(focus rfl)));(conv=>whnf)))
      refine cut_rule [] (fun _ h' => ∃ (i : Nat) (kl vl : List ByteArray) (ka va : Option Addr) (kc vc : Nat) (r : List UInt8) (er : Nat), kl.length = i ∧ kl.length ≤ 12 ∧ vl.length ≤ 12 ∧ (∀ x ∈ kl, x.size ≤ 1024) ∧ (∀ x ∈ vl, x.size ≤ 1024) ∧ r.length ≤ 17179869184 ∧ BlkW h' b3 25 [.slice ka kl.length kc, .slice va vl.length vc, .slice ia ks.length ic] ∧ Own h' h2.size 9 1 ka kl.length kc (kl.map .string) ∧ Own h' h2.size 9 1 va vl.length vc (vl.map .string) ∧
        Own h' h2.size 3 1 ia ks.length ic (ks.map (.int .i64)) ∧ Dj ka va ∧ Dj ka ia ∧ Dj va ia ∧ RdrR h' br r er ∧ Off br h h' ∧ h2.size ≤ h'.size ∧ BlkW h' b2 25 zeroN ∧ (er = 0 → X = .ok ⟨kl, vl, ks⟩ r) ∧ (er ≠ 0 → X = .no er)) rfl ?_ ?_
      · ((conv=>whnf);repeat((first|(with_reducible first|refine Z1 ?_|refine Z2 ?_|refine Z3 ?_|refine Z4 ?_|refine Z5 ?_|refine Z9 (by assumption) rfl ?_|refine ZA (by assumption) rfl ?_|refine ZB (by assumption) rfl ?_|refine Z6 ?_|refine Z7 ?_|refine Z8 ?_)|((with_reducible refine ZM ?_ ?_);(focus rfl)));(conv=>whnf)))
        refine loop_rule [39] (fun vs h' => ∃ (i : Nat) (kl vl : List ByteArray) (ka va : Option Addr) (kc vc : Nat) (r : List UInt8) (er : Nat), vs = [.int .i64 i] ∧ i ≤ m ∧ kl.length = i ∧ vl.length = i ∧ kl.length ≤ 12 ∧ vl.length ≤ 12 ∧ (∀ x ∈ kl, x.size ≤ 1024) ∧ (∀ x ∈ vl, x.size ≤ 1024) ∧ r.length ≤ 17179869184 ∧ BlkW h' b3 25 [.slice ka kl.length kc, .slice va vl.length vc, .slice ia ks.length ic] ∧ Own h' h2.size 9 1 ka kl.length kc (kl.map .string) ∧ Own h' h2.size 9 1 va vl.length vc (vl.map .string) ∧
        Own h' h2.size 3 1 ia ks.length ic (ks.map (.int .i64)) ∧ Dj ka va ∧ Dj ka ia ∧ Dj va ia ∧ RdrR h' br r er ∧ Off br h h' ∧ h2.size ≤ h'.size ∧ BlkW h' b2 25 zeroN ∧ (er = 0 → er4 = 0 ∧ rKV true m r4' = (rKV true (m - i) r).map fun q => (kl ++ q.1, vl ++ q.2)) ∧ (er ≠ 0 → X = .no er))
          (fun vs _ => match vs with | [.int _ i] => m - i.toNat | _ => 0) rfl ?_ ?_
        · exact ⟨0, [], [], none, none, 0, 0, r4', er4, rfl, by omega, rfl, rfl, by simp, by simp, by simp, by simp, hlr4, o34', Own.nil _ _ _ _, Own.nil _ _ _ _, wi4, Dj.none_l _, Dj.none_l _, Dj.none_l _, r4, f04, by omega, o24, fun h0 => ⟨h0, (Rd.map_id (fun _ => rfl) _).symm⟩, fun h0 => (hX1 h0).1⟩
        intro u h5 v39
        rintro ⟨i, kl, vl, ka, va, kc, vc, r, er, e, hi, hki, hvi, hkl0, hvl0, hkl', hvl', hlr, o5, wk, wv, wi, d1, d2, d3, r5, f5, z5, o25, hin, hxn⟩
        cases e
        ((conv=>whnf);repeat((first|(with_reducible first|refine Z2 ?_|refine Z3 ?_|refine Z4 ?_|refine Z5 ?_|refine Z9 (by assumption) rfl ?_|refine ZA (by assumption) rfl ?_|refine ZB (by assumption) rfl ?_|refine Z6 ?_|refine Z7 ?_|refine Z8 ?_)|((with_reducible refine ZM ?_ ?_);(focus rfl)));(conv=>whnf)))
        (refine HSeq.go ?_; conv => whnf)
        refine HIf.mk (fun hlt => ?_) (fun hlt => ?_)
        · have hi1 : i < m := by have := of_decide_eq_true hlt; omega
          have hmu : m - ((i : Int) + 1).toNat < m - ((i : Int)).toNat := by omega
          ((conv=>whnf);repeat((first|(with_reducible first|refine Z2 ?_|refine Z3 ?_|refine Z4 ?_|refine Z5 ?_|refine Z9 (by assumption) rfl ?_|refine ZA (by assumption) rfl ?_|refine ZB (by assumption) rfl ?_|refine Z6 ?_|refine Z7 ?_|refine Z8 ?_)|((with_reducible refine ZM ?_ ?_);(focus rfl)));(conv=>whnf)))
          (refine HSeq.go ?_; conv => whnf)
          ((conv=>whnf);repeat((first|(with_reducible first|refine Z2 ?_|refine Z3 ?_|refine Z4 ?_|refine Z5 ?_|refine Z9 (by assumption) rfl ?_|refine ZA (by assumption) rfl ?_|refine ZB (by assumption) rfl ?_|refine Z6 ?_|refine Z7 ?_|refine Z8 ?_)|((with_reducible refine ZM ?_ ?_);(focus rfl)));(conv=>whnf)))
          refine cut_rule [] (fun _ h' => ∃ (kl' : List ByteArray) (ka : Option Addr) (kc : Nat) (r : List UInt8) (er : Nat) (key : ByteArray) (r0 : List UInt8) (er0 : Nat), kl' = kl ++ [key] ∧ key.size ≤ 1024 ∧ r.length ≤ 17179869184 ∧ BlkW h' b3 25 [.slice ka kl'.length kc, .slice va vl.length vc, .slice ia ks.length ic] ∧ Own h' h2.size 9 1 ka kl'.length kc (kl'.map .string) ∧ Own h' h2.size 9 1 va vl.length vc (vl.map .string) ∧
        Own h' h2.size 3 1 ia ks.length ic (ks.map (.int .i64)) ∧ Dj ka va ∧ Dj ka ia ∧ Dj va ia ∧ RdrR h' br r er ∧ Off br h h' ∧ h2.size ≤ h'.size ∧ BlkW h' b2 25 zeroN ∧
            (er = 0 → rTxt r0 = .ok key r ∧ er4 = 0 ∧ rKV true m r4' = (rKV true (m - i) r0).map fun q => (kl ++ q.1, vl ++ q.2)) ∧ (er ≠ 0 → X = .no er)) rfl ?_ ?_
          · ((conv=>whnf);repeat((first|(with_reducible first|refine Z2 ?_|refine Z3 ?_|refine Z4 ?_|refine Z5 ?_|refine Z9 (by assumption) rfl ?_|refine ZA (by assumption) rfl ?_|refine ZB (by assumption) rfl ?_|refine Z6 ?_|refine Z7 ?_|refine Z8 ?_)|((with_reducible refine ZM ?_ ?_);(focus rfl)));(conv=>whnf)))
            refine HAlt.mk ?_ ?_
            all_goals
              ((conv=>whnf);repeat((first|(with_reducible first|refine Z1 ?_|refine Z2 ?_|refine Z3 ?_|refine Z4 ?_|refine Z5 ?_|refine Z9 (by assumption) rfl ?_|refine ZA (by assumption) rfl ?_|refine ZB (by assumption) rfl ?_|refine Z6 ?_|refine Z7 ?_|refine Z8 ?_)|((with_reducible refine ZM ?_ ?_);(focus rfl)));(conv=>whnf)))
              refine HCall.mk ((rtxtR_spec r5 hlr).mono ?_)
              rintro e h6 ⟨f6, z6, af⟩
              obtain ⟨key, r', er', rfl, hsz, hlr', r6, haf⟩ := after_txt af
              have o6 := o5.offk f6 (by omega)
              have o26 := o25.offk f6 (by omega)
              have f06 : Off br h h6 := f5.trans f6
              have wk6 := wk.off f6 (fun p ep => by have := (wk.lt p ep).1; omega)
              have wv6 := wv.off f6 (fun p ep => by have := (wv.lt p ep).1; omega)
              have wi6 := wi.off f6 (fun p ep => by have := (wi.lt p ep).1; omega)
              ((conv=>whnf);repeat((first|(with_reducible first|refine Z1 ?_|refine Z2 ?_|refine Z3 ?_|refine Z4 ?_|refine Z5 ?_|refine Z9 (by assumption) rfl ?_|refine ZA (by assumption) rfl ?_|refine ZB (by assumption) rfl ?_|refine Z6 ?_|refine Z7 ?_|refine Z8 ?_)|((with_reducible refine ZM ?_ ?_);(focus rfl)));(conv=>whnf)))
              refine new_own (e := 9) 1 1 [.string key] rfl rfl ?_
              intro h7 b7 o7 x7 z7 hb7
              ((conv=>whnf);repeat((first|(with_reducible first|refine Z1 ?_|refine Z2 ?_|refine Z3 ?_|refine Z4 ?_|refine Z5 ?_|refine Z9 (by assumption) rfl ?_|refine ZA (by assumption) rfl ?_|refine ZB (by assumption) rfl ?_|refine Z6 ?_|refine Z7 ?_|refine Z8 ?_)|((with_reducible refine ZM ?_ ?_);(focus rfl)));(conv=>whnf)))
              refine o7.sl.cells ?_
              refine Own.grow (wk6.ext x7) (by have := x7.1; omega) rfl rfl (by intro v hv; simp only [List.mem_singleton] at hv; subst hv; rfl) (by omega) ?_
              intro h8 a8 c8 wk8 g8
              have o8 := g8.blk (o6.ext x7) (fun p ep => by have := (wk6.lt p ep).1; omega)
              have o28 := g8.blk (o26.ext x7) (fun p ep => by have := (wk6.lt p ep).1; omega)
              have wv8 := own_grew (wv6.ext x7) g8 d1
              have wi8 := own_grew (wi6.ext x7) g8 d2
              have e1 := dj_grow g8 d1 (fun q eq => ((wv6.ext x7).lt q eq).2)
              have e2 := dj_grow g8 d2 (fun q eq => ((wi6.ext x7).lt q eq).2)
              have f08 : Off br h h8 := off_grow (f06.trans x7.off) g8 (fun p ep => by have := (wk6.lt p ep).1; omega)
              have r8 : RdrR h8 br r' er' := (r6.ext x7).agree (fun b hb => g8.2.1 b (by have := x7.1; omega) (fun p ep => by have := (wk6.lt p ep).1; omega)) g8.1
              have hz8 := g8.1
              have hz7 := x7.1
              ((conv=>whnf);repeat((first|(with_reducible first|refine Z1 ?_|refine Z2 ?_|refine Z3 ?_|refine Z4 ?_|refine Z5 ?_|refine Z9 (by assumption) rfl ?_|refine ZA (by assumption) rfl ?_|refine ZB (by assumption) rfl ?_|refine Z6 ?_|refine Z7 ?_|refine Z8 ?_)|((with_reducible refine ZM ?_ ?_);(focus rfl)));(conv=>whnf)))
              refine blk_st o8 (by simp) rfl ?_
              intro h9 f9 z9 o9
              have o29 := o28.offk f9 (by omega)
              have wk9 := wk8.off f9 (fun p ep => by have := (wk8.lt p ep).1; omega)
              have wv9 := wv8.off f9 (fun p ep => by have := (wv8.lt p ep).1; omega)
              have wi9 := wi8.off f9 (fun p ep => by have := (wi8.lt p ep).1; omega)
              have r9 := r8.offk f9 (by omega)
              have f09 := off_new f08 f9 (by omega)
              ((conv=>whnf);repeat((first|(with_reducible first|refine Z1 ?_|refine Z2 ?_|refine Z3 ?_|refine Z4 ?_|refine Z5 ?_|refine Z9 (by assumption) rfl ?_|refine ZA (by assumption) rfl ?_|refine ZB (by assumption) rfl ?_|refine Z6 ?_|refine Z7 ?_|refine Z8 ?_)|((with_reducible refine ZM ?_ ?_);(focus rfl)));(conv=>whnf)))
              refine ⟨kl ++ [key], a8, c8, r', er', key, r, er, rfl, hsz, by omega, ?_, ?_, wv9, wi9, e1, e2, d3, r9, f09, by omega, o29, ?_, ?_⟩
              · rw [List.length_append]; exact o9
              · rw [List.length_append, List.map_append]; exact wk9
              · intro h0
                rcases haf with h | h | h
                · omega
                · omega
                · exact ⟨h.2.2, hin h.1⟩
              · intro h0
                rcases haf with h | h | h
                · rw [h.2]; exact hxn h.1
                · exact hno _ (kv_no1 (hin h.1).2 hi1 h.2.2) (by omega)
                · omega
          intro u h5
          rintro ⟨kl', ka, kc, r, er, key, r0, er0, hkle, hksz, hlr, o5, wk, wv, wi, d1, d2, d3, r5, f5, z5, o25, hin, hxn⟩
          ((conv=>whnf);repeat((first|(with_reducible first|refine Z2 ?_|refine Z3 ?_|refine Z4 ?_|refine Z5 ?_|refine Z9 (by assumption) rfl ?_|refine ZA (by assumption) rfl ?_|refine ZB (by assumption) rfl ?_|refine Z6 ?_|refine Z7 ?_|refine Z8 ?_)|((with_reducible refine ZM ?_ ?_);(focus rfl)));(conv=>whnf)))
          refine HAlt.mk ?_ ?_
          all_goals
            ((conv=>whnf);repeat((first|(with_reducible first|refine Z1 ?_|refine Z2 ?_|refine Z3 ?_|refine Z4 ?_|refine Z5 ?_|refine Z9 (by assumption) rfl ?_|refine ZA (by assumption) rfl ?_|refine ZB (by assumption) rfl ?_|refine Z6 ?_|refine Z7 ?_|refine Z8 ?_)|((with_reducible refine ZM ?_ ?_);(focus rfl)));(conv=>whnf)))
            refine HCall.mk ((rtxtR_spec r5 hlr).mono ?_)
            rintro e h6 ⟨f6, z6, af⟩
            obtain ⟨key', r', er', rfl, hsz, hlr', r6, haf⟩ := after_txt af
            have o6 := o5.offk f6 (by omega)
            have o26 := o25.offk f6 (by omega)
            have f06 : Off br h h6 := f5.trans f6
            have wv6 := wv.off f6 (fun p ep => by have := (wv.lt p ep).1; omega)
            have wk6 := wk.off f6 (fun p ep => by have := (wk.lt p ep).1; omega)
            have wi6 := wi.off f6 (fun p ep => by have := (wi.lt p ep).1; omega)
            ((conv=>whnf);repeat((first|(with_reducible first|refine Z1 ?_|refine Z2 ?_|refine Z3 ?_|refine Z4 ?_|refine Z5 ?_|refine Z9 (by assumption) rfl ?_|refine ZA (by assumption) rfl ?_|refine ZB (by assumption) rfl ?_|refine Z6 ?_|refine Z7 ?_|refine Z8 ?_)|((with_reducible refine ZM ?_ ?_);(focus rfl)));(conv=>whnf)))
            refine new_own (e := 9) 1 1 [.string key'] rfl rfl ?_
            intro h7 b7 o7 x7 z7 hb7
            ((conv=>whnf);repeat((first|(with_reducible first|refine Z1 ?_|refine Z2 ?_|refine Z3 ?_|refine Z4 ?_|refine Z5 ?_|refine Z9 (by assumption) rfl ?_|refine ZA (by assumption) rfl ?_|refine ZB (by assumption) rfl ?_|refine Z6 ?_|refine Z7 ?_|refine Z8 ?_)|((with_reducible refine ZM ?_ ?_);(focus rfl)));(conv=>whnf)))
            refine o7.sl.cells ?_
            refine Own.grow (wv6.ext x7) (by have := x7.1; omega) rfl rfl (by intro v hv; simp only [List.mem_singleton] at hv; subst hv; rfl) (by omega) ?_
            intro h8 a8 c8 wv8 g8
            have o8 := g8.blk (o6.ext x7) (fun p ep => by have := (wv6.lt p ep).1; omega)
            have o28 := g8.blk (o26.ext x7) (fun p ep => by have := (wv6.lt p ep).1; omega)
            have wk8 := own_grew (wk6.ext x7) g8 d1.symm
            have wi8 := own_grew (wi6.ext x7) g8 d3
            have e1 := dj_grow g8 d1.symm (fun q eq => ((wk6.ext x7).lt q eq).2)
            have e2 := dj_grow g8 d3 (fun q eq => ((wi6.ext x7).lt q eq).2)
            have f08 : Off br h h8 := off_grow (f06.trans x7.off) g8 (fun p ep => by have := (wv6.lt p ep).1; omega)
            have r8 : RdrR h8 br r' er' := (r6.ext x7).agree (fun b hb => g8.2.1 b (by have := x7.1; omega) (fun p ep => by have := (wv6.lt p ep).1; omega)) g8.1
            have hz8 := g8.1
            have hz7 := x7.1
            ((conv=>whnf);repeat((first|(with_reducible first|refine Z1 ?_|refine Z2 ?_|refine Z3 ?_|refine Z4 ?_|refine Z5 ?_|refine Z9 (by assumption) rfl ?_|refine ZA (by assumption) rfl ?_|refine ZB (by assumption) rfl ?_|refine Z6 ?_|refine Z7 ?_|refine Z8 ?_)|((with_reducible refine ZM ?_ ?_);(focus rfl)));(conv=>whnf)))
            refine blk_st o8 (by simp) rfl ?_
            intro h9 f9 z9 o9
            have o29 := o28.offk f9 (by omega)
            have wk9 := wk8.off f9 (fun p ep => by have := (wk8.lt p ep).1; omega)
            have wv9 := wv8.off f9 (fun p ep => by have := (wv8.lt p ep).1; omega)
            have wi9 := wi8.off f9 (fun p ep => by have := (wi8.lt p ep).1; omega)
            have r9 := r8.offk f9 (by omega)
            have f09 := off_new f08 f9 (by omega)
            ((conv=>whnf);repeat((first|(with_reducible first|refine Z1 ?_|refine Z2 ?_|refine Z3 ?_|refine Z4 ?_|refine Z5 ?_|refine Z9 (by assumption) rfl ?_|refine ZA (by assumption) rfl ?_|refine ZB (by assumption) rfl ?_|refine Z6 ?_|refine Z7 ?_|refine Z8 ?_)|((with_reducible refine ZM ?_ ?_);(focus rfl)));(conv=>whnf)))
            refine ⟨⟨i + 1, kl', vl ++ [key'], ka, a8, kc, c8, r', er', rfl, by omega, by rw [hkle]; simp [hki], by simp [hvi], by rw [hkle]; simp; omega, by simp; omega, ?_, ?_, by omega, ?_, wk9, ?_, wi9, e1.symm, d2, e2, r9, f09, by omega, o29, ?_, ?_⟩, hmu⟩
            · intro x hx
              rw [hkle] at hx
              rcases List.mem_append.1 hx with hx | hx
              · exact hkl' x hx
              · simp only [List.mem_singleton] at hx; subst hx; omega
            · intro x hx
              rcases List.mem_append.1 hx with hx | hx
              · exact hvl' x hx
              · simp only [List.mem_singleton] at hx; subst hx; omega
            · rw [List.length_append]; exact o9
            · rw [List.length_append, List.map_append]; exact wv9
            · intro h0
              rcases haf with h | h | h
              · omega
              · omega
              · obtain ⟨t1, t2, t3⟩ := hin h.1
                rw [hkle]
                exact ⟨t2, kv_step2 t3 hi1 t1 h.2.2⟩
            · intro h0
              rcases haf with h | h | h
              · rw [h.2]; exact hxn h.1
              · obtain ⟨t1, t2, t3⟩ := hin h.1
                exact hno _ (kv_no2 t3 hi1 t1 h.2.2) (by omega)
              · omega
        · have hge := of_decide_eq_false hlt
          obtain rfl : i = m := by omega
          ((conv=>whnf);repeat((first|(with_reducible first|refine Z1 ?_|refine Z2 ?_|refine Z3 ?_|refine Z4 ?_|refine Z5 ?_|refine Z9 (by assumption) rfl ?_|refine ZA (by assumption) rfl ?_|refine ZB (by assumption) rfl ?_|refine Z6 ?_|refine Z7 ?_|refine Z8 ?_)|((with_reducible refine ZM ?_ ?_);(focus rfl)));(conv=>whnf)))
          refine ⟨i, kl, vl, ka, va, kc, vc, r, er, hki, hkl0, hvl0, hkl', hvl', hlr, o5, wk, wv, wi, d1, d2, d3, r5, f5, z5, o25, ?_, hxn⟩
          intro h0
          rw [hX0' (hin h0).1, kv_end (hin h0).2, hks]; rfl
      intro u h5
      rintro ⟨i, kl, vl, ka, va, kc, vc, r, er, hki, hkl0, hvl0, hkl', hvl', hlr, o5, wk, wv, wi, d1, d2, d3, r5, f5, z5, o25, hx0, hx1⟩
      ((conv=>whnf);repeat((first|(with_reducible first|refine Z1 ?_|refine Z2 ?_|refine Z3 ?_|refine Z4 ?_|refine Z5 ?_|refine Z9 (by assumption) rfl ?_|refine ZA (by assumption) rfl ?_|refine ZB (by assumption) rfl ?_|refine Z6 ?_|refine Z7 ?_|refine Z8 ?_)|((with_reducible refine ZM ?_ ?_);(focus rfl)));(conv=>whnf)))
      refine store_new o25 rfl (by intro v hv; simp only [List.mem_cons, List.not_mem_nil, or_false] at hv; rcases hv with rfl | rfl | rfl <;> rfl) ?_
      intro h6 f6 z6 o26
      ((conv=>whnf);repeat((first|(with_reducible first|refine Z1 ?_|refine Z2 ?_|refine Z3 ?_|refine Z4 ?_|refine Z5 ?_|refine Z9 (by assumption) rfl ?_|refine ZA (by assumption) rfl ?_|refine ZB (by assumption) rfl ?_|refine Z6 ?_|refine Z7 ?_|refine Z8 ?_)|((with_reducible refine ZM ?_ ?_);(focus rfl)));(conv=>whnf)))
      exact fin h6 kl vl ks ka va ia kc vc ic er r hkl0 hvl0 (by rw [hks]; simp) hkl' hvl' (by rw [hks]; simp) (wk.off f6 (fun p ep => by have := (wk.lt p ep).1; omega)) (wv.off f6 (fun p ep => by have := (wv.lt p ep).1; omega)) (wi.off f6 (fun p ep => by have := (wi.lt p ep).1; omega)) (r5.offk f6 (by omega)) (off_new f5 f6 (by omega)) hx0 hx1
    · have hk1 : kd.toNat = 1 := by omega
      have q2 : ((kd.toNat : Int) == 0) = false := by rw [beq_eq_false_iff_ne]; omega
      have hno1 : ∀ e, rInts m r4' = .no e → 0 < m → X = .no e := by
        intro e he hm0
        by_cases h0 : er4 = 0
        · rw [hX0 h0]; unfold rBody; rw [if_pos hk1, he]
        · have := (hX1 h0).2; omega
      ((conv=>whnf);repeat((first|(with_reducible first|refine Z2 ?_|refine Z3 ?_|refine Z4 ?_|refine Z5 ?_|refine Z9 (by assumption) rfl ?_|refine ZA (by assumption) rfl ?_|refine ZB (by assumption) rfl ?_|refine Z6 ?_|refine Z7 ?_|refine Z8 ?_)|((with_reducible refine ZM ?_ ?_);(focus rfl)));(conv=>whnf)))
      (refine HSeq.go ?_; conv => whnf)
      ((conv=>whnf);repeat((first|(with_reducible first|refine Z2 ?_|refine Z3 ?_|refine Z4 ?_|refine Z5 ?_|refine Z9 (by assumption) rfl ?_|refine ZA (by assumption) rfl ?_|refine ZB (by assumption) rfl ?_|refine Z6 ?_|refine Z7 ?_|refine Z8 ?_)|((with_reducible refine ZM ?_ ?_);(focus rfl)));(conv=>whnf)))
      refine cut_rule [] (fun _ h' => ∃ (ks : List Int) (ia : Option Addr) (ic : Nat) (r : List UInt8) (er : Nat), ks.length ≤ 12 ∧ (∀ x ∈ ks, 0 ≤ x ∧ x ≤ 2147483647) ∧ r.length ≤ 17179869184 ∧ BlkW h' b3 25 [.slice none 0 0, .slice none 0 0, .slice ia ks.length ic] ∧
        Own h' h2.size 3 1 ia ks.length ic (ks.map (.int .i64)) ∧ RdrR h' br r er ∧ Off br h h' ∧ h2.size ≤ h'.size ∧ BlkW h' b2 25 zeroN ∧ (er = 0 → er4 = 0 ∧ rInts m r4' = .ok ks r) ∧ (er ≠ 0 → X = .no er)) rfl ?_ ?_
      · ((conv=>whnf);repeat((first|(with_reducible first|refine Z1 ?_|refine Z2 ?_|refine Z3 ?_|refine Z4 ?_|refine Z5 ?_|refine Z9 (by assumption) rfl ?_|refine ZA (by assumption) rfl ?_|refine ZB (by assumption) rfl ?_|refine Z6 ?_|refine Z7 ?_|refine Z8 ?_)|((with_reducible refine ZM ?_ ?_);(focus rfl)));(conv=>whnf)))
        refine loop_rule [58] (fun vs h' => ∃ (i : Nat) (ks : List Int) (kl vl : List ByteArray) (ka va ia : Option Addr) (kc vc ic : Nat) (r : List UInt8) (er : Nat), vs = [.int .i64 i] ∧ i ≤ m ∧ ks.length = i ∧ (kl = [] ∧ ka = none ∧ kc = 0 ∧ vl = [] ∧ va = none ∧ vc = 0) ∧ (∀ x ∈ ks, 0 ≤ x ∧ x ≤ 2147483647) ∧ r.length ≤ 17179869184 ∧ BlkW h' b3 25 [.slice ka kl.length kc, .slice va vl.length vc, .slice ia ks.length ic] ∧ Own h' h2.size 9 1 ka kl.length kc (kl.map .string) ∧ Own h' h2.size 9 1 va vl.length vc (vl.map .string) ∧
        Own h' h2.size 3 1 ia ks.length ic (ks.map (.int .i64)) ∧ Dj ka va ∧ Dj ka ia ∧ Dj va ia ∧ RdrR h' br r er ∧ Off br h h' ∧ h2.size ≤ h'.size ∧ BlkW h' b2 25 zeroN ∧ (er = 0 → er4 = 0 ∧ rInts m r4' = (rInts (m - i) r).map (ks ++ ·)) ∧ (er ≠ 0 → X = .no er))
          (fun vs _ => match vs with | [.int _ i] => m - i.toNat | _ => 0) rfl ?_ ?_
        · exact ⟨0, [], [], [], none, none, none, 0, 0, 0, r4', er4, rfl, by omega, rfl, ⟨rfl, rfl, rfl, rfl, rfl, rfl⟩, by simp, hlr4, o34, Own.nil _ _ _ _, Own.nil _ _ _ _, Own.nil _ _ _ _, Dj.none_l _, Dj.none_l _, Dj.none_l _, r4, f04, by omega, o24, fun h0 => ⟨h0, (Rd.map_id (fun _ => rfl) _).symm⟩, fun h0 => (hX1 h0).1⟩
        intro u h5 v58
        rintro ⟨i, ks, kl, vl, ka, va, ia, kc, vc, ic, r, er, e, hi, hki, hnil, hks, hlr, o5, wk, wv, wi, d1, d2, d3, r5, f5, z5, o25, hin, hxn⟩
        cases e
        ((conv=>whnf);repeat((first|(with_reducible first|refine Z2 ?_|refine Z3 ?_|refine Z4 ?_|refine Z5 ?_|refine Z9 (by assumption) rfl ?_|refine ZA (by assumption) rfl ?_|refine ZB (by assumption) rfl ?_|refine Z6 ?_|refine Z7 ?_|refine Z8 ?_)|((with_reducible refine ZM ?_ ?_);(focus rfl)));(conv=>whnf)))
        (refine HSeq.go ?_; conv => whnf)
        refine HIf.mk (fun hlt => ?_) (fun hlt => ?_)
        · have hi1 : i < m := by have := of_decide_eq_true hlt; omega
          have hmu : m - ((i : Int) + 1).toNat < m - ((i : Int)).toNat := by omega
          ((conv=>whnf);repeat((first|(with_reducible first|refine Z2 ?_|refine Z3 ?_|refine Z4 ?_|refine Z5 ?_|refine Z9 (by assumption) rfl ?_|refine ZA (by assumption) rfl ?_|refine ZB (by assumption) rfl ?_|refine Z6 ?_|refine Z7 ?_|refine Z8 ?_)|((with_reducible refine ZM ?_ ?_);(focus rfl)));(conv=>whnf)))
          (refine HSeq.go ?_; conv => whnf)
          ((conv=>whnf);repeat((first|(with_reducible first|refine Z2 ?_|refine Z3 ?_|refine Z4 ?_|refine Z5 ?_|refine Z9 (by assumption) rfl ?_|refine ZA (by assumption) rfl ?_|refine ZB (by assumption) rfl ?_|refine Z6 ?_|refine Z7 ?_|refine Z8 ?_)|((with_reducible refine ZM ?_ ?_);(focus rfl)));(conv=>whnf)))
          refine HAlt.mk ?_ ?_
          all_goals
            ((conv=>whnf);repeat((first|(with_reducible first|refine Z1 ?_|refine Z2 ?_|refine Z3 ?_|refine Z4 ?_|refine Z5 ?_|refine Z9 (by assumption) rfl ?_|refine ZA (by assumption) rfl ?_|refine ZB (by assumption) rfl ?_|refine Z6 ?_|refine Z7 ?_|refine Z8 ?_)|((with_reducible refine ZM ?_ ?_);(focus rfl)));(conv=>whnf)))
            refine HCall.mk ((rnumR_spec 2147483647 (by omega) r5 hlr).mono ?_)
            rintro e h6 ⟨f6, z6, af⟩
            obtain ⟨key, r', er', rfl, hsz, hlr', r6, haf⟩ := after_num af
            have o6 := o5.offk f6 (by omega)
            have o26 := o25.offk f6 (by omega)
            have f06 : Off br h h6 := f5.trans f6
            have wi6 := wi.off f6 (fun p ep => by have := (wi.lt p ep).1; omega)
            have wk6 := wk.off f6 (fun p ep => by have := (wk.lt p ep).1; omega)
            have wv6 := wv.off f6 (fun p ep => by have := (wv.lt p ep).1; omega)
            ((conv=>whnf);repeat((first|(with_reducible first|refine Z1 ?_|refine Z2 ?_|refine Z3 ?_|refine Z4 ?_|refine Z5 ?_|refine Z9 (by assumption) rfl ?_|refine ZA (by assumption) rfl ?_|refine ZB (by assumption) rfl ?_|refine Z6 ?_|refine Z7 ?_|refine Z8 ?_)|((with_reducible refine ZM ?_ ?_);(focus rfl)));(conv=>whnf)))
            refine new_own (e := 3) 1 1 [.int .i64 key] rfl rfl ?_
            intro h7 b7 o7 x7 z7 hb7
            ((conv=>whnf);repeat((first|(with_reducible first|refine Z1 ?_|refine Z2 ?_|refine Z3 ?_|refine Z4 ?_|refine Z5 ?_|refine Z9 (by assumption) rfl ?_|refine ZA (by assumption) rfl ?_|refine ZB (by assumption) rfl ?_|refine Z6 ?_|refine Z7 ?_|refine Z8 ?_)|((with_reducible refine ZM ?_ ?_);(focus rfl)));(conv=>whnf)))
            refine o7.sl.cells ?_
            refine Own.grow (wi6.ext x7) (by have := x7.1; omega) rfl rfl (by intro v hv; simp only [List.mem_singleton] at hv; subst hv; rfl) (by omega) ?_
            intro h8 a8 c8 wi8 g8
            have o8 := g8.blk (o6.ext x7) (fun p ep => by have := (wi6.lt p ep).1; omega)
            have o28 := g8.blk (o26.ext x7) (fun p ep => by have := (wi6.lt p ep).1; omega)
            have wk8 := own_grew (wk6.ext x7) g8 d2.symm
            have wv8 := own_grew (wv6.ext x7) g8 d3.symm
            have e1 := dj_grow g8 d2.symm (fun q eq => ((wk6.ext x7).lt q eq).2)
            have e2 := dj_grow g8 d3.symm (fun q eq => ((wv6.ext x7).lt q eq).2)
            have f08 : Off br h h8 := off_grow (f06.trans x7.off) g8 (fun p ep => by have := (wi6.lt p ep).1; omega)
            have r8 : RdrR h8 br r' er' := (r6.ext x7).agree (fun b hb => g8.2.1 b (by have := x7.1; omega) (fun p ep => by have := (wi6.lt p ep).1; omega)) g8.1
            have hz8 := g8.1
            have hz7 := x7.1
            ((conv=>whnf);repeat((first|(with_reducible first|refine Z1 ?_|refine Z2 ?_|refine Z3 ?_|refine Z4 ?_|refine Z5 ?_|refine Z9 (by assumption) rfl ?_|refine ZA (by assumption) rfl ?_|refine ZB (by assumption) rfl ?_|refine Z6 ?_|refine Z7 ?_|refine Z8 ?_)|((with_reducible refine ZM ?_ ?_);(focus rfl)));(conv=>whnf)))
            refine blk_st o8 (by simp) rfl ?_
            intro h9 f9 z9 o9
            have o29 := o28.offk f9 (by omega)
            have wk9 := wk8.off f9 (fun p ep => by have := (wk8.lt p ep).1; omega)
            have wv9 := wv8.off f9 (fun p ep => by have := (wv8.lt p ep).1; omega)
            have wi9 := wi8.off f9 (fun p ep => by have := (wi8.lt p ep).1; omega)
            have r9 := r8.offk f9 (by omega)
            have f09 := off_new f08 f9 (by omega)
            ((conv=>whnf);repeat((first|(with_reducible first|refine Z1 ?_|refine Z2 ?_|refine Z3 ?_|refine Z4 ?_|refine Z5 ?_|refine Z9 (by assumption) rfl ?_|refine ZA (by assumption) rfl ?_|refine ZB (by assumption) rfl ?_|refine Z6 ?_|refine Z7 ?_|refine Z8 ?_)|((with_reducible refine ZM ?_ ?_);(focus rfl)));(conv=>whnf)))
            refine ⟨⟨i + 1, ks ++ [(key : Int)], kl, vl, ka, va, a8, kc, vc, c8, r', er', rfl, by omega, by simp [hki], hnil, ?_, by omega, ?_, wk9, wv9, ?_, d1, e1.symm, e2.symm, r9, f09, by omega, o29, ?_, ?_⟩, hmu⟩
            · intro x hx
              rcases List.mem_append.1 hx with hx | hx
              · exact hks x hx
              · simp only [List.mem_singleton] at hx; subst hx; omega
            · rw [List.length_append]; exact o9
            · rw [List.length_append, List.map_append]; exact wi9
            · intro h0
              rcases haf with h | h | h
              · omega
              · omega
              · exact ⟨(hin h.1).1, ints_step (hin h.1).2 hi1 h.2.2⟩
            · intro h0
              rcases haf with h | h | h
              · rw [h.2]; exact hxn h.1
              · exact hno1 _ (ints_no (hin h.1).2 hi1 h.2.2.2) (by omega)
              · omega
        · have hge := of_decide_eq_false hlt
          obtain rfl : i = m := by omega
          obtain ⟨rfl, rfl, rfl, rfl, rfl, rfl⟩ := hnil
          ((conv=>whnf);repeat((first|(with_reducible first|refine Z1 ?_|refine Z2 ?_|refine Z3 ?_|refine Z4 ?_|refine Z5 ?_|refine Z9 (by assumption) rfl ?_|refine ZA (by assumption) rfl ?_|refine ZB (by assumption) rfl ?_|refine Z6 ?_|refine Z7 ?_|refine Z8 ?_)|((with_reducible refine ZM ?_ ?_);(focus rfl)));(conv=>whnf)))
          exact ⟨ks, ia, ic, r, er, by omega, hks, hlr, o5, wi, r5, f5, z5, o25, fun h0 => ⟨(hin h0).1, ints_end (hin h0).2⟩, hxn⟩
      intro u h5
      rintro ⟨ks, ia, ic, rk, er5, hks0, hks, hlrk, o5k, wi5, r5k, f5k, z5k, o25k, hin5, hxn5⟩
      have hX0' : er5 = 0 → X = (rKV false (m - 1) rk).map fun q => ⟨q.1, q.2, ks⟩ := by
        intro h0
        rw [hX0 (hin5 h0).1]; unfold rBody; rw [if_pos hk1, (hin5 h0).2]
      have hno : ∀ e er, er = 0 ∨ er5 = 0 → rKV false (m - 1) rk = .no e → er5 = 0 → X = .no e := by
        intro e er _ he h0
        rw [hX0' h0, he]; rfl
      ((conv=>whnf);repeat((first|(with_reducible first|refine Z2 ?_|refine Z3 ?_|refine Z4 ?_|refine Z5 ?_|refine Z9 (by assumption) rfl ?_|refine ZA (by assumption) rfl ?_|refine ZB (by assumption) rfl ?_|refine Z6 ?_|refine Z7 ?_|refine Z8 ?_)|((with_reducible refine ZM ?_ ?_);(focus rfl)));(conv=>whnf)))
      refine cut_rule [] (fun _ h' => ∃ (i : Nat) (kl vl : List ByteArray) (ka va : Option Addr) (kc vc : Nat) (r : List UInt8) (er : Nat), kl.length = i ∧ kl.length ≤ 12 ∧ vl.length ≤ 12 ∧ (∀ x ∈ kl, x.size ≤ 1024) ∧ (∀ x ∈ vl, x.size ≤ 1024) ∧ r.length ≤ 17179869184 ∧ BlkW h' b3 25 [.slice ka kl.length kc, .slice va vl.length vc, .slice ia ks.length ic] ∧ Own h' h2.size 9 1 ka kl.length kc (kl.map .string) ∧ Own h' h2.size 9 1 va vl.length vc (vl.map .string) ∧
        Own h' h2.size 3 1 ia ks.length ic (ks.map (.int .i64)) ∧ Dj ka va ∧ Dj ka ia ∧ Dj va ia ∧ RdrR h' br r er ∧ Off br h h' ∧ h2.size ≤ h'.size ∧ BlkW h' b2 25 zeroN ∧ (er = 0 → X = .ok ⟨kl, vl, ks⟩ r) ∧ (er ≠ 0 → X = .no er)) rfl ?_ ?_
      · ((conv=>whnf);repeat((first|(with_reducible first|refine Z1 ?_|refine Z2 ?_|refine Z3 ?_|refine Z4 ?_|refine Z5 ?_|refine Z9 (by assumption) rfl ?_|refine ZA (by assumption) rfl ?_|refine ZB (by assumption) rfl ?_|refine Z6 ?_|refine Z7 ?_|refine Z8 ?_)|((with_reducible refine ZM ?_ ?_);(focus rfl)));(conv=>whnf)))
        refine loop_rule [70] (fun vs h' => ∃ (i : Nat) (kl vl : List ByteArray) (ka va : Option Addr) (kc vc : Nat) (r : List UInt8) (er : Nat), vs = [.int .i64 i] ∧ i ≤ m - 1 ∧ kl.length = i ∧ vl = [] ∧ kl.length ≤ 12 ∧ vl.length ≤ 12 ∧ (∀ x ∈ kl, x.size ≤ 1024) ∧ (∀ x ∈ vl, x.size ≤ 1024) ∧ r.length ≤ 17179869184 ∧ BlkW h' b3 25 [.slice ka kl.length kc, .slice va vl.length vc, .slice ia ks.length ic] ∧ Own h' h2.size 9 1 ka kl.length kc (kl.map .string) ∧ Own h' h2.size 9 1 va vl.length vc (vl.map .string) ∧
        Own h' h2.size 3 1 ia ks.length ic (ks.map (.int .i64)) ∧ Dj ka va ∧ Dj ka ia ∧ Dj va ia ∧ RdrR h' br r er ∧ Off br h h' ∧ h2.size ≤ h'.size ∧ BlkW h' b2 25 zeroN ∧ (er = 0 → er5 = 0 ∧ rKV false (m - 1) rk = (rKV false (m - 1 - i) r).map fun q => (kl ++ q.1, vl ++ q.2)) ∧ (er ≠ 0 → X = .no er))
          (fun vs _ => match vs with | [.int _ i] => m - i.toNat | _ => 0) rfl ?_ ?_
        · exact ⟨0, [], [], none, none, 0, 0, rk, er5, rfl, by omega, rfl, rfl, by simp, by simp, by simp, by simp, hlrk, o5k, Own.nil _ _ _ _, Own.nil _ _ _ _, wi5, Dj.none_l _, Dj.none_l _, Dj.none_l _, r5k, f5k, z5k, o25k, fun h0 => ⟨h0, (Rd.map_id (fun _ => rfl) _).symm⟩, hxn5⟩
        intro u h5 v70
        rintro ⟨i, kl, vl, ka, va, kc, vc, r, er, e, hi, hki, hvi, hkl0, hvl0, hkl', hvl', hlr, o5, wk, wv, wi, d1, d2, d3, r5, f5, z5, o25, hin, hxn⟩
        cases e
        ((conv=>whnf);repeat((first|(with_reducible first|refine Z2 ?_|refine Z3 ?_|refine Z4 ?_|refine Z5 ?_|refine Z9 (by assumption) rfl ?_|refine ZA (by assumption) rfl ?_|refine ZB (by assumption) rfl ?_|refine Z6 ?_|refine Z7 ?_|refine Z8 ?_)|((with_reducible refine ZM ?_ ?_);(focus rfl)));(conv=>whnf)))
        (refine HSeq.go ?_; conv => whnf)
        refine HIf.mk (fun hlt => ?_) (fun hlt => ?_)
        · have hi1 : i < m - 1 := by have := of_decide_eq_true hlt; omega
          have hmu : m - ((i : Int) + 1).toNat < m - ((i : Int)).toNat := by omega
          ((conv=>whnf);repeat((first|(with_reducible first|refine Z2 ?_|refine Z3 ?_|refine Z4 ?_|refine Z5 ?_|refine Z9 (by assumption) rfl ?_|refine ZA (by assumption) rfl ?_|refine ZB (by assumption) rfl ?_|refine Z6 ?_|refine Z7 ?_|refine Z8 ?_)|((with_reducible refine ZM ?_ ?_);(focus rfl)));(conv=>whnf)))
          (refine HSeq.go ?_; conv => whnf)
          ((conv=>whnf);repeat((first|(with_reducible first|refine Z2 ?_|refine Z3 ?_|refine Z4 ?_|refine Z5 ?_|refine Z9 (by assumption) rfl ?_|refine ZA (by assumption) rfl ?_|refine ZB (by assumption) rfl ?_|refine Z6 ?_|refine Z7 ?_|refine Z8 ?_)|((with_reducible refine ZM ?_ ?_);(focus rfl)));(conv=>whnf)))
          refine HAlt.mk ?_ ?_
          all_goals
            ((conv=>whnf);repeat((first|(with_reducible first|refine Z1 ?_|refine Z2 ?_|refine Z3 ?_|refine Z4 ?_|refine Z5 ?_|refine Z9 (by assumption) rfl ?_|refine ZA (by assumption) rfl ?_|refine ZB (by assumption) rfl ?_|refine Z6 ?_|refine Z7 ?_|refine Z8 ?_)|((with_reducible refine ZM ?_ ?_);(focus rfl)));(conv=>whnf)))
            refine HCall.mk ((rtxtR_spec r5 hlr).mono ?_)
            rintro e h6 ⟨f6, z6, af⟩
            obtain ⟨key, r', er', rfl, hsz, hlr', r6, haf⟩ := after_txt af
            have o6 := o5.offk f6 (by omega)
            have o26 := o25.offk f6 (by omega)
            have f06 : Off br h h6 := f5.trans f6
            have wk6 := wk.off f6 (fun p ep => by have := (wk.lt p ep).1; omega)
            have wv6 := wv.off f6 (fun p ep => by have := (wv.lt p ep).1; omega)
            have wi6 := wi.off f6 (fun p ep => by have := (wi.lt p ep).1; omega)
            ((conv=>whnf);repeat((first|(with_reducible first|refine Z1 ?_|refine Z2 ?_|refine Z3 ?_|refine Z4 ?_|refine Z5 ?_|refine Z9 (by assumption) rfl ?_|refine ZA (by assumption) rfl ?_|refine ZB (by assumption) rfl ?_|refine Z6 ?_|refine Z7 ?_|refine Z8 ?_)|((with_reducible refine ZM ?_ ?_);(focus rfl)));(conv=>whnf)))
            refine new_own (e := 9) 1 1 [.string key] rfl rfl ?_
            intro h7 b7 o7 x7 z7 hb7
            ((conv=>whnf);repeat((first|(with_reducible first|refine Z1 ?_|refine Z2 ?_|refine Z3 ?_|refine Z4 ?_|refine Z5 ?_|refine Z9 (by assumption) rfl ?_|refine ZA (by assumption) rfl ?_|refine ZB (by assumption) rfl ?_|refine Z6 ?_|refine Z7 ?_|refine Z8 ?_)|((with_reducible refine ZM ?_ ?_);(focus rfl)));(conv=>whnf)))
            refine o7.sl.cells ?_
            refine Own.grow (wk6.ext x7) (by have := x7.1; omega) rfl rfl (by intro v hv; simp only [List.mem_singleton] at hv; subst hv; rfl) (by omega) ?_
            intro h8 a8 c8 wk8 g8
            have o8 := g8.blk (o6.ext x7) (fun p ep => by have := (wk6.lt p ep).1; omega)
            have o28 := g8.blk (o26.ext x7) (fun p ep => by have := (wk6.lt p ep).1; omega)
            have wv8 := own_grew (wv6.ext x7) g8 d1
            have wi8 := own_grew (wi6.ext x7) g8 d2
            have e1 := dj_grow g8 d1 (fun q eq => ((wv6.ext x7).lt q eq).2)
            have e2 := dj_grow g8 d2 (fun q eq => ((wi6.ext x7).lt q eq).2)
            have f08 : Off br h h8 := off_grow (f06.trans x7.off) g8 (fun p ep => by have := (wk6.lt p ep).1; omega)
            have r8 : RdrR h8 br r' er' := (r6.ext x7).agree (fun b hb => g8.2.1 b (by have := x7.1; omega) (fun p ep => by have := (wk6.lt p ep).1; omega)) g8.1
            have hz8 := g8.1
            have hz7 := x7.1
            ((conv=>whnf);repeat((first|(with_reducible first|refine Z1 ?_|refine Z2 ?_|refine Z3 ?_|refine Z4 ?_|refine Z5 ?_|refine Z9 (by assumption) rfl ?_|refine ZA (by assumption) rfl ?_|refine ZB (by assumption) rfl ?_|refine Z6 ?_|refine Z7 ?_|refine Z8 ?_)|((with_reducible refine ZM ?_ ?_);(focus rfl)));(conv=>whnf)))
            refine blk_st o8 (by simp) rfl ?_
            intro h9 f9 z9 o9
            have o29 := o28.offk f9 (by omega)
            have wk9 := wk8.off f9 (fun p ep => by have := (wk8.lt p ep).1; omega)
            have wv9 := wv8.off f9 (fun p ep => by have := (wv8.lt p ep).1; omega)
            have wi9 := wi8.off f9 (fun p ep => by have := (wi8.lt p ep).1; omega)
            have r9 := r8.offk f9 (by omega)
            have f09 := off_new f08 f9 (by omega)
            ((conv=>whnf);repeat((first|(with_reducible first|refine Z1 ?_|refine Z2 ?_|refine Z3 ?_|refine Z4 ?_|refine Z5 ?_|refine Z9 (by assumption) rfl ?_|refine ZA (by assumption) rfl ?_|refine ZB (by assumption) rfl ?_|refine Z6 ?_|refine Z7 ?_|refine Z8 ?_)|((with_reducible refine ZM ?_ ?_);(focus rfl)));(conv=>whnf)))
            refine ⟨⟨i + 1, kl ++ [key], vl, a8, va, c8, vc, r', er', rfl, by omega, by simp [hki], hvi, by simp; omega, hvl0, ?_, hvl', by omega, ?_, ?_, wv9, wi9, e1, e2, d3, r9, f09, by omega, o29, ?_, ?_⟩, hmu⟩
            · intro x hx
              rcases List.mem_append.1 hx with hx | hx
              · exact hkl' x hx
              · simp only [List.mem_singleton] at hx; subst hx; omega
            · rw [List.length_append]; exact o9
            · rw [List.length_append, List.map_append]; exact wk9
            · intro h0
              rcases haf with h | h | h
              · omega
              · omega
              · exact ⟨(hin h.1).1, kv_step1 (hin h.1).2 hi1 h.2.2⟩
            · intro h0
              rcases haf with h | h | h
              · rw [h.2]; exact hxn h.1
              · exact hno _ 0 (.inl rfl) (kv_no1 (hin h.1).2 hi1 h.2.2) (hin h.1).1
              · omega
        · have hge := of_decide_eq_false hlt
          obtain rfl : i = m - 1 := by omega
          ((conv=>whnf);repeat((first|(with_reducible first|refine Z1 ?_|refine Z2 ?_|refine Z3 ?_|refine Z4 ?_|refine Z5 ?_|refine Z9 (by assumption) rfl ?_|refine ZA (by assumption) rfl ?_|refine ZB (by assumption) rfl ?_|refine Z6 ?_|refine Z7 ?_|refine Z8 ?_)|((with_reducible refine ZM ?_ ?_);(focus rfl)));(conv=>whnf)))
          refine ⟨m - 1, kl, vl, ka, va, kc, vc, r, er, hki, hkl0, hvl0, hkl', hvl', hlr, o5, wk, wv, wi, d1, d2, d3, r5, f5, z5, o25, ?_, hxn⟩
          intro h0
          rw [hX0' (hin h0).1, kv_end (hin h0).2]; rfl
      intro u h5
      rintro ⟨i, kl, vl, ka, va, kc, vc, r, er, hki, hkl0, hvl0, hkl', hvl', hlr, o5, wk, wv, wi, d1, d2, d3, r5, f5, z5, o25, hx0, hx1⟩
      ((conv=>whnf);repeat((first|(with_reducible first|refine Z1 ?_|refine Z2 ?_|refine Z3 ?_|refine Z4 ?_|refine Z5 ?_|refine Z9 (by assumption) rfl ?_|refine ZA (by assumption) rfl ?_|refine ZB (by assumption) rfl ?_|refine Z6 ?_|refine Z7 ?_|refine Z8 ?_)|((with_reducible refine ZM ?_ ?_);(focus rfl)));(conv=>whnf)))
      refine store_new o25 rfl (by intro v hv; simp only [List.mem_cons, List.not_mem_nil, or_false] at hv; rcases hv with rfl | rfl | rfl <;> rfl) ?_
      intro h6 f6 z6 o26
      ((conv=>whnf);repeat((first|(with_reducible first|refine Z1 ?_|refine Z2 ?_|refine Z3 ?_|refine Z4 ?_|refine Z5 ?_|refine Z9 (by assumption) rfl ?_|refine ZA (by assumption) rfl ?_|refine ZB (by assumption) rfl ?_|refine Z6 ?_|refine Z7 ?_|refine Z8 ?_)|((with_reducible refine ZM ?_ ?_);(focus rfl)));(conv=>whnf)))
      exact fin h6 kl vl ks ka va ia kc vc ic er r hkl0 hvl0 hks0 hkl' hvl' hks (wk.off f6 (fun p ep => by have := (wk.lt p ep).1; omega)) (wv.off f6 (fun p ep => by have := (wv.lt p ep).1; omega)) (wi.off f6 (fun p ep => by have := (wi.lt p ep).1; omega)) (r5.offk f6 (by omega)) (off_new f5 f6 (by omega)) hx0 hx1

end Go.Proofs.Ythagjflkdoafmaa.Hc
