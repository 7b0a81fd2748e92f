import Derived.Test.YthagjflkdoafmaaN9
set_option linter.unusedVariables false
set_option linter.unusedSimpArgs false
namespace Go.Proofs.Ythagjflkdoafmaa.Hc
open Go Go.H Go.Proofs
set_option maxRecDepth 100000
set_option maxHeartbeats 4000000

/-- What reading a node comes to. -/
def NodeP (h : Heap) (br : Nat) (rd : Rd ND) (e : Ending) (h' : Heap) : Prop :=
  Off br h h' ∧ match rd with
    | .no k => e = Pan k
    | .ok d _ => ∃ cs, e = .returned (.agg cs.toArray) ∧ NFr h' h.size d cs

theorem nodeR_spec {h : Heap} {br : Nat} {l : List UInt8} (x : Rdr h br l) (hl : l.length ≤ 17179869184) :
    HCalls Try.prog 40 #[.pointer (some ⟨br, 0, none⟩)] h (NodeP h br (rNode l)) := by
  have hbr := x.lt
  refine c40 (by simp) ?_
  (conv => whnf)
  refine new_var (e := 26) [.slice none 0 0, .slice none 0 0, .slice none 0 0] rfl ?_
  intro h1 b2 o2 x1 z1 hb2
  have r1 := x.ext x1
  have f1 : Off br h h1 := x1.off
  obtain ⟨a, c, ob, sl, hp⟩ := r1
  have r1 : Rdr h1 br l := ⟨a, c, ob, sl, hp⟩
  ((conv=>whnf);repeat((first|(with_reducible first|refine Z2 ?_|refine Z3 ?_|refine Z4 ?_|refine Z5 ?_|refine Z9 (by assumption) rfl ?_|refine ZA (by assumption) rfl ?_|refine ZB (by assumption) rfl ?_|refine Z6 ?_|refine Z7 ?_|refine Z8 ?_)|((with_reducible refine ZM ?_ ?_);(focus rfl)));(conv=>whnf)))
  (refine HSeq.go ?_; conv => whnf)
  cases l with
  | nil =>
    ((conv=>whnf);repeat((first|(with_reducible first|refine Z2 ?_|refine Z3 ?_|refine Z4 ?_|refine Z5 ?_|refine Z9 (by assumption) rfl ?_|refine ZA (by assumption) rfl ?_|refine ZB (by assumption) rfl ?_|refine Z6 ?_|refine Z7 ?_|refine Z8 ?_)|((with_reducible refine ZM ?_ ?_);(focus rfl)));(conv=>whnf)))
    refine HCall.mk ((step_no (br := br) (k := 0) (er := 20) (by omega)).mono ?_)
    rintro e h2 ⟨rfl, rfl⟩
    ((conv=>whnf);repeat((first|(with_reducible first|refine Z1 ?_|refine Z2 ?_|refine Z3 ?_|refine Z4 ?_|refine Z5 ?_|refine Z9 (by assumption) rfl ?_|refine ZA (by assumption) rfl ?_|refine ZB (by assumption) rfl ?_|refine Z6 ?_|refine Z7 ?_|refine Z8 ?_)|((with_reducible refine ZM ?_ ?_);(focus rfl)));(conv=>whnf)))
    exact ⟨f1, rfl⟩
  | cons kd l1 =>
    have q0 : (((kd :: l1).length : Int) == 0) = false := by rw [beq_eq_false_iff_ne]; simp only [List.length_cons]; omega
    ((conv=>whnf);repeat((first|(with_reducible first|refine Z2 ?_|refine Z3 ?_|refine Z4 ?_|refine Z5 ?_|refine Z9 (by assumption) rfl ?_|refine ZA (by assumption) rfl ?_|refine ZB (by assumption) rfl ?_|refine Z6 ?_|refine Z7 ?_|refine Z8 ?_)|((with_reducible refine ZM ?_ ?_);(focus rfl)));(conv=>whnf)))
    refine HIdx.mk 0 rfl (by simp) ?_
    refine sl_some (i := 0) sl (by simp) fun p ep => ?_
    ((conv=>whnf);repeat((first|(with_reducible first|refine Z2 ?_|refine Z3 ?_|refine Z4 ?_|refine Z5 ?_|refine Z9 (by assumption) rfl ?_|refine ZA (by assumption) rfl ?_|refine ZB (by assumption) rfl ?_|refine Z6 ?_|refine Z7 ?_|refine Z8 ?_)|((with_reducible refine ZM ?_ ?_);(focus rfl)));(conv=>whnf)))
    refine sl.load (i := 0) ep (by simp) ?_
    ((conv=>whnf);repeat((first|(with_reducible first|refine Z2 ?_|refine Z3 ?_|refine Z4 ?_|refine Z5 ?_|refine Z9 (by assumption) rfl ?_|refine ZA (by assumption) rfl ?_|refine ZB (by assumption) rfl ?_|refine Z6 ?_|refine Z7 ?_|refine Z8 ?_)|((with_reducible refine ZM ?_ ?_);(focus rfl)));(conv=>whnf)))
    (refine HSeq.go ?_; conv => whnf)
    have hN : rNode (kd :: l1) = rFin kd.toNat (rNode0 (kd :: l1)) := rfl
    by_cases hk : 1 < kd.toNat
    · have q1 : decide ((kd.toNat : Int) > 1) = true := decide_eq_true (by omega)
      have hN0 : rNode (kd :: l1) = .no 22 := by rw [hN]; simp only [rNode0, if_pos hk, rFin]
      ((conv=>whnf);repeat((first|(with_reducible first|refine Z2 ?_|refine Z3 ?_|refine Z4 ?_|refine Z5 ?_|refine Z9 (by assumption) rfl ?_|refine ZA (by assumption) rfl ?_|refine ZB (by assumption) rfl ?_|refine Z6 ?_|refine Z7 ?_|refine Z8 ?_)|((with_reducible refine ZM ?_ ?_);(focus rfl)));(conv=>whnf)))
      refine HCall.mk ((step_no (br := br) (k := 0) (er := 22) (by omega)).mono ?_)
      rintro e h2 ⟨rfl, rfl⟩
      ((conv=>whnf);repeat((first|(with_reducible first|refine Z1 ?_|refine Z2 ?_|refine Z3 ?_|refine Z4 ?_|refine Z5 ?_|refine Z9 (by assumption) rfl ?_|refine ZA (by assumption) rfl ?_|refine ZB (by assumption) rfl ?_|refine Z6 ?_|refine Z7 ?_|refine Z8 ?_)|((with_reducible refine ZM ?_ ?_);(focus rfl)));(conv=>whnf)))
      rw [hN0]
      exact ⟨f1, rfl⟩
    have q1 : decide ((kd.toNat : Int) > 1) = false := decide_eq_false (by omega)
    ((conv=>whnf);repeat((first|(with_reducible first|refine Z2 ?_|refine Z3 ?_|refine Z4 ?_|refine Z5 ?_|refine Z9 (by assumption) rfl ?_|refine ZA (by assumption) rfl ?_|refine ZB (by assumption) rfl ?_|refine Z6 ?_|refine Z7 ?_|refine Z8 ?_)|((with_reducible refine ZM ?_ ?_);(focus rfl)));(conv=>whnf)))
    refine HCall.mk ((step_ok (k := 1) r1 (by simp) hl).mono ?_)
    rintro e h2 ⟨rfl, f2, z2, r2⟩
    have r2 : Rdr h2 br l1 := r2
    have o22 := o2.offk f2 (by omega)
    have f02 : Off br h h2 := f1.trans f2
    have hl1 : l1.length ≤ 17179869184 := by simp only [List.length_cons] at hl; omega
    ((conv=>whnf);repeat((first|(with_reducible first|refine Z2 ?_|refine Z3 ?_|refine Z4 ?_|refine Z5 ?_|refine Z9 (by assumption) rfl ?_|refine ZA (by assumption) rfl ?_|refine ZB (by assumption) rfl ?_|refine Z6 ?_|refine Z7 ?_|refine Z8 ?_)|((with_reducible refine ZM ?_ ?_);(focus rfl)));(conv=>whnf)))
    refine HCall.mk ((numR_spec 12 (by omega) r2 hl1).mono ?_)
    rintro e h3 ⟨f3, z3, hno, hok⟩
    have o23 := o22.offk f3 (by omega)
    have f03 : Off br h h3 := f02.trans f3
    cases hrd : rNum 12 l1 with
    | no k =>
      obtain rfl := hno k hrd
      have hN0 : rNode (kd :: l1) = .no k := by rw [hN]; simp only [rNode0, if_neg hk, hrd, rFin]
      ((conv=>whnf);repeat((first|(with_reducible first|refine Z1 ?_|refine Z2 ?_|refine Z3 ?_|refine Z4 ?_|refine Z5 ?_|refine Z9 (by assumption) rfl ?_|refine ZA (by assumption) rfl ?_|refine ZB (by assumption) rfl ?_|refine Z6 ?_|refine Z7 ?_|refine Z8 ?_)|((with_reducible refine ZM ?_ ?_);(focus rfl)));(conv=>whnf)))
      rw [hN0]
      exact ⟨f03, rfl⟩
    | ok m r3' =>
    obtain ⟨rfl, r3⟩ := hok m r3' hrd
    have hm := rNum_ok hrd
    have hN0 : rNode (kd :: l1) = rFin kd.toNat (rBody kd.toNat m r3') := by rw [hN]; simp only [rNode0, if_neg hk, hrd]
    rw [hN0]
    clear hN0 hN hno hok
    have hl3 : r3'.length ≤ 17179869184 := by omega
    obtain ⟨p, hp0⟩ : ∃ p : Bool, p = decide (kd.toNat = 0) := ⟨_, rfl⟩
    ((conv=>whnf);repeat((first|(with_reducible first|refine Z2 ?_|refine Z3 ?_|refine Z4 ?_|refine Z5 ?_|refine Z9 (by assumption) rfl ?_|refine ZA (by assumption) rfl ?_|refine ZB (by assumption) rfl ?_|refine Z6 ?_|refine Z7 ?_|refine Z8 ?_)|((with_reducible refine ZM ?_ ?_);(focus rfl)));(conv=>whnf)))
    refine cut_rule [4] (fun vs h' => ∃ (n : Int) (ks : List Int) (ia : Option Addr) (ic : Nat) (r : List UInt8), vs = [.int .i64 n] ∧ -1 ≤ n ∧ n ≤ 12 ∧ ks.length ≤ 12 ∧ (∀ x ∈ ks, 0 ≤ x ∧ x ≤ 2147483647) ∧ r.length ≤ 17179869184 ∧
      BlkW h' b2 26 [.slice none 0 0, .slice none 0 0, .slice ia ks.length ic] ∧ Own h' h1.size 3 1 ia ks.length ic (ks.map (.int .i64)) ∧ Rdr h' br r ∧ Off br h h' ∧ h1.size ≤ h'.size ∧
      rBody kd.toNat m r3' = (rKV p n.toNat r).map fun q => ⟨q.1, q.2, ks⟩) rfl ?_ ?_
    · by_cases hk1 : kd.toNat = 1
      · have q2 : ((kd.toNat : Int) == 1) = true := by rw [beq_iff_eq]; omega
        ((conv=>whnf);repeat((first|(with_reducible first|refine Z1 ?_|refine Z2 ?_|refine Z3 ?_|refine Z4 ?_|refine Z5 ?_|refine Z9 (by assumption) rfl ?_|refine ZA (by assumption) rfl ?_|refine ZB (by assumption) rfl ?_|refine Z6 ?_|refine Z7 ?_|refine Z8 ?_)|((with_reducible refine ZM ?_ ?_);(focus rfl)));(conv=>whnf)))
        refine loop_rule [33] (fun vs h' => ∃ (i : Nat) (ks : List Int) (ia : Option Addr) (ic : Nat) (r : List UInt8), vs = [.int .i64 i] ∧ i ≤ m ∧ ks.length = i ∧ (∀ x ∈ ks, 0 ≤ x ∧ x ≤ 2147483647) ∧ r.length ≤ 17179869184 ∧
          BlkW h' b2 26 [.slice none 0 0, .slice none 0 0, .slice ia ks.length ic] ∧ Own h' h1.size 3 1 ia ks.length ic (ks.map (.int .i64)) ∧ Rdr h' br r ∧ Off br h h' ∧ h1.size ≤ h'.size ∧
          rInts m r3' = (rInts (m - i) r).map (ks ++ ·))
          (fun vs _ => match vs with | [.int _ i] => m - i.toNat | _ => 0) rfl ?_ ?_
        · exact ⟨0, [], none, 0, r3', rfl, by omega, rfl, by simp, hl3, o23, Own.nil _ _ _ _, r3, f03, by omega, (Rd.map_id (fun _ => rfl) _).symm⟩
        intro u h4 v33
        rintro ⟨i, ks, ia, ic, r, e, hi, hki, hks, hlr, o4, w4, r4, f4, z4, hin⟩
        cases e
        ((conv=>whnf);repeat((first|(with_reducible first|refine Z1 ?_|refine Z2 ?_|refine Z3 ?_|refine Z4 ?_|refine Z5 ?_|refine Z9 (by assumption) rfl ?_|refine ZA (by assumption) rfl ?_|refine ZB (by assumption) rfl ?_|refine Z6 ?_|refine Z7 ?_|refine Z8 ?_)|((with_reducible refine ZM ?_ ?_);(focus rfl)));(conv=>whnf)))
        refine HIf.mk (fun hlt => ?_) (fun hlt => ?_)
        · have hi1 : i < m := by have := of_decide_eq_true hlt; omega
          have hmu : m - ((i : Int) + 1).toNat < m - ((i : Int)).toNat := by omega
          ((conv=>whnf);repeat((first|(with_reducible first|refine Z1 ?_|refine Z2 ?_|refine Z3 ?_|refine Z4 ?_|refine Z5 ?_|refine Z9 (by assumption) rfl ?_|refine ZA (by assumption) rfl ?_|refine ZB (by assumption) rfl ?_|refine Z6 ?_|refine Z7 ?_|refine Z8 ?_)|((with_reducible refine ZM ?_ ?_);(focus rfl)));(conv=>whnf)))
          refine HCall.mk ((numR_spec 2147483647 (by omega) r4 hlr).mono ?_)
          rintro e h5 ⟨f5, z5, hno, hok⟩
          have o5 := o4.offk f5 (by omega)
          have f05 : Off br h h5 := f4.trans f5
          cases hrd : rNum 2147483647 r with
          | no k =>
            obtain rfl := hno k hrd
            have hb : rBody kd.toNat m r3' = .no k := by unfold rBody; rw [if_pos hk1, ints_no hin hi1 hrd]
            ((conv=>whnf);repeat((first|(with_reducible first|refine Z1 ?_|refine Z2 ?_|refine Z3 ?_|refine Z4 ?_|refine Z5 ?_|refine Z9 (by assumption) rfl ?_|refine ZA (by assumption) rfl ?_|refine ZB (by assumption) rfl ?_|refine Z6 ?_|refine Z7 ?_|refine Z8 ?_)|((with_reducible refine ZM ?_ ?_);(focus rfl)));(conv=>whnf)))
            rw [hb]
            exact ⟨f05, rfl⟩
          | ok n r' =>
          obtain ⟨rfl, r5⟩ := hok n r' hrd
          have hn := rNum_ok hrd
          have w5 := w4.off f5 (fun p ep => by have := (w4.lt p ep).1; omega)
          ((conv=>whnf);repeat((first|(with_reducible first|refine Z1 ?_|refine Z2 ?_|refine Z3 ?_|refine Z4 ?_|refine Z5 ?_|refine Z9 (by assumption) rfl ?_|refine ZA (by assumption) rfl ?_|refine ZB (by assumption) rfl ?_|refine Z6 ?_|refine Z7 ?_|refine Z8 ?_)|((with_reducible refine ZM ?_ ?_);(focus rfl)));(conv=>whnf)))
          refine new_own (e := 3) 1 1 [.int .i64 n] rfl rfl ?_
          intro h6 b6 o6 x6 z6 hb6
          ((conv=>whnf);repeat((first|(with_reducible first|refine Z1 ?_|refine Z2 ?_|refine Z3 ?_|refine Z4 ?_|refine Z5 ?_|refine Z9 (by assumption) rfl ?_|refine ZA (by assumption) rfl ?_|refine ZB (by assumption) rfl ?_|refine Z6 ?_|refine Z7 ?_|refine Z8 ?_)|((with_reducible refine ZM ?_ ?_);(focus rfl)));(conv=>whnf)))
          refine o6.sl.cells ?_
          refine Own.grow (w5.ext x6) (by have := x6.1; omega) rfl rfl (by intro v hv; simp only [List.mem_singleton] at hv; subst hv; rfl) (by omega) ?_
          intro h7 a7 c7 o7 g7
          have o27 := g7.blk (o5.ext x6) (fun p ep => by have := (w5.lt p ep).1; omega)
          have f07 : Off br h h7 := off_grow (f05.trans x6.off) g7 (fun p ep => by have := (w5.lt p ep).1; omega)
          have r7 : Rdr h7 br r' := (r5.ext x6).agree (fun b hb => g7.2.1 b (by have := x6.1; omega) (fun p ep => by have := (w5.lt p ep).1; omega)) g7.1
          have hz7 := g7.1
          have hz6 := x6.1
          ((conv=>whnf);repeat((first|(with_reducible first|refine Z1 ?_|refine Z2 ?_|refine Z3 ?_|refine Z4 ?_|refine Z5 ?_|refine Z9 (by assumption) rfl ?_|refine ZA (by assumption) rfl ?_|refine ZB (by assumption) rfl ?_|refine Z6 ?_|refine Z7 ?_|refine Z8 ?_)|((with_reducible refine ZM ?_ ?_);(focus rfl)));(conv=>whnf)))
          refine blk_st o27 (by simp) rfl ?_
          intro h8 f8 z8 o8
          have o78 := o7.off f8 (fun p ep => by have := (o7.lt p ep).1; omega)
          have r8 := r7.offk f8 (by omega)
          ((conv=>whnf);repeat((first|(with_reducible first|refine Z1 ?_|refine Z2 ?_|refine Z3 ?_|refine Z4 ?_|refine Z5 ?_|refine Z9 (by assumption) rfl ?_|refine ZA (by assumption) rfl ?_|refine ZB (by assumption) rfl ?_|refine Z6 ?_|refine Z7 ?_|refine Z8 ?_)|((with_reducible refine ZM ?_ ?_);(focus rfl)));(conv=>whnf)))
          refine ⟨⟨i + 1, ks ++ [(n : Int)], a7, c7, r', rfl, by omega, by simp [hki], ?_, by omega, ?_, ?_, r8, off_new f07 f8 (by omega), by omega, ints_step hin hi1 hrd⟩, hmu⟩
          · intro x hx
            rcases List.mem_append.1 hx with hx | hx
            · exact hks x hx
            · simp only [List.mem_singleton] at hx; subst hx; omega
          · rw [List.length_append]; exact o8
          · rw [List.length_append, List.map_append]; exact o78
        · have hge := of_decide_eq_false hlt
          obtain rfl : i = m := by omega
          ((conv=>whnf);repeat((first|(with_reducible first|refine Z1 ?_|refine Z2 ?_|refine Z3 ?_|refine Z4 ?_|refine Z5 ?_|refine Z9 (by assumption) rfl ?_|refine ZA (by assumption) rfl ?_|refine ZB (by assumption) rfl ?_|refine Z6 ?_|refine Z7 ?_|refine Z8 ?_)|((with_reducible refine ZM ?_ ?_);(focus rfl)));(conv=>whnf)))
          refine ⟨(i : Int) - 1, ks, ia, ic, r, rfl, by omega, by omega, by omega, hks, hlr, o4, w4, r4, f4, z4, ?_⟩
          unfold rBody
          have hp1 : p = false := by rw [hp0, hk1]; rfl
          have e1 : ((i : Int) - 1).toNat = i - 1 := by omega
          rw [if_pos hk1, ints_end hin, hp1, e1]
      · have q2 : ((kd.toNat : Int) == 1) = false := by rw [beq_eq_false_iff_ne]; omega
        have hk0 : kd.toNat = 0 := by omega
        ((conv=>whnf);repeat((first|(with_reducible first|refine Z1 ?_|refine Z2 ?_|refine Z3 ?_|refine Z4 ?_|refine Z5 ?_|refine Z9 (by assumption) rfl ?_|refine ZA (by assumption) rfl ?_|refine ZB (by assumption) rfl ?_|refine Z6 ?_|refine Z7 ?_|refine Z8 ?_)|((with_reducible refine ZM ?_ ?_);(focus rfl)));(conv=>whnf)))
        refine ⟨m, [], none, 0, r3', rfl, by omega, by omega, by simp, by simp, hl3, o23, Own.nil _ _ _ _, r3, f03, by omega, ?_⟩
        unfold rBody
        have hp1 : p = true := by rw [hp0, hk0]; rfl
        rw [if_neg hk1, hp1]; rfl
    intro u h4 v4
    rintro ⟨n, ks, ia, ic, r4', e, hn1, hn2, hkl, hks, hlr, o4, w4, r4, f4, z4, hbody⟩
    cases e
    rw [hbody]
    generalize hcnt : n.toNat = cnt at hbody ⊢
    ((conv=>whnf);repeat((first|(with_reducible first|refine Z2 ?_|refine Z3 ?_|refine Z4 ?_|refine Z5 ?_|refine Z9 (by assumption) rfl ?_|refine ZA (by assumption) rfl ?_|refine ZB (by assumption) rfl ?_|refine Z6 ?_|refine Z7 ?_|refine Z8 ?_)|((with_reducible refine ZM ?_ ?_);(focus rfl)));(conv=>whnf)))
    refine cut_rule [] (fun vs h' => ∃ (kl vl : List ByteArray) (ka va : Option Addr) (kc vc : Nat) (r : List UInt8), kl.length ≤ 12 ∧ vl.length ≤ 12 ∧ (∀ x ∈ kl, x.size ≤ 1024) ∧ (∀ x ∈ vl, x.size ≤ 1024) ∧ r.length ≤ 17179869184 ∧
      BlkW h' b2 26 [.slice ka kl.length kc, .slice va vl.length vc, .slice ia ks.length ic] ∧ Own h' h1.size 9 1 ka kl.length kc (kl.map .string) ∧ Own h' h1.size 9 1 va vl.length vc (vl.map .string) ∧
      Own h' h1.size 3 1 ia ks.length ic (ks.map (.int .i64)) ∧ Rdr h' br r ∧ Off br h h' ∧ h1.size ≤ h'.size ∧ rKV p cnt r4' = .ok (kl, vl) r) rfl ?_ ?_
    · ((conv=>whnf);repeat((first|(with_reducible first|refine Z1 ?_|refine Z2 ?_|refine Z3 ?_|refine Z4 ?_|refine Z5 ?_|refine Z9 (by assumption) rfl ?_|refine ZA (by assumption) rfl ?_|refine ZB (by assumption) rfl ?_|refine Z6 ?_|refine Z7 ?_|refine Z8 ?_)|((with_reducible refine ZM ?_ ?_);(focus rfl)));(conv=>whnf)))
      refine loop_rule [47] (fun vs h' => ∃ (i : Nat) (kl vl : List ByteArray) (ka va : Option Addr) (kc vc : Nat) (r : List UInt8), vs = [.int .i64 i] ∧ i ≤ cnt ∧ kl.length = i ∧ vl.length ≤ i ∧ (∀ x ∈ kl, x.size ≤ 1024) ∧ (∀ x ∈ vl, x.size ≤ 1024) ∧ r.length ≤ 17179869184 ∧
        BlkW h' b2 26 [.slice ka kl.length kc, .slice va vl.length vc, .slice ia ks.length ic] ∧ Own h' h1.size 9 1 ka kl.length kc (kl.map .string) ∧ Own h' h1.size 9 1 va vl.length vc (vl.map .string) ∧
        Own h' h1.size 3 1 ia ks.length ic (ks.map (.int .i64)) ∧ Dj ka va ∧ Dj ka ia ∧ Dj va ia ∧ Rdr h' br r ∧ Off br h h' ∧ h1.size ≤ h'.size ∧ rKV p cnt r4' = (rKV p (cnt - i) r).map fun q => (kl ++ q.1, vl ++ q.2))
        (fun vs _ => match vs with | [.int _ i] => cnt - i.toNat | _ => 0) rfl ?_ ?_
      · exact ⟨0, [], [], none, none, 0, 0, r4', rfl, by omega, rfl, by simp, by simp, by simp, hlr, o4, Own.nil _ _ _ _, Own.nil _ _ _ _, w4, Dj.none_l _, Dj.none_l _, Dj.none_l _, r4, f4, z4, (Rd.map_id (fun _ => rfl) _).symm⟩
      intro u h5 v47
      rintro ⟨i, kl, vl, ka, va, kc, vc, r, e, hi, hki, hvi, hkl', hvl', hlr, o5, wk, wv, wi, d1, d2, d3, r5, f5, z5, hin⟩
      cases e
      ((conv=>whnf);repeat((first|(with_reducible first|refine Z1 ?_|refine Z2 ?_|refine Z3 ?_|refine Z4 ?_|refine Z5 ?_|refine Z9 (by assumption) rfl ?_|refine ZA (by assumption) rfl ?_|refine ZB (by assumption) rfl ?_|refine Z6 ?_|refine Z7 ?_|refine Z8 ?_)|((with_reducible refine ZM ?_ ?_);(focus rfl)));(conv=>whnf)))
      refine HIf.mk (fun hlt => ?_) (fun hlt => ?_)
      · have hi1 : i < cnt := by have := of_decide_eq_true hlt; omega
        have hcn : cnt ≤ 12 := by omega
        have hmu : cnt - ((i : Int) + 1).toNat < cnt - ((i : Int)).toNat := by omega
        ((conv=>whnf);repeat((first|(with_reducible first|refine Z1 ?_|refine Z2 ?_|refine Z3 ?_|refine Z4 ?_|refine Z5 ?_|refine Z9 (by assumption) rfl ?_|refine ZA (by assumption) rfl ?_|refine ZB (by assumption) rfl ?_|refine Z6 ?_|refine Z7 ?_|refine Z8 ?_)|((with_reducible refine ZM ?_ ?_);(focus rfl)));(conv=>whnf)))
        refine HCall.mk ((txtR_spec r5 hlr).mono ?_)
        rintro e h6 ⟨f6, z6, hno, hok⟩
        have o6 := o5.offk f6 (by omega)
        have f06 : Off br h h6 := f5.trans f6
        cases hrd : rTxt r with
        | no k =>
          obtain rfl := hno k hrd
          have hb := kv_no1 hin hi1 hrd
          ((conv=>whnf);repeat((first|(with_reducible first|refine Z1 ?_|refine Z2 ?_|refine Z3 ?_|refine Z4 ?_|refine Z5 ?_|refine Z9 (by assumption) rfl ?_|refine ZA (by assumption) rfl ?_|refine ZB (by assumption) rfl ?_|refine Z6 ?_|refine Z7 ?_|refine Z8 ?_)|((with_reducible refine ZM ?_ ?_);(focus rfl)));(conv=>whnf)))
          rw [hb]
          exact ⟨f06, rfl⟩
        | ok key r' =>
        obtain ⟨rfl, r6⟩ := hok key r' hrd
        have hn := rTxt_ok hrd
        have wk6 := wk.off f6 (fun p ep => by have := (wk.lt p ep).1; omega)
        have wv6 := wv.off f6 (fun p ep => by have := (wv.lt p ep).1; omega)
        have wi6 := wi.off f6 (fun p ep => by have := (wi.lt p ep).1; omega)
        ((conv=>whnf);repeat((first|(with_reducible first|refine Z1 ?_|refine Z2 ?_|refine Z3 ?_|refine Z4 ?_|refine Z5 ?_|refine Z9 (by assumption) rfl ?_|refine ZA (by assumption) rfl ?_|refine ZB (by assumption) rfl ?_|refine Z6 ?_|refine Z7 ?_|refine Z8 ?_)|((with_reducible refine ZM ?_ ?_);(focus rfl)));(conv=>whnf)))
        refine new_own (e := 9) 1 1 [.string key] rfl rfl ?_
        intro h7 b7 o7 x7 z7 hb7
        ((conv=>whnf);repeat((first|(with_reducible first|refine Z1 ?_|refine Z2 ?_|refine Z3 ?_|refine Z4 ?_|refine Z5 ?_|refine Z9 (by assumption) rfl ?_|refine ZA (by assumption) rfl ?_|refine ZB (by assumption) rfl ?_|refine Z6 ?_|refine Z7 ?_|refine Z8 ?_)|((with_reducible refine ZM ?_ ?_);(focus rfl)));(conv=>whnf)))
        refine o7.sl.cells ?_
        refine Own.grow (wk6.ext x7) (by have := x7.1; omega) rfl rfl (by intro v hv; simp only [List.mem_singleton] at hv; subst hv; rfl) (by omega) ?_
        intro h8 a8 c8 wk8 g8
        have o8 := g8.blk (o6.ext x7) (fun p ep => by have := (wk6.lt p ep).1; omega)
        have wv8 := own_grew (wv6.ext x7) g8 d1
        have wi8 := own_grew (wi6.ext x7) g8 d2
        have e1 := dj_grow g8 d1 (fun q eq => ((wv6.ext x7).lt q eq).2)
        have e2 := dj_grow g8 d2 (fun q eq => ((wi6.ext x7).lt q eq).2)
        have f08 : Off br h h8 := off_grow (f06.trans x7.off) g8 (fun p ep => by have := (wk6.lt p ep).1; omega)
        have r8 : Rdr h8 br r' := (r6.ext x7).agree (fun b hb => g8.2.1 b (by have := x7.1; omega) (fun p ep => by have := (wk6.lt p ep).1; omega)) g8.1
        have hz8 := g8.1
        have hz7 := x7.1
        ((conv=>whnf);repeat((first|(with_reducible first|refine Z1 ?_|refine Z2 ?_|refine Z3 ?_|refine Z4 ?_|refine Z5 ?_|refine Z9 (by assumption) rfl ?_|refine ZA (by assumption) rfl ?_|refine ZB (by assumption) rfl ?_|refine Z6 ?_|refine Z7 ?_|refine Z8 ?_)|((with_reducible refine ZM ?_ ?_);(focus rfl)));(conv=>whnf)))
        refine blk_st o8 (by simp) rfl ?_
        intro h9 f9 z9 o9
        have wk9 := wk8.off f9 (fun p ep => by have := (wk8.lt p ep).1; omega)
        have wv9 := wv8.off f9 (fun p ep => by have := (wv8.lt p ep).1; omega)
        have wi9 := wi8.off f9 (fun p ep => by have := (wi8.lt p ep).1; omega)
        have r9 := r8.offk f9 (by omega)
        have f09 := off_new f08 f9 (by omega)
        have hkl2 : ∀ x ∈ kl ++ [key], x.size ≤ 1024 := by
          intro x hx
          rcases List.mem_append.1 hx with hx | hx
          · exact hkl' x hx
          · simp only [List.mem_singleton] at hx; subst hx; omega
        cases p with
        | false =>
          have hk1 : (kd.toNat : Int) ≠ 0 := by intro e; have : kd.toNat = 0 := by omega
                                                rw [this] at hp0; simp at hp0
          have q4 : ((kd.toNat : Int) == 0) = false := by rw [beq_eq_false_iff_ne]; exact hk1
          ((conv=>whnf);repeat((first|(with_reducible first|refine Z1 ?_|refine Z2 ?_|refine Z3 ?_|refine Z4 ?_|refine Z5 ?_|refine Z9 (by assumption) rfl ?_|refine ZA (by assumption) rfl ?_|refine ZB (by assumption) rfl ?_|refine Z6 ?_|refine Z7 ?_|refine Z8 ?_)|((with_reducible refine ZM ?_ ?_);(focus rfl)));(conv=>whnf)))
          refine ⟨⟨i + 1, kl ++ [key], vl, a8, va, c8, vc, r', rfl, by omega, by simp [hki], by omega, hkl2, hvl', by omega, ?_, ?_, wv9, wi9, e1, e2, d3, r9, f09, by omega, kv_step1 hin hi1 hrd⟩, hmu⟩
          · rw [List.length_append]; exact o9
          · rw [List.length_append, List.map_append]; exact wk9
        | true =>
          have hk1 : kd.toNat = 0 := of_decide_eq_true hp0.symm
          have q4 : ((kd.toNat : Int) == 0) = true := by rw [beq_iff_eq]; omega
          ((conv=>whnf);repeat((first|(with_reducible first|refine Z1 ?_|refine Z2 ?_|refine Z3 ?_|refine Z4 ?_|refine Z5 ?_|refine Z9 (by assumption) rfl ?_|refine ZA (by assumption) rfl ?_|refine ZB (by assumption) rfl ?_|refine Z6 ?_|refine Z7 ?_|refine Z8 ?_)|((with_reducible refine ZM ?_ ?_);(focus rfl)));(conv=>whnf)))
          refine HCall.mk ((txtR_spec r9 (by omega)).mono ?_)
          rintro e hA ⟨fA, zA, hno, hok⟩
          have oA := o9.offk fA (by omega)
          have f0A : Off br h hA := f09.trans fA
          cases hrd2 : rTxt r' with
          | no k =>
            obtain rfl := hno k hrd2
            have hb := kv_no2 hin hi1 hrd hrd2
            ((conv=>whnf);repeat((first|(with_reducible first|refine Z1 ?_|refine Z2 ?_|refine Z3 ?_|refine Z4 ?_|refine Z5 ?_|refine Z9 (by assumption) rfl ?_|refine ZA (by assumption) rfl ?_|refine ZB (by assumption) rfl ?_|refine Z6 ?_|refine Z7 ?_|refine Z8 ?_)|((with_reducible refine ZM ?_ ?_);(focus rfl)));(conv=>whnf)))
            rw [hb]
            exact ⟨f0A, rfl⟩
          | ok val r'' =>
          obtain ⟨rfl, rA⟩ := hok val r'' hrd2
          have hn2 := rTxt_ok hrd2
          have wkA := wk9.off fA (fun p ep => by have := (wk9.lt p ep).1; omega)
          have wvA := wv9.off fA (fun p ep => by have := (wv9.lt p ep).1; omega)
          have wiA := wi9.off fA (fun p ep => by have := (wi9.lt p ep).1; omega)
          ((conv=>whnf);repeat((first|(with_reducible first|refine Z1 ?_|refine Z2 ?_|refine Z3 ?_|refine Z4 ?_|refine Z5 ?_|refine Z9 (by assumption) rfl ?_|refine ZA (by assumption) rfl ?_|refine ZB (by assumption) rfl ?_|refine Z6 ?_|refine Z7 ?_|refine Z8 ?_)|((with_reducible refine ZM ?_ ?_);(focus rfl)));(conv=>whnf)))
          refine new_own (e := 9) 1 1 [.string val] rfl rfl ?_
          intro hB bB oB xB zB hbB
          ((conv=>whnf);repeat((first|(with_reducible first|refine Z1 ?_|refine Z2 ?_|refine Z3 ?_|refine Z4 ?_|refine Z5 ?_|refine Z9 (by assumption) rfl ?_|refine ZA (by assumption) rfl ?_|refine ZB (by assumption) rfl ?_|refine Z6 ?_|refine Z7 ?_|refine Z8 ?_)|((with_reducible refine ZM ?_ ?_);(focus rfl)));(conv=>whnf)))
          refine oB.sl.cells ?_
          refine Own.grow (wvA.ext xB) (by have := xB.1; omega) rfl rfl (by intro v hv; simp only [List.mem_singleton] at hv; subst hv; rfl) (by omega) ?_
          intro hC aC cC wvC gC
          have oC := gC.blk (oA.ext xB) (fun p ep => by have := (wvA.lt p ep).1; omega)
          have wkC := own_grew (wkA.ext xB) gC e1.symm
          have wiC := own_grew (wiA.ext xB) gC d3
          have e3 := dj_grow gC e1.symm (fun q eq => ((wkA.ext xB).lt q eq).2)
          have e4 := dj_grow gC d3 (fun q eq => ((wiA.ext xB).lt q eq).2)
          have f0C : Off br h hC := off_grow (f0A.trans xB.off) gC (fun p ep => by have := (wvA.lt p ep).1; omega)
          have rC : Rdr hC br r'' := (rA.ext xB).agree (fun b hb => gC.2.1 b (by have := xB.1; omega) (fun p ep => by have := (wvA.lt p ep).1; omega)) gC.1
          have hzC := gC.1
          have hzB := xB.1
          ((conv=>whnf);repeat((first|(with_reducible first|refine Z1 ?_|refine Z2 ?_|refine Z3 ?_|refine Z4 ?_|refine Z5 ?_|refine Z9 (by assumption) rfl ?_|refine ZA (by assumption) rfl ?_|refine ZB (by assumption) rfl ?_|refine Z6 ?_|refine Z7 ?_|refine Z8 ?_)|((with_reducible refine ZM ?_ ?_);(focus rfl)));(conv=>whnf)))
          refine blk_st oC (by simp) rfl ?_
          intro hD fD zD oD
          have wkD := wkC.off fD (fun p ep => by have := (wkC.lt p ep).1; omega)
          have wvD := wvC.off fD (fun p ep => by have := (wvC.lt p ep).1; omega)
          have wiD := wiC.off fD (fun p ep => by have := (wiC.lt p ep).1; omega)
          have rD := rC.offk fD (by omega)
          have f0D := off_new f0C fD (by omega)
          ((conv=>whnf);repeat((first|(with_reducible first|refine Z1 ?_|refine Z2 ?_|refine Z3 ?_|refine Z4 ?_|refine Z5 ?_|refine Z9 (by assumption) rfl ?_|refine ZA (by assumption) rfl ?_|refine ZB (by assumption) rfl ?_|refine Z6 ?_|refine Z7 ?_|refine Z8 ?_)|((with_reducible refine ZM ?_ ?_);(focus rfl)));(conv=>whnf)))
          refine ⟨⟨i + 1, kl ++ [key], vl ++ [val], a8, aC, c8, cC, r'', rfl, by omega, by simp [hki], by simp; omega, hkl2, ?_, by omega, ?_, ?_, ?_, wiD, e3.symm, e2, e4, rD, f0D, by omega, kv_step2 hin hi1 hrd hrd2⟩, hmu⟩
          · intro x hx
            rcases List.mem_append.1 hx with hx | hx
            · exact hvl' x hx
            · simp only [List.mem_singleton] at hx; subst hx; omega
          · rw [List.length_append, List.length_append]; exact oD
          · rw [List.length_append, List.map_append]; exact wkD
          · rw [List.length_append, List.map_append]; exact wvD
      · have hge := of_decide_eq_false hlt
        obtain rfl : i = cnt := by omega
        ((conv=>whnf);repeat((first|(with_reducible first|refine Z1 ?_|refine Z2 ?_|refine Z3 ?_|refine Z4 ?_|refine Z5 ?_|refine Z9 (by assumption) rfl ?_|refine ZA (by assumption) rfl ?_|refine ZB (by assumption) rfl ?_|refine Z6 ?_|refine Z7 ?_|refine Z8 ?_)|((with_reducible refine ZM ?_ ?_);(focus rfl)));(conv=>whnf)))
        exact ⟨kl, vl, ka, va, kc, vc, r, by omega, by omega, hkl', hvl', hlr, o5, wk, wv, wi, r5, f5, z5, kv_end hin⟩
    intro u h5
    rintro ⟨kl, vl, ka, va, kc, vc, r, hk2, hv2, hkl', hvl', hlr, o5, wk, wv, wi, r5, f5, z5, hkv⟩
    rw [hkv]
    simp only [Rd.map]
    have hsm : Small ⟨kl, vl, ks⟩ := ⟨hk2, hv2, hkl, hkl', hvl', hks⟩
    have nf := nfr_of (B := h.size) (d := ⟨kl, vl, ks⟩) hsm (by omega) wk wv wi
    obtain ⟨a6, c6, ob6, sl6, hp6⟩ := r5
    have r5 : Rdr h5 br r := ⟨a6, c6, ob6, sl6, hp6⟩
    ((conv=>whnf);repeat((first|(with_reducible first|refine Z2 ?_|refine Z3 ?_|refine Z4 ?_|refine Z5 ?_|refine Z9 (by assumption) rfl ?_|refine ZA (by assumption) rfl ?_|refine ZB (by assumption) rfl ?_|refine Z6 ?_|refine Z7 ?_|refine Z8 ?_)|((with_reducible refine ZM ?_ ?_);(focus rfl)));(conv=>whnf)))
    (refine HSeq.go ?_; conv => whnf)
    by_cases hr : r = []
    · subst hr
      ((conv=>whnf);repeat((first|(with_reducible first|refine Z2 ?_|refine Z3 ?_|refine Z4 ?_|refine Z5 ?_|refine Z9 (by assumption) rfl ?_|refine ZA (by assumption) rfl ?_|refine ZB (by assumption) rfl ?_|refine Z6 ?_|refine Z7 ?_|refine Z8 ?_)|((with_reducible refine ZM ?_ ?_);(focus rfl)));(conv=>whnf)))
      (refine HSeq.go ?_; conv => whnf)
      ((conv=>whnf);repeat((first|(with_reducible first|refine Z2 ?_|refine Z3 ?_|refine Z4 ?_|refine Z5 ?_|refine Z9 (by assumption) rfl ?_|refine ZA (by assumption) rfl ?_|refine ZB (by assumption) rfl ?_|refine Z6 ?_|refine Z7 ?_|refine Z8 ?_)|((with_reducible refine ZM ?_ ?_);(focus rfl)));(conv=>whnf)))
      refine HCall.mk ((checkN_spec nf.get).mono ?_)
      rintro e h6 ⟨rr, rfl, hrr, x6⟩
      have o6 := o5.ext x6
      have hcs : h5.size ≤ h6.size := x6.1
      have nf6 : NFr h6 h.size ⟨kl, vl, ks⟩ _ := (nf.frame (x6.agree fun b hb => hb.2)).mono fun b hb => ⟨hb.1, by omega⟩
      have f06 : Off br h h6 := f5.trans x6.off
      have no : ∀ hh, Off br h hh → (¬ NMay ⟨kl, vl, ks⟩ ∨ kd.toNat = 1 ∧ ks = []) → NodeP h br (rFin kd.toNat (.ok ⟨kl, vl, ks⟩ [])) (Pan 190) hh := by
        intro hh fh hc
        refine ⟨fh, ?_⟩
        simp only [rFin, ne_eq, not_true, if_false]
        rw [if_pos hc]
      have yes : ∀ hh, Off br h hh → ¬ (¬ NMay ⟨kl, vl, ks⟩ ∨ kd.toNat = 1 ∧ ks = []) → NFr hh h.size ⟨kl, vl, ks⟩ [.slice ka kl.length kc, .slice va vl.length vc, .slice ia ks.length ic] →
          NodeP h br (rFin kd.toNat (.ok ⟨kl, vl, ks⟩ [])) (.returned (.agg #[.slice ka kl.length kc, .slice va vl.length vc, .slice ia ks.length ic])) hh := by
        intro hh fh hc nh
        refine ⟨fh, ?_⟩
        simp only [rFin, ne_eq, not_true, if_false]
        rw [if_neg hc]
        exact ⟨_, rfl, nh⟩
      have tail : ∀ h7, Off b2 h6 h7 → h7.size = h6.size → Off br h h7 ∧ NFr h7 h.size ⟨kl, vl, ks⟩ [.slice ka kl.length kc, .slice va vl.length vc, .slice ia ks.length ic] := by
        intro h7 f7 z7
        have wk7 := (wk.ext x6).off f7 (fun p ep => by have := (wk.lt p ep).1; omega)
        have wv7 := (wv.ext x6).off f7 (fun p ep => by have := (wv.lt p ep).1; omega)
        have wi7 := (wi.ext x6).off f7 (fun p ep => by have := (wi.lt p ep).1; omega)
        exact ⟨off_new f06 f7 (by omega), nfr_of (B := h.size) (d := ⟨kl, vl, ks⟩) hsm (by omega) wk7 wv7 wi7⟩
      cases rr with
      | false =>
        have hnm : ¬ NMay ⟨kl, vl, ks⟩ := fun h => by have := hrr.2 h; cases this
        ((conv=>whnf);repeat((first|(with_reducible first|refine Z2 ?_|refine Z3 ?_|refine Z4 ?_|refine Z5 ?_|refine Z9 (by assumption) rfl ?_|refine ZA (by assumption) rfl ?_|refine ZB (by assumption) rfl ?_|refine Z6 ?_|refine Z7 ?_|refine Z8 ?_)|((with_reducible refine ZM ?_ ?_);(focus rfl)));(conv=>whnf)))
        refine HCall.mk ((step_no (br := br) (k := 0) (er := 190) (by omega)).mono ?_)
        rintro e h7 ⟨rfl, rfl⟩
        ((conv=>whnf);repeat((first|(with_reducible first|refine Z1 ?_|refine Z2 ?_|refine Z3 ?_|refine Z4 ?_|refine Z5 ?_|refine Z9 (by assumption) rfl ?_|refine ZA (by assumption) rfl ?_|refine ZB (by assumption) rfl ?_|refine Z6 ?_|refine Z7 ?_|refine Z8 ?_)|((with_reducible refine ZM ?_ ?_);(focus rfl)));(conv=>whnf)))
        exact no _ f06 (.inl hnm)
      | true =>
        have hnm : NMay ⟨kl, vl, ks⟩ := hrr.1 rfl
        by_cases hk1 : kd.toNat = 1
        · have q6 : ((kd.toNat : Int) == 1) = true := by rw [beq_iff_eq]; omega
          by_cases hz : ks = []
          · have q7 : ((ks.length : Int) == 0) = true := by rw [hz]; rfl
            ((conv=>whnf);repeat((first|(with_reducible first|refine Z2 ?_|refine Z3 ?_|refine Z4 ?_|refine Z5 ?_|refine Z9 (by assumption) rfl ?_|refine ZA (by assumption) rfl ?_|refine ZB (by assumption) rfl ?_|refine Z6 ?_|refine Z7 ?_|refine Z8 ?_)|((with_reducible refine ZM ?_ ?_);(focus rfl)));(conv=>whnf)))
            refine HCall.mk ((step_no (br := br) (k := 0) (er := 190) (by omega)).mono ?_)
            rintro e h7 ⟨rfl, rfl⟩
            ((conv=>whnf);repeat((first|(with_reducible first|refine Z1 ?_|refine Z2 ?_|refine Z3 ?_|refine Z4 ?_|refine Z5 ?_|refine Z9 (by assumption) rfl ?_|refine ZA (by assumption) rfl ?_|refine ZB (by assumption) rfl ?_|refine Z6 ?_|refine Z7 ?_|refine Z8 ?_)|((with_reducible refine ZM ?_ ?_);(focus rfl)));(conv=>whnf)))
            exact no _ f06 (.inr ⟨hk1, hz⟩)
          · have q7 : ((ks.length : Int) == 0) = false := by rw [beq_eq_false_iff_ne]; have := List.length_pos_iff.2 hz; omega
            ((conv=>whnf);repeat((first|(with_reducible first|refine Z2 ?_|refine Z3 ?_|refine Z4 ?_|refine Z5 ?_|refine Z9 (by assumption) rfl ?_|refine ZA (by assumption) rfl ?_|refine ZB (by assumption) rfl ?_|refine Z6 ?_|refine Z7 ?_|refine Z8 ?_)|((with_reducible refine ZM ?_ ?_);(focus rfl)));(conv=>whnf)))
            refine store_blk (o := 0) o6 (by simp) (by intro v hv; simp only [List.mem_cons, List.not_mem_nil, or_false] at hv; rcases hv with rfl | rfl | rfl <;> rfl) ?_
            intro h7 f7 z7 o7
            obtain ⟨t1, t2⟩ := tail h7 f7 z7
            ((conv=>whnf);repeat((first|(with_reducible first|refine Z1 ?_|refine Z2 ?_|refine Z3 ?_|refine Z4 ?_|refine Z5 ?_|refine Z9 (by assumption) rfl ?_|refine ZA (by assumption) rfl ?_|refine ZB (by assumption) rfl ?_|refine Z6 ?_|refine Z7 ?_|refine Z8 ?_)|((with_reducible refine ZM ?_ ?_);(focus rfl)));(conv=>whnf)))
            exact yes _ t1 (by simp [hnm, hz]) t2
        · have q6 : ((kd.toNat : Int) == 1) = false := by rw [beq_eq_false_iff_ne]; omega
          ((conv=>whnf);repeat((first|(with_reducible first|refine Z2 ?_|refine Z3 ?_|refine Z4 ?_|refine Z5 ?_|refine Z9 (by assumption) rfl ?_|refine ZA (by assumption) rfl ?_|refine ZB (by assumption) rfl ?_|refine Z6 ?_|refine Z7 ?_|refine Z8 ?_)|((with_reducible refine ZM ?_ ?_);(focus rfl)));(conv=>whnf)))
          refine store_blk (o := 0) o6 (by simp) (by intro v hv; simp only [List.mem_cons, List.not_mem_nil, or_false] at hv; rcases hv with rfl | rfl | rfl <;> rfl) ?_
          intro h7 f7 z7 o7
          obtain ⟨t1, t2⟩ := tail h7 f7 z7
          ((conv=>whnf);repeat((first|(with_reducible first|refine Z1 ?_|refine Z2 ?_|refine Z3 ?_|refine Z4 ?_|refine Z5 ?_|refine Z9 (by assumption) rfl ?_|refine ZA (by assumption) rfl ?_|refine ZB (by assumption) rfl ?_|refine Z6 ?_|refine Z7 ?_|refine Z8 ?_)|((with_reducible refine ZM ?_ ?_);(focus rfl)));(conv=>whnf)))
          exact yes _ t1 (by simp [hnm, hk1]) t2
    · have q5 : decide ((r.length : Int) > 0) = true := decide_eq_true (by have := List.length_pos_iff.2 hr; omega)
      ((conv=>whnf);repeat((first|(with_reducible first|refine Z2 ?_|refine Z3 ?_|refine Z4 ?_|refine Z5 ?_|refine Z9 (by assumption) rfl ?_|refine ZA (by assumption) rfl ?_|refine ZB (by assumption) rfl ?_|refine Z6 ?_|refine Z7 ?_|refine Z8 ?_)|((with_reducible refine ZM ?_ ?_);(focus rfl)));(conv=>whnf)))
      refine HCall.mk ((step_no (br := br) (k := 0) (er := 22) (by omega)).mono ?_)
      rintro e h6 ⟨rfl, rfl⟩
      ((conv=>whnf);repeat((first|(with_reducible first|refine Z1 ?_|refine Z2 ?_|refine Z3 ?_|refine Z4 ?_|refine Z5 ?_|refine Z9 (by assumption) rfl ?_|refine ZA (by assumption) rfl ?_|refine ZB (by assumption) rfl ?_|refine Z6 ?_|refine Z7 ?_|refine Z8 ?_)|((with_reducible refine ZM ?_ ?_);(focus rfl)));(conv=>whnf)))
      simp only [rFin, if_pos hr]
      exact ⟨f5, rfl⟩

end Go.Proofs.Ythagjflkdoafmaa.Hc
