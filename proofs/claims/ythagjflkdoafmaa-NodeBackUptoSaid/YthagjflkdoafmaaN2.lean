import Derived.Test.YthagjflkdoafmaaN1
set_option linter.unusedVariables false
set_option linter.unusedSimpArgs false
namespace Go.Proofs.Ythagjflkdoafmaa.Hc
open Go Go.H Go.Proofs
set_option maxRecDepth 100000
set_option maxHeartbeats 4000000

theorem rmayN_spec {d : ND} {h : Heap} {cs : List Value} (ra : NRep h d cs) :
    HCalls Try.prog 27 #[.agg cs.toArray] h fun e h' => ∃ r, e = .returned (.bool r) ∧ (r = true ↔ NMay d) ∧ Ext h h' := by
  obtain ⟨a1, a2, a3, a4, a5, a6, ka, kc, va, vc, ia, ic, rfl, s1, s2, s3⟩ := ra
  refine c27 (by simp) ?_
  (conv => whnf)
  refine new_var (e := 25) [.slice ka d.keys.length kc, .slice va d.vals.length vc, .slice ia d.kids.length ic] rfl ?_
  intro h1 bx ox x1 z1 hbx
  have t1 := s1.ext x1
  have t2 := s2.ext x1
  have t3 := s3.ext x1
  have no : ∀ {hh : Heap}, Ext h hh → ¬ NMay d → ∃ r, Ending.returned (.bool false) = .returned (.bool r) ∧ (r = true ↔ NMay d) ∧ Ext h hh := fun x hn => ⟨false, rfl, by simpa using hn, x⟩
  ((conv=>whnf);repeat((first|(with_reducible first|refine Z2 ?_|refine Z3 ?_|refine Z4 ?_|refine Z5 ?_|refine Z9 (by assumption) rfl ?_|refine ZA (by assumption) rfl ?_|refine ZB (by assumption) rfl ?_|refine Z6 ?_|refine Z7 ?_|refine Z8 ?_)|(with_reducible refine ZM ?_ ?_;(focus rfl)));(conv=>whnf)))
  refine cut_rule [] (fun vs h' => (∀ j, j < d.keys.length → KeyOk d.keys j) ∧ h' = h1) rfl ?_ ?_
  · ((conv=>whnf);repeat((first|(with_reducible first|refine Z1 ?_|refine Z2 ?_|refine Z3 ?_|refine Z4 ?_|refine Z5 ?_|refine Z9 (by assumption) rfl ?_|refine ZA (by assumption) rfl ?_|refine ZB (by assumption) rfl ?_|refine Z6 ?_|refine Z7 ?_|refine Z8 ?_)|(with_reducible refine ZM ?_ ?_;(focus rfl)));(conv=>whnf)))
    refine loop_rule [12] (fun vs h' => ∃ (i : Nat), vs = [.int .i64 i] ∧ i ≤ d.keys.length ∧ (∀ j, j < i → KeyOk d.keys j) ∧ h' = h1)
      (fun vs _ => match vs with | [.int _ i] => d.keys.length - i.toNat | _ => 0) rfl ?_ ?_
    · exact ⟨0, rfl, by omega, by simp, rfl⟩
    · intro u h1 v12
      rintro ⟨i, e, hi, hk, rfl⟩
      cases e
      ((conv=>whnf);repeat((first|(with_reducible first|refine Z1 ?_|refine Z2 ?_|refine Z3 ?_|refine Z4 ?_|refine Z5 ?_|refine Z9 (by assumption) rfl ?_|refine ZA (by assumption) rfl ?_|refine ZB (by assumption) rfl ?_|refine Z6 ?_|refine Z7 ?_|refine Z8 ?_)|(with_reducible refine ZM ?_ ?_;(focus rfl)));(conv=>whnf)))
      refine HIf.mk (fun hlt => ?_) (fun hlt => ?_)
      · have hi1 : i < d.keys.length := by have := of_decide_eq_true hlt; omega
        have hmu : d.keys.length - ((i : Int) + 1).toNat < d.keys.length - ((i : Int)).toNat := by omega
        have bad : ¬ KeyOk d.keys i → ¬ NMay d := fun hn hm => hn (hm.2.1 i hi1)
        have good : KeyOk d.keys i → ∀ j, j < i + 1 → KeyOk d.keys j := by
          intro h j hj
          rcases Nat.lt_succ_iff_lt_or_eq.1 hj with hj | rfl
          · exact hk j hj
          · exact h
        ((conv=>whnf);repeat((first|(with_reducible first|refine Z1 ?_|refine Z2 ?_|refine Z3 ?_|refine Z4 ?_|refine Z5 ?_|refine Z9 (by assumption) rfl ?_|refine ZA (by assumption) rfl ?_|refine ZB (by assumption) rfl ?_|refine Z6 ?_|refine Z7 ?_|refine Z8 ?_)|(with_reducible refine ZM ?_ ?_;(focus rfl)));(conv=>whnf)))
        refine HIdx.mk i rfl hi1 ?_
        refine sl_some t1 hi1 fun p ep => ?_
        ((conv=>whnf);repeat((first|(with_reducible first|refine Z1 ?_|refine Z2 ?_|refine Z3 ?_|refine Z4 ?_|refine Z5 ?_|refine Z9 (by assumption) rfl ?_|refine ZA (by assumption) rfl ?_|refine ZB (by assumption) rfl ?_|refine Z6 ?_|refine Z7 ?_|refine Z8 ?_)|(with_reducible refine ZM ?_ ?_;(focus rfl)));(conv=>whnf)))
        refine t1.load ep (by simpa using hi1) ?_
        rw [List.getElem_map]
        by_cases hsz : d.keys[i].size > 256
        · have q2 : decide ((d.keys[i].size : Int) > 256) = true := decide_eq_true (by omega)
          ((conv=>whnf);repeat((first|(with_reducible first|refine Z1 ?_|refine Z2 ?_|refine Z3 ?_|refine Z4 ?_|refine Z5 ?_|refine Z9 (by assumption) rfl ?_|refine ZA (by assumption) rfl ?_|refine ZB (by assumption) rfl ?_|refine Z6 ?_|refine Z7 ?_|refine Z8 ?_)|(with_reducible refine ZM ?_ ?_;(focus rfl)));(conv=>whnf)))
          exact no x1 (bad fun h => by have := (h hi1).1; omega)
        · have q2 : decide ((d.keys[i].size : Int) > 256) = false := decide_eq_false (by omega)
          by_cases hz : i = 0
          · subst hz
            have q3 : decide ((((0 : Nat)) : Int) > 0) = false := rfl
            ((conv=>whnf);repeat((first|(with_reducible first|refine Z1 ?_|refine Z2 ?_|refine Z3 ?_|refine Z4 ?_|refine Z5 ?_|refine Z9 (by assumption) rfl ?_|refine ZA (by assumption) rfl ?_|refine ZB (by assumption) rfl ?_|refine Z6 ?_|refine Z7 ?_|refine Z8 ?_)|(with_reducible refine ZM ?_ ?_;(focus rfl)));(conv=>whnf)))
            exact ⟨⟨1, rfl, by omega, good fun hj => ⟨by omega, fun h => absurd h (by omega)⟩, rfl⟩, hmu⟩
          · have q3 : decide ((i : Int) > 0) = true := decide_eq_true (by omega)
            have hi0 : i - 1 < d.keys.length := by omega
            ((conv=>whnf);repeat((first|(with_reducible first|refine Z1 ?_|refine Z2 ?_|refine Z3 ?_|refine Z4 ?_|refine Z5 ?_|refine Z9 (by assumption) rfl ?_|refine ZA (by assumption) rfl ?_|refine ZB (by assumption) rfl ?_|refine Z6 ?_|refine Z7 ?_|refine Z8 ?_)|(with_reducible refine ZM ?_ ?_;(focus rfl)));(conv=>whnf)))
            refine HIdx.mk (i - 1) (by omega) hi0 ?_
            refine sl_some t1 hi0 fun p2 ep2 => ?_
            ((conv=>whnf);repeat((first|(with_reducible first|refine Z1 ?_|refine Z2 ?_|refine Z3 ?_|refine Z4 ?_|refine Z5 ?_|refine Z9 (by assumption) rfl ?_|refine ZA (by assumption) rfl ?_|refine ZB (by assumption) rfl ?_|refine Z6 ?_|refine Z7 ?_|refine Z8 ?_)|(with_reducible refine ZM ?_ ?_;(focus rfl)));(conv=>whnf)))
            refine t1.load ep2 (by simpa using hi0) ?_
            rw [List.getElem_map]
            ((conv=>whnf);repeat((first|(with_reducible first|refine Z1 ?_|refine Z2 ?_|refine Z3 ?_|refine Z4 ?_|refine Z5 ?_|refine Z9 (by assumption) rfl ?_|refine ZA (by assumption) rfl ?_|refine ZB (by assumption) rfl ?_|refine Z6 ?_|refine Z7 ?_|refine Z8 ?_)|(with_reducible refine ZM ?_ ?_;(focus rfl)));(conv=>whnf)))
            refine HIf.mk (fun hcmp => ?_) (fun hcmp => ?_)
            · ((conv=>whnf);repeat((first|(with_reducible first|refine Z1 ?_|refine Z2 ?_|refine Z3 ?_|refine Z4 ?_|refine Z5 ?_|refine Z9 (by assumption) rfl ?_|refine ZA (by assumption) rfl ?_|refine ZB (by assumption) rfl ?_|refine Z6 ?_|refine Z7 ?_|refine Z8 ?_)|(with_reducible refine ZM ?_ ?_;(focus rfl)));(conv=>whnf)))
              refine no x1 (bad fun h => ?_)
              have := (h hi1).2 (by omega)
              rw [this] at hcmp; cases hcmp
            · ((conv=>whnf);repeat((first|(with_reducible first|refine Z1 ?_|refine Z2 ?_|refine Z3 ?_|refine Z4 ?_|refine Z5 ?_|refine Z9 (by assumption) rfl ?_|refine ZA (by assumption) rfl ?_|refine ZB (by assumption) rfl ?_|refine Z6 ?_|refine Z7 ?_|refine Z8 ?_)|(with_reducible refine ZM ?_ ?_;(focus rfl)));(conv=>whnf)))
              refine ⟨⟨i + 1, rfl, by omega, good fun hj => ⟨by omega, fun _ => by simpa using hcmp⟩, rfl⟩, hmu⟩
      · have hge := of_decide_eq_false hlt
        obtain rfl : i = d.keys.length := by omega
        ((conv=>whnf);repeat((first|(with_reducible first|refine Z1 ?_|refine Z2 ?_|refine Z3 ?_|refine Z4 ?_|refine Z5 ?_|refine Z9 (by assumption) rfl ?_|refine ZA (by assumption) rfl ?_|refine ZB (by assumption) rfl ?_|refine Z6 ?_|refine Z7 ?_|refine Z8 ?_)|(with_reducible refine ZM ?_ ?_;(focus rfl)));(conv=>whnf)))
        exact ⟨hk, rfl⟩
  intro u h1
  rintro ⟨hkeys, rfl⟩
  ((conv=>whnf);repeat((first|(with_reducible first|refine Z2 ?_|refine Z3 ?_|refine Z4 ?_|refine Z5 ?_|refine Z9 (by assumption) rfl ?_|refine ZA (by assumption) rfl ?_|refine ZB (by assumption) rfl ?_|refine Z6 ?_|refine Z7 ?_|refine Z8 ?_)|(with_reducible refine ZM ?_ ?_;(focus rfl)));(conv=>whnf)))
  refine cut_rule [] (fun vs h' => (∀ v ∈ d.vals, v.size ≤ 1024) ∧ h' = h1) rfl ?_ ?_
  · ((conv=>whnf);repeat((first|(with_reducible first|refine Z1 ?_|refine Z2 ?_|refine Z3 ?_|refine Z4 ?_|refine Z5 ?_|refine Z9 (by assumption) rfl ?_|refine ZA (by assumption) rfl ?_|refine ZB (by assumption) rfl ?_|refine Z6 ?_|refine Z7 ?_|refine Z8 ?_)|(with_reducible refine ZM ?_ ?_;(focus rfl)));(conv=>whnf)))
    refine loop_rule [38] (fun vs h' => ∃ (i : Nat), vs = [.int .i64 i] ∧ i ≤ d.vals.length ∧ (∀ v ∈ d.vals.take i, v.size ≤ 1024) ∧ h' = h1)
      (fun vs _ => match vs with | [.int _ i] => d.vals.length - i.toNat | _ => 0) rfl ?_ ?_
    · exact ⟨0, rfl, by omega, by simp, rfl⟩
    · intro u h1 v38
      rintro ⟨i, e, hi, hk, rfl⟩
      cases e
      ((conv=>whnf);repeat((first|(with_reducible first|refine Z1 ?_|refine Z2 ?_|refine Z3 ?_|refine Z4 ?_|refine Z5 ?_|refine Z9 (by assumption) rfl ?_|refine ZA (by assumption) rfl ?_|refine ZB (by assumption) rfl ?_|refine Z6 ?_|refine Z7 ?_|refine Z8 ?_)|(with_reducible refine ZM ?_ ?_;(focus rfl)));(conv=>whnf)))
      refine HIf.mk (fun hlt => ?_) (fun hlt => ?_)
      · have hi1 : i < d.vals.length := by have := of_decide_eq_true hlt; omega
        have hmu : d.vals.length - ((i : Int) + 1).toNat < d.vals.length - ((i : Int)).toNat := by omega
        ((conv=>whnf);repeat((first|(with_reducible first|refine Z1 ?_|refine Z2 ?_|refine Z3 ?_|refine Z4 ?_|refine Z5 ?_|refine Z9 (by assumption) rfl ?_|refine ZA (by assumption) rfl ?_|refine ZB (by assumption) rfl ?_|refine Z6 ?_|refine Z7 ?_|refine Z8 ?_)|(with_reducible refine ZM ?_ ?_;(focus rfl)));(conv=>whnf)))
        refine HIdx.mk i rfl hi1 ?_
        refine sl_some t2 hi1 fun p ep => ?_
        ((conv=>whnf);repeat((first|(with_reducible first|refine Z1 ?_|refine Z2 ?_|refine Z3 ?_|refine Z4 ?_|refine Z5 ?_|refine Z9 (by assumption) rfl ?_|refine ZA (by assumption) rfl ?_|refine ZB (by assumption) rfl ?_|refine Z6 ?_|refine Z7 ?_|refine Z8 ?_)|(with_reducible refine ZM ?_ ?_;(focus rfl)));(conv=>whnf)))
        refine t2.load ep (by simpa using hi1) ?_
        rw [List.getElem_map]
        ((conv=>whnf);repeat((first|(with_reducible first|refine Z1 ?_|refine Z2 ?_|refine Z3 ?_|refine Z4 ?_|refine Z5 ?_|refine Z9 (by assumption) rfl ?_|refine ZA (by assumption) rfl ?_|refine ZB (by assumption) rfl ?_|refine Z6 ?_|refine Z7 ?_|refine Z8 ?_)|(with_reducible refine ZM ?_ ?_;(focus rfl)));(conv=>whnf)))
        refine HIf.mk (fun hcmp => ?_) (fun hcmp => ?_)
        · have hcmp' := of_decide_eq_true hcmp
          ((conv=>whnf);repeat((first|(with_reducible first|refine Z1 ?_|refine Z2 ?_|refine Z3 ?_|refine Z4 ?_|refine Z5 ?_|refine Z9 (by assumption) rfl ?_|refine ZA (by assumption) rfl ?_|refine ZB (by assumption) rfl ?_|refine Z6 ?_|refine Z7 ?_|refine Z8 ?_)|(with_reducible refine ZM ?_ ?_;(focus rfl)));(conv=>whnf)))
          exact no x1 fun hm => by have := hm.2.2.1 _ (List.getElem_mem hi1); omega
        · have hcmp' := of_decide_eq_false hcmp
          ((conv=>whnf);repeat((first|(with_reducible first|refine Z1 ?_|refine Z2 ?_|refine Z3 ?_|refine Z4 ?_|refine Z5 ?_|refine Z9 (by assumption) rfl ?_|refine ZA (by assumption) rfl ?_|refine ZB (by assumption) rfl ?_|refine Z6 ?_|refine Z7 ?_|refine Z8 ?_)|(with_reducible refine ZM ?_ ?_;(focus rfl)));(conv=>whnf)))
          refine ⟨⟨i + 1, rfl, by omega, ?_, rfl⟩, hmu⟩
          intro v hv
          rw [List.take_add_one, List.getElem?_eq_getElem hi1] at hv
          rcases List.mem_append.1 hv with hv | hv
          · exact hk v hv
          · simp only [Option.toList_some, List.mem_singleton] at hv; subst hv; omega
      · have hge := of_decide_eq_false hlt
        rw [List.take_of_length_le (by omega)] at hk
        ((conv=>whnf);repeat((first|(with_reducible first|refine Z1 ?_|refine Z2 ?_|refine Z3 ?_|refine Z4 ?_|refine Z5 ?_|refine Z9 (by assumption) rfl ?_|refine ZA (by assumption) rfl ?_|refine ZB (by assumption) rfl ?_|refine Z6 ?_|refine Z7 ?_|refine Z8 ?_)|(with_reducible refine ZM ?_ ?_;(focus rfl)));(conv=>whnf)))
        exact ⟨hk, rfl⟩
  intro u h1
  rintro ⟨hvals, rfl⟩
  ((conv=>whnf);repeat((first|(with_reducible first|refine Z2 ?_|refine Z3 ?_|refine Z4 ?_|refine Z5 ?_|refine Z9 (by assumption) rfl ?_|refine ZA (by assumption) rfl ?_|refine ZB (by assumption) rfl ?_|refine Z6 ?_|refine Z7 ?_|refine Z8 ?_)|(with_reducible refine ZM ?_ ?_;(focus rfl)));(conv=>whnf)))
  refine cut_rule [] (fun vs h' => (∀ k ∈ d.kids, 1 ≤ k ∧ k ≤ 2147483647) ∧ h' = h1) rfl ?_ ?_
  · ((conv=>whnf);repeat((first|(with_reducible first|refine Z1 ?_|refine Z2 ?_|refine Z3 ?_|refine Z4 ?_|refine Z5 ?_|refine Z9 (by assumption) rfl ?_|refine ZA (by assumption) rfl ?_|refine ZB (by assumption) rfl ?_|refine Z6 ?_|refine Z7 ?_|refine Z8 ?_)|(with_reducible refine ZM ?_ ?_;(focus rfl)));(conv=>whnf)))
    refine loop_rule [49] (fun vs h' => ∃ (i : Nat), vs = [.int .i64 i] ∧ i ≤ d.kids.length ∧ (∀ k ∈ d.kids.take i, 1 ≤ k ∧ k ≤ 2147483647) ∧ h' = h1)
      (fun vs _ => match vs with | [.int _ i] => d.kids.length - i.toNat | _ => 0) rfl ?_ ?_
    · exact ⟨0, rfl, by omega, by simp, rfl⟩
    · intro u h1 v49
      rintro ⟨i, e, hi, hk, rfl⟩
      cases e
      ((conv=>whnf);repeat((first|(with_reducible first|refine Z1 ?_|refine Z2 ?_|refine Z3 ?_|refine Z4 ?_|refine Z5 ?_|refine Z9 (by assumption) rfl ?_|refine ZA (by assumption) rfl ?_|refine ZB (by assumption) rfl ?_|refine Z6 ?_|refine Z7 ?_|refine Z8 ?_)|(with_reducible refine ZM ?_ ?_;(focus rfl)));(conv=>whnf)))
      refine HIf.mk (fun hlt => ?_) (fun hlt => ?_)
      · have hi1 : i < d.kids.length := by have := of_decide_eq_true hlt; omega
        have hmu : d.kids.length - ((i : Int) + 1).toNat < d.kids.length - ((i : Int)).toNat := by omega
        ((conv=>whnf);repeat((first|(with_reducible first|refine Z1 ?_|refine Z2 ?_|refine Z3 ?_|refine Z4 ?_|refine Z5 ?_|refine Z9 (by assumption) rfl ?_|refine ZA (by assumption) rfl ?_|refine ZB (by assumption) rfl ?_|refine Z6 ?_|refine Z7 ?_|refine Z8 ?_)|(with_reducible refine ZM ?_ ?_;(focus rfl)));(conv=>whnf)))
        refine HIdx.mk i rfl hi1 ?_
        refine sl_some t3 hi1 fun p ep => ?_
        ((conv=>whnf);repeat((first|(with_reducible first|refine Z1 ?_|refine Z2 ?_|refine Z3 ?_|refine Z4 ?_|refine Z5 ?_|refine Z9 (by assumption) rfl ?_|refine ZA (by assumption) rfl ?_|refine ZB (by assumption) rfl ?_|refine Z6 ?_|refine Z7 ?_|refine Z8 ?_)|(with_reducible refine ZM ?_ ?_;(focus rfl)));(conv=>whnf)))
        refine t3.load ep (by simpa using hi1) ?_
        rw [List.getElem_map]
        by_cases hk1 : d.kids[i] < 1
        · have q2 : decide (d.kids[i] < 1) = true := decide_eq_true hk1
          ((conv=>whnf);repeat((first|(with_reducible first|refine Z1 ?_|refine Z2 ?_|refine Z3 ?_|refine Z4 ?_|refine Z5 ?_|refine Z9 (by assumption) rfl ?_|refine ZA (by assumption) rfl ?_|refine ZB (by assumption) rfl ?_|refine Z6 ?_|refine Z7 ?_|refine Z8 ?_)|(with_reducible refine ZM ?_ ?_;(focus rfl)));(conv=>whnf)))
          exact no x1 fun hm => by have := hm.2.2.2 _ (List.getElem_mem hi1); omega
        · have q2 : decide (d.kids[i] < 1) = false := decide_eq_false hk1
          ((conv=>whnf);repeat((first|(with_reducible first|refine Z1 ?_|refine Z2 ?_|refine Z3 ?_|refine Z4 ?_|refine Z5 ?_|refine Z9 (by assumption) rfl ?_|refine ZA (by assumption) rfl ?_|refine ZB (by assumption) rfl ?_|refine Z6 ?_|refine Z7 ?_|refine Z8 ?_)|(with_reducible refine ZM ?_ ?_;(focus rfl)));(conv=>whnf)))
          refine HIf.mk (fun hcmp => ?_) (fun hcmp => ?_)
          · have hcmp' := of_decide_eq_true hcmp
            ((conv=>whnf);repeat((first|(with_reducible first|refine Z1 ?_|refine Z2 ?_|refine Z3 ?_|refine Z4 ?_|refine Z5 ?_|refine Z9 (by assumption) rfl ?_|refine ZA (by assumption) rfl ?_|refine ZB (by assumption) rfl ?_|refine Z6 ?_|refine Z7 ?_|refine Z8 ?_)|(with_reducible refine ZM ?_ ?_;(focus rfl)));(conv=>whnf)))
            exact no x1 fun hm => by have := hm.2.2.2 _ (List.getElem_mem hi1); omega
          · have hcmp' := of_decide_eq_false hcmp
            ((conv=>whnf);repeat((first|(with_reducible first|refine Z1 ?_|refine Z2 ?_|refine Z3 ?_|refine Z4 ?_|refine Z5 ?_|refine Z9 (by assumption) rfl ?_|refine ZA (by assumption) rfl ?_|refine ZB (by assumption) rfl ?_|refine Z6 ?_|refine Z7 ?_|refine Z8 ?_)|(with_reducible refine ZM ?_ ?_;(focus rfl)));(conv=>whnf)))
            refine ⟨⟨i + 1, rfl, by omega, ?_, rfl⟩, hmu⟩
            intro v hv
            rw [List.take_add_one, List.getElem?_eq_getElem hi1] at hv
            rcases List.mem_append.1 hv with hv | hv
            · exact hk v hv
            · simp only [Option.toList_some, List.mem_singleton] at hv; subst hv; omega
      · have hge := of_decide_eq_false hlt
        rw [List.take_of_length_le (by omega)] at hk
        ((conv=>whnf);repeat((first|(with_reducible first|refine Z1 ?_|refine Z2 ?_|refine Z3 ?_|refine Z4 ?_|refine Z5 ?_|refine Z9 (by assumption) rfl ?_|refine ZA (by assumption) rfl ?_|refine ZB (by assumption) rfl ?_|refine Z6 ?_|refine Z7 ?_|refine Z8 ?_)|(with_reducible refine ZM ?_ ?_;(focus rfl)));(conv=>whnf)))
        exact ⟨hk, rfl⟩
  intro u h1
  rintro ⟨hkids, rfl⟩
  have hall : NMay d ↔ Many d := by unfold NMay; exact ⟨fun h => h.1, fun h => ⟨h, hkeys, hvals, hkids⟩⟩
  have hk0 : d.kids = [] ↔ d.kids.length = 0 := List.length_eq_zero_iff.symm
  have hv0 : d.vals = [] ↔ d.vals.length = 0 := List.length_eq_zero_iff.symm
  ((conv=>whnf);repeat'(first|((with_reducible refine ZM ?_ ?_);(focus rfl);(conv=>whnf))|((with_reducible first|refine Z1 ?_|refine Z2 ?_|refine Z3 ?_|refine Z4 ?_|refine Z9 (by assumption) rfl ?_|refine Z5 ?_);(conv=>whnf))|((with_reducible refine HIf.mk (fun q=> ?_) (fun q=> ?_))<;>(conv=>whnf))))
  all_goals
    refine ⟨_, rfl, ?_, x1⟩
    rw [hall]
    clear a4 a5 a6 s1 s2 s3 t1 t2 t3 ox x1 z1 hbx hall hkeys hvals hkids no
    simp only [decide_eq_true_eq, decide_eq_false_iff_not, beq_iff_eq, beq_eq_false_iff_ne, Bool.false_eq_true, false_and, ne_eq] at *
    unfold Many
    rw [hk0, hv0]
    refine ⟨fun hh => ?_, fun hh => ?_⟩ <;> first | omega | exact hh.elim | (exfalso; omega)

theorem rCheckN_spec {d : ND} {h : Heap} {cs : List Value} (ra : NRep h d cs) :
    HCalls Try.prog 15 #[.agg cs.toArray] h fun e h' => ∃ r, e = .returned (.int .i64 (errN r)) ∧ (r = true ↔ NMay d) ∧ Ext h h' := by
  refine c15 (by simp) ?_
  (conv => whnf)
  refine new_var (e := 25) cs rfl ?_
  intro h1 bx ox x1 z1 hbx
  ((conv=>whnf);repeat((first|(with_reducible first|refine Z1 ?_|refine Z2 ?_|refine Z3 ?_|refine Z4 ?_|refine Z5 ?_|refine Z9 (by assumption) rfl ?_|refine ZA (by assumption) rfl ?_|refine ZB (by assumption) rfl ?_|refine Z6 ?_|refine Z7 ?_|refine Z8 ?_)|(with_reducible refine ZM ?_ ?_;(focus rfl)));(conv=>whnf)))
  refine blk_ldN ox ra.len ?_
  ((conv=>whnf);repeat((first|(with_reducible first|refine Z1 ?_|refine Z2 ?_|refine Z3 ?_|refine Z4 ?_|refine Z5 ?_|refine Z9 (by assumption) rfl ?_|refine ZA (by assumption) rfl ?_|refine ZB (by assumption) rfl ?_|refine Z6 ?_|refine Z7 ?_|refine Z8 ?_)|(with_reducible refine ZM ?_ ?_;(focus rfl)));(conv=>whnf)))
  refine HCall.mk ((rmayN_spec (ra.ext x1)).mono ?_)
  rintro e h2 ⟨r, rfl, hr, x2⟩
  cases r
  · ((conv=>whnf);repeat((first|(with_reducible first|refine Z1 ?_|refine Z2 ?_|refine Z3 ?_|refine Z4 ?_|refine Z5 ?_|refine Z9 (by assumption) rfl ?_|refine ZA (by assumption) rfl ?_|refine ZB (by assumption) rfl ?_|refine Z6 ?_|refine Z7 ?_|refine Z8 ?_)|(with_reducible refine ZM ?_ ?_;(focus rfl)));(conv=>whnf)))
    exact ⟨false, rfl, hr, x1.trans x2⟩
  · ((conv=>whnf);repeat((first|(with_reducible first|refine Z1 ?_|refine Z2 ?_|refine Z3 ?_|refine Z4 ?_|refine Z5 ?_|refine Z9 (by assumption) rfl ?_|refine ZA (by assumption) rfl ?_|refine ZB (by assumption) rfl ?_|refine Z6 ?_|refine Z7 ?_|refine Z8 ?_)|(with_reducible refine ZM ?_ ?_;(focus rfl)));(conv=>whnf)))
    exact ⟨true, rfl, hr, x1.trans x2⟩

end Go.Proofs.Ythagjflkdoafmaa.Hc
