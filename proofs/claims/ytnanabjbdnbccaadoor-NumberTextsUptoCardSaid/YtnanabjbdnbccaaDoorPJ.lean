/- Both readings answer alike. -/
import Derived.Test.YtnanabjbdnbccaaDoorPI
set_option linter.unusedVariables false
set_option linter.unusedSimpArgs false
namespace Go.Proofs.YtnanabjbdnbccaaDoor.Hc
open Go Go.H Go.Proofs
set_option maxRecDepth 100000
set_option maxHeartbeats 4000000

theorem dv_rval : ∀ n, n < 128 → dv (UInt8.ofNat n) = rval n ∨ (16 ≤ dv (UInt8.ofNat n) ∧ 16 ≤ rval n) := by decide +kernel
def capN (o : Option Nat) : Option Nat := match o with
  | some u => if u ≤ 9007199254740991 then some u else none
  | none => none
theorem pdig_ge (base : Nat) (hb : 1 ≤ base) : ∀ (l : List UInt8) (acc u : Nat), pdig base l acc = some u → acc ≤ u
  | [], acc, u, h => by cases h; exact Nat.le_refl _
  | c :: r, acc, u, h => by
    have h' : (if dv c < base ∧ acc * base + dv c < 18446744073709551616 then pdig base r (acc * base + dv c) else none) = some u := h
    split at h'
    · have := pdig_ge base hb r _ _ h'
      have : acc ≤ acc * base := Nat.le_mul_of_pos_right _ hb
      omega
    · cases h'
theorem cap_big (base : Nat) (hb : 1 ≤ base) (l : List UInt8) (acc : Nat) (h : 9007199254740991 < acc) : capN (pdig base l acc) = none := by
  cases hp : pdig base l acc with
  | none => rfl
  | some u =>
    have := pdig_ge base hb l acc u hp
    exact if_neg (by omega)
theorem both_digits (base : Nat) (hb : base = 10 ∨ base = 16) : ∀ (t : List Nat) (acc : Nat), (∀ n ∈ t, n < 128) → capN (pdig base (t.map UInt8.ofNat) acc) = capN (refD base t acc)
  | [], acc, _ => rfl
  | d :: r, acc, h => by
    have hd := dv_rval d (h d (List.mem_cons_self ..))
    have ih := fun a => both_digits base hb r a fun n hn => h n (List.mem_cons_of_mem _ hn)
    show capN (if dv (UInt8.ofNat d) < base ∧ acc * base + dv (UInt8.ofNat d) < 18446744073709551616 then pdig base (r.map UInt8.ofNat) (acc * base + dv (UInt8.ofNat d)) else none) = capN (if rval d ≥ base ∨ acc > 9007199254740991 then none else refD base r (base * acc + rval d))
    by_cases hv : rval d ≥ base
    · rw [if_pos (Or.inl hv), if_neg]
      rintro ⟨k, _⟩
      rcases hd with e | ⟨e, _⟩
      · omega
      · rcases hb with rfl | rfl <;> omega
    have hb16 : base ≤ 16 := by rcases hb with rfl | rfl <;> omega
    have e : dv (UInt8.ofNat d) = rval d := by rcases hd with e | ⟨_, e⟩ <;> omega
    rw [e]
    by_cases ha : acc > 9007199254740991
    · rw [if_pos (Or.inr ha)]
      split
      · have : acc ≤ acc * base := Nat.le_mul_of_pos_right _ (by omega)
        exact cap_big base (by omega) _ _ (by omega)
      · rfl
    · have hm : acc * base ≤ 9007199254740991 * 16 := Nat.mul_le_mul (by omega) hb16
      rw [if_neg (show ¬ (rval d ≥ base ∨ acc > 9007199254740991) by omega), if_pos ⟨by omega, by omega⟩, Nat.mul_comm base acc]
      exact ih _
theorem okS_pos (o : Option Nat) : okS (posI o) = Option.map (fun u : Nat => (u : Int)) (capN o) := by
  cases o with
  | none => rfl
  | some u =>
    show okS (if u < 9223372036854775808 then some (u : Int) else none) = Option.map _ (if u ≤ 9007199254740991 then some u else none)
    by_cases h : u ≤ 9007199254740991
    · rw [if_pos (show u < 9223372036854775808 by omega), if_pos h]
      exact if_pos (sf_iff.2 (by omega))
    · rw [if_neg h]
      split
      · exact if_neg (by rw [sf_iff]; omega)
      · rfl
theorem okS_neg (o : Option Nat) : okS (negI o) = Option.map (fun u : Nat => -(u : Int)) (capN o) := by
  cases o with
  | none => rfl
  | some u =>
    show okS (if u ≤ 9223372036854775808 then some (-(u : Int)) else none) = Option.map _ (if u ≤ 9007199254740991 then some u else none)
    by_cases h : u ≤ 9007199254740991
    · rw [if_pos (show u ≤ 9223372036854775808 by omega), if_pos h]
      exact if_pos (sf_iff.2 (by omega))
    · rw [if_neg h]
      split
      · exact if_neg (by rw [sf_iff]; omega)
      · rfl
theorem told_cap (sg : Int) (hs : sg = 1 ∨ sg = -1) (o : Option Nat) : (match o with | some v => nTold (sg * v) true | none => none) = Option.map (fun u : Nat => sg * (u : Int)) (capN o) := by
  cases o with
  | none => rfl
  | some u =>
    show nTold (sg * u) true = Option.map _ (if u ≤ 9007199254740991 then some u else none)
    unfold nTold
    by_cases h : u ≤ 9007199254740991
    · rw [if_pos h, if_pos ⟨rfl, sf_iff.2 (by rcases hs with rfl | rfl <;> omega)⟩]; rfl
    · rw [if_neg h, if_neg]; · rfl
      rintro ⟨_, k⟩
      rw [sf_iff] at k
      rcases hs with rfl | rfl <;> omega
theorem refT_cap (base : Nat) (sg : Int) (hs : sg = 1 ∨ sg = -1) (m : List Nat) : refT (base, sg, m) = if m = [] then none else Option.map (fun u : Nat => sg * (u : Int)) (capN (refD base m 0)) := by
  show (if m = [] then none else _) = _
  split
  · rfl
  · exact told_cap sg hs _
theorem pmag_cap (base : Nat) (hb : base = 10 ∨ base = 16) (t : List Nat) (h : ∀ n ∈ t, n < 128) : capN (pmag base (t.map UInt8.ofNat)) = if t = [] then none else capN (refD base t 0) := by
  unfold pmag
  cases t with
  | nil => rfl
  | cons d r => rw [if_neg (by simp), if_neg (by simp)]; exact both_digits base hb _ _ h
theorem refD_bad (base : Nat) (hb : base ≤ 16) : ∀ (m : List Nat) (acc : Nat), (∃ d ∈ m, 16 ≤ rval d) → refD base m acc = none
  | [], _, h => by obtain ⟨d, hd, _⟩ := h; cases hd
  | x :: r, acc, h => by
    show (if rval x ≥ base ∨ acc > 9007199254740991 then none else refD base r (base * acc + rval x)) = none
    split
    · rfl
    · next hk =>
      obtain ⟨d, hd, h16⟩ := h
      rcases List.mem_cons.1 hd with rfl | hd
      · omega
      · exact refD_bad base hb r _ ⟨d, hd, h16⟩
theorem rval_bad {n : Nat} (h : badN n = true) : 16 ≤ rval n := by
  unfold badN at h
  rw [decide_eq_true_eq] at h
  unfold rval
  rw [if_neg (by omega), if_neg (by omega), if_neg (by omega)]; decide
theorem tn {n : Nat} (h : n < 128) : (UInt8.ofNat n).toNat = n := by rw [UInt8.toNat_ofNat']; omega

theorem both_read (t : List Nat) : readU t = refU t := by
  unfold readU refU
  by_cases ht : t = []
  · rw [if_pos ht, if_pos ht]
  rw [if_neg ht, if_neg ht]
  by_cases hbad : t.any badN = true
  · rw [if_pos hbad]
    rw [List.any_eq_true] at hbad
    obtain ⟨x, hx, hb⟩ := hbad
    have h16 := rval_bad hb
    have hx128 : x ≠ 43 ∧ x ≠ 45 ∧ x ≠ 48 ∧ x ≠ 120 ∧ x ≠ 88 := by unfold badN at hb; rw [decide_eq_true_eq] at hb; omega
    have key : (refB t).1 ≤ 16 ∧ x ∈ (refB t).2.2 := by
      match t, hx with
      | c :: r, hx =>
        by_cases h43 : c = 43
        · rw [show refB (c :: r) = (10, 1, r) from if_pos h43]
          rcases List.mem_cons.1 hx with rfl | hx
          · omega
          · exact ⟨Nat.le_of_ble_eq_true rfl, hx⟩
        by_cases h45 : c = 45
        · rw [show refB (c :: r) = (10, -1, r) from (if_neg h43).trans (if_pos h45)]
          rcases List.mem_cons.1 hx with rfl | hx
          · omega
          · exact ⟨Nat.le_of_ble_eq_true rfl, hx⟩
        match r, hx with
        | [], hx => rw [show refB [c] = (10, 1, [c]) from (if_neg h43).trans (if_neg h45)]; exact ⟨Nat.le_of_ble_eq_true rfl, hx⟩
        | y :: r', hx =>
          by_cases hh : c = 48 ∧ (y = 120 ∨ y = 88)
          · rw [show refB (c :: y :: r') = (16, 1, r') from ((if_neg h43).trans (if_neg h45)).trans (if_pos hh)]
            simp only [List.mem_cons] at hx
            rcases hx with rfl | rfl | hx
            · omega
            · omega
            · exact ⟨Nat.le_of_ble_eq_true rfl, hx⟩
          · rw [show refB (c :: y :: r') = (10, 1, c :: y :: r') from ((if_neg h43).trans (if_neg h45)).trans (if_neg hh)]
            exact ⟨Nat.le_of_ble_eq_true rfl, hx⟩
    unfold refT
    split
    · rfl
    · rw [refD_bad _ key.1 _ _ ⟨x, key.2, h16⟩]
  rw [if_neg hbad]
  have hg : ∀ n ∈ t, n < 128 := by
    intro n hn
    rcases Nat.lt_or_ge n 128 with h | h
    · exact h
    · exact absurd (List.any_eq_true.2 ⟨n, hn, by unfold badN; rw [decide_eq_true_eq]; omega⟩) hbad
  clear hbad
  match t, ht, hg with
  | c :: r, ht, hg =>
    have hc := tn (hg c (List.mem_cons_self ..))
    have hr : ∀ n ∈ r, n < 128 := fun n hn => hg n (List.mem_cons_of_mem _ hn)
    have plain : ∀ l : List UInt8, hexR l = none → readT l = pint 10 l := fun l h => by unfold readT; rw [h]
    have hx0 : ∀ (s : List UInt8), c ≠ 48 → hexR (UInt8.ofNat c :: s) = none := by
      intro s h48
      match s with
      | [] => rfl
      | [_] => rfl
      | _ :: _ :: _ => exact if_neg (by rw [hc]; omega)
    rw [List.map_cons]
    by_cases h43 : c = 43
    · rw [show refB (c :: r) = (10, 1, r) from if_pos h43, refT_cap _ _ (.inl rfl), plain _ (hx0 _ (by omega))]
      rw [show pint 10 (UInt8.ofNat c :: r.map UInt8.ofNat) = posI (pmag 10 (r.map UInt8.ofNat)) from if_pos (by rw [hc]; exact h43)]
      rw [okS_pos, pmag_cap 10 (.inl rfl) r hr]
      split
      · rfl
      · simp only [Int.one_mul]
    by_cases h45 : c = 45
    · rw [show refB (c :: r) = (10, -1, r) from (if_neg h43).trans (if_pos h45), refT_cap _ _ (.inr rfl), plain _ (hx0 _ (by omega))]
      rw [show pint 10 (UInt8.ofNat c :: r.map UInt8.ofNat) = negI (pmag 10 (r.map UInt8.ofNat)) from (if_neg (by rw [hc]; exact h43)).trans (if_pos (by rw [hc]; exact h45))]
      rw [okS_neg, pmag_cap 10 (.inl rfl) r hr]
      split
      · rfl
      · simp only [Int.neg_mul, Int.one_mul]
    have pos10 : ∀ b, pint b (UInt8.ofNat c :: r.map UInt8.ofNat) = posI (pmag b ((c :: r).map UInt8.ofNat)) := fun b => (if_neg (by rw [hc]; exact h43)).trans (if_neg (by rw [hc]; exact h45))
    have dec : hexR (UInt8.ofNat c :: r.map UInt8.ofNat) = none → refB (c :: r) = (10, 1, c :: r) → okS (readT (UInt8.ofNat c :: r.map UInt8.ofNat)) = refT (refB (c :: r)) := by
      intro h1 h2
      rw [plain _ h1, h2, refT_cap _ _ (.inl rfl), pos10, okS_pos, pmag_cap 10 (.inl rfl) _ hg]
      split
      · rfl
      · simp only [Int.one_mul]
    match r, hr, dec, pos10, hg with
    | [], hr, dec, pos10, hg => exact dec rfl ((if_neg h43).trans (if_neg h45))
    | y :: r', hr, dec, pos10, hg =>
      have hy := tn (hr y (List.mem_cons_self ..))
      by_cases hh : c = 48 ∧ (y = 120 ∨ y = 88)
      · rw [show refB (c :: y :: r') = (16, 1, r') from ((if_neg h43).trans (if_neg h45)).trans (if_pos hh), refT_cap _ _ (.inl rfl)]
        match r', hr with
        | [], hr =>
          obtain ⟨rfl, rfl | rfl⟩ := hh
          · decide +kernel
          · decide +kernel
        | z :: r'', hr =>
          have hz := tn (hr z (by simp))
          have hr' : ∀ n ∈ z :: r'', n < 128 := fun n hn => hr n (List.mem_cons_of_mem _ hn)
          have h1 : hexR (UInt8.ofNat c :: UInt8.ofNat y :: UInt8.ofNat z :: r''.map UInt8.ofNat) = some (UInt8.ofNat z :: r''.map UInt8.ofNat) := if_pos (by rw [hc, hy]; exact hh)
          have h2 : readT (UInt8.ofNat c :: UInt8.ofNat y :: UInt8.ofNat z :: r''.map UInt8.ofNat) = if (UInt8.ofNat z).toNat = 45 ∨ (UInt8.ofNat z).toNat = 43 then none else pint 16 (UInt8.ofNat z :: r''.map UInt8.ofNat) := by unfold readT; rw [h1]
          rw [List.map_cons, List.map_cons, h2, hz, if_neg (show ¬ (z :: r'' = []) from List.cons_ne_nil _ _)]
          by_cases hs : z = 45 ∨ z = 43
          · rw [if_pos hs]
            have : rval z = 99 := by rcases hs with rfl | rfl <;> rfl
            rw [refD_bad 16 (Nat.le_refl _) _ _ ⟨z, by simp, by omega⟩]
            rfl
          · rw [if_neg hs]
            rw [show pint 16 (UInt8.ofNat z :: r''.map UInt8.ofNat) = posI (pmag 16 ((z :: r'').map UInt8.ofNat)) from (if_neg (by rw [hz]; omega)).trans (if_neg (by rw [hz]; omega))]
            rw [okS_pos, pmag_cap 16 (.inr rfl) _ hr', if_neg (show ¬ (z :: r'' = []) from List.cons_ne_nil _ _)]
            simp only [Int.one_mul]
      · refine dec ?_ (((if_neg h43).trans (if_neg h45)).trans (if_neg hh))
        match r' with
        | [] => rfl
        | z :: r'' => exact if_neg (by rw [hc, hy]; exact hh)
theorem ref_read (l : List UInt8) : refN l = readN l := by
  unfold refN readN
  rw [both_read]

end Go.Proofs.YtnanabjbdnbccaaDoor.Hc
