/- What a number's text reads as, with blanks around it. -/
import Derived.Test.YtnanabjbdnbccaaDoorP9
set_option linter.unusedVariables false
set_option linter.unusedSimpArgs false
namespace Go.Proofs.YtnanabjbdnbccaaDoor.Hc
open Go Go.H Go.Proofs
set_option maxRecDepth 100000
set_option maxHeartbeats 4000000

theorem ulist_app : ∀ (l m : List UInt8), l.length % 2 = 0 → ulist (l ++ m) = ulist l ++ ulist m
  | [], m, _ => rfl
  | [_], m, h => by simp at h
  | a :: b :: r, m, h => by
    have ih := ulist_app r m (by simp only [List.length_cons] at h; omega)
    simp only [List.cons_append, ulist, ih]
theorem ulist_units : ∀ (l : List UInt8), ulist (unitsL l) = l.map UInt8.toNat
  | [] => rfl
  | c :: r => by
    have ih := ulist_units r
    have e : unitsL (c :: r) = 0 :: c :: unitsL r := rfl
    rw [e]
    simp only [ulist, ih, List.map_cons, UInt8.toNat_zero, Nat.zero_mul, Nat.zero_add]
/-- A digit. -/
def digN (c : UInt8) : Prop := 48 ≤ c.toNat ∧ c.toNat ≤ 57
theorem dig_of (k : Nat) (h : k < 10) : (UInt8.ofNat (48 + k)).toNat = 48 + k := by rw [UInt8.toNat_ofNat']; omega
theorem dec_digs (u : Nat) : ∀ c ∈ Lib.decDigits u, digN c := by
  induction u using Nat.strongRecOn with
  | _ u ih =>
    intro c hc
    rw [Lib.decDigits] at hc
    split at hc
    · next h =>
      simp only [List.mem_singleton] at hc
      subst hc
      have := dig_of u h
      unfold digN; omega
    · next h =>
      simp only [List.mem_append, List.mem_singleton] at hc
      rcases hc with hc | rfl
      · exact ih _ (by omega) c hc
      · have := dig_of (u % 10) (by omega)
        unfold digN; omega
theorem dec_ne (u : Nat) : Lib.decDigits u ≠ [] := by
  rw [Lib.decDigits]
  split
  · simp
  · simp
theorem dv_dig {c : UInt8} (h : digN c) : dv c = c.toNat - 48 := if_pos h
theorem pdig_app (base : Nat) : ∀ (l m : List UInt8) (acc : Nat), pdig base (l ++ m) acc = (pdig base l acc).bind (pdig base m)
  | [], m, acc => rfl
  | c :: r, m, acc => by
    show (if _ then pdig base (r ++ m) _ else none) = Option.bind (if _ then pdig base r _ else none) _
    split
    · exact pdig_app base r m _
    · rfl
theorem pdig_dec (u : Nat) : u < 18446744073709551616 → pdig 10 (Lib.decDigits u) 0 = some u := by
  induction u using Nat.strongRecOn with
  | _ u ih =>
    intro hu
    rw [Lib.decDigits]
    split
    · next h =>
      have e := dig_of u h
      have d : dv (UInt8.ofNat (48 + u)) = u := by rw [dv_dig (by unfold digN; omega)]; omega
      show (if _ then pdig 10 [] _ else none) = _
      rw [d, if_pos ⟨h, by omega⟩]
      show some _ = _
      congr 1; omega
    · next h =>
      rw [pdig_app, ih (u / 10) (by omega) (by omega)]
      have e := dig_of (u % 10) (by omega)
      have d : dv (UInt8.ofNat (48 + u % 10)) = u % 10 := by rw [dv_dig (by unfold digN; omega)]; omega
      show (if _ then pdig 10 [] _ else none) = _
      rw [d, if_pos ⟨by omega, by omega⟩]
      show some _ = _
      congr 1; omega
theorem pmag_dec (u : Nat) (h : u < 18446744073709551616) : pmag 10 (Lib.decDigits u) = some u := by
  unfold pmag
  rw [if_neg (dec_ne u), pdig_dec u h]
theorem pint_itoa (n : Int) (h0 : -9223372036854775808 ≤ n) (h1 : n ≤ 9223372036854775807) : pint 10 (Lib.itoa n) = some n := by
  unfold Lib.itoa
  split
  · next hn =>
    show (if (45 : UInt8).toNat = 43 then posI (pmag 10 (Lib.decDigits n.natAbs)) else if (45 : UInt8).toNat = 45 then negI (pmag 10 (Lib.decDigits n.natAbs)) else posI (pmag 10 (45 :: Lib.decDigits n.natAbs))) = _
    rw [if_neg (by decide), if_pos (by decide), pmag_dec _ (by omega)]
    show (if n.natAbs ≤ 9223372036854775808 then some (-(n.natAbs : Int)) else none) = _
    rw [if_pos (by omega)]
    congr 1; omega
  · next hn =>
    have hd := dec_digs n.toNat
    have hp := pmag_dec n.toNat (by omega)
    cases hl : Lib.decDigits n.toNat with
    | nil => exact absurd hl (dec_ne _)
    | cons c r =>
      rw [hl] at hd hp
      have hc := hd c (List.mem_cons_self ..)
      unfold digN at hc
      show (if c.toNat = 43 then posI (pmag 10 r) else if c.toNat = 45 then negI (pmag 10 r) else posI (pmag 10 (c :: r))) = _
      rw [if_neg (by omega), if_neg (by omega), hp]
      show (if n.toNat < 9223372036854775808 then some ((n.toNat : Nat) : Int) else none) = _
      rw [if_pos (by omega)]
      congr 1; omega
theorem itoa_chars (n : Int) : ∀ c ∈ Lib.itoa n, digN c ∨ c.toNat = 45 := by
  intro c hc
  unfold Lib.itoa at hc
  split at hc
  · rw [List.mem_cons] at hc
    rcases hc with rfl | hc
    · exact .inr rfl
    · exact .inl (dec_digs _ c hc)
  · exact .inl (dec_digs _ c hc)
theorem itoa_ne (n : Int) : Lib.itoa n ≠ [] := by
  unfold Lib.itoa
  split
  · simp
  · exact dec_ne _
theorem hex_none {l : List UInt8} (h : ∀ c ∈ l, digN c ∨ c.toNat = 45) : hexR l = none := by
  match l, h with
  | [], _ => rfl
  | [_], _ => rfl
  | [_, _], _ => rfl
  | a :: b :: c :: r, h =>
    have hb := h b (by simp)
    unfold digN at hb
    exact if_neg (by omega)
theorem readT_itoa (n : Int) (h0 : -9223372036854775808 ≤ n) (h1 : n ≤ 9223372036854775807) : readT (Lib.itoa n) = some n := by
  unfold readT
  rw [hex_none (itoa_chars n)]
  exact pint_itoa n h0 h1
theorem drop_blanks {b m : List Nat} (hb : b.all blankN = true) (hm : ∃ c r, m = c :: r ∧ blankN c = false) : (b ++ m).dropWhile blankN = m := by
  induction b with
  | nil =>
    obtain ⟨c, r, rfl, hc⟩ := hm
    simp [hc]
  | cons x b ih =>
    simp only [List.all_cons, Bool.and_eq_true] at hb
    rw [List.cons_append, List.dropWhile_cons_of_pos hb.1]
    exact ih hb.2
theorem trim_blanks {b m : List Nat} (hb : b.all blankN = true) (hm : ∃ c r, m = r ++ [c] ∧ blankN c = false) : trimE (m ++ b) = m := by
  unfold trimE
  rw [List.reverse_append]
  obtain ⟨c, r, rfl, hc⟩ := hm
  rw [drop_blanks (by rw [List.all_reverse]; exact hb) ⟨c, r.reverse, by simp, hc⟩, List.reverse_reverse]
theorem solid_char {c : UInt8} (h : digN c ∨ c.toNat = 45) : blankN c.toNat = false ∧ badN c.toNat = false := by
  unfold digN at h
  unfold blankN badN
  constructor
  · rw [decide_eq_false_iff_not]; omega
  · rw [decide_eq_false_iff_not]; omega
theorem read_text (bi bk : List UInt8) (n : Int) (h0 : -9223372036854775808 ≤ n) (h1 : n ≤ 9223372036854775807) (hi : bi.length % 2 = 0) (hk : bk.length % 2 = 0) (ai : (ulist bi).all blankN = true) (ak : (ulist bk).all blankN = true) :
    readN (bi ++ unitsL (Lib.itoa n) ++ bk) = if sfI n = true then some n else none := by
  have hul := unitsL_len (Lib.itoa n)
  have hch := itoa_chars n
  have hne := itoa_ne n
  have hrt := readT_itoa n h0 h1
  unfold readN
  rw [if_pos (by simp only [List.length_append]; omega), ulist_app _ _ (by simp only [List.length_append]; omega), ulist_app _ _ hi, ulist_units, List.append_assoc]
  generalize Lib.itoa n = tx at *
  have hsol : ∀ c ∈ tx, blankN c.toNat = false := fun c hc => (solid_char (hch c hc)).1
  have hfirst : ∃ c r, tx.map UInt8.toNat ++ ulist bk = c :: r ∧ blankN c = false := by
    cases tx with
    | nil => exact absurd rfl hne
    | cons c r => exact ⟨c.toNat, r.map UInt8.toNat ++ ulist bk, rfl, hsol c (List.mem_cons_self ..)⟩
  have hlast : ∃ c r, tx.map UInt8.toNat = r ++ [c] ∧ blankN c = false := by
    refine ⟨(tx.getLast hne).toNat, tx.dropLast.map UInt8.toNat, ?_, hsol _ (List.getLast_mem hne)⟩
    have := List.dropLast_concat_getLast hne
    conv => lhs; rw [← this]
    simp
  rw [drop_blanks ai hfirst, trim_blanks ak hlast]
  unfold readU
  rw [if_neg (by simpa using hne), if_neg, List.map_map]
  · have : tx.map (UInt8.ofNat ∘ UInt8.toNat) = tx := by
      conv => rhs; rw [← List.map_id tx]
      apply List.map_congr_left
      intro c _
      show UInt8.ofNat c.toNat = c
      exact UInt8.ofNat_toNat
    rw [this, hrt]
    rfl
  · intro hb
    rw [List.any_eq_true] at hb
    obtain ⟨x, hx, hb⟩ := hb
    rw [List.mem_map] at hx
    obtain ⟨c, hc, rfl⟩ := hx
    rw [(solid_char (hch c hc)).2] at hb
    cases hb

end Go.Proofs.YtnanabjbdnbccaaDoor.Hc
