import Derived.Test.YthagjflkdoafmaaNE
import Derived.Test.YthagjflkdoafmaaN7
set_option linter.unusedVariables false
set_option linter.unusedSimpArgs false
namespace Go.Proofs.Ythagjflkdoafmaa.Hc
open Go Go.H Go.Proofs
set_option maxRecDepth 100000
set_option maxHeartbeats 4000000

theorem be32_wordN (y : List UInt8) (h : 4 ≤ y.length) : be32 (wordN y) = y.take 4 := by
  obtain ⟨a, b, c, d, r, rfl⟩ : ∃ a b c d r, y = a :: b :: c :: d :: r := by
    match y, h with
    | a :: b :: c :: d :: r, _ => exact ⟨a, b, c, d, r, rfl⟩
  have e : ∀ (u : UInt8) (n : Nat), n % 256 = u.toNat → UInt8.ofNat n = u := by
    intro u n hn
    apply UInt8.toNat_inj.1
    rw [UInt8.toNat_ofNat', ← hn]
  have ha := a.toNat_lt; have hb := b.toNat_lt; have hc := c.toNat_lt; have hd := d.toNat_lt
  unfold be32 wordN
  simp only [List.getD_cons_zero, List.getD_cons_succ, List.take_succ_cons, List.take_zero]
  rw [e a _ (by omega), e b _ (by omega), e c _ (by omega), e d _ (by omega)]

/-! ### Kids -/
theorem cut_ex {n : Nat} (P : Nat → Bool) (h : ∀ i, i + 1 < n → P (i + 1) = true → P i = true) : ∀ m, m ≤ n → ∃ j, j ≤ m ∧ (∀ i, i < m → i < j → P i = true) ∧ (∀ i, i < m → j ≤ i → P i = false)
  | 0, _ => ⟨0, by omega, by intros; omega, by intros; omega⟩
  | m + 1, hm => by
    obtain ⟨j, h1, h2, h3⟩ := cut_ex P h m (by omega)
    cases hp : P m with
    | false =>
      refine ⟨j, by omega, fun i hi hj => h2 i (by omega) hj, fun i hi hj => ?_⟩
      by_cases e : i = m
      · subst e; exact hp
      · exact h3 i (by omega) hj
    | true =>
      have all : ∀ k, k ≤ m → P (m - k) = true := by
        intro k
        induction k with
        | zero => intro _; exact hp
        | succ k ih =>
          intro hk
          have := ih (by omega)
          refine h (m - (k + 1)) (by omega) ?_
          have e : m - (k + 1) + 1 = m - k := by omega
          rw [e]; exact this
      refine ⟨m + 1, by omega, fun i hi hj => ?_, fun i hi hj => by omega⟩
      have := all (m - i) (by omega)
      have e : m - (m - i) = i := by omega
      rwa [e] at this
theorem childN_iff {ks : List ByteArray} (hr : RiseLe ks) (key : ByteArray) {i : Nat} (hi : i < ks.length) : strLe ks[i] key = decide (i < childN ks key) := by
  obtain ⟨j, h1, h2, h3⟩ := cut_ex (n := ks.length) (fun i => if h : i < ks.length then strLe ks[i] key else false) (by
    intro i hi h
    simp only [hi, dif_pos] at h
    have hi' : i < ks.length := by omega
    simp only [hi', dif_pos]
    exact strLe_trans (hr i hi) h) ks.length (Nat.le_refl _)
  have k2 : ∀ i (hi : i < ks.length), i < j → strLe ks[i] key = true := by
    intro i hi hj
    have := h2 i hi hj
    simpa only [hi, dif_pos] using this
  have k3 : ∀ i (hi : i < ks.length), j ≤ i → strLe ks[i] key = false := by
    intro i hi hj
    have := h3 i hi hj
    simpa only [hi, dif_pos] using this
  rw [childN_at h1 k2 k3]
  by_cases hj : i < j
  · rw [k2 i hi hj, decide_eq_true hj]
  · rw [k3 i hi (by omega), decide_eq_false hj]
theorem NMay.rise {d : ND} (hm : NMay d) : RiseLe d.keys := by
  intro i hi
  have := (hm.2.1 (i + 1) hi hi).2 (by omega)
  exact strLe_of_lt this

/-! ### Errors are none of 0 -/
theorem rInts_nz : ∀ (n : Nat) (l : List UInt8) (e : Nat), rInts n l = .no e → e ≠ 0
  | 0, l, e, h => by simp [rInts] at h
  | n + 1, l, e, h => by
    simp only [rInts] at h
    cases h1 : rNum 2147483647 l with
    | no e' => rw [h1] at h; cases h; have := rNum_no h1; omega
    | ok k r =>
      rw [h1] at h
      simp only at h
      cases h2 : rInts n r with
      | no e' => rw [h2] at h; cases h; exact rInts_nz n r _ h2
      | ok _ _ => rw [h2] at h; cases h
theorem rKV_nz : ∀ (p : Bool) (n : Nat) (l : List UInt8) (e : Nat), rKV p n l = .no e → e ≠ 0
  | p, 0, l, e, h => by simp [rKV] at h
  | p, n + 1, l, e, h => by
    simp only [rKV] at h
    cases h1 : rTxt l with
    | no e' => rw [h1] at h; cases h; have := rTxt_no h1; omega
    | ok k r =>
      rw [h1] at h
      cases p with
      | false =>
        simp only at h
        cases h2 : rKV false n r with
        | no e' => rw [h2] at h; cases h; exact rKV_nz false n r _ h2
        | ok _ _ => rw [h2] at h; cases h
      | true =>
        simp only at h
        cases h3 : rTxt r with
        | no e' => rw [h3] at h; cases h; have := rTxt_no h3; omega
        | ok v r' =>
          rw [h3] at h
          simp only at h
          cases h2 : rKV true n r' with
          | no e' => rw [h2] at h; cases h; exact rKV_nz true n r' _ h2
          | ok _ _ => rw [h2] at h; cases h
theorem rNode_nz {l : List UInt8} {e : Nat} (h : rNode l = .no e) : e ≠ 0 := by
  unfold rNode at h
  have key : ∀ e, rNode0 l = .no e → e ≠ 0 := by
    intro e h
    cases l with
    | nil => simp only [rNode0] at h; cases h; omega
    | cons k l =>
      simp only [rNode0] at h
      split at h
      · cases h; omega
      cases h1 : rNum 12 l with
      | no e' => rw [h1] at h; cases h; have := rNum_no h1; omega
      | ok m r =>
        rw [h1] at h
        simp only at h
        unfold rBody at h
        split at h
        · cases h2 : rInts m r with
          | no e' => rw [h2] at h; cases h; exact rInts_nz _ _ _ h2
          | ok ks r2 =>
            rw [h2] at h
            simp only at h
            cases h3 : rKV false (m - 1) r2 with
            | no e' => rw [h3] at h; cases h; exact rKV_nz _ _ _ _ h3
            | ok _ _ => rw [h3] at h; cases h
        · cases h3 : rKV true m r with
          | no e' => rw [h3] at h; cases h; exact rKV_nz _ _ _ _ h3
          | ok _ _ => rw [h3] at h; cases h
  cases h0 : rNode0 l with
  | no e' => rw [h0] at h; cases h; exact key _ h0
  | ok d r =>
    rw [h0] at h
    simp only [rFin] at h
    split at h
    · cases h; omega
    split at h
    · cases h; omega
    · cases h
theorem rDec_er {l : List UInt8} (hl : l.length = 4096) : (rDec l).er = 0 ↔ ∃ d r, rDec l = .ok d r := by
  cases h : rDec l with
  | ok d r => simp [Rd.er]
  | no e =>
    simp only [Rd.er]
    constructor
    · intro he
      subst he
      exfalso
      unfold rDec at h
      rw [if_neg (by omega)] at h
      split at h
      · rename_i h1; injection h with h; exact h1 h
      split at h
      · cases h
      · exact rNode_nz h rfl
    · rintro ⟨d, r, h⟩; cases h

/-! ### One byte is another one -/
theorem rDec_turn' {d : ND} (hm : NMay d) {l : List UInt8} (hl : encN d = l) {p : Nat} {c : UInt8} (hp : p < (secL l).length) (hc : c ≠ (secL l)[p]) : ∃ e, rDec ((secL l).set p c) = .no e := by
  have hL := encN_len hm
  have hlen := secN_len hm
  rw [secN_eq] at hlen
  rw [hl] at hlen hL
  have hlen' : ((secL l).set p c).length = 4096 := by rw [List.length_set]; exact hlen
  have eL : l.length % 4294967296 = l.length := Nat.mod_eq_of_lt (by omega)
  have hh : head4 l = be32 l.length := by unfold head4; rw [eL]
  have hsec : secL l = be32 l.length ++ (be32 (crc (head4 l ++ l)) ++ (l ++ List.replicate (4088 - l.length) 0)) := by
    unfold secL frameL; rw [← hh]; simp
  have hdec : ∀ s : List UInt8, s.length = 4096 → ((unf s 4096).2.2 ≠ 0 → ∃ e, rDec s = .no e) := by
    intro s hs h
    exact ⟨_, by unfold rDec; rw [if_neg (by omega), if_pos h]⟩
  rcases Nat.lt_or_ge p 4 with h4 | h4
  · -- the length
    have es : (secL l).set p c = (be32 l.length).set p c ++ (be32 (crc (head4 l ++ l)) ++ (l ++ List.replicate (4088 - l.length) 0)) := by
      rw [hsec, List.set_append_left _ _ (by rw [be32_len]; omega)]
    have hbl : ((be32 l.length).set p c).length = 4 := by rw [List.length_set]; rfl
    have hne : (be32 l.length).set p c ≠ be32 l.length := by
      intro e
      have hpb : p < (be32 l.length).length := by rw [be32_len]; omega
      have h1 : ((be32 l.length).set p c)[p]? = some c := by rw [List.getElem?_set_self hpb]
      rw [e] at h1
      have h2 : (secL l)[p]? = some c := by rw [hsec, List.getElem?_append_left hpb, h1]
      rw [List.getElem?_eq_getElem hp] at h2
      exact hc (Option.some.inj h2).symm
    generalize hs : (secL l).set p c = s at *
    have hw : wordN s ≠ l.length := by
      intro e
      have := be32_wordN s (by omega)
      rw [e, es, List.take_left' hbl] at this
      exact hne this.symm
    have hd8 : s.drop 8 = l ++ List.replicate (4088 - l.length) 0 := by
      rw [es, show 8 = 4 + 4 from rfl, ← List.drop_drop, List.drop_left' hbl, List.drop_left' (be32_len _)]
    by_cases hz : (unf s 4096).2.2 = 0
    · have hun : unf s 4096 = ((s.drop 8).take (wordN s), 8 + wordN s, 0) ∧ wordN s ≤ 4088 := by
        unfold unf at hz ⊢
        split at hz
        · simp at hz
        split at hz
        · simp at hz
        split at hz
        · simp at hz
        split at hz
        · simp at hz
        · rename_i h1 h2 h3 h5
          rw [if_neg h1, if_neg h2, if_neg h3, if_neg h5]
          exact ⟨rfl, by omega⟩
      obtain ⟨hun, hw2⟩ := hun
      have hr : rDec s = if anyNz (s.drop (8 + wordN s)) = true then .no 22 else rNode ((s.drop 8).take (wordN s)) := by
        unfold rDec
        rw [if_neg (by omega), hun]; simp
      rw [hr]
      split
      · exact ⟨_, rfl⟩
      · obtain ⟨kd, m, ho, hb, hk⟩ := may_okB hm
        rw [hl] at hb
        rcases Nat.lt_or_ge (wordN s) l.length with hlt | hge
        · have e1 : (s.drop 8).take (wordN s) = l.take (wordN s) := by rw [hd8, List.take_append_of_le_length (by omega)]
          rw [e1]
          cases hrn : rNode (l.take (wordN s)) with
          | no e => exact ⟨e, rfl⟩
          | ok d' r' =>
            exfalso
            obtain ⟨hm', he', _⟩ := rNode_right hrn
            obtain ⟨kd', m', ho', hb', _⟩ := may_okB hm'
            have x1 := rNode0_enc ho' (l.drop (wordN s))
            rw [hb', he', List.take_append_drop] at x1
            have x2 := rNode0_enc ho []
            rw [hb, List.append_nil, x1] at x2
            injection x2 with _ x3
            have := congrArg List.length x3
            rw [List.length_drop] at this
            simp at this
            omega
        · have e1 : (s.drop 8).take (wordN s) = l ++ List.replicate (wordN s - l.length) 0 := by
            rw [hd8, List.take_append, List.take_of_length_le (by omega), List.take_replicate]
            congr 2
            omega
          have x2 := rNode0_enc ho (List.replicate (wordN s - l.length) 0)
          rw [hb] at x2
          rw [e1]
          unfold rNode
          rw [x2]
          simp only [rFin]
          rw [if_pos (by intro e; have := congrArg List.length e; simp at this; omega)]
          exact ⟨_, rfl⟩
    · exact hdec s hlen' hz
  rcases Nat.lt_or_ge p 8 with h8 | h8
  · -- the sum
    have es : (secL l).set p c = be32 l.length ++ ((be32 (crc (head4 l ++ l))).set (p - 4) c ++ (l ++ List.replicate (4088 - l.length) 0)) := by
      rw [hsec, List.set_append_right _ _ (by rw [be32_len]; omega), be32_len, List.set_append_left _ _ (by rw [be32_len]; omega)]
    have hbl : ((be32 (crc (head4 l ++ l))).set (p - 4) c).length = 4 := by rw [List.length_set]; rfl
    have hne : (be32 (crc (head4 l ++ l))).set (p - 4) c ≠ be32 (crc (head4 l ++ l)) := by
      intro e
      have hpb : p - 4 < (be32 (crc (head4 l ++ l))).length := by rw [be32_len]; omega
      have h1 : ((be32 (crc (head4 l ++ l))).set (p - 4) c)[p - 4]? = some c := by rw [List.getElem?_set_self hpb]
      rw [e] at h1
      have h2 : (secL l)[p]? = some c := by rw [hsec, List.getElem?_append_right (by rw [be32_len]; omega), be32_len, List.getElem?_append_left hpb, h1]
      rw [List.getElem?_eq_getElem hp] at h2
      exact hc (Option.some.inj h2).symm
    generalize hs : (secL l).set p c = s at *
    refine hdec s hlen' ?_
    have hw : wordN s = l.length := by rw [es]; exact wordN_be32 _ (by omega) _
    have ht : s.take 4 = head4 l := by rw [es, hh, List.take_left' (be32_len _)]
    have hd4 : s.drop 4 = (be32 (crc (head4 l ++ l))).set (p - 4) c ++ (l ++ List.replicate (4088 - l.length) 0) := by rw [es, List.drop_left' (be32_len _)]
    have hd8 : s.drop 8 = l ++ List.replicate (4088 - l.length) 0 := by
      rw [show 8 = 4 + 4 from rfl, ← List.drop_drop, hd4, List.drop_left' hbl]
    unfold unf
    rw [hw, ht, hd8, List.take_left' rfl, if_neg (by omega), if_neg (by omega), if_neg (by omega), if_pos ?_]
    · simp
    · intro e
      have := be32_wordN (s.drop 4) (by rw [List.length_drop]; omega)
      rw [← e, hd4, List.take_left' hbl] at this
      exact hne this.symm
  rcases Nat.lt_or_ge p (8 + l.length) with h9 | h9
  · -- the bytes
    have es : (secL l).set p c = be32 l.length ++ (be32 (crc (head4 l ++ l)) ++ (l.set (p - 8) c ++ List.replicate (4088 - l.length) 0)) := by
      rw [hsec, List.set_append_right _ _ (by rw [be32_len]; omega), be32_len, List.set_append_right _ _ (by rw [be32_len]; omega), be32_len, List.set_append_left _ _ (by omega)]
      rfl
    have hpl : p - 8 < l.length := by omega
    have hne : c ≠ l[p - 8] := by
      intro e
      have h2 : (secL l)[p]? = some c := by
        rw [hsec, List.getElem?_append_right (by rw [be32_len]; omega), be32_len, List.getElem?_append_right (by rw [be32_len]; omega), be32_len, List.getElem?_append_left (by omega)]
        show l[p - 8]? = _
        rw [List.getElem?_eq_getElem hpl, e]
      rw [List.getElem?_eq_getElem hp] at h2
      exact hc (Option.some.inj h2).symm
    generalize hs : (secL l).set p c = s at *
    refine hdec s hlen' ?_
    have hw : wordN s = l.length := by rw [es]; exact wordN_be32 _ (by omega) _
    have ht : s.take 4 = head4 l := by rw [es, hh, List.take_left' (be32_len _)]
    have hd4 : s.drop 4 = be32 (crc (head4 l ++ l)) ++ (l.set (p - 8) c ++ List.replicate (4088 - l.length) 0) := by rw [es, List.drop_left' (be32_len _)]
    have hd8 : s.drop 8 = l.set (p - 8) c ++ List.replicate (4088 - l.length) 0 := by
      rw [show 8 = 4 + 4 from rfl, ← List.drop_drop, hd4, List.drop_left' (be32_len _)]
    have hw4 : wordN (s.drop 4) = crc (head4 l ++ l) := by rw [hd4]; exact wordN_be32 _ (crc_lt _) _
    have hll : (l.set (p - 8) c).length = l.length := List.length_set
    unfold unf
    rw [hw, ht, hw4, hd8, List.take_left' hll, if_neg (by omega), if_neg (by omega), if_neg (by omega), if_pos ?_]
    · simp
    · have e2 : head4 l ++ l.set (p - 8) c = (head4 l ++ l).set (4 + (p - 8)) c := by
        rw [List.set_append_right _ _ (by rw [head4_len]; omega), head4_len, Nat.add_sub_cancel_left]
      rw [e2]
      refine crc_set (by rw [List.length_append, head4_len]; omega) ?_
      rw [List.getElem_append_right (by rw [head4_len]; omega)]
      simp only [head4_len, Nat.add_sub_cancel_left]
      exact hne
  · -- the noughts behind
    have hfl := frameL_len l
    have es : (secL l).set p c = frameL l ++ (List.replicate (4088 - l.length) 0).set (p - (8 + l.length)) c := by
      unfold secL
      rw [List.set_append_right _ _ (by omega), hfl]
    have e := unf_of_frame l ((List.replicate (4088 - l.length) 0).set (p - (8 + l.length)) c) 4096 (by omega) (by omega)
    have hq : p - (8 + l.length) < (List.replicate (4088 - l.length) (0 : UInt8)).length := by rw [List.length_replicate]; omega
    have hne : c ≠ 0 := by
      intro e
      have h2 : (secL l)[p]? = some c := by
        unfold secL
        rw [List.getElem?_append_right (by omega), hfl, List.getElem?_eq_getElem hq, List.getElem_replicate, e]
      rw [List.getElem?_eq_getElem hp] at h2
      exact hc (Option.some.inj h2).symm
    have e2 : unf ((secL l).set p c) 4096 = (l, 8 + l.length, 0) := by rw [es]; exact e
    refine ⟨22, ?_⟩
    unfold rDec
    rw [if_neg (by omega), e2]
    simp only [ne_eq, not_true, if_false]
    have e3 : ((secL l).set p c).drop (8 + l.length) = (List.replicate (4088 - l.length) 0).set (p - (8 + l.length)) c := by rw [es, List.drop_left' hfl]
    rw [e3, if_pos ?_]
    unfold anyNz
    rw [List.any_eq_true]
    refine ⟨c, List.mem_of_getElem? (List.getElem?_set_self hq), ?_⟩
    refine decide_eq_true fun h => hne ?_
    apply UInt8.toNat_inj.1
    rw [h]; rfl

theorem rDec_turn {d : ND} (hm : NMay d) {p : Nat} {c : UInt8} (hp : p < (secN d).length) (hc : c ≠ (secN d)[p]) : ∃ e, rDec ((secN d).set p c) = .no e := rDec_turn' hm rfl hp hc

end Go.Proofs.Ythagjflkdoafmaa.Hc
