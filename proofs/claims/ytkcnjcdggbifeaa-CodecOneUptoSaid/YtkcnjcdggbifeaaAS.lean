import Derived.Test.YtkcnjcdggbifeaaAH
set_option linter.unusedVariables false
set_option linter.unusedSimpArgs false
namespace Go.Proofs.Ytkcnjcdggbifeaa.Hc
open Go Go.H Go.Proofs
set_option maxRecDepth 100000
set_option maxHeartbeats 4000000

/-! ### What was read is written as it was -/
theorem size0 : (⟨#[]⟩ : ByteArray).size = 0 := rfl


theorem take_one {α : Type} (c : α) (r : List α) : (c :: r).take 1 = [c] := by simp
theorem ofNat_toNat (c : UInt8) : UInt8.ofNat c.toNat = c := by simp
theorem rdn_leb : ∀ (l : List UInt8) (i acc n k : Nat), rdn l i acc = (n, k, 0) → ∃ m, n = acc + m * 128 ^ i ∧ i < k ∧ l.take (k - i) = leb m ∧ (0 < i → 0 < m)
  | [], i, acc, n, k, h => by simp [rdn] at h
  | c :: r, i, acc, n, k, h => by
    have hc := c.toNat_lt
    simp only [rdn] at h
    split at h
    · simp at h
    · rename_i hno
      split at h
      · rename_i hlt
        simp only [Prod.mk.injEq] at h
        obtain ⟨rfl, rfl, _⟩ := h
        refine ⟨c.toNat, by rw [Nat.mod_eq_of_lt hlt], by omega, ?_, by omega⟩
        rw [show i + 1 - i = 1 by omega, take_one, leb_small hlt, ofNat_toNat]
      · rename_i hge
        obtain ⟨m, rfl, hk, ht, hm⟩ := rdn_leb r (i + 1) _ n k h
        have hm' := hm (by omega)
        refine ⟨c.toNat % 128 + 128 * m, ?_, by omega, ?_, by omega⟩
        · rw [Nat.pow_succ, Nat.add_mul, Nat.add_assoc]
          congr 2
          rw [Nat.mul_comm (128 ^ i) 128, ← Nat.mul_assoc, Nat.mul_comm m 128]
        · rw [show k - i = (k - (i + 1)) + 1 by omega, List.take_succ_cons, ht, leb_big (n := c.toNat % 128 + 128 * m) (by omega)]
          rw [show (c.toNat % 128 + 128 * m) % 128 + 128 = c.toNat by omega, show (c.toNat % 128 + 128 * m) / 128 = m by omega, ofNat_toNat]
theorem rdn_leb0 {l : List UInt8} {n k : Nat} (h : rdn l 0 0 = (n, k, 0)) : l.take k = leb n ∧ 0 < k := by
  obtain ⟨m, h1, h2, h3, _⟩ := rdn_leb l 0 0 n k h
  simp at h1
  subst h1
  exact ⟨h3, h2⟩
theorem rdt_txt {l : List UInt8} {most : Int} {s : List UInt8} {k : Nat} (h : rdt l most = (s, k, 0)) : l.take k = txt ⟨s.toArray⟩ ∧ s.length < k := by
  have hok := rdt_ok l most
  rw [h] at hok
  simp only [rdt] at h
  split at h
  · rename_i h0; simp only [Prod.mk.injEq] at h; exact absurd h.2.2 h0
  split at h
  · simp at h
  split at h
  · simp at h
  · rename_i h0 h1 h2
    simp only [Prod.mk.injEq] at h
    obtain ⟨rfl, rfl, _⟩ := h
    obtain ⟨n, k0, er, hr⟩ : ∃ n k e, rdn l 0 0 = (n, k, e) := ⟨_, _, _, rfl⟩
    rw [hr] at h0 h1 h2 ⊢
    simp only at h0 h1 h2 ⊢
    have h0' : er = 0 := by simpa using h0
    subst h0'
    obtain ⟨h3, h4⟩ := rdn_leb0 hr
    have hlen : ((l.drop k0).take n).length = n := by
      have := rdn_ok l
      rw [hr] at this
      simp only at this
      rw [List.length_take, List.length_drop]; omega
    refine ⟨?_, by rw [hlen]; omega⟩
    rw [List.take_add, h3]
    simp only [txt]
    rw [show (⟨((l.drop k0).take n).toArray⟩ : ByteArray).size = n from hlen]
theorem rdS_txt {l : List UInt8} {s : List UInt8} {k : Nat} (h : rdS l = (s, k, 0)) : l.take k = txt ⟨s.toArray⟩ ∧ s.length < k ∧ s.length % 2 = 0 := by
  unfold rdS at h
  split at h
  · simp at h
  · rename_i hn
    obtain ⟨h1, h2⟩ := rdt_txt h
    rw [h] at hn
    exact ⟨h1, h2, by simpa using hn⟩

/-- What a reading that is right yields. -/
def Right (d : Nat) (l : List UInt8) (v : DT) (k : Nat) : Prop := may v ∧ deep v ≤ d ∧ enc v = l.take k ∧ vol v ≤ 8 * k
theorem rdM_right {d : Nat} {f : List UInt8 → DT × Nat × Nat} (hf : ∀ l v k, f l = (v, k, 0) → Right d l v k) (named : Bool) : ∀ (n : Nat) (l : List UInt8) (ks : List ByteArray) (xs : List DT) (at0 : Nat) (ks' : List ByteArray) (xs' : List DT) (at1 : Nat),
    rdM f named n l ks xs at0 = (ks', xs', at1, 0) → ∃ js ys, ks' = ks ++ js ∧ xs' = xs ++ ys ∧ ys.length = n ∧ (named = true → js.length = n) ∧ (named = false → js = []) ∧ at0 ≤ at1 ∧ encK js ys = l.take (at1 - at0) ∧
      (∀ y ∈ ys, may y ∧ deep y ≤ d) ∧ (∀ j ∈ js, j.size % 2 = 0) ∧ (ks.Nodup → ks'.Nodup) ∧ kvol js + vols ys ≤ 8 * (at1 - at0)
  | 0, l, ks, xs, at0, ks', xs', at1, h => by
    simp only [rdM, Prod.mk.injEq] at h
    obtain ⟨rfl, rfl, rfl, _⟩ := h
    exact ⟨[], [], by simp, by simp, rfl, fun _ => rfl, fun _ => rfl, Nat.le_refl _, by simp [encK], by simp, by simp, fun h => h, by simp [kvol, vols]⟩
  | n + 1, l, ks, xs, at0, ks', xs', at1, h => by
    cases named with
    | true =>
      simp only [rdM] at h
      split at h
      · rename_i h0; simp only [Prod.mk.injEq] at h; exact absurd h.2.2.2 h0
      rename_i h0
      split at h
      · simp at h
      rename_i hin
      split at h
      · rename_i h1; simp only [Prod.mk.injEq] at h; exact absurd h.2.2.2 h1
      rename_i h1
      obtain ⟨s, k1, e1, hs⟩ : ∃ s k e, rdS l = (s, k, e) := ⟨_, _, _, rfl⟩
      rw [hs] at h h0 h1 hin
      simp only at h h0 h1 hin
      have h0' : e1 = 0 := by simpa using h0
      subst h0'
      obtain ⟨v, k2, e2, hv⟩ : ∃ v k e, f (l.drop k1) = (v, k, e) := ⟨_, _, _, rfl⟩
      rw [hv] at h h1
      simp only at h h1
      have h1' : e2 = 0 := by simpa using h1
      subst h1'
      obtain ⟨t1, t2, t3⟩ := rdS_txt hs
      obtain ⟨r1, r2, r3, r4⟩ := hf _ _ _ hv
      obtain ⟨js, ys, q1, q2, q3, q4, q5, q6, q7, q8, q9, q10, q11⟩ := rdM_right hf true n _ _ _ _ _ _ _ h
      refine ⟨⟨s.toArray⟩ :: js, v :: ys, by rw [q1]; simp, by rw [q2]; simp, by simp [q3], fun _ => by simp [q4 rfl], (fun h => by cases h), by omega, ?_, ?_, ?_, ?_, ?_⟩
      · rw [show at1 - at0 = k1 + (k2 + (at1 - (at0 + k1 + k2))) by omega, List.take_add, List.take_add, ← r3, ← q7, t1]
        simp only [encK]
      · intro y hy
        rcases List.mem_cons.1 hy with rfl | hy
        · exact ⟨r1, r2⟩
        · exact q8 y hy
      · intro j hj
        rcases List.mem_cons.1 hj with rfl | hj
        · exact t3
        · exact q9 j hj
      · intro hn
        refine q10 ?_
        rw [List.nodup_append]
        refine ⟨hn, by simp, ?_⟩
        intro a ha b hb hab
        rw [List.mem_singleton] at hb
        subst hab
        rw [hb] at ha
        exact hin (strIn_iff.2 ha)
      · simp only [kvol, vols]
        have : (⟨s.toArray⟩ : ByteArray).size = s.length := rfl
        omega
    | false =>
      simp only [rdM] at h
      split at h
      · rename_i h1; simp only [Prod.mk.injEq] at h; exact absurd h.2.2.2 h1
      rename_i h1
      obtain ⟨v, k2, e2, hv⟩ : ∃ v k e, f l = (v, k, e) := ⟨_, _, _, rfl⟩
      rw [hv] at h h1
      simp only at h h1
      have h1' : e2 = 0 := by simpa using h1
      subst h1'
      obtain ⟨r1, r2, r3, r4⟩ := hf _ _ _ hv
      obtain ⟨js, ys, q1, q2, q3, q4, q5, q6, q7, q8, q9, q10, q11⟩ := rdM_right hf false n _ _ _ _ _ _ _ h
      obtain rfl := q5 rfl
      refine ⟨[], v :: ys, q1, by rw [q2]; simp, by simp [q3], (fun h => by cases h), fun _ => rfl, by omega, ?_, ?_, by simp, q10, ?_⟩
      · rw [show at1 - at0 = k2 + (at1 - (at0 + k2)) by omega, List.take_add, ← r3, ← q7]
        simp only [encK]
      · intro y hy
        rcases List.mem_cons.1 hy with rfl | hy
        · exact ⟨r1, r2⟩
        · exact q8 y hy
      · simp only [kvol, vols] at q11 ⊢
        omega
theorem deeps_bound : ∀ (l : List DT) (d : Nat), (∀ y ∈ l, deep y ≤ d) → deeps l ≤ d
  | [], d, _ => by simp [deeps]
  | y :: r, d, h => by have := h y (by simp); have := deeps_bound r d (fun z hz => h z (by simp [hz])); simp only [deeps]; omega
theorem rd_right : ∀ (d : Nat) (l : List UInt8) (v : DT) (k : Nat), rd d l = (v, k, 0) → Right d l v k
  | 0, l, v, k, h => by
    simp only [rd, Prod.mk.injEq] at h
    have := h.2.2
    split at this <;> cases this
  | d + 1, [], v, k, h => by simp [rd] at h
  | d + 1, c :: r, v, k, h => by
    have hc := c.toNat_lt
    have hcc : ∀ n : Nat, c.toNat = n → c = UInt8.ofNat n := fun n e => by rw [← e]; simp
    simp only [rd] at h
    split at h
    · rename_i h0
      simp only [Prod.mk.injEq] at h
      obtain ⟨rfl, rfl, _⟩ := h
      rcases h0 with h0 | h0 <;> rw [h0, hcc _ h0]
      · exact ⟨by simp [may, mays, Own1], by simp [deep, deeps], rfl, by simp [vol, vols, kvol, size0]⟩
      · exact ⟨by simp [may, mays, Own1], by simp [deep, deeps], rfl, by simp [vol, vols, kvol, size0]⟩
    split at h
    · rename_i h0
      simp only [Prod.mk.injEq] at h
      obtain ⟨rfl, rfl, _⟩ := h
      rcases h0 with h0 | h0 <;> rw [h0, hcc _ h0]
      · exact ⟨by simp [may, mays, Own1], by simp [deep, deeps], rfl, by simp [vol, vols, kvol, size0]⟩
      · exact ⟨by simp [may, mays, Own1], by simp [deep, deeps], rfl, by simp [vol, vols, kvol, size0]⟩
    split at h
    · rename_i h0
      split at h
      · rename_i h1; simp only [Prod.mk.injEq] at h; exact absurd h.2.2 h1
      rename_i h1
      split at h
      · simp at h
      rename_i h2
      obtain ⟨m, k1, e1, hm⟩ : ∃ m k e, rdn r 0 0 = (m, k, e) := ⟨_, _, _, rfl⟩
      rw [hm] at h h1 h2
      simp only at h h1 h2
      have h1' : e1 = 0 := by simpa using h1
      subst h1'
      obtain ⟨t1, t2⟩ := rdn_leb0 hm
      simp only [Prod.mk.injEq] at h
      obtain ⟨rfl, rfl, _⟩ := h
      rcases h0 with h0 | h0
      · rw [if_neg (by omega), hcc _ h0]
        refine ⟨by simp [may, mays, Own1]; omega, by simp [deep, deeps], ?_, by simp [vol, vols, kvol, size0]; omega⟩
        rw [List.take_succ_cons, t1]
        simp [enc]
      · rw [if_pos h0, hcc _ h0]
        refine ⟨by simp [may, mays, Own1]; omega, by simp [deep, deeps], ?_, by simp [vol, vols, kvol, size0]; omega⟩
        rw [List.take_succ_cons, t1]
        have hneg : -1 - (m : Int) < 0 := by omega
        have e2 : (-1 - (-1 - (m : Int))).toNat = m := by omega
        simp [enc, hneg, e2]
    split at h
    · rename_i h0
      split at h
      · rename_i h1; simp only [Prod.mk.injEq] at h; exact absurd h.2.2 h1
      rename_i h1
      obtain ⟨s, k1, e1, hm⟩ : ∃ m k e, rdS r = (m, k, e) := ⟨_, _, _, rfl⟩
      rw [hm] at h h1
      simp only at h h1
      have h1' : e1 = 0 := by simpa using h1
      subst h1'
      obtain ⟨t1, t2, t3⟩ := rdS_txt hm
      simp only [Prod.mk.injEq] at h
      obtain ⟨rfl, rfl, _⟩ := h
      have hsz : (⟨s.toArray⟩ : ByteArray).size = s.length := rfl
      rw [hcc _ h0]
      refine ⟨by simp [may, mays, Own1, hsz, t3], by simp [deep, deeps], ?_, by simp only [vol, vols, kvol]; omega⟩
      rw [List.take_succ_cons, t1]
      simp [enc]
    split at h
    · rename_i h0
      split at h
      · rename_i h1; simp only [Prod.mk.injEq] at h; exact absurd h.2.2 h1
      rename_i h1
      unfold rdL at h h1
      obtain ⟨m, k1, e1, hm⟩ : ∃ m k e, rdn r 0 0 = (m, k, e) := ⟨_, _, _, rfl⟩
      rw [hm] at h h1
      simp only at h h1
      by_cases h2 : e1 = 0
      · subst h2
        rw [if_neg (by simp)] at h h1
        obtain ⟨ks, xs, at1, e2, hM⟩ : ∃ a b q e, rdM (rd d) (c.toNat = 8) m (r.drop k1) [] [] k1 = (a, b, q, e) := ⟨_, _, _, _, rfl⟩
        rw [hM] at h h1
        simp only at h h1
        by_cases h3 : e2 = 0
        · subst h3
          rw [if_neg (by simp)] at h
          simp only [Prod.mk.injEq] at h
          obtain ⟨rfl, rfl, _⟩ := h
          obtain ⟨t1, t2⟩ := rdn_leb0 hm
          obtain ⟨js, ys, q1, q2, q3, q4, q5, q6, q7, q8, q9, q10, q11⟩ := rdM_right (rd_right d) _ m _ _ _ _ _ _ _ hM
          simp only [List.nil_append] at q1 q2
          subst q1
          subst q2
          have hdp := deeps_bound xs d fun y hy => (q8 y hy).2
          have hms : mays xs := (mays_iff _).2 fun y hy => (q8 y hy).1
          have hnd := q10 (by simp)
          have hq : r.take at1 = leb m ++ encK ks xs := by
            rw [q7, ← t1, ← List.take_add]; congr 1; omega
          rcases h0 with h0 | h0
          · have hne : ¬ c.toNat = 8 := by omega
            obtain rfl := q5 (by simp [hne])
            have e5 : (if decide (c.toNat = 8) = true then (6 : Int) else 5) = 5 := by rw [if_neg (by simpa using hne)]
            rw [e5, hcc _ h0]
            refine ⟨by simp only [may]; exact ⟨by simp [Own1], hms⟩, by simp only [deep]; omega, ?_, by simp only [vol, kvol, size0] at q11 ⊢; omega⟩
            rw [List.take_succ_cons, hq]
            simp [enc, q3]
          · have hl := q4 (by simp [h0])
            have e5 : (if decide (c.toNat = 8) = true then (6 : Int) else 5) = 6 := by rw [if_pos (by simpa using h0)]
            rw [e5, hcc _ h0]
            refine ⟨by simp only [may]; exact ⟨by unfold Own1 GoodKeys; exact .inr (.inr (.inr (.inr (.inr ⟨rfl, rfl, rfl, q9, hnd, by omega⟩)))), hms⟩, by simp only [deep]; omega, ?_, by simp only [vol, size0]; omega⟩
            rw [List.take_succ_cons, hq]
            simp [enc, q3]
        · rw [if_pos h3] at h1
          exact absurd h3 (by simpa using h1)
      · rw [if_pos h2] at h1
        exact absurd h2 (by simpa using h1)
    · simp at h

/-! ### Bytes tell values apart -/

theorem leb_inj : ∀ (a b : Nat) (r s : List UInt8), leb a ++ r = leb b ++ s → a = b ∧ r = s := by
  intro a
  induction a using Nat.strongRecOn with
  | ind a ih =>
  intro b r s h
  by_cases ha : a < 128
  · by_cases hb : b < 128
    · rw [leb_small ha, leb_small hb] at h
      simp only [List.cons_append, List.nil_append, List.cons.injEq] at h
      refine ⟨?_, h.2⟩
      have := congrArg UInt8.toNat h.1
      simp at this; omega
    · rw [leb_small ha, leb_big hb] at h
      simp only [List.cons_append, List.nil_append, List.cons.injEq] at h
      have := congrArg UInt8.toNat h.1
      simp at this; omega
  · by_cases hb : b < 128
    · rw [leb_big ha, leb_small hb] at h
      simp only [List.cons_append, List.nil_append, List.cons.injEq] at h
      have := congrArg UInt8.toNat h.1
      simp at this; omega
    · rw [leb_big ha, leb_big hb] at h
      simp only [List.cons_append, List.cons.injEq] at h
      obtain ⟨h1, h2⟩ := ih (a / 128) (by omega) (b / 128) r s h.2
      have := congrArg UInt8.toNat h.1
      simp at this
      exact ⟨by omega, h2⟩
theorem txt_inj {a b : ByteArray} {r s : List UInt8} (h : txt a ++ r = txt b ++ s) : a = b ∧ r = s := by
  simp only [txt, List.append_assoc] at h
  obtain ⟨h1, h2⟩ := leb_inj _ _ _ _ h
  obtain ⟨h3, h4⟩ := List.append_inj h2 h1
  refine ⟨?_, h4⟩
  cases a; cases b
  simp only [ByteArray.mk.injEq]
  exact Array.toList_inj.1 h3

/-- The nine makes of a value that may be. -/
inductive Shape : DT → UInt8 → List UInt8 → Prop
  | undef : Shape (.mk 0 0 ⟨#[]⟩ [] []) 0 []
  | null : Shape (.mk 1 0 ⟨#[]⟩ [] []) 1 []
  | no : Shape (.mk 2 0 ⟨#[]⟩ [] []) 2 []
  | yes : Shape (.mk 2 1 ⟨#[]⟩ [] []) 3 []
  | plus (m : Nat) : Shape (.mk 3 m ⟨#[]⟩ [] []) 4 (leb m)
  | minus (m : Nat) : Shape (.mk 3 (-1 - (m : Int)) ⟨#[]⟩ [] []) 5 (leb m)
  | text (s : ByteArray) : Shape (.mk 4 0 s [] []) 6 (txt s)
  | list (l : List DT) (hm : mays l) : Shape (.mk 5 0 ⟨#[]⟩ [] l) 7 (leb l.length ++ encK [] l)
  | record (ks : List ByteArray) (l : List DT) (hl : ks.length = l.length) (hm : mays l) : Shape (.mk 6 0 ⟨#[]⟩ ks l) 8 (leb l.length ++ encK ks l)
theorem shape_of {v : DT} (hm : may v) : ∃ c b, Shape v c b ∧ enc v = c :: b := by
  obtain ⟨k, n, s, ks, l⟩ := v
  simp only [may, Own1] at hm
  obtain ⟨h, hms⟩ := hm
  rcases h with ⟨rfl | rfl, rfl, rfl, rfl, rfl⟩ | ⟨rfl, rfl | rfl, rfl, rfl, rfl⟩ | ⟨rfl, hn, rfl, rfl, rfl⟩ | ⟨rfl, rfl, hs, rfl, rfl⟩ | ⟨rfl, rfl, rfl, rfl⟩ | ⟨rfl, rfl, rfl, h⟩
  · exact ⟨_, _, .undef, rfl⟩
  · exact ⟨_, _, .null, rfl⟩
  · exact ⟨_, _, .no, rfl⟩
  · exact ⟨_, _, .yes, rfl⟩
  · by_cases hneg : n < 0
    · obtain ⟨m, rfl⟩ : ∃ m : Nat, n = -1 - (m : Int) := ⟨(-1 - n).toNat, by omega⟩
      refine ⟨_, _, .minus m, ?_⟩
      have e2 : (-1 - (-1 - (m : Int))).toNat = m := by omega
      simp [enc, hneg, e2]
    · obtain ⟨m, rfl⟩ : ∃ m : Nat, n = m := ⟨n.toNat, by omega⟩
      exact ⟨_, _, .plus m, by simp [enc]⟩
  · exact ⟨_, _, .text s, by simp [enc]⟩
  · exact ⟨_, _, .list l hms, by simp [enc]⟩
  · exact ⟨_, _, .record ks l h.2.2 hms, by simp [enc]⟩

theorem encK_inj0 : ∀ (l m : List DT) (r s : List UInt8) (_ : ∀ x ∈ l, ∀ (w : DT) (r s : List UInt8), may w → enc x ++ r = enc w ++ s → x = w ∧ r = s), l.length = m.length → mays m → encK [] l ++ r = encK [] m ++ s → l = m ∧ r = s
  | [], [], r, s, _, _, _, h => ⟨rfl, by simpa [encK] using h⟩
  | a :: l, b :: m, r, s, ih, hl, hm, h => by
    simp only [encK, List.append_assoc] at h
    simp only [mays] at hm
    obtain ⟨rfl, h2⟩ := ih a (by simp) b _ _ hm.1 h
    obtain ⟨rfl, h3⟩ := encK_inj0 l m r s (fun x hx => ih x (by simp [hx])) (by simpa using hl) hm.2 h2
    exact ⟨rfl, h3⟩
  | [], _ :: _, _, _, _, hl, _, _ => by simp at hl
  | _ :: _, [], _, _, _, hl, _, _ => by simp at hl
theorem encK_inj1 : ∀ (l m : List DT) (ks js : List ByteArray) (r s : List UInt8) (_ : ∀ x ∈ l, ∀ (w : DT) (r s : List UInt8), may w → enc x ++ r = enc w ++ s → x = w ∧ r = s), l.length = m.length → ks.length = l.length → js.length = m.length → mays m → encK ks l ++ r = encK js m ++ s → ks = js ∧ l = m ∧ r = s
  | [], [], [], [], r, s, _, _, _, _, _, h => ⟨rfl, rfl, by simpa [encK] using h⟩
  | a :: l, b :: m, k :: ks, j :: js, r, s, ih, hl, hk, hj, hm, h => by
    simp only [encK, List.append_assoc] at h
    simp only [mays] at hm
    obtain ⟨rfl, h1⟩ := txt_inj h
    obtain ⟨rfl, h2⟩ := ih a (by simp) b _ _ hm.1 h1
    obtain ⟨rfl, rfl, h3⟩ := encK_inj1 l m ks js r s (fun x hx => ih x (by simp [hx])) (by simpa using hl) (by simpa using hk) (by simpa using hj) hm.2 h2
    exact ⟨rfl, rfl, h3⟩
  | [], _ :: _, _, _, _, _, _, hl, _, _, _, _ => by simp at hl
  | _ :: _, [], _, _, _, _, _, hl, _, _, _, _ => by simp at hl
  | [], [], _ :: _, _, _, _, _, _, hk, _, _, _ => by simp at hk
  | [], [], [], _ :: _, _, _, _, _, _, hj, _, _ => by simp at hj
  | _ :: _, _ :: _, [], _, _, _, _, _, hk, _, _, _ => by simp at hk
  | _ :: _, _ :: _, _ :: _, [], _, _, _, _, _, hj, _, _ => by simp at hj

theorem enc_inj : ∀ (v : DT), may v → ∀ (w : DT) (r s : List UInt8), may w → enc v ++ r = enc w ++ s → v = w ∧ r = s := by
  intro v
  induction v using (measure (fun d : DT => SizeOf.sizeOf d)).wf.induction with
  | _ v ih =>
  intro hv w r s hw h
  obtain ⟨c, b, sv, ev⟩ := shape_of hv
  obtain ⟨c', b', sw, ew⟩ := shape_of hw
  rw [ev, ew, List.cons_append, List.cons_append, List.cons.injEq] at h
  obtain ⟨h1, h2⟩ := h
  have ihl : ∀ (k n : Int) (t : ByteArray) (ks : List ByteArray) (l : List DT), v = .mk k n t ks l → mays l → ∀ x ∈ l, ∀ (w : DT) (r s : List UInt8), may w → enc x ++ r = enc w ++ s → x = w ∧ r = s := by
    intro k n t ks l e hm x hx w r s hw h
    refine ih x ?_ ((mays_iff _).1 hm x hx) w r s hw h
    subst e
    have := List.sizeOf_lt_of_mem hx
    show SizeOf.sizeOf x < SizeOf.sizeOf (DT.mk k n t ks l)
    simp only [DT.mk.sizeOf_spec]; omega
  cases sv <;> cases sw <;> first | (exact absurd h1 (by decide)) | skip
  · exact ⟨rfl, h2⟩
  · exact ⟨rfl, h2⟩
  · exact ⟨rfl, h2⟩
  · exact ⟨rfl, h2⟩
  · obtain ⟨rfl, h3⟩ := leb_inj _ _ _ _ h2; exact ⟨rfl, h3⟩
  · obtain ⟨rfl, h3⟩ := leb_inj _ _ _ _ h2; exact ⟨rfl, h3⟩
  · obtain ⟨rfl, h3⟩ := txt_inj h2; exact ⟨rfl, h3⟩
  · rename_i l hm m hm'
    rw [List.append_assoc, List.append_assoc] at h2
    obtain ⟨h3, h4⟩ := leb_inj _ _ _ _ h2
    obtain ⟨rfl, h5⟩ := encK_inj0 l m r s (ihl _ _ _ _ _ rfl hm) h3 hm' h4
    exact ⟨rfl, h5⟩
  · rename_i ks l hl hm js m hl' hm'
    rw [List.append_assoc, List.append_assoc] at h2
    obtain ⟨h3, h4⟩ := leb_inj _ _ _ _ h2
    obtain ⟨rfl, rfl, h5⟩ := encK_inj1 l m ks js r s (ihl _ _ _ _ _ rfl hm) h3 hl hl' hm' h4
    exact ⟨rfl, h5⟩

/-- The law of two values. -/
theorem apart_law {v w : DT} (hv : may v) (hw : may w) : (enc v).take (min (enc v).length (enc w).length) = (enc w).take (min (enc v).length (enc w).length) ↔ v = w := by
  constructor
  · intro h
    rcases Nat.le_total (enc v).length (enc w).length with hl | hl
    · rw [Nat.min_eq_left hl, List.take_length] at h
      exact (enc_inj v hv w ((enc w).drop (enc v).length) [] hw (by
        rw [List.append_nil]
        conv => lhs; rw [h]
        rw [List.length_take, Nat.min_eq_left hl, List.take_append_drop])).1
    · rw [Nat.min_eq_right hl, List.take_length] at h
      exact (enc_inj w hw v ((enc v).drop (enc w).length) [] hv (by
        rw [List.append_nil]
        conv => lhs; rw [← h]
        rw [List.length_take, Nat.min_eq_left hl, List.take_append_drop])).1.symm
  · rintro rfl; rfl

end Go.Proofs.Ytkcnjcdggbifeaa.Hc
