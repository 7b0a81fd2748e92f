import Derived.Test.YthagjflkdoafmaaNB
import Derived.Test.YthagjflkdoafmaaE3
set_option linter.unusedVariables false
set_option linter.unusedSimpArgs false
namespace Go.Proofs.Ythagjflkdoafmaa.Hc
open Go Go.H Go.Proofs
set_option maxRecDepth 100000
set_option maxHeartbeats 4000000

/-! ### What was written is read -/
theorem rNum_leb {n most : Nat} (r : List UInt8) (h : n ≤ most) (hm : most ≤ 2147483647) : rNum most (leb n ++ r) = .ok n r := by
  unfold rNum
  rw [rdn_of_leb r n 0 0 (by omega) (by simp; omega) (by omega)]
  simp only [Nat.pow_zero, Nat.mul_one, Nat.zero_add]
  rw [if_pos trivial, if_pos h, List.drop_left' rfl]
theorem rTxt_ntxt {s : ByteArray} (r : List UInt8) (h : s.size ≤ 1024) : rTxt (ntxt s ++ r) = .ok s r := by
  have hl : s.data.toList.length = s.size := rfl
  have e := rdt_of_leb s.data.toList r 1024 (by omega) (by omega)
  unfold rTxt ntxt
  rw [hl] at e
  have e2 : rdt (leb s.size ++ s.data.toList ++ r) 1024 = (s.data.toList, (leb s.size).length + s.size, 0) := e
  rw [e2]
  simp only
  rw [if_pos trivial, List.drop_left' (by simp only [List.length_append]; rfl)]
theorem rInts_enc : ∀ (ks : List Int) (r : List UInt8), (∀ k ∈ ks, 0 ≤ k ∧ k ≤ 2147483647) → rInts ks.length (encI ks ++ r) = .ok ks r
  | [], r, _ => by simp [rInts, encI]
  | k :: ks, r, h => by
    have hk := h k (by simp)
    have ih := rInts_enc ks r (fun x hx => h x (by simp [hx]))
    simp only [encI, List.flatMap_cons, List.append_assoc, List.length_cons, rInts] at ih ⊢
    rw [rNum_leb _ (by omega) (by omega)]
    simp only
    rw [ih]
    simp only [Rd.map]
    rw [Int.toNat_of_nonneg hk.1]
theorem rKV_encT : ∀ (ks : List ByteArray) (r : List UInt8), (∀ k ∈ ks, k.size ≤ 1024) → rKV false ks.length (encT ks ++ r) = .ok (ks, []) r
  | [], r, _ => by simp [rKV, encT]
  | k :: ks, r, h => by
    have ih := rKV_encT ks r (fun x hx => h x (by simp [hx]))
    simp only [encT, List.flatMap_cons, List.append_assoc, List.length_cons, rKV] at ih ⊢
    rw [rTxt_ntxt _ (h k (by simp))]
    simp only
    rw [ih]
    simp only [Rd.map]
theorem rKV_encP : ∀ (ks vs : List ByteArray) (r : List UInt8), ks.length = vs.length → (∀ k ∈ ks, k.size ≤ 1024) → (∀ k ∈ vs, k.size ≤ 1024) → rKV true ks.length (encP ks vs ++ r) = .ok (ks, vs) r
  | [], [], r, _, _, _ => by simp [rKV, encP]
  | k :: ks, v :: vs, r, hl, h, h' => by
    have ih := rKV_encP ks vs r (by simpa using hl) (fun x hx => h x (by simp [hx])) (fun x hx => h' x (by simp [hx]))
    simp only [encP, List.append_assoc, List.length_cons, rKV]
    rw [rTxt_ntxt _ (h k (by simp))]
    simp only
    rw [rTxt_ntxt _ (h' v (by simp))]
    simp only
    rw [ih]
    simp only [Rd.map]
  | [], _ :: _, _, hl, _, _ => by simp at hl
  | _ :: _, [], _, hl, _, _ => by simp at hl

/-! ### What is read is written so -/
theorem rNum_right {n most : Nat} {l r : List UInt8} (h : rNum most l = .ok n r) : l = leb n ++ r := by
  obtain ⟨h1, h2, h3, h4⟩ := rNum_ok h
  have := (rdn_to_leb0 h3).1
  rw [h3] at h4
  rw [← this]
  conv => lhs; rw [← List.take_append_drop (l.length - r.length) l]
  rw [← h4]
theorem rTxt_right {s : ByteArray} {l r : List UInt8} (h : rTxt l = .ok s r) : l = ntxt s ++ r := by
  obtain ⟨h1, h2, rfl, h4, h5⟩ := rTxt_ok h
  have hok := rdt_ok l 1024
  simp only [rdt] at h4 h5 hok ⊢
  have hn := rdn_ok l
  split at h4
  · rename_i h0; exact absurd h4 h0
  rename_i h0
  rw [if_neg h0] at h5 hok ⊢
  split at h4
  · simp at h4
  rename_i h6
  rw [if_neg h6] at h5 hok ⊢
  split at h4
  · simp at h4
  rename_i h7
  rw [if_neg h7] at h5 hok ⊢
  simp only at h5 hok ⊢
  obtain ⟨n, k0, er, hr⟩ : ∃ n k e, rdn l 0 0 = (n, k, e) := ⟨_, _, _, rfl⟩
  rw [hr] at h0 h5 h6 h7 hn ⊢
  simp only at h0 h5 h6 h7 hn ⊢
  have h0' : er = 0 := by simpa using h0
  subst h0'
  have hk : k0 ≤ l.length := by rcases hn with h | h <;> omega
  have e1 := (rdn_to_leb0 hr).1
  have e2 : (⟨((l.drop k0).take n).toArray⟩ : ByteArray).size = n := by show ((l.drop k0).take n).length = n; rw [List.length_take, List.length_drop]; omega
  unfold ntxt
  rw [e2, h5, ← e1, List.append_assoc]
  show l = List.take k0 l ++ ((l.drop k0).take n ++ List.drop (k0 + n) l)
  rw [← List.drop_drop, List.take_append_drop, List.take_append_drop]
theorem rInts_right : ∀ (n : Nat) (l r : List UInt8) (ks : List Int), rInts n l = .ok ks r → ks.length = n ∧ l = encI ks ++ r ∧ ∀ k ∈ ks, 0 ≤ k ∧ k ≤ 2147483647
  | 0, l, r, ks, h => by simp only [rInts] at h; cases h; simp [encI]
  | n + 1, l, r, ks, h => by
    simp only [rInts] at h
    cases h1 : rNum 2147483647 l with
    | no e => rw [h1] at h; cases h
    | ok k r1 =>
      rw [h1] at h
      simp only at h
      cases h2 : rInts n r1 with
      | no e => rw [h2] at h; cases h
      | ok ks' r2 =>
        rw [h2] at h
        simp only [Rd.map] at h
        cases h
        obtain ⟨t1, t2, t3⟩ := rInts_right n r1 r ks' h2
        have hk := (rNum_ok h1).1
        refine ⟨by simp [t1], ?_, ?_⟩
        · rw [rNum_right h1, t2]; simp [encI]
        · intro x hx
          rcases List.mem_cons.1 hx with rfl | hx
          · omega
          · exact t3 x hx
theorem rKVf_right : ∀ (n : Nat) (l r : List UInt8) (q : List ByteArray × List ByteArray), rKV false n l = .ok q r → q.1.length = n ∧ q.2 = [] ∧ l = encT q.1 ++ r ∧ ∀ k ∈ q.1, k.size ≤ 1024
  | 0, l, r, q, h => by simp only [rKV] at h; cases h; simp [encT]
  | n + 1, l, r, q, h => by
    simp only [rKV] at h
    cases h1 : rTxt l with
    | no e => rw [h1] at h; cases h
    | ok k r1 =>
      rw [h1] at h
      simp only at h
      cases h2 : rKV false n r1 with
      | no e => rw [h2] at h; cases h
      | ok q' r2 =>
        rw [h2] at h
        simp only [Rd.map] at h
        cases h
        obtain ⟨t1, t2, t3, t4⟩ := rKVf_right n r1 r q' h2
        have hk := (rTxt_ok h1).1
        refine ⟨by simp [t1], t2, ?_, ?_⟩
        · rw [rTxt_right h1, t3]; simp [encT]
        · intro x hx
          rcases List.mem_cons.1 hx with rfl | hx
          · omega
          · exact t4 x hx
theorem rKVt_right : ∀ (n : Nat) (l r : List UInt8) (q : List ByteArray × List ByteArray), rKV true n l = .ok q r → q.1.length = n ∧ q.2.length = n ∧ l = encP q.1 q.2 ++ r ∧ (∀ k ∈ q.1, k.size ≤ 1024) ∧ (∀ k ∈ q.2, k.size ≤ 1024)
  | 0, l, r, q, h => by simp only [rKV] at h; cases h; simp [encP]
  | n + 1, l, r, q, h => by
    simp only [rKV] at h
    cases h1 : rTxt l with
    | no e => rw [h1] at h; cases h
    | ok k r1 =>
      rw [h1] at h
      simp only at h
      cases h3 : rTxt r1 with
      | no e => rw [h3] at h; cases h
      | ok v r3 =>
        rw [h3] at h
        simp only at h
        cases h2 : rKV true n r3 with
        | no e => rw [h2] at h; cases h
        | ok q' r2 =>
          rw [h2] at h
          simp only [Rd.map] at h
          cases h
          obtain ⟨t1, t2, t3, t4, t5⟩ := rKVt_right n r3 r q' h2
          have hk := (rTxt_ok h1).1
          have hv := (rTxt_ok h3).1
          refine ⟨by simp [t1], by simp [t2], ?_, ?_, ?_⟩
          · rw [rTxt_right h1, rTxt_right h3, t3]; simp [encP]
          · intro x hx
            rcases List.mem_cons.1 hx with rfl | hx
            · omega
            · exact t4 x hx
          · intro x hx
            rcases List.mem_cons.1 hx with rfl | hx
            · omega
            · exact t5 x hx

/-- Bytes of a node of a kind, with a number; and when they are read as it. -/
def encB (kd m : Nat) (d : ND) : List UInt8 := UInt8.ofNat kd :: (leb m ++ (if kd = 1 then encI d.kids ++ encT d.keys else encP d.keys d.vals))
def OkB (kd m : Nat) (d : ND) : Prop := m ≤ 12 ∧ (∀ k ∈ d.kids, 0 ≤ k ∧ k ≤ 2147483647) ∧ (∀ k ∈ d.keys, k.size ≤ 1024) ∧ (∀ k ∈ d.vals, k.size ≤ 1024) ∧
  ((kd = 1 ∧ d.kids.length = m ∧ d.keys.length = m - 1 ∧ d.vals = []) ∨ (kd = 0 ∧ d.kids = [] ∧ d.keys.length = m ∧ d.vals.length = m))
theorem rNode0_enc {kd m : Nat} {d : ND} (h : OkB kd m d) (r : List UInt8) : rNode0 (encB kd m d ++ r) = .ok d r := by
  obtain ⟨h1, h2, h3, h4, h5⟩ := h
  rcases h5 with ⟨rfl, h6, h7, h8⟩ | ⟨rfl, h6, h7, h8⟩
  · simp only [encB, if_true, List.cons_append, List.append_assoc, rNode0]
    rw [if_neg (by decide), rNum_leb _ h1 (by omega)]
    simp only
    have e1 := rInts_enc d.kids (encT d.keys ++ r) h2
    have e2 := rKV_encT d.keys r h3
    rw [h6] at e1
    rw [h7] at e2
    have e3 : (UInt8.ofNat 1).toNat = 1 := rfl
    unfold rBody
    rw [e3, if_pos rfl, e1]
    simp only
    rw [e2]
    simp only [Rd.map]
    cases d
    simp only at h8
    rw [h8]
  · simp only [encB, List.cons_append, List.append_assoc, rNode0]
    rw [if_neg (by decide), rNum_leb _ h1 (by omega)]
    simp only
    have e2 := rKV_encP d.keys d.vals r (by omega) h3 h4
    rw [h7] at e2
    have e3 : (UInt8.ofNat 0).toNat = 0 := rfl
    unfold rBody
    rw [e3, if_neg (by omega), if_neg (by omega), e2]
    simp only [Rd.map]
    cases d
    simp only at h6
    rw [h6]
theorem rNode0_right {l r : List UInt8} {d : ND} (h : rNode0 l = .ok d r) : ∃ kd m, OkB kd m d ∧ l = encB kd m d ++ r := by
  cases l with
  | nil => simp [rNode0] at h
  | cons k l =>
    simp only [rNode0] at h
    split at h
    · cases h
    rename_i hk
    cases h1 : rNum 12 l with
    | no e => rw [h1] at h; cases h
    | ok m r1 =>
      rw [h1] at h
      simp only at h
      have hm := (rNum_ok h1).1
      have hr := rNum_right h1
      unfold rBody at h
      split at h
      · rename_i hk1
        have ek : k = UInt8.ofNat 1 := UInt8.toNat_inj.1 (by rw [hk1]; rfl)
        cases h2 : rInts m r1 with
        | no e => rw [h2] at h; cases h
        | ok ks r2 =>
          rw [h2] at h
          simp only at h
          cases h3 : rKV false (m - 1) r2 with
          | no e => rw [h3] at h; cases h
          | ok q r3 =>
            rw [h3] at h
            simp only [Rd.map] at h
            cases h
            obtain ⟨t1, t2, t3⟩ := rInts_right _ _ _ _ h2
            obtain ⟨u1, u2, u3, u4⟩ := rKVf_right _ _ _ _ h3
            refine ⟨1, m, ⟨hm, t3, u4, by simp only; rw [u2]; simp, .inl ⟨rfl, t1, u1, u2⟩⟩, ?_⟩
            simp only [encB, if_true, List.cons_append, List.append_assoc]
            rw [ek, hr, t2, u3]
      · rename_i hk1
        have ek : k = UInt8.ofNat 0 := UInt8.toNat_inj.1 (by have : k.toNat = 0 := by omega
                                                             rw [this]; rfl)
        cases h3 : rKV true m r1 with
        | no e => rw [h3] at h; cases h
        | ok q r3 =>
          rw [h3] at h
          simp only [Rd.map] at h
          cases h
          obtain ⟨u1, u2, u3, u4, u5⟩ := rKVt_right _ _ _ _ h3
          refine ⟨0, m, ⟨hm, by simp, u4, u5, .inr ⟨rfl, rfl, u1, u2⟩⟩, ?_⟩
          simp only [encB, List.cons_append, List.append_assoc]
          rw [ek, hr, u3, if_neg (by omega)]
theorem encB_ne {kd m : Nat} {d : ND} (h : OkB kd m d) (r : List UInt8) : ((encB kd m d ++ r).headD 0).toNat = kd := by
  simp only [encB, List.cons_append, List.headD_cons]
  obtain ⟨_, _, _, _, h5⟩ := h
  rcases h5 with ⟨rfl, _⟩ | ⟨rfl, _⟩ <;> rfl
/-- A node that may be, its kind and number. -/
theorem may_okB {d : ND} (hm : NMay d) : ∃ kd m, OkB kd m d ∧ encB kd m d = encN d ∧ ¬ (kd = 1 ∧ d.kids = []) := by
  have h1 := hm.keys
  have h2 := hm.2.2.1
  have h3 := hm.2.2.2
  have hmany := hm.1
  unfold Many at hmany
  rcases hmany with ⟨h0, h5, h6⟩ | ⟨h5, h6, h7, h8⟩
  · refine ⟨0, d.keys.length, ⟨by omega, fun k hk => by have := h3 k hk; omega, fun k hk => by have := h1 k hk; omega, h2, .inr ⟨rfl, h0, rfl, h6⟩⟩, ?_, by omega⟩
    unfold encB encN
    rw [if_pos h0, if_neg (by omega)]; rfl
  · have hne : d.kids ≠ [] := by intro e; rw [e] at h5; simp at h5
    refine ⟨1, d.kids.length, ⟨by omega, fun k hk => by have := h3 k hk; omega, fun k hk => by have := h1 k hk; omega, h2, .inl ⟨rfl, rfl, by omega, h8⟩⟩, ?_, by simp [hne]⟩
    unfold encB encN
    rw [if_neg hne, if_pos rfl]; rfl
theorem okB_may {kd m : Nat} {d : ND} (h : OkB kd m d) (hm : NMay d) (hk : ¬ (kd = 1 ∧ d.kids = [])) : encB kd m d = encN d := by
  obtain ⟨_, _, _, _, h5⟩ := h
  unfold encB encN
  rcases h5 with ⟨rfl, h6, h7, h8⟩ | ⟨rfl, h6, h7, h8⟩
  · have hk' : d.kids ≠ [] := fun e => hk ⟨rfl, e⟩
    rw [if_neg hk', if_pos rfl, h6]; rfl
  · rw [if_pos h6, if_neg (by omega), h7]; rfl
theorem rNode_enc {d : ND} (hm : NMay d) : rNode (encN d) = .ok d [] := by
  obtain ⟨kd, m, h1, h2, h3⟩ := may_okB hm
  have e1 := rNode0_enc h1 []
  have e2 := encB_ne h1 []
  rw [List.append_nil, h2] at e1 e2
  unfold rNode
  rw [e1, e2]
  simp only [rFin, ne_eq, not_true, if_false]
  rw [if_neg (fun hc => hc.elim (fun h => h hm) h3)]
theorem rNode_right {l r : List UInt8} {d : ND} (h : rNode l = .ok d r) : NMay d ∧ encN d = l ∧ r = [] := by
  unfold rNode at h
  cases h0 : rNode0 l with
  | no e => rw [h0] at h; cases h
  | ok d' r' =>
    rw [h0] at h
    obtain ⟨kd, m, h1, h2⟩ := rNode0_right h0
    have e2 := encB_ne h1 r'
    rw [← h2] at e2
    rw [e2] at h
    simp only [rFin] at h
    split at h
    · cases h
    rename_i hr
    split at h
    · cases h
    rename_i hc
    cases h
    have hr' : r = [] := by simpa using hr
    rw [not_or, Classical.not_not] at hc
    refine ⟨hc.1, ?_, hr'⟩
    rw [h2, hr', List.append_nil, okB_may h1 hc.1 hc.2]

/-! ### Sectors -/
theorem anyNz_rep (n : Nat) : anyNz (List.replicate n 0) = false := by
  unfold anyNz
  rw [List.any_eq_false]
  intro x hx
  rw [List.mem_replicate] at hx
  rw [hx.2]; decide
/-- A sector of some bytes. -/
def secL (l : List UInt8) : List UInt8 := frameL l ++ List.replicate (4088 - l.length) 0
theorem secL_len {l : List UInt8} (h : l.length ≤ 4088) : (secL l).length = 4096 := by
  unfold secL
  rw [List.length_append, frameL_len, List.length_replicate]; omega
theorem rDec_sec {l : List UInt8} (h : l.length ≤ 4088) : rDec (secL l) = rNode l := by
  have e := unf_of_frame l (List.replicate (4088 - l.length) 0) 4096 (by omega) (by omega)
  have e2 : unf (secL l) 4096 = (l, 8 + l.length, 0) := e
  unfold rDec
  rw [if_neg (by rw [secL_len h]; simp), e2]
  simp only [ne_eq, not_true, if_false]
  have e3 : (secL l).drop (8 + l.length) = List.replicate (4088 - l.length) 0 := by unfold secL; rw [List.drop_left' (frameL_len l)]
  rw [e3, anyNz_rep, if_neg (by simp)]
theorem secN_eq (d : ND) : secN d = secL (encN d) := rfl

end Go.Proofs.Ythagjflkdoafmaa.Hc
