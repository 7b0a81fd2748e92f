/- The plain law: two values that may be have the same text, just if they are the same. And the law Apart. -/
import Derived.Test.YtmibnfjjlibpgaaDoorTB
set_option linter.unusedVariables false
set_option linter.unusedSimpArgs false
namespace Go.Proofs.YtmibnfjjlibpgaaDoor.Hc
open Go Go.H Go.Proofs
set_option maxRecDepth 100000
set_option maxHeartbeats 8000000

/-! ### Quoted texts -/
def unhex (c : UInt8) : Nat := if c.toNat < 58 then c.toNat - 48 else c.toNat - 87
theorem unhex_hexd : ∀ k, k < 16 → unhex (hexd k) = k := by decide
def dec1 : List UInt8 → Nat × List UInt8
  | [] => (0, [])
  | x :: r => if x = 92 then (match r with
      | [] => (0, [])
      | y :: r1 => if y = 117 then (match r1 with
          | a :: b :: c :: d :: r2 => (unhex a * 4096 + unhex b * 256 + unhex c * 16 + unhex d, r2)
          | _ => (0, []))
        else if y = 98 then (8, r1) else if y = 116 then (9, r1) else if y = 110 then (10, r1) else if y = 102 then (12, r1) else if y = 114 then (13, r1) else (y.toNat, r1))
    else (x.toNat, r)
theorem ofNat_ne {n k : Nat} (hn : n < 256) (hk : k < 256) (h : n ≠ k) : UInt8.ofNat n ≠ UInt8.ofNat k := by
  intro e
  have := congrArg UInt8.toNat e
  simp only [UInt8.toNat_ofNat'] at this
  omega
theorem dec1_quoted (n : Nat) (hn : n < 65536) (x : List UInt8) : dec1 (quoted1 n ++ x) = (n, x) := by
  by_cases h1 : n = 34
  · subst h1; rfl
  by_cases h2 : n = 92
  · subst h2; rfl
  by_cases h3 : n = 8
  · subst h3; rfl
  by_cases h4 : n = 9
  · subst h4; rfl
  by_cases h5 : n = 10
  · subst h5; rfl
  by_cases h6 : n = 12
  · subst h6; rfl
  by_cases h7 : n = 13
  · subst h7; rfl
  have eC : quoted1 n = if n < 32 ∨ 126 < n then 92 :: 117 :: hexT n 4 else [UInt8.ofNat n] := by
    unfold quoted1
    rw [if_neg (by omega), if_neg (by omega), if_neg (by omega), if_neg (by omega), if_neg (by omega), if_neg (by omega)]
  rw [eC]
  split
  · have eH : hexT n 4 = [hexd (n / 4096), hexd (n / 256 % 16), hexd (n / 16 % 16), hexd (n % 16)] := by
      simp only [hexT]
      have h1 : n / 16 ^ 3 % 16 = n / 4096 := by omega
      have h2 : n / 16 ^ 2 % 16 = n / 256 % 16 := by omega
      have h3 : n / 16 ^ 1 % 16 = n / 16 % 16 := by omega
      have h4 : n / 16 ^ 0 % 16 = n % 16 := by omega
      rw [h1, h2, h3, h4]
    rw [eH]
    show (unhex (hexd (n / 4096)) * 4096 + unhex (hexd (n / 256 % 16)) * 256 + unhex (hexd (n / 16 % 16)) * 16 + unhex (hexd (n % 16)), x) = (n, x)
    rw [unhex_hexd _ (by omega), unhex_hexd _ (by omega), unhex_hexd _ (by omega), unhex_hexd _ (by omega)]
    congr 1; omega
  · rename_i hC
    have hne : UInt8.ofNat n ≠ 92 := ofNat_ne (k := 92) (by omega) (by omega) h2
    simp only [List.cons_append, List.nil_append, dec1, if_neg hne]
    congr 1
    simp only [UInt8.toNat_ofNat']; omega
theorem quoted1_head (n : Nat) (hn : n < 65536) : ∃ c t, quoted1 n = c :: t ∧ c ≠ 34 := by
  by_cases h1 : n = 34
  · exact ⟨92, [34], by subst h1; rfl, by decide⟩
  unfold quoted1
  repeat' split
  all_goals first
    | exact ⟨_, _, rfl, by decide⟩
    | exact ⟨_, _, rfl, ofNat_ne (k := 34) (by omega) (by omega) h1⟩
theorem flatq_inj : ∀ (us vs : List Nat) (r r' : List UInt8), (∀ n ∈ us, n < 65536) → (∀ n ∈ vs, n < 65536) → us.flatMap quoted1 ++ 34 :: r = vs.flatMap quoted1 ++ 34 :: r' → us = vs ∧ r = r'
  | [], [], r, r', _, _, e => by simpa using e
  | [], v :: vs, r, r', _, hv, e => by
    obtain ⟨c, t, ec, hc⟩ := quoted1_head v (hv v (by simp))
    simp only [List.flatMap_nil, List.nil_append, List.flatMap_cons, ec, List.cons_append] at e
    injection e with e1 e2
    exact absurd e1.symm hc
  | u :: us, [], r, r', hu, _, e => by
    obtain ⟨c, t, ec, hc⟩ := quoted1_head u (hu u (by simp))
    simp only [List.flatMap_nil, List.nil_append, List.flatMap_cons, ec, List.cons_append] at e
    injection e with e1 e2
    exact absurd e1 hc
  | u :: us, v :: vs, r, r', hu, hv, e => by
    simp only [List.flatMap_cons, List.append_assoc] at e
    have e1 := congrArg dec1 e
    rw [dec1_quoted u (hu u (by simp)), dec1_quoted v (hv v (by simp))] at e1
    injection e1 with e2 e3
    obtain ⟨e4, e5⟩ := flatq_inj us vs r r' (fun n h => hu n (by simp [h])) (fun n h => hv n (by simp [h])) e3
    exact ⟨by rw [e2, e4], e5⟩
theorem ulist_inj : ∀ (l m : List UInt8), l.length % 2 = 0 → m.length % 2 = 0 → ulist l = ulist m → l = m
  | [], [], _, _, _ => rfl
  | [_], _, h, _, _ => by simp at h
  | _, [_], _, h, _ => by simp at h
  | [], _ :: _ :: _, _, _, e => by simp [ulist] at e
  | _ :: _ :: _, [], _, _, e => by simp [ulist] at e
  | a :: b :: l, c :: d :: m, h1, h2, e => by
    simp only [ulist] at e
    injection e with e1 e2
    have h3 := a.toNat_lt
    have h4 := b.toNat_lt
    have h5 := c.toNat_lt
    have h6 := d.toNat_lt
    have ea : a = c := UInt8.toNat_inj.1 (by omega)
    have eb : b = d := UInt8.toNat_inj.1 (by omega)
    rw [ea, eb, ulist_inj l m (by simp only [List.length_cons] at h1; omega) (by simp only [List.length_cons] at h2; omega) e2]
theorem quoteL_inj {l m r r' : List UInt8} (h1 : l.length % 2 = 0) (h2 : m.length % 2 = 0) (e : quoteL l ++ r = quoteL m ++ r') : l = m ∧ r = r' := by
  unfold quoteL at e
  simp only [List.cons_append, List.append_assoc, List.nil_append] at e
  injection e with _ e1
  obtain ⟨e2, e3⟩ := flatq_inj _ _ _ _ (ulist_lt l) (ulist_lt m) e1
  exact ⟨ulist_inj _ _ h1 h2 e2, e3⟩
theorem ba_ext {s t : ByteArray} (h : s.data.toList = t.data.toList) : s = t := by
  apply ByteArray.ext
  exact Array.toList_inj.1 h

/-! ### Numbers -/
def stop (r : List UInt8) : Prop := r = [] ∨ ∃ c t, r = c :: t ∧ (c = 44 ∨ c = 93 ∨ c = 125)
def numS (c : UInt8) : Prop := c = 45 ∨ (48 ≤ c.toNat ∧ c.toNat ≤ 57)
theorem stop_num {c : UInt8} {t : List UInt8} (h : stop (c :: t)) : ¬ numS c := by
  rcases h with h | ⟨d, u, e, hd⟩
  · cases h
  · injection e with e1 e2
    subst e1
    rcases hd with rfl | rfl | rfl
    all_goals
      unfold numS
      decide
theorem span_inj : ∀ (l m r r' : List UInt8), (∀ c ∈ l, numS c) → (∀ c ∈ m, numS c) → stop r → stop r' → l ++ r = m ++ r' → l = m ∧ r = r'
  | [], [], r, r', _, _, _, _, e => ⟨rfl, e⟩
  | [], c :: m, r, r', _, hm, hr, _, e => by
    simp only [List.nil_append, List.cons_append] at e
    subst e
    exact absurd (hm c (by simp)) (stop_num hr)
  | c :: l, [], r, r', hl, _, _, hr, e => by
    simp only [List.nil_append, List.cons_append] at e
    subst e
    exact absurd (hl c (by simp)) (stop_num hr)
  | c :: l, d :: m, r, r', hl, hm, hr, hr', e => by
    simp only [List.cons_append] at e
    injection e with e1 e2
    obtain ⟨e3, e4⟩ := span_inj l m r r' (fun x h => hl x (by simp [h])) (fun x h => hm x (by simp [h])) hr hr' e2
    exact ⟨by rw [e1, e3], e4⟩
def dval (l : List UInt8) : Nat := l.foldl (fun acc c => 10 * acc + (c.toNat - 48)) 0
theorem dval_dec (n : Nat) : dval (Lib.decDigits n) = n ∧ (∀ c ∈ Lib.decDigits n, 48 ≤ c.toNat ∧ c.toNat ≤ 57) := by
  induction n using Nat.strongRecOn with
  | ind n ih =>
    rw [Lib.decDigits]
    split
    · rename_i h
      refine ⟨?_, ?_⟩
      · simp [dval]; omega
      · intro c hc
        simp only [List.mem_singleton] at hc
        subst hc
        simp only [UInt8.toNat_ofNat']; omega
    · rename_i h
      obtain ⟨i1, i2⟩ := ih (n / 10) (by omega)
      refine ⟨?_, ?_⟩
      · unfold dval at i1 ⊢
        rw [List.foldl_append, i1]
        simp; omega
      · intro c hc
        rcases List.mem_append.1 hc with hc | hc
        · exact i2 c hc
        · simp only [List.mem_singleton] at hc
          subst hc
          simp only [UInt8.toNat_ofNat']; omega
theorem itoa_num (n : Int) : ∀ c ∈ Lib.itoa n, numS c := by
  intro c hc
  unfold Lib.itoa at hc
  split at hc
  · rcases List.mem_cons.1 hc with rfl | hc
    · exact .inl rfl
    · exact .inr ((dval_dec _).2 c hc)
  · exact .inr ((dval_dec _).2 c hc)
theorem itoa_inj {n m : Int} (e : Lib.itoa n = Lib.itoa m) : n = m := by
  unfold Lib.itoa at e
  have hd : ∀ (a b : Nat), 45 :: Lib.decDigits a ≠ Lib.decDigits b := by
    intro a b e
    have := (dval_dec b).2 45 (by rw [← e]; simp)
    revert this; decide
  split at e <;> split at e
  · injection e with _ e
    have := congrArg dval e
    rw [(dval_dec _).1, (dval_dec _).1] at this
    omega
  · exact absurd e (hd _ _)
  · exact absurd e.symm (hd _ _)
  · have := congrArg dval e
    rw [(dval_dec _).1, (dval_dec _).1] at this
    omega

/-! ### Heads -/
def kindOf (c : UInt8) : Int := if c = 117 then 0 else if c = 110 then 1 else if c = 116 ∨ c = 102 then 2 else if c = 34 then 4 else if c = 91 then 5 else if c = 123 then 6 else 3
theorem kind_num {c : UInt8} (h : numS c) : kindOf c = 3 ∧ c ≠ 93 ∧ c ≠ 125 := by
  have key : ∀ c : Fin 256, (c.val = 45 ∨ (48 ≤ c.val ∧ c.val ≤ 57)) → kindOf (UInt8.ofNat c.val) = 3 ∧ UInt8.ofNat c.val ≠ 93 ∧ UInt8.ofNat c.val ≠ 125 := by decide
  have hc := c.toNat_lt
  have h' : c.toNat = 45 ∨ (48 ≤ c.toNat ∧ c.toNat ≤ 57) := by
    rcases h with h | h
    · subst h; exact .inl rfl
    · exact .inr h
  have this := key ⟨c.toNat, hc⟩ h'
  have e : UInt8.ofNat c.toNat = c := by simp
  dsimp only at this
  rw [e] at this
  exact this
theorem txt_head (d : DT) (hm : may d) : ∃ c t, txt d = c :: t ∧ kindOf c = d.kind ∧ c ≠ 93 ∧ c ≠ 125 := by
  obtain ⟨k, n, s, ks, l⟩ := d
  simp only [may] at hm
  simp only [txt, DT.kind]
  rcases hm.1 with ⟨hk | hk, _⟩ | ⟨hk, hn, _⟩ | ⟨hk, _⟩ | ⟨hk, _⟩ | ⟨hk, _⟩ | ⟨hk, _⟩
  · subst hk; exact ⟨117, _, rfl, by decide, by decide, by decide⟩
  · subst hk; exact ⟨110, _, rfl, by decide, by decide, by decide⟩
  · subst hk
    rcases hn with rfl | rfl
    · exact ⟨102, _, rfl, by decide, by decide, by decide⟩
    · exact ⟨116, _, rfl, by decide, by decide, by decide⟩
  · subst hk
    have hne := itoa_ne n
    have hnum := itoa_num n
    show ∃ c t, Lib.itoa n = c :: t ∧ _
    cases hi : Lib.itoa n with
    | nil => exact absurd hi hne
    | cons c t =>
      obtain ⟨h1, h2, h3⟩ := kind_num (hnum c (by rw [hi]; simp))
      exact ⟨c, t, rfl, h1, h2, h3⟩
  · subst hk; exact ⟨34, _, rfl, by decide, by decide, by decide⟩
  · subst hk; exact ⟨91, _, rfl, by decide, by decide, by decide⟩
  · subst hk; exact ⟨123, _, rfl, by decide, by decide, by decide⟩

/-! ### Lists of items -/
theorem commas_cons (x : List UInt8) (l : List (List UInt8)) : commas (x :: l) = x ++ l.flatMap fun x => 44 :: x := by unfold commas; simp
section
variable {α : Type} {f : α → List UInt8} {c : UInt8}
theorem stop_rest (l : List α) (hc : c = 93 ∨ c = 125) (r : List UInt8) : stop (((l.map f).flatMap fun x => 44 :: x) ++ c :: r) := by
  cases l with
  | nil => exact .inr ⟨c, r, rfl, .inr hc⟩
  | cons a l => exact .inr ⟨44, _, rfl, .inl rfl⟩
theorem rest_inj (hc : c = 93 ∨ c = 125) : ∀ (l m : List α) (r r' : List UInt8), (∀ x ∈ l, ∀ y ∈ m, ∀ s s', stop s → stop s' → f x ++ s = f y ++ s' → x = y ∧ s = s') →
    ((l.map f).flatMap fun x => 44 :: x) ++ c :: r = ((m.map f).flatMap fun x => 44 :: x) ++ c :: r' → l = m ∧ r = r'
  | [], [], r, r', _, e => by simpa using e
  | [], y :: m, r, r', _, e => by
    simp only [List.map_nil, List.flatMap_nil, List.nil_append, List.map_cons, List.flatMap_cons, List.cons_append] at e
    injection e with e1 e2
    rcases hc with rfl | rfl <;> exact absurd e1 (by decide)
  | x :: l, [], r, r', _, e => by
    simp only [List.map_nil, List.flatMap_nil, List.nil_append, List.map_cons, List.flatMap_cons, List.cons_append] at e
    injection e with e1 e2
    rcases hc with rfl | rfl <;> exact absurd e1 (by decide)
  | x :: l, y :: m, r, r', hx, e => by
    simp only [List.map_cons, List.flatMap_cons, List.cons_append, List.append_assoc] at e
    injection e with e1 e2
    obtain ⟨e3, e4⟩ := hx x (by simp) y (by simp) _ _ (stop_rest l hc r) (stop_rest m hc r') e2
    obtain ⟨e5, e6⟩ := rest_inj hc l m r r' (fun x h y k => hx x (by simp [h]) y (by simp [k])) e4
    exact ⟨by rw [e3, e5], e6⟩
theorem items_inj (hc : c = 93 ∨ c = 125) (l m : List α) (r r' : List UInt8) (hx : ∀ x ∈ l, ∀ y ∈ m, ∀ s s', stop s → stop s' → f x ++ s = f y ++ s' → x = y ∧ s = s')
    (hl : ∀ x ∈ l, ∃ d t, f x = d :: t ∧ d ≠ 93 ∧ d ≠ 125) (hm : ∀ x ∈ m, ∃ d t, f x = d :: t ∧ d ≠ 93 ∧ d ≠ 125)
    (e : commas (l.map f) ++ c :: r = commas (m.map f) ++ c :: r') : l = m ∧ r = r' := by
  cases l with
  | nil => cases m with
    | nil => simpa [commas_nil] using e
    | cons y m =>
      obtain ⟨d, t, ed, h1, h2⟩ := hm y (by simp)
      rw [List.map_nil, commas_nil, List.map_cons, commas_cons, ed] at e
      simp only [List.nil_append, List.cons_append] at e
      injection e with e1 e2
      rcases hc with rfl | rfl
      · exact absurd e1.symm h1
      · exact absurd e1.symm h2
  | cons x l => cases m with
    | nil =>
      obtain ⟨d, t, ed, h1, h2⟩ := hl x (by simp)
      rw [List.map_nil, commas_nil, List.map_cons, commas_cons, ed] at e
      simp only [List.nil_append, List.cons_append] at e
      injection e with e1 e2
      rcases hc with rfl | rfl
      · exact absurd e1 h1
      · exact absurd e1 h2
    | cons y m =>
      rw [List.map_cons, commas_cons, List.map_cons, commas_cons, List.append_assoc, List.append_assoc] at e
      obtain ⟨e3, e4⟩ := hx x (by simp) y (by simp) _ _ (stop_rest l hc r) (stop_rest m hc r') e
      obtain ⟨e5, e6⟩ := rest_inj hc l m r r' (fun x h y k => hx x (by simp [h]) y (by simp [k])) e4
      exact ⟨by rw [e3, e5], e6⟩
end
def pairT (p : ByteArray × DT) : List UInt8 := quoteL p.1.data.toList ++ 58 :: txt p.2
theorem pairs_zip : ∀ (ks : List ByteArray) (l : List DT), pairs ks (txts l) = (ks.zip l).map pairT
  | [], l => by simp [pairs]
  | k :: ks, [] => by simp [pairs, txts]
  | k :: ks, d :: l => by
    have := pairs_zip ks l
    unfold pairs at this ⊢
    simp only [txts, List.zipWith_cons_cons, List.zip_cons_cons, List.map_cons, this, pairT]
theorem zip_inj : ∀ (ks js : List ByteArray) (l m : List DT), ks.length = l.length → js.length = m.length → ks.zip l = js.zip m → ks = js ∧ l = m
  | [], [], [], [], _, _, _ => ⟨rfl, rfl⟩
  | [], j :: js, [], d :: m, _, _, e => by simp at e
  | k :: ks, [], d :: l, [], _, _, e => by simp at e
  | k :: ks, j :: js, d :: l, x :: m, h1, h2, e => by
    simp only [List.zip_cons_cons] at e
    injection e with e1 e2
    injection e1 with e3 e4
    obtain ⟨e5, e6⟩ := zip_inj ks js l m (by simpa using h1) (by simpa using h2) e2
    exact ⟨by rw [e3, e5], by rw [e4, e6]⟩
  | [], _, _ :: _, _, h, _, _ => by simp at h
  | _ :: _, _, [], _, h, _, _ => by simp at h
  | _, [], _, _ :: _, _, h, _ => by simp at h
  | _, _ :: _, _, [], _, h, _ => by simp at h

theorem txt_inj : ∀ (a b : DT), may a → may b → ∀ r r', stop r → stop r' → txt a ++ r = txt b ++ r' → a = b ∧ r = r' := by
  intro a
  induction a using (measure (fun d : DT => SizeOf.sizeOf d)).wf.induction with
  | _ a ih =>
  intro b ha hb r r' hr hr' e
  obtain ⟨c, t, ea, ka, _⟩ := txt_head a ha
  obtain ⟨c', t', eb, kb, _⟩ := txt_head b hb
  have hkk : a.kind = b.kind := by
    rw [ea, eb] at e
    simp only [List.cons_append] at e
    injection e with e1 _
    rw [← ka, ← kb, e1]
  clear ea eb ka kb
  obtain ⟨k1, n1, s1, ks1, l1⟩ := a
  obtain ⟨k2, n2, s2, ks2, l2⟩ := b
  have hk : k1 = k2 := hkk
  subst hk
  simp only [may] at ha hb
  have own2 := hb.1
  rcases ha.1 with ⟨hk | hk, p1, p2, p3, p4⟩ | ⟨hk, hn, p2, p3, p4⟩ | ⟨hk, _, p2, p3, p4⟩ | ⟨hk, p1, p2, p3, p4⟩ | ⟨hk, p1, p2, p3⟩ | ⟨hk, p1, p2, hg⟩
  · subst hk
    have q : n2 = 0 ∧ s2 = ⟨#[]⟩ ∧ ks2 = [] ∧ l2 = [] := by unfold Own1 at own2; rcases own2 with h | h | h | h | h | h <;> first | exact h.2 | (exfalso; omega)
    obtain ⟨q1, q2, q3, q4⟩ := q
    subst p1 p2 p3 p4 q1 q2 q3 q4
    exact ⟨rfl, List.append_cancel_left e⟩
  · subst hk
    have q : n2 = 0 ∧ s2 = ⟨#[]⟩ ∧ ks2 = [] ∧ l2 = [] := by unfold Own1 at own2; rcases own2 with h | h | h | h | h | h <;> first | exact h.2 | (exfalso; omega)
    obtain ⟨q1, q2, q3, q4⟩ := q
    subst p1 p2 p3 p4 q1 q2 q3 q4
    exact ⟨rfl, List.append_cancel_left e⟩
  · subst hk
    have q : (n2 = 0 ∨ n2 = 1) ∧ s2 = ⟨#[]⟩ ∧ ks2 = [] ∧ l2 = [] := by unfold Own1 at own2; rcases own2 with h | h | h | h | h | h <;> first | exact h.2 | (exfalso; omega)
    obtain ⟨q1, q2, q3, q4⟩ := q
    subst p2 p3 p4 q2 q3 q4
    rcases hn with rfl | rfl <;> rcases q1 with rfl | rfl
    · exact ⟨rfl, List.append_cancel_left e⟩
    · simp [txt] at e
    · simp [txt] at e
    · exact ⟨rfl, List.append_cancel_left e⟩
  · subst hk
    have q : s2 = ⟨#[]⟩ ∧ ks2 = [] ∧ l2 = [] := by unfold Own1 at own2; rcases own2 with h | h | h | h | h | h <;> first | exact h.2.2 | (exfalso; omega)
    obtain ⟨q2, q3, q4⟩ := q
    subst p2 p3 p4 q2 q3 q4
    obtain ⟨e1, e2⟩ := span_inj _ _ _ _ (itoa_num n1) (itoa_num n2) hr hr' e
    rw [itoa_inj e1]
    exact ⟨rfl, e2⟩
  · subst hk
    have q : n2 = 0 ∧ s2.size % 2 = 0 ∧ ks2 = [] ∧ l2 = [] := by unfold Own1 at own2; rcases own2 with h | h | h | h | h | h <;> first | exact h.2 | (exfalso; omega)
    obtain ⟨q1, q2, q3, q4⟩ := q
    subst p1 p3 p4 q1 q3 q4
    obtain ⟨e1, e2⟩ := quoteL_inj (l := s1.data.toList) (m := s2.data.toList) p2 q2 e
    rw [ba_ext e1]
    exact ⟨rfl, e2⟩
  · subst hk
    have q : n2 = 0 ∧ s2 = ⟨#[]⟩ ∧ ks2 = [] := by unfold Own1 at own2; rcases own2 with h | h | h | h | h | h <;> first | exact h.2 | (exfalso; omega)
    obtain ⟨q1, q2, q3⟩ := q
    subst p1 p2 p3 q1 q2 q3
    have e' : 91 :: ((commas (txts l1) ++ [93]) ++ r) = 91 :: ((commas (txts l2) ++ [93]) ++ r') := e
    injection e' with _ e1
    rw [List.append_assoc, List.append_assoc, txts_map, txts_map] at e1
    have hm1 := (mays_iff l1).1 ha.2
    have hm2 := (mays_iff l2).1 hb.2
    obtain ⟨e2, e3⟩ := items_inj (.inl rfl) l1 l2 r r' (fun x hx y hy s s' hs hs' ee => by
        obtain ⟨i, hi, rfl⟩ := List.getElem_of_mem hx
        exact ih l1[i] (dt_lt hi) y (hm1 _ hx) (hm2 _ hy) s s' hs hs' ee)
      (fun x hx => by obtain ⟨d, t, h1, _, h2⟩ := txt_head x (hm1 x hx); exact ⟨d, t, h1, h2⟩) (fun x hx => by obtain ⟨d, t, h1, _, h2⟩ := txt_head x (hm2 x hx); exact ⟨d, t, h1, h2⟩) e1
    rw [e2]
    exact ⟨rfl, e3⟩
  · subst hk
    have q : n2 = 0 ∧ s2 = ⟨#[]⟩ ∧ GoodKeys ks2 l2.length := by unfold Own1 at own2; rcases own2 with h | h | h | h | h | h <;> first | exact h.2 | (exfalso; omega)
    obtain ⟨q1, q2, hg2⟩ := q
    subst p1 p2 q1 q2
    have e' : 123 :: ((commas (pairs ks1 (txts l1)) ++ [125]) ++ r) = 123 :: ((commas (pairs ks2 (txts l2)) ++ [125]) ++ r') := e
    injection e' with _ e1
    rw [List.append_assoc, List.append_assoc, pairs_zip, pairs_zip] at e1
    have hm1 := (mays_iff l1).1 ha.2
    have hm2 := (mays_iff l2).1 hb.2
    obtain ⟨e2, e3⟩ := items_inj (f := pairT) (.inr rfl) (ks1.zip l1) (ks2.zip l2) r r' (fun x hx y hy s s' hs hs' ee => by
        obtain ⟨x1, x2⟩ := x
        obtain ⟨y1, y2⟩ := y
        have hx1 := (List.of_mem_zip hx)
        have hy1 := (List.of_mem_zip hy)
        simp only [pairT, List.append_assoc, List.cons_append] at ee
        obtain ⟨f1, f2⟩ := quoteL_inj (hg.1 _ hx1.1) (hg2.1 _ hy1.1) ee
        injection f2 with _ f3
        obtain ⟨i, hi, hxi⟩ := List.getElem_of_mem hx1.2
        subst hxi
        obtain ⟨f4, f5⟩ := ih l1[i] (dt_lt hi) y2 (hm1 _ hx1.2) (hm2 _ hy1.2) s s' hs hs' f3
        exact ⟨by rw [ba_ext f1, f4], f5⟩)
      (fun x hx => ⟨34, _, rfl, by decide, by decide⟩) (fun x hx => ⟨34, _, rfl, by decide, by decide⟩) e1
    obtain ⟨e4, e5⟩ := zip_inj ks1 ks2 l1 l2 hg.2.2 hg2.2.2 e2
    rw [e4, e5]
    exact ⟨rfl, e3⟩
theorem txt_eq {a b : DT} (ha : may a) (hb : may b) : txt a = txt b ↔ a = b := by
  constructor
  · intro e
    exact (txt_inj a b ha hb [] [] (.inl rfl) (.inl rfl) (by rw [e])).1
  · rintro rfl; rfl

theorem dataApart_spec {t t' : DT} {h : Heap} {cs ds : List Value} (ra : Rep h t cs) (hv : vol t ≤ 1048576) (rb : Rep h t' ds) (hv' : vol t' ≤ 1048576) (gl : Glob h) :
    HCalls Tryd.prog 7 #[.agg cs.toArray, .agg ds.toArray] h fun e h' => e = .returned (.bool true) ∧ Ext h h' := by
  have hcl := ra.len
  have hdl := rb.len
  have hd := deep_vol t
  have hd' := deep_vol t'
  refine c7 (by simp) ?_
  ((conv=>whnf);repeat((first|(with_reducible first|refine Z1 ?_|refine Z2 ?_|refine Z3 ?_|refine Z4 ?_|refine Z5 ?_|refine Z9 (by assumption) rfl ?_|refine ZA (by assumption) rfl ?_|refine ZB (by assumption) rfl ?_|refine Z6 ?_|refine Z7 ?_|refine Z8 ?_)|((with_reducible refine ZM ?_ ?_);(focus rfl)));(conv=>whnf)))
  refine new_var (e := 25) cs rfl ?_
  intro h1 b1 o1 x1 z1 hb1
  ((conv=>whnf);repeat((first|(with_reducible first|refine Z1 ?_|refine Z2 ?_|refine Z3 ?_|refine Z4 ?_|refine Z5 ?_|refine Z9 (by assumption) rfl ?_|refine ZA (by assumption) rfl ?_|refine ZB (by assumption) rfl ?_|refine Z6 ?_|refine Z7 ?_|refine Z8 ?_)|((with_reducible refine ZM ?_ ?_);(focus rfl)));(conv=>whnf)))
  refine new_var (e := 25) ds rfl ?_
  intro h2 b2 o2 x2 z2 hb2
  have x12 := x1.trans x2
  have p2 := o1.ext x2
  clear o1
  ((conv=>whnf);repeat((first|(with_reducible first|refine Z1 ?_|refine Z2 ?_|refine Z3 ?_|refine Z4 ?_|refine Z5 ?_|refine Z9 (by assumption) rfl ?_|refine ZA (by assumption) rfl ?_|refine ZB (by assumption) rfl ?_|refine Z6 ?_|refine Z7 ?_|refine Z8 ?_)|((with_reducible refine ZM ?_ ?_);(focus rfl)));(conv=>whnf)))
  refine HCall.mk ((live_spec h2 (gl.ext x12)).mono ?_)
  rintro e h3 ⟨rfl, x3⟩
  have p3 := p2.ext x3
  have q3 := o2.ext x3
  have x13 := x12.trans x3
  clear p2 o2
  ((conv=>whnf);repeat((first|(with_reducible first|refine Z1 ?_|refine Z2 ?_|refine Z3 ?_|refine Z4 ?_|refine Z5 ?_|refine Z9 (by assumption) rfl ?_|refine ZA (by assumption) rfl ?_|refine ZB (by assumption) rfl ?_|refine Z6 ?_|refine Z7 ?_|refine Z8 ?_|refine ZB (by assumption) (by assumption) ?_)|((with_reducible refine ZM ?_ ?_);(focus rfl)));(conv=>whnf)))
  refine HCall.mk ((text_spec t h3 cs (Rep.ext x13 _ _ ra) (by omega) (by omega) (gl.ext x13)).mono ?_)
  rintro e h4 ⟨n, s, rfl, ⟨hc, hs⟩, x4⟩
  have p4 := p3.ext x4
  have q4 := q3.ext x4
  have x14 := x13.trans x4
  clear p3 q3
  ((conv=>whnf);repeat((first|(with_reducible first|refine Z1 ?_|refine Z2 ?_|refine Z3 ?_|refine Z4 ?_|refine Z5 ?_|refine Z9 (by assumption) rfl ?_|refine ZA (by assumption) rfl ?_|refine ZB (by assumption) rfl ?_|refine Z6 ?_|refine Z7 ?_|refine Z8 ?_|refine ZB (by assumption) (by assumption) ?_)|((with_reducible refine ZM ?_ ?_);(focus rfl)));(conv=>whnf)))
  refine HCall.mk ((text_spec t' h4 ds (Rep.ext x14 _ _ rb) (by omega) (by omega) (gl.ext x14)).mono ?_)
  rintro e h5 ⟨m, s', rfl, ⟨hc', hs'⟩, x5⟩
  have p5 := p4.ext x5
  have q5 := q4.ext x5
  have x15 := x14.trans x5
  clear p4 q4
  by_cases hn : n = 0
  rotate_left
  · have q : ((n : Int) != 0) = true := bne_iff_ne.2 hn
    ((conv=>whnf);repeat((first|(with_reducible first|refine Z1 ?_|refine Z2 ?_|refine Z3 ?_|refine Z4 ?_|refine Z5 ?_|refine Z9 (by assumption) rfl ?_|refine ZA (by assumption) rfl ?_|refine ZB (by assumption) rfl ?_|refine Z6 ?_|refine Z7 ?_|refine Z8 ?_)|((with_reducible refine ZM ?_ ?_);(focus rfl)));(conv=>whnf)))
    exact ⟨rfl, x15⟩
  have q : ((n : Int) != 0) = false := by rw [hn]; rfl
  by_cases hm : m = 0
  rotate_left
  · have q' : ((m : Int) != 0) = true := bne_iff_ne.2 hm
    ((conv=>whnf);repeat((first|(with_reducible first|refine Z1 ?_|refine Z2 ?_|refine Z3 ?_|refine Z4 ?_|refine Z5 ?_|refine Z9 (by assumption) rfl ?_|refine ZA (by assumption) rfl ?_|refine ZB (by assumption) rfl ?_|refine Z6 ?_|refine Z7 ?_|refine Z8 ?_)|((with_reducible refine ZM ?_ ?_);(focus rfl)));(conv=>whnf)))
    exact ⟨rfl, x15⟩
  have q' : ((m : Int) != 0) = false := by rw [hm]; rfl
  have m1 : may t := by rcases hc with h | h | h <;> first | exact h.1 | (have := h.2; omega)
  have m2 : may t' := by rcases hc' with h | h | h <;> first | exact h.1 | (have := h.2; omega)
  rw [if_pos hn] at hs
  rw [if_pos hm] at hs'
  have hst : strEq s s' = true ↔ t = t' := by
    rw [strEq_iff, hs, hs', ← txt_eq m1 m2]
    constructor
    · intro e
      have := congrArg (fun s : ByteArray => s.data.toList) e
      simpa using this
    · intro e; rw [e]
  ((conv=>whnf);repeat((first|(with_reducible first|refine Z1 ?_|refine Z2 ?_|refine Z3 ?_|refine Z4 ?_|refine Z5 ?_|refine Z9 (by assumption) rfl ?_|refine ZA (by assumption) rfl ?_|refine ZB (by assumption) rfl ?_|refine Z6 ?_|refine Z7 ?_|refine Z8 ?_|refine ZB (by assumption) (by assumption) ?_)|((with_reducible refine ZM ?_ ?_);(focus rfl)));(conv=>whnf)))
  refine HCall.mk ((rsame_spec t t' h5 cs ds (Rep.ext x15 _ _ ra) (Rep.ext x15 _ _ rb)).mono ?_)
  rintro e h6 ⟨r, rfl, hr, x6⟩
  ((conv=>whnf);repeat((first|(with_reducible first|refine Z1 ?_|refine Z2 ?_|refine Z3 ?_|refine Z4 ?_|refine Z5 ?_|refine Z9 (by assumption) rfl ?_|refine ZA (by assumption) rfl ?_|refine ZB (by assumption) rfl ?_|refine Z6 ?_|refine Z7 ?_|refine Z8 ?_)|((with_reducible refine ZM ?_ ?_);(focus rfl)));(conv=>whnf)))
  refine ⟨?_, x15.trans x6⟩
  show Ending.returned (.bool (strEq s s' == r)) = _
  have : strEq s s' = r := by rw [Bool.eq_iff_iff, hst, hr]
  rw [this, beq_self_eq_true]

end Go.Proofs.YtmibnfjjlibpgaaDoor.Hc
