import Derived.Test.YthagjflkdoafmaaN2
set_option linter.unusedVariables false
set_option linter.unusedSimpArgs false
namespace Go.Proofs.Ythagjflkdoafmaa.Hc
open Go Go.H Go.Proofs
set_option maxRecDepth 100000
set_option maxHeartbeats 4000000

/-- A text's bytes. -/
def ntxt (s : ByteArray) : List UInt8 := leb s.size ++ s.data.toList
theorem ntxt_size (s : ByteArray) : (ntxt s).length = (leb s.size).length + s.size := by simp only [ntxt, List.length_append]; rfl
theorem ntxt_len (s : ByteArray) (h : s.size ≤ 1048576) : (ntxt s).length ≤ s.size + 10 := by
  have := leb_len s.size (by omega)
  rw [ntxt_size]; omega
theorem leb_two (n : Nat) (h : n ≤ 1024) : (leb n).length ≤ 2 := by
  by_cases h1 : n < 128
  · rw [leb_small h1]; simp
  · rw [leb_big h1, leb_small (by omega)]; simp
theorem leb_five (n : Nat) (h : n ≤ 2147483647) : (leb n).length ≤ 5 := by
  have key : ∀ (k n : Nat), n < 128 ^ (k + 1) → (leb n).length ≤ k + 1 := by
    intro k
    induction k with
    | zero => intro n hn; rw [leb_small (by simpa using hn)]; simp
    | succ k ih =>
      intro n hn
      by_cases h1 : n < 128
      · rw [leb_small h1]; simp
      · rw [leb_big h1]; simp only [List.length_cons]
        have := ih (n / 128) (by rw [Nat.div_lt_iff_lt_mul (by omega)]; rw [Nat.pow_succ] at hn; exact hn)
        omega
  exact key 4 n (by have : (128 : Nat) ^ 5 = 34359738368 := by decide
                    omega)
/-- Keys and values, one pair behind the other. -/
def encP : List ByteArray → List ByteArray → List UInt8
  | k :: ks, v :: vs => ntxt k ++ (ntxt v ++ encP ks vs)
  | _, _ => []
def encT (ks : List ByteArray) : List UInt8 := ks.flatMap ntxt
def encI (ks : List Int) : List UInt8 := ks.flatMap fun k => leb k.toNat
/-- A node's bytes. -/
def encN (d : ND) : List UInt8 := if d.kids = [] then 0 :: (leb d.keys.length ++ encP d.keys d.vals) else 1 :: (leb d.kids.length ++ (encI d.kids ++ encT d.keys))
theorem encP_snoc (k v : ByteArray) : ∀ (ks vs : List ByteArray), ks.length = vs.length → encP (ks ++ [k]) (vs ++ [v]) = encP ks vs ++ (ntxt k ++ ntxt v)
  | [], [], _ => by simp [encP]
  | a :: ks, b :: vs, h => by simp only [List.cons_append, encP, encP_snoc k v ks vs (by simpa using h), List.append_assoc]
  | [], _ :: _, h => by simp at h
  | _ :: _, [], h => by simp at h
theorem encT_snoc (ks : List ByteArray) (k : ByteArray) : encT (ks ++ [k]) = encT ks ++ ntxt k := by simp [encT]
theorem encI_snoc (ks : List Int) (k : Int) : encI (ks ++ [k]) = encI ks ++ leb k.toNat := by simp [encI]
theorem encP_len : ∀ (ks vs : List ByteArray), (∀ k ∈ ks, k.size ≤ 256) → (∀ v ∈ vs, v.size ≤ 1024) → (encP ks vs).length ≤ 1284 * ks.length
  | [], vs, _, _ => by simp [encP]
  | k :: ks, [], _, _ => by simp [encP]
  | k :: ks, v :: vs, hk, hv => by
    have h1 := encP_len ks vs (fun x hx => hk x (by simp [hx])) (fun x hx => hv x (by simp [hx]))
    have h2 := hk k (by simp)
    have h3 := hv v (by simp)
    have h4 := leb_two k.size (by omega)
    have h5 := leb_two v.size (by omega)
    simp only [encP, List.length_append, ntxt_size, List.length_cons]; omega
theorem encT_len : ∀ (ks : List ByteArray), (∀ k ∈ ks, k.size ≤ 256) → (encT ks).length ≤ 258 * ks.length
  | [], _ => by simp [encT]
  | k :: ks, hk => by
    have h1 := encT_len ks (fun x hx => hk x (by simp [hx]))
    have h2 := hk k (by simp)
    have h4 := leb_two k.size (by omega)
    simp only [encT, List.flatMap_cons, List.length_append, ntxt_size, List.length_cons] at h1 ⊢; omega
theorem encI_len : ∀ (ks : List Int), (∀ k ∈ ks, 1 ≤ k ∧ k ≤ 2147483647) → (encI ks).length ≤ 5 * ks.length
  | [], _ => by simp [encI]
  | k :: ks, hk => by
    have h1 := encI_len ks (fun x hx => hk x (by simp [hx]))
    have h2 := hk k (by simp)
    have h4 := leb_five k.toNat (by omega)
    simp only [encI, List.flatMap_cons, List.length_append, List.length_cons] at h1 ⊢; omega
theorem NMay.keys {d : ND} (hm : NMay d) : ∀ k ∈ d.keys, k.size ≤ 256 := by
  intro k hk
  obtain ⟨i, hi, rfl⟩ := List.getElem_of_mem hk
  exact (hm.2.1 i hi hi).1
theorem encN_len {d : ND} (hm : NMay d) : (encN d).length ≤ 4088 := by
  have h1 := hm.keys
  have h2 := encP_len d.keys d.vals h1 hm.2.2.1
  have h3 := encT_len d.keys h1
  have h4 := encI_len d.kids hm.2.2.2
  have hmany := hm.1
  unfold Many at hmany
  unfold encN
  rcases hmany with ⟨h0, h5, h6⟩ | ⟨h5, h6, h7, h8⟩
  · have := leb_two d.keys.length (by omega)
    rw [if_pos h0]; simp only [List.length_cons, List.length_append]; omega
  · have := leb_two d.kids.length (by omega)
    have h9 : d.kids ≠ [] := by intro e; rw [e] at h5; simp at h5
    rw [if_neg h9]; simp only [List.length_cons, List.length_append]; omega
/-- A node's sector. -/
def secN (d : ND) : List UInt8 := frameL (encN d) ++ List.replicate (4088 - (encN d).length) 0
theorem secN_len {d : ND} (hm : NMay d) : (secN d).length = 4096 := by
  have := encN_len hm
  unfold secN
  rw [List.length_append, frameL_len, List.length_replicate]; omega
theorem ntext_spec (s : ByteArray) (hs : s.size ≤ 140737488351232) (h : Heap) : HCalls Try.prog 25 #[.string s] h fun e h' => ∃ a c, e = .returned (.slice a (ntxt s).length c) ∧
    Own h' h.size 5 1 a (ntxt s).length c ((ntxt s).map byteV) ∧ Ext h h' := by
  rw [ntxt_size]; exact text_spec s hs h
theorem rntext_spec (s : ByteArray) (hs : s.size ≤ 140737488351232) (h : Heap) : HCalls Try.prog 49 #[.string s] h fun e h' => ∃ a c, e = .returned (.slice a (ntxt s).length c) ∧
    Own h' h.size 5 1 a (ntxt s).length c ((ntxt s).map byteV) ∧ Ext h h' := by
  rw [ntxt_size]; exact rtext_spec s hs h

end Go.Proofs.Ythagjflkdoafmaa.Hc
