import Derived.Test.YtkcnjcdggbifeaaAB
import Derived.Test.YtkcnjcdggbifeaaB0
set_option linter.unusedVariables false
set_option linter.unusedSimpArgs false
namespace Go.Proofs.Ytkcnjcdggbifeaa.Hc
open Go Go.H Go.Proofs
set_option maxRecDepth 100000

theorem vols_take {l : List DT} {i : Nat} (hi : i < l.length) : vols (l.take i) + vol l[i] ≤ vols l := by
  have := vols_append (l.take (i + 1)) (l.drop (i + 1))
  rw [List.take_append_drop, take_succ' hi, vols_append] at this
  simp only [vols] at this; omega
theorem kvol_take {l : List ByteArray} {i : Nat} (hi : i < l.length) : kvol (l.take i) + (l[i].size + 1) ≤ kvol l := by
  have := kvol_append (l.take (i + 1)) (l.drop (i + 1))
  rw [List.take_append_drop, take_succ' hi, kvol_append] at this
  simp only [kvol] at this; omega
theorem kvol_take_le (l : List ByteArray) (i : Nat) : kvol (l.take i) ≤ kvol l := by
  have := kvol_append (l.take i) (l.drop i)
  rw [List.take_append_drop] at this; omega
theorem vols_take_le (l : List DT) (i : Nat) : vols (l.take i) ≤ vols l := by
  have := vols_append (l.take i) (l.drop i)
  rw [List.take_append_drop] at this; omega
/-- A text's bytes. -/
def txt (s : ByteArray) : List UInt8 := leb s.size ++ s.data.toList
mutual
/-- A value's bytes. -/
def enc : DT → List UInt8
  | .mk k n s ks l =>
    if k = 0 then [0] else if k = 1 then [1] else if k = 2 then [UInt8.ofNat (2 + n).toNat]
    else if k = 3 then (if n < 0 then 5 :: leb (-1 - n).toNat else 4 :: leb n.toNat)
    else if k = 4 then 6 :: txt s
    else (if k = 6 then 8 else 7) :: (leb l.length ++ encK ks l)
def encK : List ByteArray → List DT → List UInt8
  | _, [] => []
  | [], d :: r => enc d ++ encK [] r
  | k :: ks, d :: r => txt k ++ (enc d ++ encK ks r)
end
theorem encK_nil (ks : List ByteArray) : encK ks [] = [] := by cases ks <;> rfl
theorem encK_snoc0 (d : DT) : ∀ (l : List DT), encK [] (l ++ [d]) = encK [] l ++ enc d
  | [] => by simp [encK]
  | e :: l => by simp only [List.cons_append, encK, encK_snoc0 d l, List.append_assoc]
theorem encK_snoc (k : ByteArray) (d : DT) : ∀ (ks : List ByteArray) (l : List DT), ks.length = l.length → encK (ks ++ [k]) (l ++ [d]) = encK ks l ++ (txt k ++ enc d)
  | [], [], _ => by simp [encK]
  | a :: ks, e :: l, h => by simp only [List.cons_append, encK, encK_snoc k d ks l (by simpa using h), List.append_assoc]
  | [], _ :: _, h => by simp at h
  | _ :: _, [], h => by simp at h
theorem txt_len (s : ByteArray) (h : s.size < 2 ^ 64) : (txt s).length ≤ 10 * (s.size + 1) := by
  have := leb_len s.size h
  have e : s.data.toList.length = s.size := rfl
  simp only [txt, List.length_append, e]; omega
mutual
theorem enc_len : ∀ (d : DT), vol d ≤ 1073741824 → i64 d.num → (∀ k ∈ d.keys, k.size < 2 ^ 64) → (∀ x ∈ d.list, may x) → (enc d).length ≤ 12 * vol d
  | .mk k n s ks l, hv, hn, hk, hl => by
    have h1 := leb_len (-1 - n).toNat (by simp only [DT.num, i64] at hn; omega)
    have h2 := leb_len n.toNat (by simp only [DT.num, i64] at hn; omega)
    simp only [vol] at hv ⊢
    have h3 := vols_len l
    have h4 := leb_len l.length (by omega)
    have h5 := txt_len s (by omega)
    have h6 := encK_len ks l (by omega) (by omega) (by simpa [DT.list] using hl)
    simp only [enc]
    split
    · simp; omega
    split
    · simp; omega
    split
    · simp; omega
    split
    · split <;> simp only [List.length_cons] <;> omega
    split
    · simp only [List.length_cons]; omega
    · simp only [List.length_cons, List.length_append]; omega
theorem encK_len : ∀ (ks : List ByteArray) (l : List DT), kvol ks ≤ 1073741824 → vols l ≤ 1073741824 → (∀ x ∈ l, may x) → (encK ks l).length ≤ 12 * kvol ks + 12 * vols l
  | ks, [], _, _, _ => by rw [encK_nil]; simp
  | [], d :: r, hk, hv, hm => by
    simp only [vols] at hv
    have h1 := enc_len d (by omega) (by have := hm d (by simp); cases d; simp only [may, Own1] at this; simp only [DT.num, i64]; omega) ?_ ?_
    have h2 := encK_len [] r hk (by omega) (fun x hx => hm x (by simp [hx]))
    simp only [encK, List.length_append, vols, kvol] at *; omega
    · intro k hk
      have := kvol_mem d.keys k hk
      have : kvol d.keys ≤ vol d := by cases d; simp only [vol, DT.keys]; omega
      omega
    · have := hm d (by simp); cases d; simp only [may] at this; simp only [DT.list]; exact (mays_iff _).1 this.2
  | k :: ks, d :: r, hk, hv, hm => by
    simp only [vols] at hv
    simp only [kvol] at hk
    have h1 := enc_len d (by omega) (by have := hm d (by simp); cases d; simp only [may, Own1] at this; simp only [DT.num, i64]; omega) ?_ ?_
    have h2 := encK_len ks r (by omega) (by omega) (fun x hx => hm x (by simp [hx]))
    have h3 := txt_len k (by omega)
    simp only [encK, List.length_append, vols, kvol] at *; omega
    · intro k hk
      have := kvol_mem d.keys k hk
      have : kvol d.keys ≤ vol d := by cases d; simp only [vol, DT.keys]; omega
      omega
    · have := hm d (by simp); cases d; simp only [may] at this; simp only [DT.list]; exact (mays_iff _).1 this.2
end
theorem enc_le {d : DT} (hv : vol d ≤ 1073741824) (hm : may d) : (enc d).length ≤ 12 * vol d := by
  refine enc_len d hv ?_ ?_ ?_
  · cases d; simp only [may, Own1] at hm; simp only [DT.num, i64]; omega
  · intro k hk
    have := kvol_mem d.keys k hk
    have : kvol d.keys ≤ vol d := by cases d; simp only [vol, DT.keys]; omega
    omega
  · cases d; simp only [may] at hm; simp only [DT.list]; exact (mays_iff _).1 hm.2

/-- What a buffer that grows leaves alone. -/
def Grew (h : Heap) (a : Option Addr) (h' : Heap) (a' : Option Addr) : Prop :=
  h.size ≤ h'.size ∧ (∀ b, b < h.size → (∀ p, a = some p → p.block ≠ b) → h'[b]? = h[b]?) ∧ (∀ p', a' = some p' → (∃ p, a = some p ∧ p'.block = p.block) ∨ h.size ≤ p'.block)
theorem Grew.refl (h : Heap) (a : Option Addr) : Grew h a h a := ⟨Nat.le_refl _, fun _ _ _ => rfl, fun p ep => .inl ⟨p, ep, rfl⟩⟩
theorem Grew.of_ext {h h' : Heap} (x : Ext h h') (a : Option Addr) : Grew h a h' a := ⟨x.1, fun b hb _ => x.2 b hb, fun p ep => .inl ⟨p, ep, rfl⟩⟩
theorem Grew.trans {h h1 h2 : Heap} {a a1 a2 : Option Addr} (x : Grew h a h1 a1) (y : Grew h1 a1 h2 a2) : Grew h a h2 a2 := by
  refine ⟨Nat.le_trans x.1 y.1, fun b hb hne => ?_, fun p ep => ?_⟩
  · rw [y.2.1 b (by have := x.1; omega), x.2.1 b hb hne]
    intro p ep
    rcases x.2.2 p ep with ⟨q, eq, hq⟩ | hq
    · have := hne q eq; omega
    · omega
  · rcases y.2.2 p ep with ⟨q, eq, hq⟩ | hq
    · rcases x.2.2 q eq with ⟨r, er, hr⟩ | hr
      · exact .inl ⟨r, er, by omega⟩
      · exact .inr (by omega)
    · exact .inr (by have := x.1; omega)
theorem Grew.ext {h h1 h2 : Heap} {a a1 : Option Addr} (x : Grew h a h1 a1) (y : Ext h1 h2) : Grew h a h2 a1 := x.trans (.of_ext y _)
theorem Grew.kept {h h1 : Heap} {a a1 : Option Addr} {B : Nat} (x : Grew h a h1 a1) (hB : B ≤ h.size) (ha : ∀ p, a = some p → B ≤ p.block) : Kept B h h1 :=
  ⟨x.1, fun b hb => x.2.1 b (by omega) fun p ep => by have := ha p ep; omega⟩
theorem Grew.blk {h h1 : Heap} {a a1 : Option Addr} {b e : Nat} {cs : List Value} (x : Grew h a h1 a1) (o : BlkW h b e cs) (hne : ∀ p, a = some p → p.block ≠ b) : BlkW h1 b e cs := o.of (x.2.1 b o.lt hne)
theorem Own.grow {h : Heap} {B e size bytes : Nat} {zs : List Value} {a : Option Addr} {n c m : Nat} {xs more : List Value} {K : Value → Heap → Prop} (x : Own h B e size a n c xs)
    (hB : B ≤ h.size) (hz : zs.length = size) (hm : more.length = m * size) (one : ∀ v ∈ more, isOne v = true) (room : (n + m) * bytes ≤ 140737488355328)
    (k : ∀ h' a' c', Own h' B e size a' (n + m) c' (xs ++ more) → Grew h a h' a' → K (.slice a' (n + m) c') h') :
    HAppend h e size bytes zs a n c more m K :=
  x.append hB hz hm one room fun h' a' c' o k1 k2 k3 => k h' a' c' o ⟨k1.1, k2, k3⟩

theorem txt_size (s : ByteArray) : (txt s).length = (leb s.size).length + s.size := by simp only [txt, List.length_append]; rfl
theorem text_spec' (s : ByteArray) (hs : s.size ≤ 140737488351232) (h : Heap) : HCalls Try.prog 26 #[.string s] h fun e h' => ∃ a c, e = .returned (.slice a (txt s).length c) ∧
    Own h' h.size 5 1 a (txt s).length c ((txt s).map byteV) ∧ Ext h h' := by
  rw [txt_size]; exact text_spec s hs h
theorem rtext_spec' (s : ByteArray) (hs : s.size ≤ 140737488351232) (h : Heap) : HCalls Try.prog 30 #[.string s] h fun e h' => ∃ a c, e = .returned (.slice a (txt s).length c) ∧
    Own h' h.size 5 1 a (txt s).length c ((txt s).map byteV) ∧ Ext h h' := by
  rw [txt_size]; exact rtext_spec s hs h

end Go.Proofs.Ytkcnjcdggbifeaa.Hc
