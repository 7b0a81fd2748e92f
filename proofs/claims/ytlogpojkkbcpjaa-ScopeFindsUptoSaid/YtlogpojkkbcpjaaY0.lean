/- Trees of a program's text (api.Node: Kind, Name, Num, Text, Names, L), as memory holds them. -/
import Derived.Test.YtlogpojkkbcpjaaC0
import Derived.Test.YtlogpojkkbcpjaaC1
import Derived.Test.YtlogpojkkbcpjaaHL
set_option linter.unusedVariables false
set_option linter.unusedSimpArgs false
namespace Go.Proofs.Ytlogpojkkbcpjaa.Hc
open Go Go.H Go.Proofs
set_option maxRecDepth 100000

/-- What cells lay there lie there. -/
def KeepC (h h' : Heap) : Prop := h.size ≤ h'.size ∧ ∀ (k : Nat) (c : Array Value) (e : TypeId) (f : Nat × Nat), h[k]? = some (Obj.cells c e f) → h'[k]? = some (Obj.cells c e f)
theorem KeepC.refl (h : Heap) : KeepC h h := ⟨Nat.le_refl _, fun _ _ _ _ x => x⟩
theorem KeepC.trans {a b c : Heap} (x : KeepC a b) (y : KeepC b c) : KeepC a c := ⟨Nat.le_trans x.1 y.1, fun k cs e f z => y.2 k cs e f (x.2 k cs e f z)⟩
theorem KeepC.of_ext {h h' : Heap} (x : Ext h h') : KeepC h h' := ⟨x.1, fun k c e f z => by
  have hk : k < h.size := by
    rcases Nat.lt_or_ge k h.size with hl | hl
    · exact hl
    · rw [Array.getElem?_eq_none hl] at z; cases z
  rw [x.2 k hk]; exact z⟩
theorem KeepC.cell {h h' : Heap} (x : KeepC h h') {p : Addr} {v : Value} (z : hcell h p = some v) : hcell h' p = some v := by
  unfold hcell at z ⊢
  cases hb : h[p.block]? with
  | none => rw [hb] at z; cases z
  | some o =>
    rw [hb] at z
    cases o with
    | cells c e f => rw [x.2 _ _ _ _ hb]; exact z
    | _ => cases z
theorem _root_.Go.H.Sl.keepC {h h' : Heap} {size n c : Nat} {a : Option Addr} {xs : List Value} (x : Sl h size a n c xs) (k : KeepC h h') : Sl h' size a n c xs :=
  ⟨x.1, x.2.1, x.2.2.1, fun p e i hi => by
    have h1 := x.2.2.2 p e i hi
    have hl : i < xs.length := by rw [x.1]; exact hi
    rw [List.getElem?_eq_getElem hl] at h1 ⊢
    exact k.cell h1⟩
theorem _root_.Go.H.BlkW.keepC {h h' : Heap} {b e : Nat} {cs : List Value} (x : BlkW h b e cs) (k : KeepC h h') : BlkW h' b e cs := by
  refine x.of ?_
  obtain ⟨fz, e1, _⟩ := x
  rw [e1]
  exact k.2 _ _ _ _ e1

theorem take_succ' {α : Type} {l : List α} {i : Nat} (hi : i < l.length) : l.take (i + 1) = l.take i ++ [l[i]] := by rw [List.take_add_one, List.getElem?_eq_getElem hi]; rfl
def strIn (ks : List ByteArray) (s : ByteArray) : Bool := ks.any fun k => strEq k s
theorem strIn_iff {ks : List ByteArray} {s : ByteArray} : strIn ks s = true ↔ s ∈ ks := by
  unfold strIn; rw [List.any_eq_true]
  constructor
  · rintro ⟨k, hk, e⟩; rw [← (strEq_iff _ _).1 e]; exact hk
  · intro h; exact ⟨s, h, (strEq_iff _ _).2 rfl⟩

inductive NT where
  | mk (kind : Int) (name : ByteArray) (num : Int) (text : ByteArray) (names : List ByteArray) (l : List NT)
def NT.kind : NT → Int | .mk k .. => k
def NT.name : NT → ByteArray | .mk _ s .. => s
def NT.num : NT → Int | .mk _ _ n .. => n
def NT.text : NT → ByteArray | .mk _ _ _ s .. => s
def NT.names : NT → List ByteArray | .mk _ _ _ _ l _ => l
def NT.l : NT → List NT | .mk _ _ _ _ _ l => l

mutual
/-- Six cells hold a tree. -/
def TRep (h : Heap) : NT → List Value → Prop
  | .mk k nm n t ns l, cs => i64 k ∧ i64 n ∧ nm.size ≤ 4194304 ∧ t.size ≤ 4194304 ∧ ns.length ≤ 4194304 ∧ l.length ≤ 4194304 ∧ (∀ x ∈ ns, x.size ≤ 4194304) ∧
      ∃ ka kc la lc xs, cs = [.int .i64 k, .string nm, .int .i64 n, .string t, .slice ka ns.length kc, .slice la l.length lc] ∧ Sl h 1 ka ns.length kc (ns.map .string) ∧ Sl h 6 la l.length lc xs ∧ TReps h l xs
def TReps (h : Heap) : List NT → List Value → Prop
  | [], xs => xs = []
  | d :: r, xs => ∃ a b, xs = a ++ b ∧ TRep h d a ∧ TReps h r b
end
mutual
theorem TRep.keepC {h h' : Heap} (k : KeepC h h') : ∀ (d : NT) (cs : List Value), TRep h d cs → TRep h' d cs
  | .mk kk nm n t ns l, cs, r => by
    simp only [TRep] at r ⊢
    obtain ⟨h1, h2, h3, h4, h5, h6, h7, ka, kc, la, lc, xs, e, s1, s2, s3⟩ := r
    exact ⟨h1, h2, h3, h4, h5, h6, h7, ka, kc, la, lc, xs, e, Sl.keepC s1 k, Sl.keepC s2 k, TReps.keepC k l xs s3⟩
theorem TReps.keepC {h h' : Heap} (k : KeepC h h') : ∀ (l : List NT) (xs : List Value), TReps h l xs → TReps h' l xs
  | [], xs, r => by simp only [TReps] at r ⊢; exact r
  | d :: l, xs, r => by
    simp only [TReps] at r ⊢
    obtain ⟨a, b, e, r1, r2⟩ := r
    exact ⟨a, b, e, TRep.keepC k d a r1, TReps.keepC k l b r2⟩
end
theorem TRep.ext {h h' : Heap} (k : Ext h h') {d : NT} {cs : List Value} (r : TRep h d cs) : TRep h' d cs := TRep.keepC (.of_ext k) d cs r
theorem TReps.ext {h h' : Heap} (k : Ext h h') {l : List NT} {xs : List Value} (r : TReps h l xs) : TReps h' l xs := TReps.keepC (.of_ext k) l xs r
theorem TRep.len {h : Heap} {d : NT} {cs : List Value} (r : TRep h d cs) : cs.length = 6 := by
  cases d
  simp only [TRep] at r
  obtain ⟨_, _, _, _, _, _, _, ka, kc, la, lc, xs, e, _⟩ := r
  rw [e]; rfl
theorem TRep.one {h : Heap} {d : NT} {cs : List Value} (r : TRep h d cs) : ∀ v ∈ cs, isOne v = true := by
  cases d
  simp only [TRep] at r
  obtain ⟨_, _, _, _, _, _, _, ka, kc, la, lc, xs, e, _⟩ := r
  rw [e]; simp [isOne]
theorem TReps.els {h : Heap} : ∀ {l : List NT} {xs : List Value}, TReps h l xs → Els TRep h l xs
  | [], xs, r => by simpa [TReps, Els] using r
  | d :: l, xs, r => by
    simp only [TReps] at r
    obtain ⟨a, b, e, r1, r2⟩ := r
    exact ⟨a, b, e, r1, TReps.els r2⟩
theorem TReps.of_els {h : Heap} : ∀ {l : List NT} {xs : List Value}, Els TRep h l xs → TReps h l xs
  | [], xs, r => by simpa [TReps, Els] using r
  | d :: l, xs, r => by
    obtain ⟨a, b, e, r1, r2⟩ := r
    simp only [TReps]
    exact ⟨a, b, e, r1, TReps.of_els r2⟩
/-- A load of one of a slice's. -/
theorem tload {h : Heap} {a : Option Addr} {c : Nat} {xs : List Value} {l : List NT} {p : Addr} {i : Nat} {K : Value → Prop} (x : Sl h 6 a l.length c xs) (r : TReps h l xs) (ep : a = some p) (hi : i < l.length)
    (k : ∀ cs, TRep h l[i] cs → K (.agg cs.toArray)) : HLoadN h (p.add (i * 6)) 6 K := x.loadEl (fun _ _ r => r.len) r.els ep hi k
/-- .. in a later heap. -/
theorem tload' {h h1 : Heap} {a : Option Addr} {c : Nat} {xs : List Value} {l : List NT} {p : Addr} {i : Nat} {K : Value → Prop} (x : Sl h 6 a l.length c xs) (r : TReps h l xs) (e1 : Ext h h1) (ep : a = some p) (hi : i < l.length)
    (k : ∀ cs, TRep h l[i] cs → K (.agg cs.toArray)) : HLoadN h1 (p.add (i * 6)) 6 K := by
  obtain ⟨cs, r1, r2⟩ := r.els.get (fun _ _ r => r.len) i hi
  refine ⟨cs, r1.len, fun j hj => ?_, k cs r1⟩
  rw [← r2 j hj, add_add, (x.ext e1).2.2.2 p ep (i * 6 + j) (by omega)]
mutual
/-- How many nodes. -/
def cnt : NT → Nat
  | .mk _ _ _ _ _ l => cnts l + 1
def cnts : List NT → Nat
  | [] => 0
  | d :: r => cnt d + cnts r
end
theorem cnts_len : ∀ l : List NT, l.length ≤ cnts l
  | [] => by simp [cnts]
  | .mk k nm n t ns l' :: r => by have := cnts_len r; simp only [cnts, cnt, List.length_cons]; omega
abbrev zeroT : List Value := [.int .i64 0, .string ⟨#[]⟩, .int .i64 0, .string ⟨#[]⟩, .slice none 0 0, .slice none 0 0]

end Go.Proofs.Ytlogpojkkbcpjaa.Hc
