/- Trees of values (api.Data: Kind, N, S, Keys, L), as memory holds them. -/
import Derived.Test.YtljindmibfkhfaaHG
set_option linter.unusedVariables false
set_option linter.unusedSimpArgs false
namespace Go.H

theorem blk_ld {h : Heap} {b e o : Nat} {cs : List Value} {v : Value} {K : Value → Prop} (x : BlkW h b e cs) (hv : cs[o]? = some v) (k : K v) : HLoad h ((⟨b, 0, none⟩ : Addr).add o) K :=
  ⟨v, by rw [add_mk, Nat.zero_add, x.blk.cell]; exact hv, k⟩

inductive DT where
  | mk (k n : Int) (s : ByteArray) (keys : List ByteArray) (l : List DT)

def DT.kind : DT → Int | .mk k .. => k
def DT.num : DT → Int | .mk _ n .. => n
def DT.str : DT → ByteArray | .mk _ _ s .. => s
def DT.keys : DT → List ByteArray | .mk _ _ _ ks _ => ks
def DT.list : DT → List DT | .mk _ _ _ _ l => l

def i64 (n : Int) : Prop := -9223372036854775808 ≤ n ∧ n ≤ 9223372036854775807

mutual
/-- Five cells hold a tree. -/
def Rep (h : Heap) : DT → List Value → Prop
  | .mk k n s keys l, cs => i64 k ∧ i64 n ∧ s.size ≤ 140737488351232 ∧ keys.length ≤ 140737488351232 ∧ l.length ≤ 140737488351232 ∧ (∀ x ∈ keys, x.size ≤ 140737488351232) ∧
      ∃ ka kc la lc xs, cs = [.int .i64 k, .int .i64 n, .string s, .slice ka keys.length kc, .slice la l.length lc] ∧ Sl h 1 ka keys.length kc (keys.map .string) ∧ Sl h 5 la l.length lc xs ∧ Reps h l xs
def Reps (h : Heap) : List DT → List Value → Prop
  | [], xs => xs = []
  | d :: r, xs => ∃ a b, xs = a ++ b ∧ Rep h d a ∧ Reps h r b
end

mutual
theorem Rep.ext {h h' : Heap} (k : Ext h h') : ∀ (d : DT) (cs : List Value), Rep h d cs → Rep h' d cs
  | .mk kk n s keys l, cs, r => by
    simp only [Rep] at r ⊢
    obtain ⟨h1, h2, h3, h4, h5, h6, ka, kc, la, lc, xs, e, s1, s2, s3⟩ := r
    exact ⟨h1, h2, h3, h4, h5, h6, ka, kc, la, lc, xs, e, s1.ext k, s2.ext k, Reps.ext k l xs s3⟩
theorem Reps.ext {h h' : Heap} (k : Ext h h') : ∀ (l : List DT) (xs : List Value), Reps h l xs → Reps h' l xs
  | [], xs, r => by simp only [Reps] at r ⊢; exact r
  | d :: l, xs, r => by
    simp only [Reps] at r ⊢
    obtain ⟨a, b, e, r1, r2⟩ := r
    exact ⟨a, b, e, Rep.ext k d a r1, Reps.ext k l b r2⟩
end
theorem Rep.len {h : Heap} {d : DT} {cs : List Value} (r : Rep h d cs) : cs.length = 5 := by
  cases d
  simp only [Rep] at r
  obtain ⟨_, _, _, _, _, _, ka, kc, la, lc, xs, e, _⟩ := r
  rw [e]; rfl
theorem Reps.len {h : Heap} : ∀ {l : List DT} {xs : List Value}, Reps h l xs → xs.length = l.length * 5
  | [], xs, r => by simp only [Reps] at r; rw [r]; rfl
  | d :: l, xs, r => by
    simp only [Reps] at r
    obtain ⟨a, b, rfl, r1, r2⟩ := r
    rw [List.length_append, r1.len, Reps.len r2, List.length_cons]; omega
/-- One of some. -/
theorem Reps.get {h : Heap} : ∀ {l : List DT} {xs : List Value} (_ : Reps h l xs) (i : Nat) (hi : i < l.length), ∃ cs, Rep h l[i] cs ∧ ∀ j, j < 5 → xs[i * 5 + j]? = cs[j]?
  | [], _, _, i, hi => by simp at hi
  | d :: l, xs, r, i, hi => by
    simp only [Reps] at r
    obtain ⟨a, b, rfl, r1, r2⟩ := r
    cases i with
    | zero =>
      refine ⟨a, r1, fun j hj => ?_⟩
      rw [Nat.zero_mul, Nat.zero_add, List.getElem?_append_left (by rw [r1.len]; exact hj)]
    | succ i =>
      obtain ⟨cs, k1, k2⟩ := Reps.get r2 i (by simpa using hi)
      refine ⟨cs, k1, fun j hj => ?_⟩
      rw [← k2 j hj, List.getElem?_append_right (by rw [r1.len]; omega), r1.len]
      congr 1; omega
/-- A load of one of a slice's. -/
theorem Sl.loadRep {h : Heap} {a : Option Addr} {c : Nat} {xs : List Value} {l : List DT} {p : Addr} {i : Nat} {K : Value → Prop} (x : Sl h 5 a l.length c xs) (r : Reps h l xs) (ep : a = some p) (hi : i < l.length)
    (k : ∀ cs, Rep h l[i] cs → K (.agg cs.toArray)) : HLoadN h (p.add (i * 5)) 5 K := by
  obtain ⟨cs, r1, r2⟩ := r.get i hi
  refine ⟨cs, r1.len, fun j hj => ?_, k cs r1⟩
  rw [← r2 j hj, add_add, x.2.2.2 p ep (i * 5 + j) (by omega)]

end Go.H
