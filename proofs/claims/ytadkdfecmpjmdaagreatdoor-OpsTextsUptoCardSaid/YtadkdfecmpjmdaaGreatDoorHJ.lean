/- Trees of values (api.Data: Kind, N, S, Keys, L), as memory holds them. -/
import Derived.Test.YtadkdfecmpjmdaaGreatDoorHG
set_option linter.unusedVariables false
set_option linter.unusedSimpArgs false
namespace Go.H

theorem blk_ld {h : Heap} {b e o : Nat} {cs : List Value} {v : Value} {K : Value → Prop} (x : BlkW h b e cs) (hv : cs[o]? = some v) (k : K v) : HLoad h ((⟨b, 0, none⟩ : Addr).add o) K :=
  ⟨v, by rw [add_mk, Nat.zero_add, x.blk.cell]; exact hv, k⟩

inductive DT where
  | mk (k n : Int) (s : ByteArray) (keys : List ByteArray) (l : List DT)

def i64 (n : Int) : Prop := -9223372036854775808 ≤ n ∧ n ≤ 9223372036854775807

mutual
def Rep (h : Heap) : DT → List Value → Prop
  | .mk k n s keys l, cs => i64 k ∧ i64 n ∧ s.size ≤ 140737488351232 ∧ keys.length ≤ 140737488351232 ∧ l.length ≤ 140737488351232 ∧ (∀ x ∈ keys, x.size ≤ 140737488351232) ∧
      ∃ ka kc la lc xs, cs = [.int .i64 k, .int .i64 n, .string s, .slice ka keys.length kc, .slice la l.length lc] ∧ Sl h 1 ka keys.length kc (keys.map .string) ∧ Sl h 5 la l.length lc xs ∧ Reps h l xs
def Reps (h : Heap) : List DT → List Value → Prop
  | [], xs => xs = []
  | d :: r, xs => ∃ a b, xs = a ++ b ∧ Rep h d a ∧ Reps h r b
end

mutual
theorem Rep.ext {h h' : Heap} (k : Ext h h') : ∀ (d : DT) (cs : List Value), Rep h d cs → Rep h' d cs
  | .mk kk n s keys l, cs, r => by
    simp only [Rep] at r ⊢
    obtain ⟨h1, h2, h3, h4, h5, h6, ka, kc, la, lc, xs, e, s1, s2, s3⟩ := r
    exact ⟨h1, h2, h3, h4, h5, h6, ka, kc, la, lc, xs, e, s1.ext k, s2.ext k, Reps.ext k l xs s3⟩
theorem Reps.ext {h h' : Heap} (k : Ext h h') : ∀ (l : List DT) (xs : List Value), Reps h l xs → Reps h' l xs
  | [], xs, r => by simp only [Reps] at r ⊢; exact r
  | d :: l, xs, r => by
    simp only [Reps] at r ⊢
    obtain ⟨a, b, e, r1, r2⟩ := r
    exact ⟨a, b, e, Rep.ext k d a r1, Reps.ext k l b r2⟩
end
theorem Rep.len {h : Heap} {d : DT} {cs : List Value} (r : Rep h d cs) : cs.length = 5 := by
  cases d
  simp only [Rep] at r
  obtain ⟨_, _, _, _, _, _, ka, kc, la, lc, xs, e, _⟩ := r
  rw [e]; rfl
end Go.H
