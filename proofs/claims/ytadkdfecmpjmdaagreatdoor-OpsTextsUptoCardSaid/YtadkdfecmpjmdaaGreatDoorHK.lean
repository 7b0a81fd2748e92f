/- Small helps of every walk: loads, tests of texts and lists. -/
import Derived.Test.YtadkdfecmpjmdaaGreatDoorHJ
import Derived.Lib.Strings
set_option linter.unusedVariables false
set_option linter.unusedSimpArgs false
namespace Go.H

theorem strEq_iff (a b : ByteArray) : strEq a b = true ↔ a = b := by
  unfold strEq
  rw [beq_iff_eq]
  constructor
  · intro h
    rw [Go.Lib.toList_data, Go.Lib.toList_data] at h
    cases a; cases b
    simp only [ByteArray.mk.injEq]
    exact Array.toList_inj.1 h
  · rintro rfl; rfl
theorem strEq_no (a b : ByteArray) : strEq a b = false ↔ a ≠ b := by
  rw [← Bool.not_eq_true, ne_eq, not_congr (strEq_iff a b)]
theorem strEq_nil (s : ByteArray) : strEq s ⟨#[]⟩ = decide (s = ⟨#[]⟩) := by
  by_cases h : s = ⟨#[]⟩
  · rw [decide_eq_true h]; exact (strEq_iff _ _).2 h
  · rw [decide_eq_false h]
    cases hb : strEq s ⟨#[]⟩
    · rfl
    · exact absurd ((strEq_iff _ _).1 hb) h
theorem sl_some {h : Heap} {a : Option Addr} {n c i : Nat} {xs : List Value} {K : Addr → Prop} {s : Nat} (x : Sl h s a n c xs) (hi : i < n) (k : ∀ p, a = some p → K p) : HSome a K := by
  cases a with
  | none => have := x.2.2.1 rfl; have := x.2.1; omega
  | some p => exact ⟨p, rfl, k p rfl⟩
theorem blk_ldN {h : Heap} {b e n : Nat} {cs : List Value} {K : Value → Prop} (x : BlkW h b e cs) (hn : cs.length = n) (k : K (.agg cs.toArray)) : HLoadN h ⟨b, 0, none⟩ n K :=
  ⟨cs, hn, fun i hi => by rw [add_mk, Nat.zero_add, x.blk.cell], k⟩
theorem blk_st {h : Heap} {b e o : Nat} {cs : List Value} {v : Value} {K : Heap → Prop} (x : BlkW h b e cs) (hl : o < cs.length) (one : isOne v = true)
    (k : ∀ h', Off b h h' → h'.size = h.size → BlkW h' b e (cs.set o v) → K h') : HStore h ((⟨b, 0, none⟩ : Addr).add o) [v] K := by
  rw [add_mk, Nat.zero_add]; exact store1_blk x hl one k
theorem sl_get {h : Heap} {a : Option Addr} {n c i : Nat} {l : List UInt8} {p : Addr} {K : Value → Prop} (x : Sl h 1 a n c (l.map byteV)) (ep : a = some p) (hi : i < l.length)
    (k : K (.int .u8 (l[i].toNat : Nat))) : HLoad h (p.add (i * 1)) K :=
  x.load ep (by simpa using hi) (by simpa [byteV] using k)

/-! ### Footprints -/

def Agree (S : Nat → Prop) (h h' : Heap) : Prop := ∀ b, S b → h'[b]? = h[b]?
def Fr (S : Nat → Prop) (P : Heap → Prop) (h : Heap) : Prop := ∀ h', Agree S h h' → P h'
theorem BlkW.fr {h : Heap} {b e : Nat} {cs : List Value} {S : Nat → Prop} (x : BlkW h b e cs) (hs : S b) : Fr S (fun h => BlkW h b e cs) h := fun _ k => x.of (k b hs)
end Go.H
