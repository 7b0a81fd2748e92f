/- Small helps of every walk: loads, tests of texts and lists. -/
import Derived.Test.YtljindmibfkhfaaHJ
import Derived.Lib.Strings
set_option linter.unusedVariables false
set_option linter.unusedSimpArgs false
namespace Go.H

theorem strEq_iff (a b : ByteArray) : strEq a b = true ↔ a = b := by
  unfold strEq
  rw [beq_iff_eq]
  constructor
  · intro h
    rw [Go.Lib.toList_data, Go.Lib.toList_data] at h
    cases a; cases b
    simp only [ByteArray.mk.injEq]
    exact Array.toList_inj.1 h
  · rintro rfl; rfl
theorem strEq_no (a b : ByteArray) : strEq a b = false ↔ a ≠ b := by
  rw [← Bool.not_eq_true, ne_eq, not_congr (strEq_iff a b)]
theorem strEq_nil (s : ByteArray) : strEq s ⟨#[]⟩ = decide (s = ⟨#[]⟩) := by
  by_cases h : s = ⟨#[]⟩
  · rw [decide_eq_true h]; exact (strEq_iff _ _).2 h
  · rw [decide_eq_false h]
    cases hb : strEq s ⟨#[]⟩
    · rfl
    · exact absurd ((strEq_iff _ _).1 hb) h
theorem str_nil_iff (s : ByteArray) : (strEq s ⟨#[]⟩ = true ↔ s = ⟨#[]⟩) ∧ (strEq s ⟨#[]⟩ = false ↔ s ≠ ⟨#[]⟩) := by
  rw [strEq_nil]; simp
theorem len_nil {α : Type} (l : List α) : ((l.length : Int) == 0) = decide (l = []) := by
  cases l with
  | nil => rfl
  | cons a l =>
    rw [decide_eq_false (by simp), beq_eq_false_iff_ne]
    simp only [List.length_cons]; omega
theorem sl_some {h : Heap} {a : Option Addr} {n c i : Nat} {xs : List Value} {K : Addr → Prop} {s : Nat} (x : Sl h s a n c xs) (hi : i < n) (k : ∀ p, a = some p → K p) : HSome a K := by
  cases a with
  | none => have := x.2.2.1 rfl; have := x.2.1; omega
  | some p => exact ⟨p, rfl, k p rfl⟩
theorem blk_ldN {h : Heap} {b e n : Nat} {cs : List Value} {K : Value → Prop} (x : BlkW h b e cs) (hn : cs.length = n) (k : K (.agg cs.toArray)) : HLoadN h ⟨b, 0, none⟩ n K :=
  ⟨cs, hn, fun i hi => by rw [add_mk, Nat.zero_add, x.blk.cell], k⟩
/-- A store into a field. -/
theorem blk_st {h : Heap} {b e o : Nat} {cs : List Value} {v : Value} {K : Heap → Prop} (x : BlkW h b e cs) (hl : o < cs.length) (one : isOne v = true)
    (k : ∀ h', Off b h h' → h'.size = h.size → BlkW h' b e (cs.set o v) → K h') : HStore h ((⟨b, 0, none⟩ : Addr).add o) [v] K := by
  rw [add_mk, Nat.zero_add]; exact store1_blk x hl one k
theorem Rep.one {h : Heap} {d : DT} {cs : List Value} (r : Rep h d cs) : ∀ v ∈ cs, isOne v = true := by
  cases d
  simp only [Rep] at r
  obtain ⟨_, _, _, _, _, _, ka, kc, la, lc, xs, e, _⟩ := r
  rw [e]; intro v hv
  simp only [List.mem_cons, List.not_mem_nil, or_false] at hv
  rcases hv with rfl | rfl | rfl | rfl | rfl <;> rfl
theorem sl_get {h : Heap} {a : Option Addr} {n c i : Nat} {l : List UInt8} {p : Addr} {K : Value → Prop} (x : Sl h 1 a n c (l.map byteV)) (ep : a = some p) (hi : i < l.length)
    (k : K (.int .u8 (l[i].toNat : Nat))) : HLoad h (p.add (i * 1)) K :=
  x.load ep (by simpa using hi) (by simpa [byteV] using k)

/-! ### Footprints -/

/-- The heaps have the same in these blocks. -/
def Agree (S : Nat → Prop) (h h' : Heap) : Prop := ∀ b, S b → h'[b]? = h[b]?
/-- It holds, and hangs on these blocks alone. -/
def Fr (S : Nat → Prop) (P : Heap → Prop) (h : Heap) : Prop := ∀ h', Agree S h h' → P h'
theorem Agree.refl (S : Nat → Prop) (h : Heap) : Agree S h h := fun _ _ => rfl
theorem Agree.trans {S : Nat → Prop} {a b c : Heap} (x : Agree S a b) (y : Agree S b c) : Agree S a c := fun i hi => (y i hi).trans (x i hi)
theorem Agree.mono {S T : Nat → Prop} {a b : Heap} (x : Agree S a b) (hs : ∀ i, T i → S i) : Agree T a b := fun i hi => x i (hs i hi)
theorem Fr.get {S : Nat → Prop} {P : Heap → Prop} {h : Heap} (x : Fr S P h) : P h := x h (Agree.refl _ _)
theorem Fr.frame {S : Nat → Prop} {P : Heap → Prop} {h h' : Heap} (x : Fr S P h) (a : Agree S h h') : Fr S P h' := fun h'' b => x h'' (a.trans b)
theorem Fr.mono {S T : Nat → Prop} {P : Heap → Prop} {h : Heap} (x : Fr S P h) (hs : ∀ i, S i → T i) : Fr T P h := fun h'' b => x h'' (b.mono hs)
theorem Fr.map {S : Nat → Prop} {P Q : Heap → Prop} {h : Heap} (x : Fr S P h) (f : ∀ h, P h → Q h) : Fr S Q h := fun h'' b => f _ (x h'' b)
theorem Fr.and {S T U : Nat → Prop} {P Q : Heap → Prop} {h : Heap} (x : Fr S P h) (y : Fr T Q h) (hs : ∀ i, S i → U i) (ht : ∀ i, T i → U i) : Fr U (fun h => P h ∧ Q h) h := fun h'' b => ⟨x h'' (b.mono hs), y h'' (b.mono ht)⟩
theorem Fr.pure {S : Nat → Prop} {P : Prop} {h : Heap} (x : P) : Fr S (fun _ => P) h := fun _ _ => x
theorem Ext.agree {h h' : Heap} (x : Ext h h') {S : Nat → Prop} (hs : ∀ b, S b → b < h.size) : Agree S h h' := fun b hb => x.2 b (hs b hb)
theorem Off.agree {k : Nat} {h h' : Heap} (x : Off k h h') {S : Nat → Prop} (hs : ∀ b, S b → b < h.size ∧ b ≠ k) : Agree S h h' := fun b hb => x.2 b (hs b hb).1 (hs b hb).2
theorem Sl.fr {h : Heap} {size n c : Nat} {a : Option Addr} {xs : List Value} {S : Nat → Prop} (x : Sl h size a n c xs) (hs : ∀ p, a = some p → S p.block) : Fr S (fun h => Sl h size a n c xs) h := fun h' b =>
  ⟨x.1, x.2.1, x.2.2.1, fun p e i hi => by
    have h1 := x.2.2.2 p e i hi
    have e2 : h'[(p.add i).block]? = h[(p.add i).block]? := by rw [add_block]; exact b _ (hs p e)
    rw [hcell_of e2]; exact h1⟩
theorem Blk.fr {h : Heap} {b : Nat} {cs : List Value} {S : Nat → Prop} (x : Blk h b cs) (hs : S b) : Fr S (fun h => Blk h b cs) h := fun _ k => x.of (k b hs)
theorem BlkW.fr {h : Heap} {b e : Nat} {cs : List Value} {S : Nat → Prop} (x : BlkW h b e cs) (hs : S b) : Fr S (fun h => BlkW h b e cs) h := fun _ k => x.of (k b hs)
theorem BlkW.agree {h h' : Heap} {b e : Nat} {cs : List Value} {S : Nat → Prop} (x : BlkW h b e cs) (k : Agree S h h') (hs : S b) : BlkW h' b e cs := x.of (k b hs)
theorem Reps.append {h : Heap} : ∀ {l : List DT} {m : List DT} {xs ys : List Value}, Reps h l xs → Reps h m ys → Reps h (l ++ m) (xs ++ ys)
  | [], m, xs, ys, r, s => by simp only [Reps] at r; subst r; simpa using s
  | d :: l, m, xs, ys, r, s => by
    simp only [Reps, List.cons_append] at r ⊢
    obtain ⟨a, b, rfl, r1, r2⟩ := r
    exact ⟨a, b ++ ys, by simp, r1, Reps.append r2 s⟩
theorem Reps.one {h : Heap} {d : DT} {cs : List Value} (r : Rep h d cs) : Reps h [d] cs := by
  simp only [Reps]; exact ⟨cs, [], by simp, r, rfl⟩

end Go.H
