import Derived.Test.YtlogpojkkbcpjaaC0
import Derived.Test.YtlogpojkkbcpjaaHL
set_option linter.unusedVariables false
set_option linter.unusedSimpArgs false
namespace Go.Proofs.Ytlogpojkkbcpjaa.Hc
open Go Go.H Go.Proofs
set_option maxRecDepth 100000

/-- What a buffer that grows leaves alone. -/
def Grew (h : Heap) (a : Option Addr) (h' : Heap) (a' : Option Addr) : Prop :=
  h.size ≤ h'.size ∧ (∀ b, b < h.size → (∀ p, a = some p → p.block ≠ b) → h'[b]? = h[b]?) ∧ (∀ p', a' = some p' → (∃ p, a = some p ∧ p'.block = p.block) ∨ h.size ≤ p'.block)
theorem Grew.refl (h : Heap) (a : Option Addr) : Grew h a h a := ⟨Nat.le_refl _, fun _ _ _ => rfl, fun p ep => .inl ⟨p, ep, rfl⟩⟩
theorem Grew.of_ext {h h' : Heap} (x : Ext h h') (a : Option Addr) : Grew h a h' a := ⟨x.1, fun b hb _ => x.2 b hb, fun p ep => .inl ⟨p, ep, rfl⟩⟩
theorem Grew.trans {h h1 h2 : Heap} {a a1 a2 : Option Addr} (x : Grew h a h1 a1) (y : Grew h1 a1 h2 a2) : Grew h a h2 a2 := by
  refine ⟨Nat.le_trans x.1 y.1, fun b hb hne => ?_, fun p ep => ?_⟩
  · rw [y.2.1 b (by have := x.1; omega), x.2.1 b hb hne]
    intro p ep
    rcases x.2.2 p ep with ⟨q, eq, hq⟩ | hq
    · have := hne q eq; omega
    · omega
  · rcases y.2.2 p ep with ⟨q, eq, hq⟩ | hq
    · rcases x.2.2 q eq with ⟨r, er, hr⟩ | hr
      · exact .inl ⟨r, er, by omega⟩
      · exact .inr (by omega)
    · exact .inr (by have := x.1; omega)
theorem Grew.ext {h h1 h2 : Heap} {a a1 : Option Addr} (x : Grew h a h1 a1) (y : Ext h1 h2) : Grew h a h2 a1 := x.trans (.of_ext y _)
theorem Grew.kept {h h1 : Heap} {a a1 : Option Addr} {B : Nat} (x : Grew h a h1 a1) (hB : B ≤ h.size) (ha : ∀ p, a = some p → B ≤ p.block) : Kept B h h1 :=
  ⟨x.1, fun b hb => x.2.1 b (by omega) fun p ep => by have := ha p ep; omega⟩
theorem Grew.blk {h h1 : Heap} {a a1 : Option Addr} {b e : Nat} {cs : List Value} (x : Grew h a h1 a1) (o : BlkW h b e cs) (hne : ∀ p, a = some p → p.block ≠ b) : BlkW h1 b e cs := o.of (x.2.1 b o.lt hne)
theorem Own.grow {h : Heap} {B e size bytes : Nat} {zs : List Value} {a : Option Addr} {n c m : Nat} {xs more : List Value} {K : Value → Heap → Prop} (x : Own h B e size a n c xs)
    (hB : B ≤ h.size) (hz : zs.length = size) (hm : more.length = m * size) (one : ∀ v ∈ more, isOne v = true) (room : (n + m) * bytes ≤ 140737488355328)
    (k : ∀ h' a' c', Own h' B e size a' (n + m) c' (xs ++ more) → Grew h a h' a' → K (.slice a' (n + m) c') h') :
    HAppend h e size bytes zs a n c more m K :=
  x.append hB hz hm one room fun h' a' c' o k1 k2 k3 => k h' a' c' o ⟨k1.1, k2, k3⟩

theorem Own.bytes {h : Heap} {B : Nat} {a : Option Addr} {c : Nat} {l0 more : List UInt8} {K : Value → Heap → Prop} (x : Own h B 5 1 a l0.length c (l0.map byteV)) (hB : B ≤ h.size)
    (room : l0.length + more.length ≤ 140737488355328)
    (k : ∀ h' a' c', Own h' B 5 1 a' (l0 ++ more).length c' ((l0 ++ more).map byteV) → Grew h a h' a' → K (.slice a' (l0 ++ more).length c') h') :
    HAppend h 5 1 1 [.int .u8 0] a l0.length c (more.map byteV) more.length K := by
  refine Own.grow x hB rfl (by simp) bytesV_one (by omega) fun h' a' c' o g => ?_
  have := k h' a' c' (by rw [List.length_append, List.map_append]; exact o) g
  rw [List.length_append] at this
  exact this

end Go.Proofs.Ytlogpojkkbcpjaa.Hc
