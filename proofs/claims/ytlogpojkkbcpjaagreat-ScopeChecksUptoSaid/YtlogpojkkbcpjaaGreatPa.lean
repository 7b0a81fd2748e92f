/- Proof texts, laid together. -/
import Derived.Test.YtlogpojkkbcpjaaGreatRows
import Derived.Test.YtlogpojkkbcpjaaGreatHH
import Derived.Test.YtlogpojkkbcpjaaGreatHU
import Derived.Test.YtlogpojkkbcpjaaGreatC0
import Derived.Test.YtlogpojkkbcpjaaGreatC1
import Derived.Test.YtlogpojkkbcpjaaGreatHL
import Derived.Shelf.Strings.Search3
import Derived.Shelf.Strings.Cut
import Derived.Ground.NamesProg
import Derived.Test.YtlogpojkkbcpjaaGreatProg
import Derived.Test.YtlogpojkkbcpjaaGreatHR
import Derived.Shelf.Sort.Plain
import Derived.Shelf.Slices.In.SortNone
import Derived.Shelf.Slices.CompactS
import Derived.Test.YtlogpojkkbcpjaaGreatHS
/- Of the second form: what its bound says of the bytes that came in. -/
set_option linter.unusedVariables false
namespace Go.Proofs.YtlogpojkkbcpjaaGreat.RU
open Go Go.ChangeShapes Go.WideShapes Go.RowKit

theorem one_le {H : Type} (d : DataW H) : 1 ≤ Rows.uptoBulk d := by
  cases d with
  | lit l => cases l <;> simp only [Rows.uptoBulk] <;> omega
  | nil => simp only [Rows.uptoBulk]; omega
  | ptr d => simp only [Rows.uptoBulk]; omega
  | slice a b => simp only [Rows.uptoBulk]; omega
  | agg a => simp only [Rows.uptoBulk]; omega
  | iface t d => simp only [Rows.uptoBulk]; omega
  | map a => simp only [Rows.uptoBulk]; omega
  | held a => simp only [Rows.uptoBulk]; omega
theorem length_le {H : Type} : ∀ l : List (DataW H), l.length ≤ Rows.uptoBulkAll l
  | [] => by simp
  | d :: r => by
    have h1 := one_le d
    have h2 := length_le r
    simp only [Rows.uptoBulkAll, List.length_cons]
    omega
theorem string_len {H : Type} (s : ByteArray) : s.size < Rows.uptoBulk (DataW.lit (H := H) (.string s.data.toList)) := by
  simp only [Rows.uptoBulk]
  exact Nat.lt_succ_self _
theorem ints_len {H : Type} {enc : TypeId × Value → H} {P : Program} {W : World} {base : Nat} {spare : Nat → Bool} {held : Bool} {t e : TypeId} {k : IntKind} {a : Option Addr} {len cap : Nat} {d : DataW H} {ps : List MemPlace}
    (hu : P.underlying t = some (.slice e)) (he : P.underlying e = some (.int k)) (hc : P.cellsOf e = 1)
    (h : DataW.Trod enc P W base spare held t (.slice a len cap) d ps) : len ≤ Rows.uptoBulk d := by
  obtain ⟨fuel, hf⟩ := h
  rcases open_ints hu he hc hf with ⟨hcs, _⟩ | ⟨x, l, c, zs, hcs, _, hl, _, hz, hx, _, _⟩
  · simp [Value.cells] at hcs
    obtain ⟨rfl, rfl, rfl⟩ := hcs
    exact Nat.zero_le _
  · simp [Value.cells] at hcs
    obtain ⟨rfl, rfl, rfl⟩ := hcs
    obtain ⟨hx, _⟩ := Prod.mk.inj hx
    subst hx
    have hl2 : len ≤ zs.length := by
      rw [hz]
      split
      · exact hl
      · exact Nat.le_refl _
    have h1 := length_le (lits (H := H) k (zs.take len))
    have h2 : (lits (H := H) k (zs.take len)).length = len := by simp [lits]; omega
    simp only [Rows.uptoBulk]
    omega

end Go.Proofs.YtlogpojkkbcpjaaGreat.RU
/- Trees of a program's text (api.Node: Kind, Name, Num, Text, Names, L), as memory holds them. -/
set_option linter.unusedVariables false
set_option linter.unusedSimpArgs false
namespace Go.Proofs.YtlogpojkkbcpjaaGreat.Hc
open Go Go.H Go.Proofs
set_option maxRecDepth 100000

/-- What cells lay there lie there. -/
def KeepC (h h' : Heap) : Prop := h.size ≤ h'.size ∧ ∀ (k : Nat) (c : Array Value) (e : TypeId) (f : Nat × Nat), h[k]? = some (Obj.cells c e f) → h'[k]? = some (Obj.cells c e f)
theorem KeepC.refl (h : Heap) : KeepC h h := ⟨Nat.le_refl _, fun _ _ _ _ x => x⟩
theorem KeepC.trans {a b c : Heap} (x : KeepC a b) (y : KeepC b c) : KeepC a c := ⟨Nat.le_trans x.1 y.1, fun k cs e f z => y.2 k cs e f (x.2 k cs e f z)⟩
theorem KeepC.of_ext {h h' : Heap} (x : Ext h h') : KeepC h h' := ⟨x.1, fun k c e f z => by
  have hk : k < h.size := by
    rcases Nat.lt_or_ge k h.size with hl | hl
    · exact hl
    · rw [Array.getElem?_eq_none hl] at z; cases z
  rw [x.2 k hk]; exact z⟩
theorem KeepC.cell {h h' : Heap} (x : KeepC h h') {p : Addr} {v : Value} (z : hcell h p = some v) : hcell h' p = some v := by
  unfold hcell at z ⊢
  cases hb : h[p.block]? with
  | none => rw [hb] at z; cases z
  | some o =>
    rw [hb] at z
    cases o with
    | cells c e f => rw [x.2 _ _ _ _ hb]; exact z
    | _ => cases z
theorem _root_.Go.H.Sl.keepC {h h' : Heap} {size n c : Nat} {a : Option Addr} {xs : List Value} (x : Sl h size a n c xs) (k : KeepC h h') : Sl h' size a n c xs :=
  ⟨x.1, x.2.1, x.2.2.1, fun p e i hi => by
    have h1 := x.2.2.2 p e i hi
    have hl : i < xs.length := by rw [x.1]; exact hi
    rw [List.getElem?_eq_getElem hl] at h1 ⊢
    exact k.cell h1⟩
theorem _root_.Go.H.BlkW.keepC {h h' : Heap} {b e : Nat} {cs : List Value} (x : BlkW h b e cs) (k : KeepC h h') : BlkW h' b e cs := by
  refine x.of ?_
  obtain ⟨fz, e1, _⟩ := x
  rw [e1]
  exact k.2 _ _ _ _ e1

theorem take_succ' {α : Type} {l : List α} {i : Nat} (hi : i < l.length) : l.take (i + 1) = l.take i ++ [l[i]] := by rw [List.take_add_one, List.getElem?_eq_getElem hi]; rfl
def strIn (ks : List ByteArray) (s : ByteArray) : Bool := ks.any fun k => strEq k s
theorem strIn_iff {ks : List ByteArray} {s : ByteArray} : strIn ks s = true ↔ s ∈ ks := by
  unfold strIn; rw [List.any_eq_true]
  constructor
  · rintro ⟨k, hk, e⟩; rw [← (strEq_iff _ _).1 e]; exact hk
  · intro h; exact ⟨s, h, (strEq_iff _ _).2 rfl⟩

inductive NT where
  | mk (kind : Int) (name : ByteArray) (num : Int) (text : ByteArray) (names : List ByteArray) (l : List NT)
def NT.kind : NT → Int | .mk k .. => k
def NT.name : NT → ByteArray | .mk _ s .. => s
def NT.num : NT → Int | .mk _ _ n .. => n
def NT.text : NT → ByteArray | .mk _ _ _ s .. => s
def NT.names : NT → List ByteArray | .mk _ _ _ _ l _ => l
def NT.l : NT → List NT | .mk _ _ _ _ _ l => l

mutual
/-- Six cells hold a tree. -/
def TRep (h : Heap) : NT → List Value → Prop
  | .mk k nm n t ns l, cs => i64 k ∧ i64 n ∧ nm.size ≤ 4194304 ∧ t.size ≤ 4194304 ∧ ns.length ≤ 4194304 ∧ l.length ≤ 4194304 ∧ (∀ x ∈ ns, x.size ≤ 4194304) ∧
      ∃ ka kc la lc xs, cs = [.int .i64 k, .string nm, .int .i64 n, .string t, .slice ka ns.length kc, .slice la l.length lc] ∧ Sl h 1 ka ns.length kc (ns.map .string) ∧ Sl h 6 la l.length lc xs ∧ TReps h l xs
def TReps (h : Heap) : List NT → List Value → Prop
  | [], xs => xs = []
  | d :: r, xs => ∃ a b, xs = a ++ b ∧ TRep h d a ∧ TReps h r b
end
mutual
theorem TRep.keepC {h h' : Heap} (k : KeepC h h') : ∀ (d : NT) (cs : List Value), TRep h d cs → TRep h' d cs
  | .mk kk nm n t ns l, cs, r => by
    simp only [TRep] at r ⊢
    obtain ⟨h1, h2, h3, h4, h5, h6, h7, ka, kc, la, lc, xs, e, s1, s2, s3⟩ := r
    exact ⟨h1, h2, h3, h4, h5, h6, h7, ka, kc, la, lc, xs, e, Sl.keepC s1 k, Sl.keepC s2 k, TReps.keepC k l xs s3⟩
theorem TReps.keepC {h h' : Heap} (k : KeepC h h') : ∀ (l : List NT) (xs : List Value), TReps h l xs → TReps h' l xs
  | [], xs, r => by simp only [TReps] at r ⊢; exact r
  | d :: l, xs, r => by
    simp only [TReps] at r ⊢
    obtain ⟨a, b, e, r1, r2⟩ := r
    exact ⟨a, b, e, TRep.keepC k d a r1, TReps.keepC k l b r2⟩
end
theorem TRep.ext {h h' : Heap} (k : Ext h h') {d : NT} {cs : List Value} (r : TRep h d cs) : TRep h' d cs := TRep.keepC (.of_ext k) d cs r
theorem TReps.ext {h h' : Heap} (k : Ext h h') {l : List NT} {xs : List Value} (r : TReps h l xs) : TReps h' l xs := TReps.keepC (.of_ext k) l xs r
theorem TRep.len {h : Heap} {d : NT} {cs : List Value} (r : TRep h d cs) : cs.length = 6 := by
  cases d
  simp only [TRep] at r
  obtain ⟨_, _, _, _, _, _, _, ka, kc, la, lc, xs, e, _⟩ := r
  rw [e]; rfl
theorem TRep.one {h : Heap} {d : NT} {cs : List Value} (r : TRep h d cs) : ∀ v ∈ cs, isOne v = true := by
  cases d
  simp only [TRep] at r
  obtain ⟨_, _, _, _, _, _, _, ka, kc, la, lc, xs, e, _⟩ := r
  rw [e]; simp [isOne]
theorem TReps.els {h : Heap} : ∀ {l : List NT} {xs : List Value}, TReps h l xs → Els TRep h l xs
  | [], xs, r => by simpa [TReps, Els] using r
  | d :: l, xs, r => by
    simp only [TReps] at r
    obtain ⟨a, b, e, r1, r2⟩ := r
    exact ⟨a, b, e, r1, TReps.els r2⟩
theorem TReps.of_els {h : Heap} : ∀ {l : List NT} {xs : List Value}, Els TRep h l xs → TReps h l xs
  | [], xs, r => by simpa [TReps, Els] using r
  | d :: l, xs, r => by
    obtain ⟨a, b, e, r1, r2⟩ := r
    simp only [TReps]
    exact ⟨a, b, e, r1, TReps.of_els r2⟩
/-- A load of one of a slice's. -/
theorem tload {h : Heap} {a : Option Addr} {c : Nat} {xs : List Value} {l : List NT} {p : Addr} {i : Nat} {K : Value → Prop} (x : Sl h 6 a l.length c xs) (r : TReps h l xs) (ep : a = some p) (hi : i < l.length)
    (k : ∀ cs, TRep h l[i] cs → K (.agg cs.toArray)) : HLoadN h (p.add (i * 6)) 6 K := x.loadEl (fun _ _ r => r.len) r.els ep hi k
/-- .. in a later heap. -/
theorem tload' {h h1 : Heap} {a : Option Addr} {c : Nat} {xs : List Value} {l : List NT} {p : Addr} {i : Nat} {K : Value → Prop} (x : Sl h 6 a l.length c xs) (r : TReps h l xs) (e1 : Ext h h1) (ep : a = some p) (hi : i < l.length)
    (k : ∀ cs, TRep h l[i] cs → K (.agg cs.toArray)) : HLoadN h1 (p.add (i * 6)) 6 K := by
  obtain ⟨cs, r1, r2⟩ := r.els.get (fun _ _ r => r.len) i hi
  refine ⟨cs, r1.len, fun j hj => ?_, k cs r1⟩
  rw [← r2 j hj, add_add, (x.ext e1).2.2.2 p ep (i * 6 + j) (by omega)]
mutual
/-- How many nodes. -/
def cnt : NT → Nat
  | .mk _ _ _ _ _ l => cnts l + 1
def cnts : List NT → Nat
  | [] => 0
  | d :: r => cnt d + cnts r
end
theorem cnts_len : ∀ l : List NT, l.length ≤ cnts l
  | [] => by simp [cnts]
  | .mk k nm n t ns l' :: r => by have := cnts_len r; simp only [cnts, cnt, List.length_cons]; omega
abbrev zeroT : List Value := [.int .i64 0, .string ⟨#[]⟩, .int .i64 0, .string ⟨#[]⟩, .slice none 0 0, .slice none 0 0]

end Go.Proofs.YtlogpojkkbcpjaaGreat.Hc
set_option linter.unusedVariables false
set_option linter.unusedSimpArgs false
namespace Go.Proofs.YtlogpojkkbcpjaaGreat.Hc
open Go Go.H Go.Proofs
set_option maxRecDepth 100000

/-- What a buffer that grows leaves alone. -/
def Grew (h : Heap) (a : Option Addr) (h' : Heap) (a' : Option Addr) : Prop :=
  h.size ≤ h'.size ∧ (∀ b, b < h.size → (∀ p, a = some p → p.block ≠ b) → h'[b]? = h[b]?) ∧ (∀ p', a' = some p' → (∃ p, a = some p ∧ p'.block = p.block) ∨ h.size ≤ p'.block)
theorem Grew.refl (h : Heap) (a : Option Addr) : Grew h a h a := ⟨Nat.le_refl _, fun _ _ _ => rfl, fun p ep => .inl ⟨p, ep, rfl⟩⟩
theorem Grew.of_ext {h h' : Heap} (x : Ext h h') (a : Option Addr) : Grew h a h' a := ⟨x.1, fun b hb _ => x.2 b hb, fun p ep => .inl ⟨p, ep, rfl⟩⟩
theorem Grew.trans {h h1 h2 : Heap} {a a1 a2 : Option Addr} (x : Grew h a h1 a1) (y : Grew h1 a1 h2 a2) : Grew h a h2 a2 := by
  refine ⟨Nat.le_trans x.1 y.1, fun b hb hne => ?_, fun p ep => ?_⟩
  · rw [y.2.1 b (by have := x.1; omega), x.2.1 b hb hne]
    intro p ep
    rcases x.2.2 p ep with ⟨q, eq, hq⟩ | hq
    · have := hne q eq; omega
    · omega
  · rcases y.2.2 p ep with ⟨q, eq, hq⟩ | hq
    · rcases x.2.2 q eq with ⟨r, er, hr⟩ | hr
      · exact .inl ⟨r, er, by omega⟩
      · exact .inr (by omega)
    · exact .inr (by have := x.1; omega)
theorem Grew.ext {h h1 h2 : Heap} {a a1 : Option Addr} (x : Grew h a h1 a1) (y : Ext h1 h2) : Grew h a h2 a1 := x.trans (.of_ext y _)
theorem Grew.kept {h h1 : Heap} {a a1 : Option Addr} {B : Nat} (x : Grew h a h1 a1) (hB : B ≤ h.size) (ha : ∀ p, a = some p → B ≤ p.block) : Kept B h h1 :=
  ⟨x.1, fun b hb => x.2.1 b (by omega) fun p ep => by have := ha p ep; omega⟩
theorem Grew.blk {h h1 : Heap} {a a1 : Option Addr} {b e : Nat} {cs : List Value} (x : Grew h a h1 a1) (o : BlkW h b e cs) (hne : ∀ p, a = some p → p.block ≠ b) : BlkW h1 b e cs := o.of (x.2.1 b o.lt hne)
theorem Own.grow {h : Heap} {B e size bytes : Nat} {zs : List Value} {a : Option Addr} {n c m : Nat} {xs more : List Value} {K : Value → Heap → Prop} (x : Own h B e size a n c xs)
    (hB : B ≤ h.size) (hz : zs.length = size) (hm : more.length = m * size) (one : ∀ v ∈ more, isOne v = true) (room : (n + m) * bytes ≤ 140737488355328)
    (k : ∀ h' a' c', Own h' B e size a' (n + m) c' (xs ++ more) → Grew h a h' a' → K (.slice a' (n + m) c') h') :
    HAppend h e size bytes zs a n c more m K :=
  x.append hB hz hm one room fun h' a' c' o k1 k2 k3 => k h' a' c' o ⟨k1.1, k2, k3⟩

theorem Own.bytes {h : Heap} {B : Nat} {a : Option Addr} {c : Nat} {l0 more : List UInt8} {K : Value → Heap → Prop} (x : Own h B 5 1 a l0.length c (l0.map byteV)) (hB : B ≤ h.size)
    (room : l0.length + more.length ≤ 140737488355328)
    (k : ∀ h' a' c', Own h' B 5 1 a' (l0 ++ more).length c' ((l0 ++ more).map byteV) → Grew h a h' a' → K (.slice a' (l0 ++ more).length c') h') :
    HAppend h 5 1 1 [.int .u8 0] a l0.length c (more.map byteV) more.length K := by
  refine Own.grow x hB rfl (by simp) bytesV_one (by omega) fun h' a' c' o g => ?_
  have := k h' a' c' (by rw [List.length_append, List.map_append]; exact o) g
  rw [List.length_append] at this
  exact this

end Go.Proofs.YtlogpojkkbcpjaaGreat.Hc
/- Names in lists; scope.Vars. -/
set_option linter.unusedVariables false
set_option linter.unusedSimpArgs false
namespace Go.Proofs.YtlogpojkkbcpjaaGreat.Hc
open Go Go.H Go.Proofs
set_option maxRecDepth 100000
set_option maxHeartbeats 8000000
theorem index_spec {h : Heap} {a : Option Addr} {c : Nat} {ks : List ByteArray} (x : Sl h 1 a ks.length c (ks.map .string)) (s : ByteArray) (hn : ks.length ≤ 17179869184) :
    HCalls Tryz.prog 28 #[.slice a ks.length c, .string s] h fun e h' => h' = h ∧ ∃ n : Int, e = .returned (.int .i64 n) ∧ -1 ≤ n ∧ n < ks.length ∧
      ((n = -1 ∧ s ∉ ks) ∨ (∃ i : Nat, ∃ hi : i < ks.length, n = i ∧ ks[i] = s ∧ s ∉ ks.take i)) := by
  refine c28 (by simp) ?_
  refine gA ?_
  refine loop_rule [8] (fun vs h' => ∃ (i : Nat), vs = [.int .i64 i] ∧ i ≤ ks.length ∧ h' = h ∧ s ∉ ks.take i)
    (fun vs _ => match vs with | [.int _ i] => ks.length - i.toNat | _ => 0) rfl ?_ ?_
  · exact ⟨0, rfl, by omega, rfl, by simp⟩
  · intro u h v8
    rintro ⟨i, e, hi, rfl, hs⟩
    cases e
    refine gA ?_
    refine HIf.mk (fun hb => ?_) (fun hb => ?_)
    · have hi1 : i < ks.length := by have := of_decide_eq_true hb; omega
      refine gA ?_
      refine HIdx.mk i rfl hi1 ?_
      refine sl_some x hi1 fun p ep => ?_
      refine gA ?_
      refine x.load ep (by simpa using hi1) ?_
      rw [List.getElem_map]
      refine gA ?_
      refine HIf.mk (fun he => ?_) (fun he => ?_)
      · have heq := (strEq_iff _ _).1 he
        refine gA ?_
        exact ⟨rfl, i, rfl, by omega, by omega, .inr ⟨i, hi1, rfl, heq.symm, hs⟩⟩
      · have hne := (strEq_no _ _).1 he
        refine gA ?_
        refine ⟨⟨i + 1, rfl, by omega, rfl, ?_⟩, ?_⟩
        · rw [take_succ' hi1, List.mem_append, List.mem_singleton]
          rintro (h | h)
          · exact hs h
          · exact hne h
        · show ks.length - (((i : Int) + 1)).toNat < ks.length - ((i : Int)).toNat
          omega
    · have hge := of_decide_eq_false hb
      rw [List.take_of_length_le (by omega)] at hs
      refine gA ?_
      exact ⟨rfl, -1, rfl, by omega, by omega, .inl ⟨rfl, hs⟩⟩

theorem contains_spec {h : Heap} {a : Option Addr} {c : Nat} {ks : List ByteArray} (x : Sl h 1 a ks.length c (ks.map .string)) (s : ByteArray) (hn : ks.length ≤ 17179869184) :
    HCalls Tryz.prog 14 #[.slice a ks.length c, .string s] h fun e h' => h' = h ∧ e = .returned (.bool (strIn ks s)) := by
  refine c14 (by simp) ?_
  refine gA ?_
  refine HCall.mk ((index_spec x s hn).mono ?_)
  rintro e h1 ⟨rfl, n, rfl, h1', h2', h3⟩
  refine gA ?_
  refine ⟨rfl, ?_⟩
  show Ending.returned (.bool (decide (n ≥ 0))) = _
  rcases h3 with ⟨rfl, hs⟩ | ⟨i, hi, rfl, he, _⟩
  · have : strIn ks s = false := by rw [← Bool.not_eq_true, strIn_iff]; exact hs
    rw [this]; rfl
  · have : strIn ks s = true := strIn_iff.2 (he ▸ List.getElem_mem hi)
    rw [this, decide_eq_true (by omega)]

/-- A name laid behind, if it is new. -/
def addN (out : List ByteArray) (s : ByteArray) : List ByteArray := if strIn out s = true then out else out ++ [s]
theorem addN_yes {out : List ByteArray} {s : ByteArray} (h : strIn out s = true) : addN out s = out := if_pos h
theorem addN_no {out : List ByteArray} {s : ByteArray} (h : strIn out s = false) : addN out s = out ++ [s] := if_neg (by rw [h]; simp)
theorem sl_at {h h' : Heap} {size n c : Nat} {a : Option Addr} {xs : List Value} (x : Sl h size a n c xs) (e : ∀ p, a = some p → h'[p.block]? = h[p.block]?) : Sl h' size a n c xs :=
  ⟨x.1, x.2.1, x.2.2.1, fun p ep i hi => by
    have h1 := x.2.2.2 p ep i hi
    have e2 : h'[(p.add i).block]? = h[(p.add i).block]? := by rw [add_block]; exact e p ep
    rw [hcell_of e2, h1]⟩
theorem addN_len (out : List ByteArray) (s : ByteArray) : (addN out s).length ≤ out.length + 1 := by unfold addN; split <;> simp
theorem fold_len : ∀ (l out : List ByteArray), (l.foldl addN out).length ≤ out.length + l.length
  | [], out => by simp
  | s :: l, out => by
    have h1 := fold_len l (addN out s)
    have h2 := addN_len out s
    rw [List.foldl_cons, List.length_cons]; omega
mutual
/-- What one node declares, laid behind. -/
def varsT : NT → List ByteArray → List ByteArray
  | .mk k nm _ _ _ l, out => if k = 39 ∨ k = 10 then out else (varsL l []).foldl addN (if k = 23 then addN out nm else out)
def varsL : List NT → List ByteArray → List ByteArray
  | [], out => out
  | d :: r, out => varsL r (varsT d out)
end
mutual
theorem varsT_len : ∀ (d : NT) (out : List ByteArray), (varsT d out).length ≤ out.length + cnt d
  | .mk k nm n t ns l, out => by
    unfold varsT
    simp only [cnt]
    split
    · omega
    · have h1 := fold_len (varsL l []) (if k = 23 then addN out nm else out)
      have h2 := varsL_len l []
      have h3 := addN_len out nm
      split at h1
      · rw [if_pos (by assumption)]
        simp only [List.length_nil, Nat.zero_add] at h2; omega
      · rw [if_neg (by assumption)]
        simp only [List.length_nil, Nat.zero_add] at h2; omega
theorem varsL_len : ∀ (l : List NT) (out : List ByteArray), (varsL l out).length ≤ out.length + cnts l
  | [], out => by simp [varsL]
  | d :: r, out => by
    have h1 := varsT_len d out
    have h2 := varsL_len r (varsT d out)
    simp only [varsL, cnts]; omega
end
theorem varsL_take (l : List NT) (i : Nat) (hi : i < l.length) : varsL (l.take (i + 1)) [] = varsT l[i] (varsL (l.take i) []) := by
  have key : ∀ (l m : List NT) (out : List ByteArray), varsL (l ++ m) out = varsL m (varsL l out) := by
    intro l
    induction l with
    | nil => intro m out; rfl
    | cons d r ih => intro m out; simp only [List.cons_append, varsL]; exact ih _ _
  rw [List.take_add_one, List.getElem?_eq_getElem hi]
  show varsL (l.take i ++ [l[i]]) [] = _
  rw [key]; rfl
theorem cnts_take (l : List NT) (i : Nat) : cnts (l.take i) ≤ cnts l := by
  induction l generalizing i with
  | nil => simp [cnts]
  | cons d r ih => cases i with
    | zero => simp [cnts]
    | succ i => have := ih i; simp only [List.take_succ_cons, cnts]; omega
theorem cnts_get (l : List NT) (i : Nat) (hi : i < l.length) : cnt l[i] ≤ cnts l := by
  induction l generalizing i with
  | nil => simp at hi
  | cons d r ih => cases i with
    | zero => simp only [List.getElem_cons_zero, cnts]; omega
    | succ i => have := ih i (by simpa using hi); simp only [List.getElem_cons_succ, cnts]; omega
theorem kids_lt (d : NT) : cnts d.l < cnt d := by cases d; simp only [NT.l, cnt]; omega

abbrev SlS (h : Heap) (B : Nat) (a : Option Addr) (c : Nat) (l : List ByteArray) : Prop := Own h B 9 1 a l.length c (l.map .string)

theorem vars_spec : ∀ (m : Nat) (l : List NT) (_ : cnts l = m) (h : Heap) (a : Option Addr) (c : Nat) (xs : List Value) (_ : Sl h 6 a l.length c xs) (_ : TReps h l xs) (_ : cnts l ≤ 4194304),
    HCalls Tryz.prog 8 #[.slice a l.length c] h fun e h' => ∃ a' c', e = .returned (.slice a' (varsL l []).length c') ∧ SlS h' h.size a' c' (varsL l []) ∧ Ext h h' := by
  intro m
  induction m using Nat.strongRecOn with
  | ind m ih =>
  intro l hm h a c xs s r hc
  have hl := cnts_len l
  refine c8 (by simp) ?_
  refine gA ?_
  refine loop_rule [2, 9] (fun vs h' => ∃ (i : Nat) (a' : Option Addr) (c' : Nat), vs = [.slice a' (varsL (l.take i) []).length c', .int .i64 i] ∧ i ≤ l.length ∧ SlS h' h.size a' c' (varsL (l.take i) []) ∧ Ext h h')
    (fun vs _ => match vs with | [_, .int _ i] => l.length - i.toNat | _ => 0) rfl ?_ ?_
  · exact ⟨0, none, 0, rfl, by omega, Own.nil _ _ _ _, Ext.refl _⟩
  intro u h1 v2 v9
  rintro ⟨i, a1, c1, e, hi, w1, x1⟩
  cases e
  refine gA ?_
  refine HIf.mk (fun hlt => ?_) (fun hlt => ?_)
  · have hi1 : i < l.length := by have := of_decide_eq_true hlt; omega
    have hmu : l.length - ((i : Int) + 1).toNat < l.length - ((i : Int)).toNat := by omega
    have vt := varsL_take l i hi1
    have hvl := varsL_len (l.take i) []
    have hct := cnts_take l i
    have hcg := cnts_get l i hi1
    have hkl := kids_lt l[i]
    simp only [List.length_nil, Nat.zero_add] at hvl
    generalize varsL (l.take i) [] = out at w1 vt hvl
    refine gA ?_
    refine HIdx.mk i rfl hi1 ?_
    refine sl_some s hi1 fun p ep => ?_
    refine gA ?_
    refine tload' s r x1 ep hi1 fun cs rt => ?_
    have hcl := rt.len
    cases hd : l[i] with
    | mk k nm n t ns kl =>
    rw [hd] at rt vt hcg hkl
    simp only [NT.l] at hkl
    simp only [TRep] at rt
    obtain ⟨b1, b2, b3, b4, b5, b6, b7, ka, kc, la, lc, ys, rfl, s1, s2, s3⟩ := rt
    refine gA ?_
    refine new_var (e := 25) zeroT rfl ?_
    intro h2 b2' o2 x2 z2 hb2
    refine gA ?_
    refine store_blk o2 (by simp) (by simp [isOne]) ?_
    intro h3 f3 z3 o3
    have o3' : BlkW h3 b2' 25 [.int .i64 k, .string nm, .int .i64 n, .string t, .slice ka ns.length kc, .slice la kl.length lc] := by simpa using o3
    have x13 : Ext h1 h3 := x2.offNew f3 (by omega)
    have w3 := w1.ext x13
    clear o2 o3
    simp only [varsT] at vt
    by_cases hk1 : k = 39
    · have q1 : (k == 39) = true := beq_iff_eq.2 hk1
      rw [if_pos (.inl hk1)] at vt
      refine gA ?_
      exact ⟨⟨i + 1, a1, c1, by rw [vt]; rfl, by omega, by rw [vt]; exact w3, x1.trans x13⟩, hmu⟩
    have q1 : (k == 39) = false := beq_eq_false_iff_ne.2 hk1
    by_cases hk2 : k = 10
    · have q2 : (k == 10) = true := beq_iff_eq.2 hk2
      rw [if_pos (.inr hk2)] at vt
      refine gA ?_
      exact ⟨⟨i + 1, a1, c1, by rw [vt]; rfl, by omega, by rw [vt]; exact w3, x1.trans x13⟩, hmu⟩
    have q2 : (k == 10) = false := beq_eq_false_iff_ne.2 hk2
    rw [if_neg (by omega)] at vt
    refine gB ?_
    refine cut_rule [2] (fun vs h' => ∃ (a' : Option Addr) (c' : Nat), vs = [.slice a' (if k = 23 then addN out nm else out).length c'] ∧ SlS h' h.size a' c' (if k = 23 then addN out nm else out) ∧ Ext h h' ∧ h3.size ≤ h'.size ∧ BlkW h' b2' 25 [.int .i64 k, .string nm, .int .i64 n, .string t, .slice ka ns.length kc, .slice la kl.length lc]) rfl ?_ ?_
    · by_cases hk3 : k = 23
      · have q3 : (k == 23) = true := beq_iff_eq.2 hk3
        rw [if_pos hk3]
        refine gA ?_
        refine HCall.mk ((contains_spec w3.sl nm (by omega)).mono ?_)
        rintro e h4 ⟨rfl, rfl⟩
        cases hin : strIn out nm
        · rw [addN_no hin]
          refine gA ?_
          refine new_own (e := 9) 1 1 [.string nm] rfl rfl ?_
          intro h5 b5 w5 x5 z5 hb5
          have o5 := o3'.ext x5
          have w35 := w3.ext x5
          refine gA ?_
          refine w5.sl.cells ?_
          refine Own.grow w35 (by have := x1.1; have := x13.1; have := x5.1; omega) rfl rfl (by intro v hv; simp only [List.mem_singleton] at hv; subst hv; rfl) (by omega) ?_
          intro h6 a6 c6 w6 g6
          have w3lt := w3.lt
          have o6 := g6.blk o5 (fun p ep => by have := w3lt p ep; have := w1.lt p ep; have := x2.1; omega)
          have hs6 := g6.1
          refine gA ?_
          exact ⟨a6, c6, by rw [List.length_append]; rfl, by rw [SlS, List.length_append, List.map_append]; exact w6, (x1.trans (x13.trans x5)).keep (g6.kept (by have := x1.1; have := x13.1; have := x5.1; omega) fun p ep => by have := w3lt p ep; omega), by have := x5.1; omega, o6⟩
        · rw [addN_yes hin]
          refine gA ?_
          exact ⟨a1, c1, rfl, w3, x1.trans x13, Nat.le_refl _, o3'⟩
      · have q3 : (k == 23) = false := beq_eq_false_iff_ne.2 hk3
        rw [if_neg hk3]
        refine gA ?_
        exact ⟨a1, c1, rfl, w3, x1.trans x13, Nat.le_refl _, o3'⟩
    · intro u4 h4 v2
      rintro ⟨a4, c4, e, w4, x4, hs4, o4⟩
      cases e
      have hb4 : b2' < h4.size := o4.lt
      have ho2 : (if k = 23 then addN out nm else out).length ≤ 4194305 := by have := addN_len out nm; split <;> omega
      generalize (if k = 23 then addN out nm else out) = out2 at w4 vt ho2
      have hv2 := varsL_len kl []
      refine gA ?_
      refine HCall.mk ((ih (cnts kl) (by omega) kl rfl h4 la lc ys (s2.ext x4) (s3.ext x4) (by omega)).mono ?_)
      rintro e h5 ⟨a5, c5, rfl, w5, x5⟩
      have w45 := w4.ext x5
      have hs45 := x5.1
      have hs04 := x4.1
      generalize varsL kl [] = ks at w5 vt hv2
      simp only [List.length_nil, Nat.zero_add] at hv2
      have hfl : ∀ j, (ks.take j).foldl addN out2 = (ks.take j).foldl addN out2 := fun _ => rfl
      refine gA ?_
      refine loop_rule [2, 34] (fun vs h' => ∃ (j : Nat) (a' : Option Addr) (c' : Nat), vs = [.slice a' ((ks.take j).foldl addN out2).length c', .int .i64 j] ∧ j ≤ ks.length ∧ SlS h' h.size a' c' ((ks.take j).foldl addN out2) ∧ Sl h' 1 a5 ks.length c5 (ks.map .string) ∧ Ext h h' ∧ h5.size ≤ h'.size ∧ (∀ p, a' = some p → p.block < h4.size ∨ h5.size ≤ p.block))
        (fun vs _ => match vs with | [_, .int _ i] => ks.length - i.toNat | _ => 0) rfl ?_ ?_
      · exact ⟨0, a4, c4, rfl, by omega, w45, w5.sl, x4.trans x5, Nat.le_refl _, fun p ep => .inl (w4.lt p ep).2⟩
      intro u6 h6 v2' v34
      rintro ⟨j, a6, c6, e, hj, w6, s6, x6, hs6, ap6⟩
      cases e
      refine gA ?_
      refine HIf.mk (fun hlt2 => ?_) (fun hlt2 => ?_)
      · have hj1 : j < ks.length := by have := of_decide_eq_true hlt2; omega
        have hmu2 : ks.length - ((j : Int) + 1).toNat < ks.length - ((j : Int)).toNat := by omega
        have ft : (ks.take (j + 1)).foldl addN out2 = addN ((ks.take j).foldl addN out2) ks[j] := by rw [take_succ' hj1, List.foldl_append]; rfl
        have fl := fold_len (ks.take j) out2
        rw [List.length_take] at fl
        generalize (ks.take j).foldl addN out2 = out3 at w6 ft fl
        refine gA ?_
        refine HIdx.mk j rfl hj1 ?_
        refine sl_some s6 hj1 fun p ep => ?_
        refine gA ?_
        refine s6.load ep (by simpa using hj1) ?_
        rw [List.getElem_map]
        refine gA ?_
        refine HCall.mk ((contains_spec w6.sl ks[j] (by omega)).mono ?_)
        rintro e h7 ⟨rfl, rfl⟩
        cases hin : strIn out3 ks[j]
        · rw [addN_no hin] at ft
          refine gA ?_
          refine new_own (e := 9) 1 1 [.string ks[j]] rfl rfl ?_
          intro h8 b8 w8 x8 z8 hb8
          have w68 := w6.ext x8
          have s68 := s6.ext x8
          have hs8 := x8.1
          refine gA ?_
          refine w8.sl.cells ?_
          refine Own.grow w68 (by have := x6.1; omega) rfl rfl (by intro v hv; simp only [List.mem_singleton] at hv; subst hv; rfl) (by omega) ?_
          intro h9 a9 c9 w9 g9
          have w6lt := w6.lt
          have w5lt := w5.lt
          have hs9 := g9.1
          have ap9 : ∀ p, a9 = some p → p.block < h4.size ∨ h5.size ≤ p.block := by
            intro p ep
            rcases g9.2.2 p ep with ⟨q, eq, hq⟩ | hq
            · rw [hq]; exact ap6 q eq
            · right; omega
          have s9 : Sl h9 1 a5 ks.length c5 (ks.map .string) := sl_at s68 fun q eq => g9.2.1 _ (by have := w5lt q eq; omega) (fun p ep => by have := w5lt q eq; have := ap6 p ep; omega)
          refine gA ?_
          exact ⟨⟨j + 1, a9, c9, by rw [ft, List.length_append]; rfl, by omega, by rw [ft, SlS, List.length_append, List.map_append]; exact w9, s9, (x6.trans x8).keep (g9.kept (by have := x6.1; omega) fun p ep => by have := w6lt p ep; omega), by omega, ap9⟩, hmu2⟩
        · rw [addN_yes hin] at ft
          refine gA ?_
          exact ⟨⟨j + 1, a6, c6, by rw [ft]; rfl, by omega, by rw [ft]; exact w6, s6, x6, hs6, ap6⟩, hmu2⟩
      · have hge2 := of_decide_eq_false hlt2
        obtain rfl : j = ks.length := by omega
        rw [List.take_length] at w6 ⊢
        refine gA ?_
        exact ⟨⟨i + 1, a6, c6, by rw [vt]; rfl, by omega, by rw [vt]; exact w6, x6⟩, hmu⟩
  · have hge := of_decide_eq_false hlt
    obtain rfl : i = l.length := by omega
    rw [List.take_length] at w1 ⊢
    refine gA ?_
    exact ⟨a1, c1, rfl, w1, x1⟩

end Go.Proofs.YtlogpojkkbcpjaaGreat.Hc
/-
  DERIVED: THE SHELF's CONTRACTS AT THIS DUMP, IN PLAIN WORDS (tools/lay-plain.mjs out of 'YtlogpojkkbcpjaaGreatS0.lean', which tools/lay-shelf.mjs wrote): THE SAME DECLARATIONS UNDER THE SAME NAMES: 'import', 'namespace', 'open', 'def', 'theorem' AND NOTHING ELSE: no command of the shelf's: FOR A HAND-IN. Each laying: the table of numbers ('.._ren') and one theorem, a field a fact of the dump's own or the kernel's comparison; each contract: ONE APPLICATION.
-/
namespace Go.Proofs
open Go.Shelf
def Tryz.lays144_ren : Go.Shelf.Ren := ⟨fun | 144 => 71 | 143 => 83 | 219 => 73 | 217 => 84 | 225 => 85 | 224 => 86 | 267 => 87 | 266 => 99 | 314 => 100 | n => n, fun | 9 => 9 | 4 => 4 | 3 => 3 | 5 => 5 | 46 => 78 | 146 => 94 | 51 => 91 | n => n, fun | 1 => 0 | n => n⟩
theorem Tryz.lays144 : Go.Proofs.Lays.n144 Tryz.prog Tryz.lays144_ren := {
  mixed := by kernel_rfl
  f143 := Tryz.func83.trans (congrArg some (by kernel_rfl))
  f144 := Tryz.func71.trans (congrArg some (by kernel_rfl))
  f217 := Tryz.func84.trans (congrArg some (by kernel_rfl))
  f219 := Tryz.func73.trans (congrArg some (by kernel_rfl))
  f224 := Tryz.func86.trans (congrArg some (by kernel_rfl))
  f225 := Tryz.func85.trans (congrArg some (by kernel_rfl))
  f266 := Tryz.func99.trans (congrArg some (by kernel_rfl))
  f267 := Tryz.func87.trans (congrArg some (by kernel_rfl))
  f314 := Tryz.func100.trans (congrArg some (by kernel_rfl))
  t3 := Tryz.underlying3
  a3 := Tryz.isAgg3
  z3 := Tryz.sizeOf3
  v3 := Tryz.zeroValue3
  t4 := Tryz.underlying4
  a4 := Tryz.isAgg4
  z4 := Tryz.sizeOf4
  v4 := Tryz.zeroValue4
  t5 := Tryz.underlying5
  a5 := Tryz.isAgg5
  z5 := Tryz.sizeOf5
  v5 := Tryz.zeroValue5
  t9 := Tryz.underlying9
  a9 := Tryz.isAgg9
  z9 := Tryz.sizeOf9
  v9 := Tryz.zeroValue9
  t46 := Tryz.underlying78
  a46 := Tryz.isAgg78
  z46 := Tryz.sizeOf78
  v46 := Tryz.zeroValue78
  t51 := Tryz.underlying91
  a51 := Tryz.isAgg91
  z51 := Tryz.sizeOf91
  v51 := Tryz.zeroValue91
  t146 := Tryz.underlying94
  a146 := Tryz.isAgg94
  z146 := Tryz.sizeOf94
  v146 := Tryz.zeroValue94
  g1 := by kernel_rfl }
def Tryz.lays145_ren : Go.Shelf.Ren := ⟨fun | 145 => 34 | 220 => 54 | 219 => 73 | 217 => 84 | 225 => 85 | 224 => 86 | 267 => 87 | 266 => 99 | 314 => 100 | n => n, fun | 9 => 9 | 4 => 4 | 59 => 59 | 3 => 3 | 5 => 5 | 46 => 78 | 146 => 94 | 51 => 91 | n => n, fun | 1 => 0 | n => n⟩
theorem Tryz.lays145 : Go.Proofs.Lays.n145 Tryz.prog Tryz.lays145_ren := {
  mixed := by kernel_rfl
  f145 := Tryz.func34.trans (congrArg some (by kernel_rfl))
  f217 := Tryz.func84.trans (congrArg some (by kernel_rfl))
  f219 := Tryz.func73.trans (congrArg some (by kernel_rfl))
  f220 := Tryz.func54.trans (congrArg some (by kernel_rfl))
  f224 := Tryz.func86.trans (congrArg some (by kernel_rfl))
  f225 := Tryz.func85.trans (congrArg some (by kernel_rfl))
  f266 := Tryz.func99.trans (congrArg some (by kernel_rfl))
  f267 := Tryz.func87.trans (congrArg some (by kernel_rfl))
  f314 := Tryz.func100.trans (congrArg some (by kernel_rfl))
  t3 := Tryz.underlying3
  a3 := Tryz.isAgg3
  z3 := Tryz.sizeOf3
  v3 := Tryz.zeroValue3
  t4 := Tryz.underlying4
  a4 := Tryz.isAgg4
  z4 := Tryz.sizeOf4
  v4 := Tryz.zeroValue4
  t5 := Tryz.underlying5
  a5 := Tryz.isAgg5
  z5 := Tryz.sizeOf5
  v5 := Tryz.zeroValue5
  t9 := Tryz.underlying9
  a9 := Tryz.isAgg9
  z9 := Tryz.sizeOf9
  v9 := Tryz.zeroValue9
  t46 := Tryz.underlying78
  a46 := Tryz.isAgg78
  z46 := Tryz.sizeOf78
  v46 := Tryz.zeroValue78
  t51 := Tryz.underlying91
  a51 := Tryz.isAgg91
  z51 := Tryz.sizeOf91
  v51 := Tryz.zeroValue91
  t59 := Tryz.underlying59
  a59 := Tryz.isAgg59
  z59 := Tryz.sizeOf59
  v59 := Tryz.zeroValue59
  t146 := Tryz.underlying94
  a146 := Tryz.isAgg94
  z146 := Tryz.sizeOf94
  v146 := Tryz.zeroValue94
  g1 := by kernel_rfl }
end Go.Proofs
/- Names: what a text is. -/
set_option linter.unusedVariables false
set_option linter.unusedSimpArgs false
namespace Go.Proofs.YtlogpojkkbcpjaaGreat.Hc
open Go Go.H Go.Proofs
set_option maxRecDepth 100000
set_option maxHeartbeats 8000000

/-- The variable internal/bytealg.MaxLen holds a number. -/
def Glb (h : Heap) : Prop := ∃ m : Int, hcell h ⟨0, 0, none⟩ = some (.int .i64 m)
theorem Glb.keepC {h h' : Heap} (g : Glb h) (k : KeepC h h') : Glb h' := by obtain ⟨m, e⟩ := g; exact ⟨m, k.cell e⟩
theorem Glb.ext {h h' : Heap} (g : Glb h) (k : Ext h h') : Glb h' := g.keepC (.of_ext k)
def hasSub (s t : ByteArray) : Bool := Lib.contains s.data.toList t.data.toList
theorem scontains_spec {h : Heap} (g : Glb h) (s t : ByteArray) (hs : s.size < 4294967281) :
    HCalls Tryz.prog 71 #[.string s, .string t] h fun e h' => e = .returned (.bool (hasSub s t)) ∧ h' = h := by
  obtain ⟨m, hm⟩ := g
  intro w hw
  subst hw
  refine (Any.strings_Contains Tryz.lays144 s t m w hs hm).mono ?_
  rintro e w' ⟨rfl, hw'⟩
  subst hw'
  exact ⟨⟨rfl, rfl, rfl⟩, rfl, rfl⟩
theorem cut_spec {h : Heap} (g : Glb h) (s t : ByteArray) (hs : s.size < 4294967281) :
    HCalls Tryz.prog 34 #[.string s, .string t] h fun e h' => e = .returned (.tuple #[.string ⟨(Lib.cut s.data.toList t.data.toList).1.toArray⟩, .string ⟨(Lib.cut s.data.toList t.data.toList).2.1.toArray⟩, .bool (Lib.cut s.data.toList t.data.toList).2.2]) ∧ h' = h := by
  obtain ⟨m, hm⟩ := g
  intro w hw
  subst hw
  refine (Any.strings_Cut Tryz.lays145 s t m w hs hm).mono ?_
  rintro e w' ⟨rfl, n, rfl⟩
  exact ⟨⟨rfl, rfl, rfl⟩, rfl, rfl⟩
def letterB (c : UInt8) : Bool := (decide (ibits .or .u8 (c.toNat : Int) 32 ≥ 97) && decide (ibits .or .u8 (c.toNat : Int) 32 ≤ 122)) || ((c.toNat : Int) == 95) || ((c.toNat : Int) == 36)
def digitB (c : UInt8) : Bool := decide ((c.toNat : Int) ≥ 48) && decide ((c.toNat : Int) ≤ 57)
def wordB (c : UInt8) : Bool := letterB c || digitB c
theorem letter_spec (c : UInt8) (h : Heap) : HCalls Tryz.prog 69 #[byteV c] h fun e h' => e = .returned (.bool (letterB c)) ∧ h' = h := by
  unfold byteV letterB
  refine c69 (by simp) ?_
  cases q1 : decide (ibits .or .u8 (c.toNat : Int) 32 ≥ 97) <;> cases q2 : decide (ibits .or .u8 (c.toNat : Int) 32 ≤ 122) <;> cases q3 : ((c.toNat : Int) == 95) <;> refine gA ?_ <;> exact ⟨rfl, rfl⟩
theorem digit_spec (c : UInt8) (h : Heap) : HCalls Tryz.prog 82 #[byteV c] h fun e h' => e = .returned (.bool (digitB c)) ∧ h' = h := by
  unfold byteV digitB
  refine c82 (by simp) ?_
  cases q1 : decide ((c.toNat : Int) ≥ 48) <;> refine gA ?_ <;> exact ⟨rfl, rfl⟩
theorem at_l {l : List UInt8} {i : Nat} (hi : i < l.length) : (⟨l.toArray⟩ : ByteArray).data[i]! = l[i] := by
  show l.toArray[i]! = l[i]
  simp [hi]
theorem all_take {l : List UInt8} {i : Nat} (hi : i < l.length) (ha : (l.take i).all wordB = true) : (l.take (i + 1)).all wordB = wordB l[i] := by
  rw [take_succ' hi, List.all_append, ha]; simp
theorem row_spec (l : List UInt8) (hl : l.length ≤ 140737488351232) (h : Heap) : HCalls Tryz.prog 70 #[.string ⟨l.toArray⟩] h fun e h' => (∃ n : Nat, e = .returned (.int .i64 n) ∧ (n = l.length ↔ l.all wordB = true)) ∧ h' = h := by
  have hs : (⟨l.toArray⟩ : ByteArray).size = l.length := rfl
  refine c70 (by simp) ?_
  refine gA ?_
  refine loop_rule [6] (fun vs h' => ∃ (i : Nat), vs = [.int .i64 i] ∧ i ≤ l.length ∧ h' = h ∧ (l.take i).all wordB = true)
    (fun vs _ => match vs with | [.int _ i] => l.length - i.toNat | _ => 0) rfl ?_ ?_
  · exact ⟨0, rfl, by omega, rfl, by simp⟩
  intro u h1 v6
  rintro ⟨i, e, hi, rfl, ha⟩
  cases e
  refine gA ?_
  refine HIf.mk (fun hlt => ?_) (fun hlt => ?_)
  · have hi1 : i < l.length := by have := of_decide_eq_true hlt; omega
    have hmu : l.length - ((i : Int) + 1).toNat < l.length - ((i : Int)).toNat := by omega
    have at1 := all_take hi1 ha
    have no : wordB l[i] = false → ((i : Nat) = l.length ↔ l.all wordB = true) := fun hw => by
      constructor
      · intro e; omega
      · intro e
        have := List.all_eq_true.1 e l[i] (List.getElem_mem hi1)
        rw [hw] at this; cases this
    refine gA ?_
    refine HIdx.mk i rfl hi1 ?_
    rw [at_l hi1]
    refine gA ?_
    refine HCall.mk ((letter_spec l[i] h1).mono ?_)
    rintro e h2 ⟨rfl, rfl⟩
    cases q1 : letterB l[i]
    · refine gA ?_
      refine HIdx.mk i rfl hi1 ?_
      rw [at_l hi1]
      refine gA ?_
      refine HCall.mk ((digit_spec l[i] h2).mono ?_)
      rintro e h3 ⟨rfl, rfl⟩
      cases q2 : digitB l[i]
      · refine gA ?_
        exact ⟨⟨i, rfl, no (by unfold wordB; rw [q1, q2]; rfl)⟩, rfl⟩
      · refine gA ?_
        exact ⟨⟨i + 1, rfl, by omega, rfl, by rw [at1]; unfold wordB; rw [q1, q2]; rfl⟩, hmu⟩
    · refine gA ?_
      exact ⟨⟨i + 1, rfl, by omega, rfl, by rw [at1]; unfold wordB; rw [q1]; rfl⟩, hmu⟩
  · have hge := of_decide_eq_false hlt
    obtain rfl : i = l.length := by omega
    rw [List.take_length] at ha
    refine gA ?_
    exact ⟨⟨l.length, rfl, by simp [ha]⟩, rfl⟩
/-- An identifier. -/
def identL (l : List UInt8) : Bool := match l with
  | [] => false
  | c :: r => decide (l.length ≤ 32) && letterB c && l.all wordB
def identB (s : ByteArray) : Bool := identL s.data.toList
theorem ident_spec (s : ByteArray) (hl : s.size ≤ 140737488351232) (h : Heap) : HCalls Tryz.prog 51 #[.string s] h fun e h' => e = .returned (.bool (identB s)) ∧ h' = h := by
  obtain ⟨⟨l⟩⟩ := s
  have hs : (⟨l.toArray⟩ : ByteArray).size = l.length := rfl
  have hs2 : l.length ≤ 140737488351232 := hl
  show HCalls Tryz.prog 51 #[.string ⟨l.toArray⟩] h _
  refine c51 (by simp) ?_
  have e0 : identB ⟨l.toArray⟩ = identL l := rfl
  show aexec _ _ (abody _ fun e h' => e = .returned (.bool (identB ⟨l.toArray⟩)) ∧ h' = h) _ _
  rw [e0]
  cases l with
  | nil =>
    have q : (!strEq (⟨([] : List UInt8).toArray⟩ : ByteArray) ⟨#[]⟩) = false := by rw [(strEq_iff _ _).2 rfl]; rfl
    refine gA ?_
    exact ⟨rfl, rfl⟩
  | cons c r =>
    have q : (!strEq (⟨(c :: r).toArray⟩ : ByteArray) ⟨#[]⟩) = true := by rw [(strEq_no _ _).2 (by intro e; cases e)]; rfl
    have hid : identL (c :: r) = (decide ((c :: r).length ≤ 32) && letterB c && (c :: r).all wordB) := rfl
    generalize identL (c :: r) = z at hid
    by_cases h32 : (c :: r).length ≤ 32
    · have q2 : decide (((⟨(c :: r).toArray⟩ : ByteArray).size : Int) ≤ 32) = true := decide_eq_true (by rw [hs]; omega)
      rw [decide_eq_true h32, Bool.true_and] at hid
      refine gA ?_
      refine HIdx.mk 0 rfl (show 0 < (c :: r).length by simp) ?_
      rw [at_l (by simp)]
      refine gA ?_
      refine HCall.mk ((letter_spec c h).mono ?_)
      rintro e h2 ⟨rfl, rfl⟩
      rw [List.getElem_cons_zero]
      cases q3 : letterB c
      · rw [q3, Bool.false_and] at hid
        subst hid
        refine gA ?_
        exact ⟨rfl, rfl⟩
      · rw [q3, Bool.true_and] at hid
        refine gA ?_
        refine HCall.mk ((row_spec (c :: r) hs2 h2).mono ?_)
        rintro e h3 ⟨⟨n, rfl, hn⟩, rfl⟩
        have q6 : ((n : Int) == ((⟨(c :: r).toArray⟩ : ByteArray).size : Int)) = z := by
          rw [hid, hs]
          cases q5 : (c :: r).all wordB
          · rw [beq_eq_false_iff_ne]; intro e
            have := hn.1 (by omega)
            rw [q5] at this; cases this
          · rw [beq_iff_eq]; have := hn.2 q5; omega
        refine gA ?_
        exact ⟨by rw [← q6]; rfl, rfl⟩
    · have q2 : decide (((⟨(c :: r).toArray⟩ : ByteArray).size : Int) ≤ 32) = false := decide_eq_false (by rw [hs]; omega)
      rw [decide_eq_false h32, Bool.false_and, Bool.false_and] at hid
      subst hid
      refine gA ?_
      exact ⟨rfl, rfl⟩

end Go.Proofs.YtlogpojkkbcpjaaGreat.Hc
/- Words and names. -/
set_option linter.unusedVariables false
set_option linter.unusedSimpArgs false
namespace Go.Proofs.YtlogpojkkbcpjaaGreat.Hc
open Go Go.H Go.Proofs
set_option maxRecDepth 100000
set_option maxHeartbeats 1000000

def amongB (list s : ByteArray) : Bool := !strEq s ⟨#[]⟩ && !hasSub s ⟨#[32]⟩ && hasSub list (⟨#[32]⟩ ++ s ++ ⟨#[32]⟩)
def wordsB : ByteArray := ⟨#[32, 98, 114, 101, 97, 107, 32, 99, 97, 115, 101, 32, 99, 97, 116, 99, 104, 32, 99, 108, 97, 115, 115, 32, 99, 111, 110, 115, 116, 32, 99, 111, 110, 116, 105, 110, 117, 101, 32, 100, 101, 98, 117, 103, 103, 101, 114, 32, 100, 101, 102, 97, 117, 108, 116, 32, 100, 101, 108, 101, 116, 101, 32, 100, 111, 32, 101, 108, 115, 101, 32, 101, 110, 117, 109, 32, 101, 120, 112, 111, 114, 116, 32, 101, 120, 116, 101, 110, 100, 115, 32, 102, 97, 108, 115, 101, 32, 102, 105, 110, 97, 108, 108, 121, 32, 102, 111, 114, 32, 102, 117, 110, 99, 116, 105, 111, 110, 32, 105, 102, 32, 105, 109, 112, 108, 101, 109, 101, 110, 116, 115, 32, 105, 109, 112, 111, 114, 116, 32, 105, 110, 32, 105, 110, 115, 116, 97, 110, 99, 101, 111, 102, 32, 105, 110, 116, 101, 114, 102, 97, 99, 101, 32, 108, 101, 116, 32, 110, 101, 119, 32, 110, 117, 108, 108, 32, 112, 97, 99, 107, 97, 103, 101, 32, 112, 114, 105, 118, 97, 116, 101, 32, 112, 114, 111, 116, 101, 99, 116, 101, 100, 32, 112, 117, 98, 108, 105, 99, 32, 114, 101, 116, 117, 114, 110, 32, 115, 116, 97, 116, 105, 99, 32, 115, 117, 112, 101, 114, 32, 115, 119, 105, 116, 99, 104, 32, 116, 104, 105, 115, 32, 116, 104, 114, 111, 119, 32, 116, 114, 117, 101, 32, 116, 114, 121, 32, 116, 121, 112, 101, 111, 102, 32, 118, 97, 114, 32, 118, 111, 105, 100, 32, 119, 104, 105, 108, 101, 32, 119, 105, 116, 104, 32, 121, 105, 101, 108, 100, 32]⟩
def isWordB (s : ByteArray) : Bool := amongB wordsB s
def isNameB (s : ByteArray) : Bool := identB s && !isWordB s
theorem among1_spec {h : Heap} (g : Glb h) (list s : ByteArray) (hl : list.size < 4294967281) (hs : s.size ≤ 4194304) : HCalls Tryz.prog 72 #[.string list, .string s] h fun e h' => e = .returned (.bool (amongB list s)) ∧ h' = h := by
  refine c72 (by simp) ?_
  have z1 : (⟨#[32]⟩ : ByteArray).size = 1 := rfl
  have z2 : ((⟨#[32]⟩ : ByteArray) ++ s).size = 1 + s.size := by rw [ByteArray.size_append]; rfl
  cases q1 : (!strEq s ⟨#[]⟩)
  · have e : amongB list s = false := by unfold amongB; rw [q1]; rfl
    rw [e]
    refine gA ?_
    exact ⟨rfl, rfl⟩
  · refine gA ?_
    refine HCall.mk ((scontains_spec g s ⟨#[32]⟩ (by omega)).mono ?_)
    rintro e h2 ⟨rfl, rfl⟩
    cases q2 : hasSub s ⟨#[32]⟩
    · have e : amongB list s = hasSub list (⟨#[32]⟩ ++ s ++ ⟨#[32]⟩) := by unfold amongB; rw [q1, q2]; rfl
      rw [e]
      refine gA ?_
      refine HMust.mk (by rw [z1]; omega) ?_
      refine gA ?_
      refine HMust.mk (by rw [z2, z1]; omega) ?_
      refine gA ?_
      generalize (⟨#[32]⟩ ++ s ++ ⟨#[32]⟩ : ByteArray) = c at e ⊢
      refine HCall.mk ((scontains_spec g list c hl).mono ?_)
      rintro e h3 ⟨rfl, rfl⟩
      refine gA ?_
      exact ⟨rfl, rfl⟩
    · have e : amongB list s = false := by unfold amongB; rw [q1, q2]; rfl
      rw [e]
      refine gA ?_
      exact ⟨rfl, rfl⟩
theorem among2_spec {h : Heap} (g : Glb h) (list s : ByteArray) (hl : list.size < 4294967281) (hs : s.size ≤ 4194304) : HCalls Tryz.prog 52 #[.string list, .string s] h fun e h' => e = .returned (.bool (amongB list s)) ∧ h' = h := by
  refine c52 (by simp) ?_
  have z1 : (⟨#[32]⟩ : ByteArray).size = 1 := rfl
  have z2 : ((⟨#[32]⟩ : ByteArray) ++ s).size = 1 + s.size := by rw [ByteArray.size_append]; rfl
  cases q1 : (!strEq s ⟨#[]⟩)
  · have e : amongB list s = false := by unfold amongB; rw [q1]; rfl
    rw [e]
    refine gA ?_
    exact ⟨rfl, rfl⟩
  · refine gA ?_
    refine HCall.mk ((scontains_spec g s ⟨#[32]⟩ (by omega)).mono ?_)
    rintro e h2 ⟨rfl, rfl⟩
    cases q2 : hasSub s ⟨#[32]⟩
    · have e : amongB list s = hasSub list (⟨#[32]⟩ ++ s ++ ⟨#[32]⟩) := by unfold amongB; rw [q1, q2]; rfl
      rw [e]
      refine gA ?_
      refine HMust.mk (by rw [z1]; omega) ?_
      refine gA ?_
      refine HMust.mk (by rw [z2, z1]; omega) ?_
      refine gA ?_
      generalize (⟨#[32]⟩ ++ s ++ ⟨#[32]⟩ : ByteArray) = c at e ⊢
      refine HCall.mk ((scontains_spec g list c hl).mono ?_)
      rintro e h3 ⟨rfl, rfl⟩
      refine gA ?_
      exact ⟨rfl, rfl⟩
    · have e : amongB list s = false := by unfold amongB; rw [q1, q2]; rfl
      rw [e]
      refine gA ?_
      exact ⟨rfl, rfl⟩
theorem word_spec {h : Heap} (g : Glb h) (s : ByteArray) (hs : s.size ≤ 4194304) : HCalls Tryz.prog 53 #[.string s] h fun e h' => e = .returned (.bool (isWordB s)) ∧ h' = h := by
  refine c53 (by simp) ?_
  refine gA ?_
  refine HCall.mk ((among1_spec g wordsB s (by decide +kernel) hs).mono ?_)
  rintro e h3 ⟨rfl, rfl⟩
  refine gA ?_
  exact ⟨rfl, rfl⟩
theorem name_spec {h : Heap} (g : Glb h) (s : ByteArray) (hs : s.size ≤ 4194304) : HCalls Tryz.prog 33 #[.string s] h fun e h' => e = .returned (.bool (isNameB s)) ∧ h' = h := by
  refine c33 (by simp) ?_
  refine gA ?_
  refine HCall.mk ((ident_spec s (by omega) h).mono ?_)
  rintro e h3 ⟨rfl, rfl⟩
  unfold isNameB
  cases q : identB s
  · refine gA ?_
    exact ⟨rfl, rfl⟩
  · refine gA ?_
    refine HCall.mk ((word_spec g s hs).mono ?_)
    rintro e h4 ⟨rfl, rfl⟩
    refine gA ?_
    exact ⟨rfl, rfl⟩

end Go.Proofs.YtlogpojkkbcpjaaGreat.Hc
/- What a kind of node has: tree.of, tree.statement (printed by tools/t8.py). -/
set_option linter.unusedVariables false
set_option linter.unusedSimpArgs false
namespace Go.Proofs.YtlogpojkkbcpjaaGreat.Hc
open Go Go.H Go.Proofs
set_option maxRecDepth 100000
set_option maxHeartbeats 8000000
structure Form where
  name : ByteArray
  num : Int
  text : Bool
  names : Bool
  l : ByteArray
def Form.cells (f : Form) : List Value := [.string f.name, .int .i64 f.num, .bool f.text, .bool f.names, .string f.l]
abbrev zeroF : List Value := [.string ⟨#[]⟩, .int .i64 0, .bool false, .bool false, .string ⟨#[]⟩]
def stmtOf (k : Int) (n : Nat) : Option Form :=
  if k = 22 then some ⟨⟨#[]⟩, 0, false, false, ⟨#[100, 42, 100]⟩⟩ else
  if k = 23 then some ⟨⟨#[110]⟩, 0, false, false, (if n = 0 then ⟨#[]⟩ else ⟨#[101]⟩)⟩ else
  if k = 24 then some ⟨⟨#[]⟩, 0, false, false, ⟨#[101]⟩⟩ else
  if k = 25 then some ⟨⟨#[]⟩, 0, false, false, ⟨#[42, 115]⟩⟩ else
  if k = 26 then some ⟨⟨#[]⟩, 0, false, false, (if n ≤ 2 then ⟨#[101, 98]⟩ else ⟨#[101, 98, 98]⟩)⟩ else
  if k = 27 then some ⟨⟨#[]⟩, 0, false, false, ⟨#[101, 98]⟩⟩ else
  if k = 28 then some ⟨⟨#[]⟩, 0, false, false, ⟨#[98, 101]⟩⟩ else
  if k = 29 then some ⟨⟨#[]⟩, 0, false, false, ⟨#[118, 102, 102, 98]⟩⟩ else
  if k = 30 then some ⟨⟨#[]⟩, 0, false, false, ⟨#[119, 101, 98]⟩⟩ else
  if k = 31 then some ⟨⟨#[109]⟩, 0, false, false, ⟨#[]⟩⟩ else
  if k = 32 then some ⟨⟨#[109]⟩, 0, false, false, ⟨#[]⟩⟩ else
  if k = 33 then some ⟨⟨#[]⟩, 0, false, false, (if n = 0 then ⟨#[]⟩ else ⟨#[101]⟩)⟩ else
  if k = 34 then some ⟨⟨#[]⟩, 0, false, false, ⟨#[101]⟩⟩ else
  if k = 35 then some ⟨⟨#[99]⟩, 0, false, false, ⟨#[98, 99, 99]⟩⟩ else
  if k = 36 then some ⟨⟨#[]⟩, 0, false, false, ⟨#[101, 42, 107]⟩⟩ else
  if k = 37 then some ⟨⟨#[]⟩, 0, false, false, ⟨#[102, 42, 115]⟩⟩ else
  if k = 38 then some ⟨⟨#[110]⟩, 0, false, false, ⟨#[115]⟩⟩ else
  if k = 39 then some ⟨⟨#[110]⟩, 0, false, true, ⟨#[42, 120]⟩⟩ else
  if k = 41 then some ⟨⟨#[]⟩, 0, false, false, ⟨#[42, 120]⟩⟩ else
  none
def formOf (k : Int) (n : Nat) : Option Form :=
  if k = 1 then some ⟨⟨#[]⟩, 9007199254740991, false, false, ⟨#[]⟩⟩ else
  if k = 2 then some ⟨⟨#[]⟩, 0, true, false, ⟨#[]⟩⟩ else
  if k = 3 then some ⟨⟨#[110]⟩, 0, false, false, ⟨#[]⟩⟩ else
  if k = 4 then some ⟨⟨#[]⟩, 0, false, false, ⟨#[]⟩⟩ else
  if k = 5 then some ⟨⟨#[]⟩, 0, false, false, ⟨#[]⟩⟩ else
  if k = 6 then some ⟨⟨#[]⟩, 1, false, false, ⟨#[]⟩⟩ else
  if k = 7 then some ⟨⟨#[]⟩, 0, false, false, ⟨#[42, 101]⟩⟩ else
  if k = 8 then some ⟨⟨#[]⟩, 0, false, false, ⟨#[42, 112]⟩⟩ else
  if k = 9 then some ⟨⟨#[]⟩, 0, true, false, ⟨#[101]⟩⟩ else
  if k = 10 then some ⟨⟨#[109]⟩, 0, false, true, ⟨#[42, 120]⟩⟩ else
  if k = 11 then some ⟨⟨#[105]⟩, 0, false, false, ⟨#[101]⟩⟩ else
  if k = 12 then some ⟨⟨#[]⟩, 0, false, false, ⟨#[101, 101]⟩⟩ else
  if k = 13 then some ⟨⟨#[]⟩, 0, false, false, ⟨#[101, 42, 101]⟩⟩ else
  if k = 14 then some ⟨⟨#[]⟩, 0, false, false, ⟨#[101, 42, 101]⟩⟩ else
  if k = 15 then some ⟨⟨#[32, 45, 32, 43, 32, 33, 32, 116, 121, 112, 101, 111, 102, 32, 100, 101, 108, 101, 116, 101, 32, 118, 111, 105, 100, 32]⟩, 0, false, false, ⟨#[101]⟩⟩ else
  if k = 16 then some ⟨⟨#[32, 43, 43, 32, 45, 45, 32]⟩, 1, false, false, ⟨#[116]⟩⟩ else
  if k = 17 then some ⟨⟨#[32, 43, 32, 45, 32, 42, 32, 47, 32, 37, 32, 60, 32, 62, 32, 60, 61, 32, 62, 61, 32, 61, 61, 32, 33, 61, 32, 61, 61, 61, 32, 33, 61, 61, 32, 105, 110, 32, 105, 110, 115, 116, 97, 110, 99, 101, 111, 102, 32]⟩, 0, false, false, ⟨#[101, 101]⟩⟩ else
  if k = 18 then some ⟨⟨#[32, 38, 38, 32, 124, 124, 32]⟩, 0, false, false, ⟨#[101, 101]⟩⟩ else
  if k = 19 then some ⟨⟨#[]⟩, 0, false, false, ⟨#[101, 101, 101]⟩⟩ else
  if k = 20 then some ⟨⟨#[32, 61, 32, 43, 61, 32, 45, 61, 32, 42, 61, 32, 47, 61, 32, 37, 61, 32]⟩, 0, false, false, ⟨#[116, 101]⟩⟩ else
  if k = 21 then some ⟨⟨#[]⟩, 0, false, false, ⟨#[101, 101]⟩⟩ else
  if k = 40 then some ⟨⟨#[]⟩, 0, false, false, ⟨#[]⟩⟩ else
  if k = 42 then some ⟨⟨#[]⟩, 0, false, false, ⟨#[]⟩⟩ else
  stmtOf k n
theorem stmt_spec {h : Heap} {d : NT} {cs : List Value} (r : TRep h d cs) : HCalls Tryz.prog 50 #[.agg cs.toArray] h fun e h' => (∃ v, e = .returned (.tuple #[.agg (v : List Value).toArray, .bool (stmtOf d.kind d.l.length).isSome]) ∧ (v.length = 5 ∧ (∀ x ∈ v, isOne x = true)) ∧ ∀ f, stmtOf d.kind d.l.length = some f → v = f.cells) ∧ Ext h h' := by
  cases d with
  | mk k nm n t ns l =>
  simp only [TRep] at r
  have r0 := r
  obtain ⟨b1, b2, b3, b4, b5, b6, b7, ka, kc, la, lc, ys, rfl, s1, s2, s3⟩ := r
  show HCalls Tryz.prog 50 _ h fun e h' => (∃ v, e = .returned (.tuple #[.agg (v : List Value).toArray, .bool (stmtOf k l.length).isSome]) ∧ (v.length = 5 ∧ (∀ x ∈ v, isOne x = true)) ∧ ∀ f, stmtOf k l.length = some f → v = f.cells) ∧ Ext h h'
  refine c50 (by simp) ?_
  refine gA ?_
  refine new_var (e := 25) [.int .i64 k, .string nm, .int .i64 n, .string t, .slice ka ns.length kc, .slice la l.length lc] rfl ?_
  intro h1 bn o1 x1 z1 hbn
  refine gA ?_
  refine new_var (e := 55) zeroF rfl ?_
  intro h2 bf o2 x2 z2 hbf
  have o12 := o1.ext x2
  have x02 := x1.trans x2
  have hh1 := x1.1
  have hbn1 : bn < h1.size := o1.lt
  clear o1
  by_cases hk22 : k = 22
  · subst hk22
    refine gA ?_
    refine blk_st (o := 4) o2 (by simp) rfl ?_
    intro h3 f3 z3 o3
    replace o3 : BlkW h3 bf 55 [.string ⟨#[]⟩, .int .i64 0, .bool false, .bool false, .string ⟨#[100, 42, 100]⟩] := o3
    have x3 := x02.offNew f3 (by omega)
    clear o2
    refine gA ?_
    refine store_blk o3 (by simp) (by simp [isOne]) ?_
    intro h4 f4 z4 o4
    replace o4 : BlkW h4 bf 55 [.string ⟨#[]⟩, .int .i64 0, .bool false, .bool false, .string ⟨#[100, 42, 100]⟩] := by simpa using o4
    clear o3
    refine gA ?_
    exact ⟨⟨[.string ⟨#[]⟩, .int .i64 0, .bool false, .bool false, .string ⟨#[100, 42, 100]⟩], rfl, ⟨rfl, by simp [isOne]⟩, fun f hf => by cases hf; rfl⟩, x3.offNew f4 (by omega)⟩
  by_cases hk24 : k = 24
  · subst hk24
    refine gA ?_
    refine blk_st (o := 4) o2 (by simp) rfl ?_
    intro h3 f3 z3 o3
    replace o3 : BlkW h3 bf 55 [.string ⟨#[]⟩, .int .i64 0, .bool false, .bool false, .string ⟨#[101]⟩] := o3
    have x3 := x02.offNew f3 (by omega)
    clear o2
    refine gA ?_
    refine store_blk o3 (by simp) (by simp [isOne]) ?_
    intro h4 f4 z4 o4
    replace o4 : BlkW h4 bf 55 [.string ⟨#[]⟩, .int .i64 0, .bool false, .bool false, .string ⟨#[101]⟩] := by simpa using o4
    clear o3
    refine gA ?_
    exact ⟨⟨[.string ⟨#[]⟩, .int .i64 0, .bool false, .bool false, .string ⟨#[101]⟩], rfl, ⟨rfl, by simp [isOne]⟩, fun f hf => by cases hf; rfl⟩, x3.offNew f4 (by omega)⟩
  by_cases hk25 : k = 25
  · subst hk25
    refine gA ?_
    refine blk_st (o := 4) o2 (by simp) rfl ?_
    intro h3 f3 z3 o3
    replace o3 : BlkW h3 bf 55 [.string ⟨#[]⟩, .int .i64 0, .bool false, .bool false, .string ⟨#[42, 115]⟩] := o3
    have x3 := x02.offNew f3 (by omega)
    clear o2
    refine gA ?_
    refine store_blk o3 (by simp) (by simp [isOne]) ?_
    intro h4 f4 z4 o4
    replace o4 : BlkW h4 bf 55 [.string ⟨#[]⟩, .int .i64 0, .bool false, .bool false, .string ⟨#[42, 115]⟩] := by simpa using o4
    clear o3
    refine gA ?_
    exact ⟨⟨[.string ⟨#[]⟩, .int .i64 0, .bool false, .bool false, .string ⟨#[42, 115]⟩], rfl, ⟨rfl, by simp [isOne]⟩, fun f hf => by cases hf; rfl⟩, x3.offNew f4 (by omega)⟩
  by_cases hk27 : k = 27
  · subst hk27
    refine gA ?_
    refine blk_st (o := 4) o2 (by simp) rfl ?_
    intro h3 f3 z3 o3
    replace o3 : BlkW h3 bf 55 [.string ⟨#[]⟩, .int .i64 0, .bool false, .bool false, .string ⟨#[101, 98]⟩] := o3
    have x3 := x02.offNew f3 (by omega)
    clear o2
    refine gA ?_
    refine store_blk o3 (by simp) (by simp [isOne]) ?_
    intro h4 f4 z4 o4
    replace o4 : BlkW h4 bf 55 [.string ⟨#[]⟩, .int .i64 0, .bool false, .bool false, .string ⟨#[101, 98]⟩] := by simpa using o4
    clear o3
    refine gA ?_
    exact ⟨⟨[.string ⟨#[]⟩, .int .i64 0, .bool false, .bool false, .string ⟨#[101, 98]⟩], rfl, ⟨rfl, by simp [isOne]⟩, fun f hf => by cases hf; rfl⟩, x3.offNew f4 (by omega)⟩
  by_cases hk28 : k = 28
  · subst hk28
    refine gA ?_
    refine blk_st (o := 4) o2 (by simp) rfl ?_
    intro h3 f3 z3 o3
    replace o3 : BlkW h3 bf 55 [.string ⟨#[]⟩, .int .i64 0, .bool false, .bool false, .string ⟨#[98, 101]⟩] := o3
    have x3 := x02.offNew f3 (by omega)
    clear o2
    refine gA ?_
    refine store_blk o3 (by simp) (by simp [isOne]) ?_
    intro h4 f4 z4 o4
    replace o4 : BlkW h4 bf 55 [.string ⟨#[]⟩, .int .i64 0, .bool false, .bool false, .string ⟨#[98, 101]⟩] := by simpa using o4
    clear o3
    refine gA ?_
    exact ⟨⟨[.string ⟨#[]⟩, .int .i64 0, .bool false, .bool false, .string ⟨#[98, 101]⟩], rfl, ⟨rfl, by simp [isOne]⟩, fun f hf => by cases hf; rfl⟩, x3.offNew f4 (by omega)⟩
  by_cases hk29 : k = 29
  · subst hk29
    refine gA ?_
    refine blk_st (o := 4) o2 (by simp) rfl ?_
    intro h3 f3 z3 o3
    replace o3 : BlkW h3 bf 55 [.string ⟨#[]⟩, .int .i64 0, .bool false, .bool false, .string ⟨#[118, 102, 102, 98]⟩] := o3
    have x3 := x02.offNew f3 (by omega)
    clear o2
    refine gA ?_
    refine store_blk o3 (by simp) (by simp [isOne]) ?_
    intro h4 f4 z4 o4
    replace o4 : BlkW h4 bf 55 [.string ⟨#[]⟩, .int .i64 0, .bool false, .bool false, .string ⟨#[118, 102, 102, 98]⟩] := by simpa using o4
    clear o3
    refine gA ?_
    exact ⟨⟨[.string ⟨#[]⟩, .int .i64 0, .bool false, .bool false, .string ⟨#[118, 102, 102, 98]⟩], rfl, ⟨rfl, by simp [isOne]⟩, fun f hf => by cases hf; rfl⟩, x3.offNew f4 (by omega)⟩
  by_cases hk30 : k = 30
  · subst hk30
    refine gA ?_
    refine blk_st (o := 4) o2 (by simp) rfl ?_
    intro h3 f3 z3 o3
    replace o3 : BlkW h3 bf 55 [.string ⟨#[]⟩, .int .i64 0, .bool false, .bool false, .string ⟨#[119, 101, 98]⟩] := o3
    have x3 := x02.offNew f3 (by omega)
    clear o2
    refine gA ?_
    refine store_blk o3 (by simp) (by simp [isOne]) ?_
    intro h4 f4 z4 o4
    replace o4 : BlkW h4 bf 55 [.string ⟨#[]⟩, .int .i64 0, .bool false, .bool false, .string ⟨#[119, 101, 98]⟩] := by simpa using o4
    clear o3
    refine gA ?_
    exact ⟨⟨[.string ⟨#[]⟩, .int .i64 0, .bool false, .bool false, .string ⟨#[119, 101, 98]⟩], rfl, ⟨rfl, by simp [isOne]⟩, fun f hf => by cases hf; rfl⟩, x3.offNew f4 (by omega)⟩
  by_cases hk31 : k = 31
  · subst hk31
    refine gA ?_
    refine blk_st (o := 0) o2 (by simp) rfl ?_
    intro h3 f3 z3 o3
    replace o3 : BlkW h3 bf 55 [.string ⟨#[109]⟩, .int .i64 0, .bool false, .bool false, .string ⟨#[]⟩] := o3
    have x3 := x02.offNew f3 (by omega)
    clear o2
    refine gA ?_
    refine store_blk o3 (by simp) (by simp [isOne]) ?_
    intro h4 f4 z4 o4
    replace o4 : BlkW h4 bf 55 [.string ⟨#[109]⟩, .int .i64 0, .bool false, .bool false, .string ⟨#[]⟩] := by simpa using o4
    clear o3
    refine gA ?_
    exact ⟨⟨[.string ⟨#[109]⟩, .int .i64 0, .bool false, .bool false, .string ⟨#[]⟩], rfl, ⟨rfl, by simp [isOne]⟩, fun f hf => by cases hf; rfl⟩, x3.offNew f4 (by omega)⟩
  by_cases hk32 : k = 32
  · subst hk32
    refine gA ?_
    refine blk_st (o := 0) o2 (by simp) rfl ?_
    intro h3 f3 z3 o3
    replace o3 : BlkW h3 bf 55 [.string ⟨#[109]⟩, .int .i64 0, .bool false, .bool false, .string ⟨#[]⟩] := o3
    have x3 := x02.offNew f3 (by omega)
    clear o2
    refine gA ?_
    refine store_blk o3 (by simp) (by simp [isOne]) ?_
    intro h4 f4 z4 o4
    replace o4 : BlkW h4 bf 55 [.string ⟨#[109]⟩, .int .i64 0, .bool false, .bool false, .string ⟨#[]⟩] := by simpa using o4
    clear o3
    refine gA ?_
    exact ⟨⟨[.string ⟨#[109]⟩, .int .i64 0, .bool false, .bool false, .string ⟨#[]⟩], rfl, ⟨rfl, by simp [isOne]⟩, fun f hf => by cases hf; rfl⟩, x3.offNew f4 (by omega)⟩
  by_cases hk34 : k = 34
  · subst hk34
    refine gA ?_
    refine blk_st (o := 4) o2 (by simp) rfl ?_
    intro h3 f3 z3 o3
    replace o3 : BlkW h3 bf 55 [.string ⟨#[]⟩, .int .i64 0, .bool false, .bool false, .string ⟨#[101]⟩] := o3
    have x3 := x02.offNew f3 (by omega)
    clear o2
    refine gA ?_
    refine store_blk o3 (by simp) (by simp [isOne]) ?_
    intro h4 f4 z4 o4
    replace o4 : BlkW h4 bf 55 [.string ⟨#[]⟩, .int .i64 0, .bool false, .bool false, .string ⟨#[101]⟩] := by simpa using o4
    clear o3
    refine gA ?_
    exact ⟨⟨[.string ⟨#[]⟩, .int .i64 0, .bool false, .bool false, .string ⟨#[101]⟩], rfl, ⟨rfl, by simp [isOne]⟩, fun f hf => by cases hf; rfl⟩, x3.offNew f4 (by omega)⟩
  by_cases hk35 : k = 35
  · subst hk35
    refine gA ?_
    refine blk_st (o := 0) o2 (by simp) rfl ?_
    intro h3 f3 z3 o3
    replace o3 : BlkW h3 bf 55 [.string ⟨#[99]⟩, .int .i64 0, .bool false, .bool false, .string ⟨#[]⟩] := o3
    have x3 := x02.offNew f3 (by omega)
    clear o2
    refine gA ?_
    refine blk_st (o := 4) o3 (by simp) rfl ?_
    intro h4 f4 z4 o4
    replace o4 : BlkW h4 bf 55 [.string ⟨#[99]⟩, .int .i64 0, .bool false, .bool false, .string ⟨#[98, 99, 99]⟩] := o4
    have x4 := x3.offNew f4 (by omega)
    clear o3
    refine gA ?_
    refine store_blk o4 (by simp) (by simp [isOne]) ?_
    intro h5 f5 z5 o5
    replace o5 : BlkW h5 bf 55 [.string ⟨#[99]⟩, .int .i64 0, .bool false, .bool false, .string ⟨#[98, 99, 99]⟩] := by simpa using o5
    clear o4
    refine gA ?_
    exact ⟨⟨[.string ⟨#[99]⟩, .int .i64 0, .bool false, .bool false, .string ⟨#[98, 99, 99]⟩], rfl, ⟨rfl, by simp [isOne]⟩, fun f hf => by cases hf; rfl⟩, x4.offNew f5 (by omega)⟩
  by_cases hk36 : k = 36
  · subst hk36
    refine gA ?_
    refine blk_st (o := 4) o2 (by simp) rfl ?_
    intro h3 f3 z3 o3
    replace o3 : BlkW h3 bf 55 [.string ⟨#[]⟩, .int .i64 0, .bool false, .bool false, .string ⟨#[101, 42, 107]⟩] := o3
    have x3 := x02.offNew f3 (by omega)
    clear o2
    refine gA ?_
    refine store_blk o3 (by simp) (by simp [isOne]) ?_
    intro h4 f4 z4 o4
    replace o4 : BlkW h4 bf 55 [.string ⟨#[]⟩, .int .i64 0, .bool false, .bool false, .string ⟨#[101, 42, 107]⟩] := by simpa using o4
    clear o3
    refine gA ?_
    exact ⟨⟨[.string ⟨#[]⟩, .int .i64 0, .bool false, .bool false, .string ⟨#[101, 42, 107]⟩], rfl, ⟨rfl, by simp [isOne]⟩, fun f hf => by cases hf; rfl⟩, x3.offNew f4 (by omega)⟩
  by_cases hk37 : k = 37
  · subst hk37
    refine gA ?_
    refine blk_st (o := 4) o2 (by simp) rfl ?_
    intro h3 f3 z3 o3
    replace o3 : BlkW h3 bf 55 [.string ⟨#[]⟩, .int .i64 0, .bool false, .bool false, .string ⟨#[102, 42, 115]⟩] := o3
    have x3 := x02.offNew f3 (by omega)
    clear o2
    refine gA ?_
    refine store_blk o3 (by simp) (by simp [isOne]) ?_
    intro h4 f4 z4 o4
    replace o4 : BlkW h4 bf 55 [.string ⟨#[]⟩, .int .i64 0, .bool false, .bool false, .string ⟨#[102, 42, 115]⟩] := by simpa using o4
    clear o3
    refine gA ?_
    exact ⟨⟨[.string ⟨#[]⟩, .int .i64 0, .bool false, .bool false, .string ⟨#[102, 42, 115]⟩], rfl, ⟨rfl, by simp [isOne]⟩, fun f hf => by cases hf; rfl⟩, x3.offNew f4 (by omega)⟩
  by_cases hk38 : k = 38
  · subst hk38
    refine gA ?_
    refine blk_st (o := 0) o2 (by simp) rfl ?_
    intro h3 f3 z3 o3
    replace o3 : BlkW h3 bf 55 [.string ⟨#[110]⟩, .int .i64 0, .bool false, .bool false, .string ⟨#[]⟩] := o3
    have x3 := x02.offNew f3 (by omega)
    clear o2
    refine gA ?_
    refine blk_st (o := 4) o3 (by simp) rfl ?_
    intro h4 f4 z4 o4
    replace o4 : BlkW h4 bf 55 [.string ⟨#[110]⟩, .int .i64 0, .bool false, .bool false, .string ⟨#[115]⟩] := o4
    have x4 := x3.offNew f4 (by omega)
    clear o3
    refine gA ?_
    refine store_blk o4 (by simp) (by simp [isOne]) ?_
    intro h5 f5 z5 o5
    replace o5 : BlkW h5 bf 55 [.string ⟨#[110]⟩, .int .i64 0, .bool false, .bool false, .string ⟨#[115]⟩] := by simpa using o5
    clear o4
    refine gA ?_
    exact ⟨⟨[.string ⟨#[110]⟩, .int .i64 0, .bool false, .bool false, .string ⟨#[115]⟩], rfl, ⟨rfl, by simp [isOne]⟩, fun f hf => by cases hf; rfl⟩, x4.offNew f5 (by omega)⟩
  by_cases hk39 : k = 39
  · subst hk39
    refine gA ?_
    refine blk_st (o := 0) o2 (by simp) rfl ?_
    intro h3 f3 z3 o3
    replace o3 : BlkW h3 bf 55 [.string ⟨#[110]⟩, .int .i64 0, .bool false, .bool false, .string ⟨#[]⟩] := o3
    have x3 := x02.offNew f3 (by omega)
    clear o2
    refine gA ?_
    refine blk_st (o := 3) o3 (by simp) rfl ?_
    intro h4 f4 z4 o4
    replace o4 : BlkW h4 bf 55 [.string ⟨#[110]⟩, .int .i64 0, .bool false, .bool true, .string ⟨#[]⟩] := o4
    have x4 := x3.offNew f4 (by omega)
    clear o3
    refine gA ?_
    refine blk_st (o := 4) o4 (by simp) rfl ?_
    intro h5 f5 z5 o5
    replace o5 : BlkW h5 bf 55 [.string ⟨#[110]⟩, .int .i64 0, .bool false, .bool true, .string ⟨#[42, 120]⟩] := o5
    have x5 := x4.offNew f5 (by omega)
    clear o4
    refine gA ?_
    refine store_blk o5 (by simp) (by simp [isOne]) ?_
    intro h6 f6 z6 o6
    replace o6 : BlkW h6 bf 55 [.string ⟨#[110]⟩, .int .i64 0, .bool false, .bool true, .string ⟨#[42, 120]⟩] := by simpa using o6
    clear o5
    refine gA ?_
    exact ⟨⟨[.string ⟨#[110]⟩, .int .i64 0, .bool false, .bool true, .string ⟨#[42, 120]⟩], rfl, ⟨rfl, by simp [isOne]⟩, fun f hf => by cases hf; rfl⟩, x5.offNew f6 (by omega)⟩
  by_cases hk41 : k = 41
  · subst hk41
    refine gA ?_
    refine blk_st (o := 4) o2 (by simp) rfl ?_
    intro h3 f3 z3 o3
    replace o3 : BlkW h3 bf 55 [.string ⟨#[]⟩, .int .i64 0, .bool false, .bool false, .string ⟨#[42, 120]⟩] := o3
    have x3 := x02.offNew f3 (by omega)
    clear o2
    refine gA ?_
    refine store_blk o3 (by simp) (by simp [isOne]) ?_
    intro h4 f4 z4 o4
    replace o4 : BlkW h4 bf 55 [.string ⟨#[]⟩, .int .i64 0, .bool false, .bool false, .string ⟨#[42, 120]⟩] := by simpa using o4
    clear o3
    refine gA ?_
    exact ⟨⟨[.string ⟨#[]⟩, .int .i64 0, .bool false, .bool false, .string ⟨#[42, 120]⟩], rfl, ⟨rfl, by simp [isOne]⟩, fun f hf => by cases hf; rfl⟩, x3.offNew f4 (by omega)⟩
  by_cases hk23 : k = 23
  · subst hk23
    by_cases hl : l.length = 0
    · have he : stmtOf 23 l.length = some ⟨⟨#[110]⟩, 0, false, false, ⟨#[]⟩⟩ := by unfold stmtOf; rw [hl]; rfl
      rw [he]
      refine gA ?_
      refine HAlt.mk ?_ ?_
      · refine gA ?_
        refine HBound.mk 0 (by show (if (1 : Int) < ((l.length : Nat) : Int) then (1 : Int) else ((l.length : Nat) : Int)) = ((0 : Nat) : Int); rw [if_neg (by omega)]; omega) (show 0 ≤ (⟨#[101]⟩ : ByteArray).size by decide) ?_
        refine gA ?_
        refine blk_st (o := 0) o2 (by simp) rfl ?_
        intro h3 f3 z3 o3
        replace o3 : BlkW h3 bf 55 [.string ⟨#[110]⟩, .int .i64 0, .bool false, .bool false, .string ⟨#[]⟩] := o3
        have x3 := x02.offNew f3 (by omega)
        clear o2
        refine gA ?_
        refine blk_st (o := 4) o3 (by simp) rfl ?_
        intro h4 f4 z4 o4
        replace o4 : BlkW h4 bf 55 [.string ⟨#[110]⟩, .int .i64 0, .bool false, .bool false, .string ⟨#[]⟩] := o4
        have x4 := x3.offNew f4 (by omega)
        clear o3
        refine gA ?_
        refine store_blk o4 (by simp) (by simp [isOne]) ?_
        intro h5 f5 z5 o5
        replace o5 : BlkW h5 bf 55 [.string ⟨#[110]⟩, .int .i64 0, .bool false, .bool false, .string ⟨#[]⟩] := by simpa using o5
        clear o4
        refine gA ?_
        exact ⟨⟨[.string ⟨#[110]⟩, .int .i64 0, .bool false, .bool false, .string ⟨#[]⟩], rfl, ⟨rfl, by simp [isOne]⟩, fun f hf => by cases hf; rfl⟩, x4.offNew f5 (by omega)⟩
      · refine gA ?_
        refine blk_st (o := 0) o2 (by simp) rfl ?_
        intro h3 f3 z3 o3
        replace o3 : BlkW h3 bf 55 [.string ⟨#[110]⟩, .int .i64 0, .bool false, .bool false, .string ⟨#[]⟩] := o3
        have x3 := x02.offNew f3 (by omega)
        clear o2
        replace o12 := o12.of (f3.2 _ o12.lt (by omega))
        refine gA ?_
        refine HBound.mk 0 (by show (if (1 : Int) < ((l.length : Nat) : Int) then (1 : Int) else ((l.length : Nat) : Int)) = ((0 : Nat) : Int); rw [if_neg (by omega)]; omega) (show 0 ≤ (⟨#[101]⟩ : ByteArray).size by decide) ?_
        refine gA ?_
        refine blk_st (o := 4) o3 (by simp) rfl ?_
        intro h4 f4 z4 o4
        replace o4 : BlkW h4 bf 55 [.string ⟨#[110]⟩, .int .i64 0, .bool false, .bool false, .string ⟨#[]⟩] := o4
        have x4 := x3.offNew f4 (by omega)
        clear o3
        refine gA ?_
        refine store_blk o4 (by simp) (by simp [isOne]) ?_
        intro h5 f5 z5 o5
        replace o5 : BlkW h5 bf 55 [.string ⟨#[110]⟩, .int .i64 0, .bool false, .bool false, .string ⟨#[]⟩] := by simpa using o5
        clear o4
        refine gA ?_
        exact ⟨⟨[.string ⟨#[110]⟩, .int .i64 0, .bool false, .bool false, .string ⟨#[]⟩], rfl, ⟨rfl, by simp [isOne]⟩, fun f hf => by cases hf; rfl⟩, x4.offNew f5 (by omega)⟩
    · have he : stmtOf 23 l.length = some ⟨⟨#[110]⟩, 0, false, false, ⟨#[101]⟩⟩ := by unfold stmtOf; simp [hl]
      rw [he]
      refine gA ?_
      refine HAlt.mk ?_ ?_
      · refine gA ?_
        refine HBound.mk 1 (by show (if (1 : Int) < ((l.length : Nat) : Int) then (1 : Int) else ((l.length : Nat) : Int)) = ((1 : Nat) : Int); split <;> omega) (show 1 ≤ (⟨#[101]⟩ : ByteArray).size by decide) ?_
        refine gA ?_
        refine blk_st (o := 0) o2 (by simp) rfl ?_
        intro h3 f3 z3 o3
        replace o3 : BlkW h3 bf 55 [.string ⟨#[110]⟩, .int .i64 0, .bool false, .bool false, .string ⟨#[]⟩] := o3
        have x3 := x02.offNew f3 (by omega)
        clear o2
        refine gA ?_
        refine blk_st (o := 4) o3 (by simp) rfl ?_
        intro h4 f4 z4 o4
        replace o4 : BlkW h4 bf 55 [.string ⟨#[110]⟩, .int .i64 0, .bool false, .bool false, .string ⟨#[101]⟩] := o4
        have x4 := x3.offNew f4 (by omega)
        clear o3
        refine gA ?_
        refine store_blk o4 (by simp) (by simp [isOne]) ?_
        intro h5 f5 z5 o5
        replace o5 : BlkW h5 bf 55 [.string ⟨#[110]⟩, .int .i64 0, .bool false, .bool false, .string ⟨#[101]⟩] := by simpa using o5
        clear o4
        refine gA ?_
        exact ⟨⟨[.string ⟨#[110]⟩, .int .i64 0, .bool false, .bool false, .string ⟨#[101]⟩], rfl, ⟨rfl, by simp [isOne]⟩, fun f hf => by cases hf; rfl⟩, x4.offNew f5 (by omega)⟩
      · refine gA ?_
        refine blk_st (o := 0) o2 (by simp) rfl ?_
        intro h3 f3 z3 o3
        replace o3 : BlkW h3 bf 55 [.string ⟨#[110]⟩, .int .i64 0, .bool false, .bool false, .string ⟨#[]⟩] := o3
        have x3 := x02.offNew f3 (by omega)
        clear o2
        replace o12 := o12.of (f3.2 _ o12.lt (by omega))
        refine gA ?_
        refine HBound.mk 1 (by show (if (1 : Int) < ((l.length : Nat) : Int) then (1 : Int) else ((l.length : Nat) : Int)) = ((1 : Nat) : Int); split <;> omega) (show 1 ≤ (⟨#[101]⟩ : ByteArray).size by decide) ?_
        refine gA ?_
        refine blk_st (o := 4) o3 (by simp) rfl ?_
        intro h4 f4 z4 o4
        replace o4 : BlkW h4 bf 55 [.string ⟨#[110]⟩, .int .i64 0, .bool false, .bool false, .string ⟨#[101]⟩] := o4
        have x4 := x3.offNew f4 (by omega)
        clear o3
        refine gA ?_
        refine store_blk o4 (by simp) (by simp [isOne]) ?_
        intro h5 f5 z5 o5
        replace o5 : BlkW h5 bf 55 [.string ⟨#[110]⟩, .int .i64 0, .bool false, .bool false, .string ⟨#[101]⟩] := by simpa using o5
        clear o4
        refine gA ?_
        exact ⟨⟨[.string ⟨#[110]⟩, .int .i64 0, .bool false, .bool false, .string ⟨#[101]⟩], rfl, ⟨rfl, by simp [isOne]⟩, fun f hf => by cases hf; rfl⟩, x4.offNew f5 (by omega)⟩
  by_cases hk26 : k = 26
  · subst hk26
    by_cases hl : l.length ≤ 2
    · have he : stmtOf 26 l.length = some ⟨⟨#[]⟩, 0, false, false, ⟨#[101, 98]⟩⟩ := by unfold stmtOf; simp [hl]
      rw [he]
      refine gA ?_
      refine HBound.mk 2 (by show (if (3 : Int) < (if (2 : Int) > ((l.length : Nat) : Int) then (2 : Int) else ((l.length : Nat) : Int)) then (3 : Int) else (if (2 : Int) > ((l.length : Nat) : Int) then (2 : Int) else ((l.length : Nat) : Int))) = ((2 : Nat) : Int); split <;> split <;> omega) (show 2 ≤ (⟨#[101, 98, 98]⟩ : ByteArray).size by decide) ?_
      refine gA ?_
      refine blk_st (o := 4) o2 (by simp) rfl ?_
      intro h3 f3 z3 o3
      replace o3 : BlkW h3 bf 55 [.string ⟨#[]⟩, .int .i64 0, .bool false, .bool false, .string ⟨#[101, 98]⟩] := o3
      have x3 := x02.offNew f3 (by omega)
      clear o2
      refine gA ?_
      refine store_blk o3 (by simp) (by simp [isOne]) ?_
      intro h4 f4 z4 o4
      replace o4 : BlkW h4 bf 55 [.string ⟨#[]⟩, .int .i64 0, .bool false, .bool false, .string ⟨#[101, 98]⟩] := by simpa using o4
      clear o3
      refine gA ?_
      exact ⟨⟨[.string ⟨#[]⟩, .int .i64 0, .bool false, .bool false, .string ⟨#[101, 98]⟩], rfl, ⟨rfl, by simp [isOne]⟩, fun f hf => by cases hf; rfl⟩, x3.offNew f4 (by omega)⟩
    · have he : stmtOf 26 l.length = some ⟨⟨#[]⟩, 0, false, false, ⟨#[101, 98, 98]⟩⟩ := by unfold stmtOf; simp [hl]
      rw [he]
      refine gA ?_
      refine HBound.mk 3 (by show (if (3 : Int) < (if (2 : Int) > ((l.length : Nat) : Int) then (2 : Int) else ((l.length : Nat) : Int)) then (3 : Int) else (if (2 : Int) > ((l.length : Nat) : Int) then (2 : Int) else ((l.length : Nat) : Int))) = ((3 : Nat) : Int); split <;> split <;> omega) (show 3 ≤ (⟨#[101, 98, 98]⟩ : ByteArray).size by decide) ?_
      refine gA ?_
      refine blk_st (o := 4) o2 (by simp) rfl ?_
      intro h3 f3 z3 o3
      replace o3 : BlkW h3 bf 55 [.string ⟨#[]⟩, .int .i64 0, .bool false, .bool false, .string ⟨#[101, 98, 98]⟩] := o3
      have x3 := x02.offNew f3 (by omega)
      clear o2
      refine gA ?_
      refine store_blk o3 (by simp) (by simp [isOne]) ?_
      intro h4 f4 z4 o4
      replace o4 : BlkW h4 bf 55 [.string ⟨#[]⟩, .int .i64 0, .bool false, .bool false, .string ⟨#[101, 98, 98]⟩] := by simpa using o4
      clear o3
      refine gA ?_
      exact ⟨⟨[.string ⟨#[]⟩, .int .i64 0, .bool false, .bool false, .string ⟨#[101, 98, 98]⟩], rfl, ⟨rfl, by simp [isOne]⟩, fun f hf => by cases hf; rfl⟩, x3.offNew f4 (by omega)⟩
  by_cases hk33 : k = 33
  · subst hk33
    by_cases hl : l.length = 0
    · have he : stmtOf 33 l.length = some ⟨⟨#[]⟩, 0, false, false, ⟨#[]⟩⟩ := by unfold stmtOf; rw [hl]; rfl
      rw [he]
      refine gA ?_
      refine HBound.mk 0 (by show (if (1 : Int) < ((l.length : Nat) : Int) then (1 : Int) else ((l.length : Nat) : Int)) = ((0 : Nat) : Int); rw [if_neg (by omega)]; omega) (show 0 ≤ (⟨#[101]⟩ : ByteArray).size by decide) ?_
      refine gA ?_
      refine blk_st (o := 4) o2 (by simp) rfl ?_
      intro h3 f3 z3 o3
      replace o3 : BlkW h3 bf 55 [.string ⟨#[]⟩, .int .i64 0, .bool false, .bool false, .string ⟨#[]⟩] := o3
      have x3 := x02.offNew f3 (by omega)
      clear o2
      refine gA ?_
      refine store_blk o3 (by simp) (by simp [isOne]) ?_
      intro h4 f4 z4 o4
      replace o4 : BlkW h4 bf 55 [.string ⟨#[]⟩, .int .i64 0, .bool false, .bool false, .string ⟨#[]⟩] := by simpa using o4
      clear o3
      refine gA ?_
      exact ⟨⟨[.string ⟨#[]⟩, .int .i64 0, .bool false, .bool false, .string ⟨#[]⟩], rfl, ⟨rfl, by simp [isOne]⟩, fun f hf => by cases hf; rfl⟩, x3.offNew f4 (by omega)⟩
    · have he : stmtOf 33 l.length = some ⟨⟨#[]⟩, 0, false, false, ⟨#[101]⟩⟩ := by unfold stmtOf; simp [hl]
      rw [he]
      refine gA ?_
      refine HBound.mk 1 (by show (if (1 : Int) < ((l.length : Nat) : Int) then (1 : Int) else ((l.length : Nat) : Int)) = ((1 : Nat) : Int); split <;> omega) (show 1 ≤ (⟨#[101]⟩ : ByteArray).size by decide) ?_
      refine gA ?_
      refine blk_st (o := 4) o2 (by simp) rfl ?_
      intro h3 f3 z3 o3
      replace o3 : BlkW h3 bf 55 [.string ⟨#[]⟩, .int .i64 0, .bool false, .bool false, .string ⟨#[101]⟩] := o3
      have x3 := x02.offNew f3 (by omega)
      clear o2
      refine gA ?_
      refine store_blk o3 (by simp) (by simp [isOne]) ?_
      intro h4 f4 z4 o4
      replace o4 : BlkW h4 bf 55 [.string ⟨#[]⟩, .int .i64 0, .bool false, .bool false, .string ⟨#[101]⟩] := by simpa using o4
      clear o3
      refine gA ?_
      exact ⟨⟨[.string ⟨#[]⟩, .int .i64 0, .bool false, .bool false, .string ⟨#[101]⟩], rfl, ⟨rfl, by simp [isOne]⟩, fun f hf => by cases hf; rfl⟩, x3.offNew f4 (by omega)⟩
  have q22 : (k == 22) = false := beq_eq_false_iff_ne.2 hk22
  have q23 : (k == 23) = false := beq_eq_false_iff_ne.2 hk23
  have q24 : (k == 24) = false := beq_eq_false_iff_ne.2 hk24
  have q25 : (k == 25) = false := beq_eq_false_iff_ne.2 hk25
  have q26 : (k == 26) = false := beq_eq_false_iff_ne.2 hk26
  have q27 : (k == 27) = false := beq_eq_false_iff_ne.2 hk27
  have q28 : (k == 28) = false := beq_eq_false_iff_ne.2 hk28
  have q29 : (k == 29) = false := beq_eq_false_iff_ne.2 hk29
  have q30 : (k == 30) = false := beq_eq_false_iff_ne.2 hk30
  have q31 : (k == 31) = false := beq_eq_false_iff_ne.2 hk31
  have q32 : (k == 32) = false := beq_eq_false_iff_ne.2 hk32
  have q33 : (k == 33) = false := beq_eq_false_iff_ne.2 hk33
  have q34 : (k == 34) = false := beq_eq_false_iff_ne.2 hk34
  have q35 : (k == 35) = false := beq_eq_false_iff_ne.2 hk35
  have q36 : (k == 36) = false := beq_eq_false_iff_ne.2 hk36
  have q37 : (k == 37) = false := beq_eq_false_iff_ne.2 hk37
  have q38 : (k == 38) = false := beq_eq_false_iff_ne.2 hk38
  have q39 : (k == 39) = false := beq_eq_false_iff_ne.2 hk39
  have q41 : (k == 41) = false := beq_eq_false_iff_ne.2 hk41
  have e : stmtOf k l.length = none := by unfold stmtOf; rw [if_neg hk22, if_neg hk23, if_neg hk24, if_neg hk25, if_neg hk26, if_neg hk27, if_neg hk28, if_neg hk29, if_neg hk30, if_neg hk31, if_neg hk32, if_neg hk33, if_neg hk34, if_neg hk35, if_neg hk36, if_neg hk37, if_neg hk38, if_neg hk39, if_neg hk41]
  rw [e]
  refine gA ?_
  refine store_blk o2 (by simp) (by simp [isOne]) ?_
  intro h3 f3 z3 o3
  replace o3 : BlkW h3 bf 55 zeroF := by simpa using o3
  clear o2
  refine gA ?_
  exact ⟨⟨zeroF, rfl, ⟨rfl, by simp [isOne]⟩, fun f hf => by cases hf⟩, x02.offNew f3 (by omega)⟩
theorem of_spec {h : Heap} {d : NT} {cs : List Value} (r : TRep h d cs) : HCalls Tryz.prog 29 #[.agg cs.toArray] h fun e h' => (∃ v, e = .returned (.tuple #[.agg (v : List Value).toArray, .bool (formOf d.kind d.l.length).isSome]) ∧ (v.length = 5 ∧ (∀ x ∈ v, isOne x = true)) ∧ ∀ f, formOf d.kind d.l.length = some f → v = f.cells) ∧ Ext h h' := by
  cases d with
  | mk k nm n t ns l =>
  simp only [TRep] at r
  have r0 := r
  obtain ⟨b1, b2, b3, b4, b5, b6, b7, ka, kc, la, lc, ys, rfl, s1, s2, s3⟩ := r
  show HCalls Tryz.prog 29 _ h fun e h' => (∃ v, e = .returned (.tuple #[.agg (v : List Value).toArray, .bool (formOf k l.length).isSome]) ∧ (v.length = 5 ∧ (∀ x ∈ v, isOne x = true)) ∧ ∀ f, formOf k l.length = some f → v = f.cells) ∧ Ext h h'
  refine c29 (by simp) ?_
  refine gA ?_
  refine new_var (e := 25) [.int .i64 k, .string nm, .int .i64 n, .string t, .slice ka ns.length kc, .slice la l.length lc] rfl ?_
  intro h1 bn o1 x1 z1 hbn
  refine gA ?_
  refine new_var (e := 55) zeroF rfl ?_
  intro h2 bf o2 x2 z2 hbf
  have o12 := o1.ext x2
  have x02 := x1.trans x2
  have hh1 := x1.1
  have hbn1 : bn < h1.size := o1.lt
  clear o1
  by_cases hk1 : k = 1
  · subst hk1
    refine gA ?_
    refine blk_st (o := 1) o2 (by simp) rfl ?_
    intro h3 f3 z3 o3
    replace o3 : BlkW h3 bf 55 [.string ⟨#[]⟩, .int .i64 9007199254740991, .bool false, .bool false, .string ⟨#[]⟩] := o3
    have x3 := x02.offNew f3 (by omega)
    clear o2
    refine gA ?_
    refine store_blk o3 (by simp) (by simp [isOne]) ?_
    intro h4 f4 z4 o4
    replace o4 : BlkW h4 bf 55 [.string ⟨#[]⟩, .int .i64 9007199254740991, .bool false, .bool false, .string ⟨#[]⟩] := by simpa using o4
    clear o3
    refine gA ?_
    exact ⟨⟨[.string ⟨#[]⟩, .int .i64 9007199254740991, .bool false, .bool false, .string ⟨#[]⟩], rfl, ⟨rfl, by simp [isOne]⟩, fun f hf => by cases hf; rfl⟩, x3.offNew f4 (by omega)⟩
  by_cases hk2 : k = 2
  · subst hk2
    refine gA ?_
    refine blk_st (o := 2) o2 (by simp) rfl ?_
    intro h3 f3 z3 o3
    replace o3 : BlkW h3 bf 55 [.string ⟨#[]⟩, .int .i64 0, .bool true, .bool false, .string ⟨#[]⟩] := o3
    have x3 := x02.offNew f3 (by omega)
    clear o2
    refine gA ?_
    refine store_blk o3 (by simp) (by simp [isOne]) ?_
    intro h4 f4 z4 o4
    replace o4 : BlkW h4 bf 55 [.string ⟨#[]⟩, .int .i64 0, .bool true, .bool false, .string ⟨#[]⟩] := by simpa using o4
    clear o3
    refine gA ?_
    exact ⟨⟨[.string ⟨#[]⟩, .int .i64 0, .bool true, .bool false, .string ⟨#[]⟩], rfl, ⟨rfl, by simp [isOne]⟩, fun f hf => by cases hf; rfl⟩, x3.offNew f4 (by omega)⟩
  by_cases hk3 : k = 3
  · subst hk3
    refine gA ?_
    refine blk_st (o := 0) o2 (by simp) rfl ?_
    intro h3 f3 z3 o3
    replace o3 : BlkW h3 bf 55 [.string ⟨#[110]⟩, .int .i64 0, .bool false, .bool false, .string ⟨#[]⟩] := o3
    have x3 := x02.offNew f3 (by omega)
    clear o2
    refine gA ?_
    refine store_blk o3 (by simp) (by simp [isOne]) ?_
    intro h4 f4 z4 o4
    replace o4 : BlkW h4 bf 55 [.string ⟨#[110]⟩, .int .i64 0, .bool false, .bool false, .string ⟨#[]⟩] := by simpa using o4
    clear o3
    refine gA ?_
    exact ⟨⟨[.string ⟨#[110]⟩, .int .i64 0, .bool false, .bool false, .string ⟨#[]⟩], rfl, ⟨rfl, by simp [isOne]⟩, fun f hf => by cases hf; rfl⟩, x3.offNew f4 (by omega)⟩
  by_cases hk4 : k = 4
  · subst hk4
    refine gA ?_
    refine store_blk o2 (by simp) (by simp [isOne]) ?_
    intro h3 f3 z3 o3
    replace o3 : BlkW h3 bf 55 [.string ⟨#[]⟩, .int .i64 0, .bool false, .bool false, .string ⟨#[]⟩] := by simpa using o3
    clear o2
    refine gA ?_
    exact ⟨⟨[.string ⟨#[]⟩, .int .i64 0, .bool false, .bool false, .string ⟨#[]⟩], rfl, ⟨rfl, by simp [isOne]⟩, fun f hf => by cases hf; rfl⟩, x02.offNew f3 (by omega)⟩
  by_cases hk5 : k = 5
  · subst hk5
    refine gA ?_
    refine store_blk o2 (by simp) (by simp [isOne]) ?_
    intro h3 f3 z3 o3
    replace o3 : BlkW h3 bf 55 [.string ⟨#[]⟩, .int .i64 0, .bool false, .bool false, .string ⟨#[]⟩] := by simpa using o3
    clear o2
    refine gA ?_
    exact ⟨⟨[.string ⟨#[]⟩, .int .i64 0, .bool false, .bool false, .string ⟨#[]⟩], rfl, ⟨rfl, by simp [isOne]⟩, fun f hf => by cases hf; rfl⟩, x02.offNew f3 (by omega)⟩
  by_cases hk6 : k = 6
  · subst hk6
    refine gA ?_
    refine blk_st (o := 1) o2 (by simp) rfl ?_
    intro h3 f3 z3 o3
    replace o3 : BlkW h3 bf 55 [.string ⟨#[]⟩, .int .i64 1, .bool false, .bool false, .string ⟨#[]⟩] := o3
    have x3 := x02.offNew f3 (by omega)
    clear o2
    refine gA ?_
    refine store_blk o3 (by simp) (by simp [isOne]) ?_
    intro h4 f4 z4 o4
    replace o4 : BlkW h4 bf 55 [.string ⟨#[]⟩, .int .i64 1, .bool false, .bool false, .string ⟨#[]⟩] := by simpa using o4
    clear o3
    refine gA ?_
    exact ⟨⟨[.string ⟨#[]⟩, .int .i64 1, .bool false, .bool false, .string ⟨#[]⟩], rfl, ⟨rfl, by simp [isOne]⟩, fun f hf => by cases hf; rfl⟩, x3.offNew f4 (by omega)⟩
  by_cases hk7 : k = 7
  · subst hk7
    refine gA ?_
    refine blk_st (o := 4) o2 (by simp) rfl ?_
    intro h3 f3 z3 o3
    replace o3 : BlkW h3 bf 55 [.string ⟨#[]⟩, .int .i64 0, .bool false, .bool false, .string ⟨#[42, 101]⟩] := o3
    have x3 := x02.offNew f3 (by omega)
    clear o2
    refine gA ?_
    refine store_blk o3 (by simp) (by simp [isOne]) ?_
    intro h4 f4 z4 o4
    replace o4 : BlkW h4 bf 55 [.string ⟨#[]⟩, .int .i64 0, .bool false, .bool false, .string ⟨#[42, 101]⟩] := by simpa using o4
    clear o3
    refine gA ?_
    exact ⟨⟨[.string ⟨#[]⟩, .int .i64 0, .bool false, .bool false, .string ⟨#[42, 101]⟩], rfl, ⟨rfl, by simp [isOne]⟩, fun f hf => by cases hf; rfl⟩, x3.offNew f4 (by omega)⟩
  by_cases hk8 : k = 8
  · subst hk8
    refine gA ?_
    refine blk_st (o := 4) o2 (by simp) rfl ?_
    intro h3 f3 z3 o3
    replace o3 : BlkW h3 bf 55 [.string ⟨#[]⟩, .int .i64 0, .bool false, .bool false, .string ⟨#[42, 112]⟩] := o3
    have x3 := x02.offNew f3 (by omega)
    clear o2
    refine gA ?_
    refine store_blk o3 (by simp) (by simp [isOne]) ?_
    intro h4 f4 z4 o4
    replace o4 : BlkW h4 bf 55 [.string ⟨#[]⟩, .int .i64 0, .bool false, .bool false, .string ⟨#[42, 112]⟩] := by simpa using o4
    clear o3
    refine gA ?_
    exact ⟨⟨[.string ⟨#[]⟩, .int .i64 0, .bool false, .bool false, .string ⟨#[42, 112]⟩], rfl, ⟨rfl, by simp [isOne]⟩, fun f hf => by cases hf; rfl⟩, x3.offNew f4 (by omega)⟩
  by_cases hk9 : k = 9
  · subst hk9
    refine gA ?_
    refine blk_st (o := 2) o2 (by simp) rfl ?_
    intro h3 f3 z3 o3
    replace o3 : BlkW h3 bf 55 [.string ⟨#[]⟩, .int .i64 0, .bool true, .bool false, .string ⟨#[]⟩] := o3
    have x3 := x02.offNew f3 (by omega)
    clear o2
    refine gA ?_
    refine blk_st (o := 4) o3 (by simp) rfl ?_
    intro h4 f4 z4 o4
    replace o4 : BlkW h4 bf 55 [.string ⟨#[]⟩, .int .i64 0, .bool true, .bool false, .string ⟨#[101]⟩] := o4
    have x4 := x3.offNew f4 (by omega)
    clear o3
    refine gA ?_
    refine store_blk o4 (by simp) (by simp [isOne]) ?_
    intro h5 f5 z5 o5
    replace o5 : BlkW h5 bf 55 [.string ⟨#[]⟩, .int .i64 0, .bool true, .bool false, .string ⟨#[101]⟩] := by simpa using o5
    clear o4
    refine gA ?_
    exact ⟨⟨[.string ⟨#[]⟩, .int .i64 0, .bool true, .bool false, .string ⟨#[101]⟩], rfl, ⟨rfl, by simp [isOne]⟩, fun f hf => by cases hf; rfl⟩, x4.offNew f5 (by omega)⟩
  by_cases hk10 : k = 10
  · subst hk10
    refine gA ?_
    refine blk_st (o := 0) o2 (by simp) rfl ?_
    intro h3 f3 z3 o3
    replace o3 : BlkW h3 bf 55 [.string ⟨#[109]⟩, .int .i64 0, .bool false, .bool false, .string ⟨#[]⟩] := o3
    have x3 := x02.offNew f3 (by omega)
    clear o2
    refine gA ?_
    refine blk_st (o := 3) o3 (by simp) rfl ?_
    intro h4 f4 z4 o4
    replace o4 : BlkW h4 bf 55 [.string ⟨#[109]⟩, .int .i64 0, .bool false, .bool true, .string ⟨#[]⟩] := o4
    have x4 := x3.offNew f4 (by omega)
    clear o3
    refine gA ?_
    refine blk_st (o := 4) o4 (by simp) rfl ?_
    intro h5 f5 z5 o5
    replace o5 : BlkW h5 bf 55 [.string ⟨#[109]⟩, .int .i64 0, .bool false, .bool true, .string ⟨#[42, 120]⟩] := o5
    have x5 := x4.offNew f5 (by omega)
    clear o4
    refine gA ?_
    refine store_blk o5 (by simp) (by simp [isOne]) ?_
    intro h6 f6 z6 o6
    replace o6 : BlkW h6 bf 55 [.string ⟨#[109]⟩, .int .i64 0, .bool false, .bool true, .string ⟨#[42, 120]⟩] := by simpa using o6
    clear o5
    refine gA ?_
    exact ⟨⟨[.string ⟨#[109]⟩, .int .i64 0, .bool false, .bool true, .string ⟨#[42, 120]⟩], rfl, ⟨rfl, by simp [isOne]⟩, fun f hf => by cases hf; rfl⟩, x5.offNew f6 (by omega)⟩
  by_cases hk11 : k = 11
  · subst hk11
    refine gA ?_
    refine blk_st (o := 0) o2 (by simp) rfl ?_
    intro h3 f3 z3 o3
    replace o3 : BlkW h3 bf 55 [.string ⟨#[105]⟩, .int .i64 0, .bool false, .bool false, .string ⟨#[]⟩] := o3
    have x3 := x02.offNew f3 (by omega)
    clear o2
    refine gA ?_
    refine blk_st (o := 4) o3 (by simp) rfl ?_
    intro h4 f4 z4 o4
    replace o4 : BlkW h4 bf 55 [.string ⟨#[105]⟩, .int .i64 0, .bool false, .bool false, .string ⟨#[101]⟩] := o4
    have x4 := x3.offNew f4 (by omega)
    clear o3
    refine gA ?_
    refine store_blk o4 (by simp) (by simp [isOne]) ?_
    intro h5 f5 z5 o5
    replace o5 : BlkW h5 bf 55 [.string ⟨#[105]⟩, .int .i64 0, .bool false, .bool false, .string ⟨#[101]⟩] := by simpa using o5
    clear o4
    refine gA ?_
    exact ⟨⟨[.string ⟨#[105]⟩, .int .i64 0, .bool false, .bool false, .string ⟨#[101]⟩], rfl, ⟨rfl, by simp [isOne]⟩, fun f hf => by cases hf; rfl⟩, x4.offNew f5 (by omega)⟩
  by_cases hk12 : k = 12
  · subst hk12
    refine gA ?_
    refine blk_st (o := 4) o2 (by simp) rfl ?_
    intro h3 f3 z3 o3
    replace o3 : BlkW h3 bf 55 [.string ⟨#[]⟩, .int .i64 0, .bool false, .bool false, .string ⟨#[101, 101]⟩] := o3
    have x3 := x02.offNew f3 (by omega)
    clear o2
    refine gA ?_
    refine store_blk o3 (by simp) (by simp [isOne]) ?_
    intro h4 f4 z4 o4
    replace o4 : BlkW h4 bf 55 [.string ⟨#[]⟩, .int .i64 0, .bool false, .bool false, .string ⟨#[101, 101]⟩] := by simpa using o4
    clear o3
    refine gA ?_
    exact ⟨⟨[.string ⟨#[]⟩, .int .i64 0, .bool false, .bool false, .string ⟨#[101, 101]⟩], rfl, ⟨rfl, by simp [isOne]⟩, fun f hf => by cases hf; rfl⟩, x3.offNew f4 (by omega)⟩
  by_cases hk13 : k = 13
  · subst hk13
    refine gA ?_
    refine blk_st (o := 4) o2 (by simp) rfl ?_
    intro h3 f3 z3 o3
    replace o3 : BlkW h3 bf 55 [.string ⟨#[]⟩, .int .i64 0, .bool false, .bool false, .string ⟨#[101, 42, 101]⟩] := o3
    have x3 := x02.offNew f3 (by omega)
    clear o2
    refine gA ?_
    refine store_blk o3 (by simp) (by simp [isOne]) ?_
    intro h4 f4 z4 o4
    replace o4 : BlkW h4 bf 55 [.string ⟨#[]⟩, .int .i64 0, .bool false, .bool false, .string ⟨#[101, 42, 101]⟩] := by simpa using o4
    clear o3
    refine gA ?_
    exact ⟨⟨[.string ⟨#[]⟩, .int .i64 0, .bool false, .bool false, .string ⟨#[101, 42, 101]⟩], rfl, ⟨rfl, by simp [isOne]⟩, fun f hf => by cases hf; rfl⟩, x3.offNew f4 (by omega)⟩
  by_cases hk14 : k = 14
  · subst hk14
    refine gA ?_
    refine blk_st (o := 4) o2 (by simp) rfl ?_
    intro h3 f3 z3 o3
    replace o3 : BlkW h3 bf 55 [.string ⟨#[]⟩, .int .i64 0, .bool false, .bool false, .string ⟨#[101, 42, 101]⟩] := o3
    have x3 := x02.offNew f3 (by omega)
    clear o2
    refine gA ?_
    refine store_blk o3 (by simp) (by simp [isOne]) ?_
    intro h4 f4 z4 o4
    replace o4 : BlkW h4 bf 55 [.string ⟨#[]⟩, .int .i64 0, .bool false, .bool false, .string ⟨#[101, 42, 101]⟩] := by simpa using o4
    clear o3
    refine gA ?_
    exact ⟨⟨[.string ⟨#[]⟩, .int .i64 0, .bool false, .bool false, .string ⟨#[101, 42, 101]⟩], rfl, ⟨rfl, by simp [isOne]⟩, fun f hf => by cases hf; rfl⟩, x3.offNew f4 (by omega)⟩
  by_cases hk15 : k = 15
  · subst hk15
    refine gA ?_
    refine blk_st (o := 0) o2 (by simp) rfl ?_
    intro h3 f3 z3 o3
    replace o3 : BlkW h3 bf 55 [.string ⟨#[32, 45, 32, 43, 32, 33, 32, 116, 121, 112, 101, 111, 102, 32, 100, 101, 108, 101, 116, 101, 32, 118, 111, 105, 100, 32]⟩, .int .i64 0, .bool false, .bool false, .string ⟨#[]⟩] := o3
    have x3 := x02.offNew f3 (by omega)
    clear o2
    refine gA ?_
    refine blk_st (o := 4) o3 (by simp) rfl ?_
    intro h4 f4 z4 o4
    replace o4 : BlkW h4 bf 55 [.string ⟨#[32, 45, 32, 43, 32, 33, 32, 116, 121, 112, 101, 111, 102, 32, 100, 101, 108, 101, 116, 101, 32, 118, 111, 105, 100, 32]⟩, .int .i64 0, .bool false, .bool false, .string ⟨#[101]⟩] := o4
    have x4 := x3.offNew f4 (by omega)
    clear o3
    refine gA ?_
    refine store_blk o4 (by simp) (by simp [isOne]) ?_
    intro h5 f5 z5 o5
    replace o5 : BlkW h5 bf 55 [.string ⟨#[32, 45, 32, 43, 32, 33, 32, 116, 121, 112, 101, 111, 102, 32, 100, 101, 108, 101, 116, 101, 32, 118, 111, 105, 100, 32]⟩, .int .i64 0, .bool false, .bool false, .string ⟨#[101]⟩] := by simpa using o5
    clear o4
    refine gA ?_
    exact ⟨⟨[.string ⟨#[32, 45, 32, 43, 32, 33, 32, 116, 121, 112, 101, 111, 102, 32, 100, 101, 108, 101, 116, 101, 32, 118, 111, 105, 100, 32]⟩, .int .i64 0, .bool false, .bool false, .string ⟨#[101]⟩], rfl, ⟨rfl, by simp [isOne]⟩, fun f hf => by cases hf; rfl⟩, x4.offNew f5 (by omega)⟩
  by_cases hk16 : k = 16
  · subst hk16
    refine gA ?_
    refine blk_st (o := 0) o2 (by simp) rfl ?_
    intro h3 f3 z3 o3
    replace o3 : BlkW h3 bf 55 [.string ⟨#[32, 43, 43, 32, 45, 45, 32]⟩, .int .i64 0, .bool false, .bool false, .string ⟨#[]⟩] := o3
    have x3 := x02.offNew f3 (by omega)
    clear o2
    refine gA ?_
    refine blk_st (o := 1) o3 (by simp) rfl ?_
    intro h4 f4 z4 o4
    replace o4 : BlkW h4 bf 55 [.string ⟨#[32, 43, 43, 32, 45, 45, 32]⟩, .int .i64 1, .bool false, .bool false, .string ⟨#[]⟩] := o4
    have x4 := x3.offNew f4 (by omega)
    clear o3
    refine gA ?_
    refine blk_st (o := 4) o4 (by simp) rfl ?_
    intro h5 f5 z5 o5
    replace o5 : BlkW h5 bf 55 [.string ⟨#[32, 43, 43, 32, 45, 45, 32]⟩, .int .i64 1, .bool false, .bool false, .string ⟨#[116]⟩] := o5
    have x5 := x4.offNew f5 (by omega)
    clear o4
    refine gA ?_
    refine store_blk o5 (by simp) (by simp [isOne]) ?_
    intro h6 f6 z6 o6
    replace o6 : BlkW h6 bf 55 [.string ⟨#[32, 43, 43, 32, 45, 45, 32]⟩, .int .i64 1, .bool false, .bool false, .string ⟨#[116]⟩] := by simpa using o6
    clear o5
    refine gA ?_
    exact ⟨⟨[.string ⟨#[32, 43, 43, 32, 45, 45, 32]⟩, .int .i64 1, .bool false, .bool false, .string ⟨#[116]⟩], rfl, ⟨rfl, by simp [isOne]⟩, fun f hf => by cases hf; rfl⟩, x5.offNew f6 (by omega)⟩
  by_cases hk17 : k = 17
  · subst hk17
    refine gA ?_
    refine blk_st (o := 0) o2 (by simp) rfl ?_
    intro h3 f3 z3 o3
    replace o3 : BlkW h3 bf 55 [.string ⟨#[32, 43, 32, 45, 32, 42, 32, 47, 32, 37, 32, 60, 32, 62, 32, 60, 61, 32, 62, 61, 32, 61, 61, 32, 33, 61, 32, 61, 61, 61, 32, 33, 61, 61, 32, 105, 110, 32, 105, 110, 115, 116, 97, 110, 99, 101, 111, 102, 32]⟩, .int .i64 0, .bool false, .bool false, .string ⟨#[]⟩] := o3
    have x3 := x02.offNew f3 (by omega)
    clear o2
    refine gA ?_
    refine blk_st (o := 4) o3 (by simp) rfl ?_
    intro h4 f4 z4 o4
    replace o4 : BlkW h4 bf 55 [.string ⟨#[32, 43, 32, 45, 32, 42, 32, 47, 32, 37, 32, 60, 32, 62, 32, 60, 61, 32, 62, 61, 32, 61, 61, 32, 33, 61, 32, 61, 61, 61, 32, 33, 61, 61, 32, 105, 110, 32, 105, 110, 115, 116, 97, 110, 99, 101, 111, 102, 32]⟩, .int .i64 0, .bool false, .bool false, .string ⟨#[101, 101]⟩] := o4
    have x4 := x3.offNew f4 (by omega)
    clear o3
    refine gA ?_
    refine store_blk o4 (by simp) (by simp [isOne]) ?_
    intro h5 f5 z5 o5
    replace o5 : BlkW h5 bf 55 [.string ⟨#[32, 43, 32, 45, 32, 42, 32, 47, 32, 37, 32, 60, 32, 62, 32, 60, 61, 32, 62, 61, 32, 61, 61, 32, 33, 61, 32, 61, 61, 61, 32, 33, 61, 61, 32, 105, 110, 32, 105, 110, 115, 116, 97, 110, 99, 101, 111, 102, 32]⟩, .int .i64 0, .bool false, .bool false, .string ⟨#[101, 101]⟩] := by simpa using o5
    clear o4
    refine gA ?_
    exact ⟨⟨[.string ⟨#[32, 43, 32, 45, 32, 42, 32, 47, 32, 37, 32, 60, 32, 62, 32, 60, 61, 32, 62, 61, 32, 61, 61, 32, 33, 61, 32, 61, 61, 61, 32, 33, 61, 61, 32, 105, 110, 32, 105, 110, 115, 116, 97, 110, 99, 101, 111, 102, 32]⟩, .int .i64 0, .bool false, .bool false, .string ⟨#[101, 101]⟩], rfl, ⟨rfl, by simp [isOne]⟩, fun f hf => by cases hf; rfl⟩, x4.offNew f5 (by omega)⟩
  by_cases hk18 : k = 18
  · subst hk18
    refine gA ?_
    refine blk_st (o := 0) o2 (by simp) rfl ?_
    intro h3 f3 z3 o3
    replace o3 : BlkW h3 bf 55 [.string ⟨#[32, 38, 38, 32, 124, 124, 32]⟩, .int .i64 0, .bool false, .bool false, .string ⟨#[]⟩] := o3
    have x3 := x02.offNew f3 (by omega)
    clear o2
    refine gA ?_
    refine blk_st (o := 4) o3 (by simp) rfl ?_
    intro h4 f4 z4 o4
    replace o4 : BlkW h4 bf 55 [.string ⟨#[32, 38, 38, 32, 124, 124, 32]⟩, .int .i64 0, .bool false, .bool false, .string ⟨#[101, 101]⟩] := o4
    have x4 := x3.offNew f4 (by omega)
    clear o3
    refine gA ?_
    refine store_blk o4 (by simp) (by simp [isOne]) ?_
    intro h5 f5 z5 o5
    replace o5 : BlkW h5 bf 55 [.string ⟨#[32, 38, 38, 32, 124, 124, 32]⟩, .int .i64 0, .bool false, .bool false, .string ⟨#[101, 101]⟩] := by simpa using o5
    clear o4
    refine gA ?_
    exact ⟨⟨[.string ⟨#[32, 38, 38, 32, 124, 124, 32]⟩, .int .i64 0, .bool false, .bool false, .string ⟨#[101, 101]⟩], rfl, ⟨rfl, by simp [isOne]⟩, fun f hf => by cases hf; rfl⟩, x4.offNew f5 (by omega)⟩
  by_cases hk19 : k = 19
  · subst hk19
    refine gA ?_
    refine blk_st (o := 4) o2 (by simp) rfl ?_
    intro h3 f3 z3 o3
    replace o3 : BlkW h3 bf 55 [.string ⟨#[]⟩, .int .i64 0, .bool false, .bool false, .string ⟨#[101, 101, 101]⟩] := o3
    have x3 := x02.offNew f3 (by omega)
    clear o2
    refine gA ?_
    refine store_blk o3 (by simp) (by simp [isOne]) ?_
    intro h4 f4 z4 o4
    replace o4 : BlkW h4 bf 55 [.string ⟨#[]⟩, .int .i64 0, .bool false, .bool false, .string ⟨#[101, 101, 101]⟩] := by simpa using o4
    clear o3
    refine gA ?_
    exact ⟨⟨[.string ⟨#[]⟩, .int .i64 0, .bool false, .bool false, .string ⟨#[101, 101, 101]⟩], rfl, ⟨rfl, by simp [isOne]⟩, fun f hf => by cases hf; rfl⟩, x3.offNew f4 (by omega)⟩
  by_cases hk20 : k = 20
  · subst hk20
    refine gA ?_
    refine blk_st (o := 0) o2 (by simp) rfl ?_
    intro h3 f3 z3 o3
    replace o3 : BlkW h3 bf 55 [.string ⟨#[32, 61, 32, 43, 61, 32, 45, 61, 32, 42, 61, 32, 47, 61, 32, 37, 61, 32]⟩, .int .i64 0, .bool false, .bool false, .string ⟨#[]⟩] := o3
    have x3 := x02.offNew f3 (by omega)
    clear o2
    refine gA ?_
    refine blk_st (o := 4) o3 (by simp) rfl ?_
    intro h4 f4 z4 o4
    replace o4 : BlkW h4 bf 55 [.string ⟨#[32, 61, 32, 43, 61, 32, 45, 61, 32, 42, 61, 32, 47, 61, 32, 37, 61, 32]⟩, .int .i64 0, .bool false, .bool false, .string ⟨#[116, 101]⟩] := o4
    have x4 := x3.offNew f4 (by omega)
    clear o3
    refine gA ?_
    refine store_blk o4 (by simp) (by simp [isOne]) ?_
    intro h5 f5 z5 o5
    replace o5 : BlkW h5 bf 55 [.string ⟨#[32, 61, 32, 43, 61, 32, 45, 61, 32, 42, 61, 32, 47, 61, 32, 37, 61, 32]⟩, .int .i64 0, .bool false, .bool false, .string ⟨#[116, 101]⟩] := by simpa using o5
    clear o4
    refine gA ?_
    exact ⟨⟨[.string ⟨#[32, 61, 32, 43, 61, 32, 45, 61, 32, 42, 61, 32, 47, 61, 32, 37, 61, 32]⟩, .int .i64 0, .bool false, .bool false, .string ⟨#[116, 101]⟩], rfl, ⟨rfl, by simp [isOne]⟩, fun f hf => by cases hf; rfl⟩, x4.offNew f5 (by omega)⟩
  by_cases hk21 : k = 21
  · subst hk21
    refine gA ?_
    refine blk_st (o := 4) o2 (by simp) rfl ?_
    intro h3 f3 z3 o3
    replace o3 : BlkW h3 bf 55 [.string ⟨#[]⟩, .int .i64 0, .bool false, .bool false, .string ⟨#[101, 101]⟩] := o3
    have x3 := x02.offNew f3 (by omega)
    clear o2
    refine gA ?_
    refine store_blk o3 (by simp) (by simp [isOne]) ?_
    intro h4 f4 z4 o4
    replace o4 : BlkW h4 bf 55 [.string ⟨#[]⟩, .int .i64 0, .bool false, .bool false, .string ⟨#[101, 101]⟩] := by simpa using o4
    clear o3
    refine gA ?_
    exact ⟨⟨[.string ⟨#[]⟩, .int .i64 0, .bool false, .bool false, .string ⟨#[101, 101]⟩], rfl, ⟨rfl, by simp [isOne]⟩, fun f hf => by cases hf; rfl⟩, x3.offNew f4 (by omega)⟩
  by_cases hk40 : k = 40
  · subst hk40
    refine gA ?_
    refine store_blk o2 (by simp) (by simp [isOne]) ?_
    intro h3 f3 z3 o3
    replace o3 : BlkW h3 bf 55 [.string ⟨#[]⟩, .int .i64 0, .bool false, .bool false, .string ⟨#[]⟩] := by simpa using o3
    clear o2
    refine gA ?_
    exact ⟨⟨[.string ⟨#[]⟩, .int .i64 0, .bool false, .bool false, .string ⟨#[]⟩], rfl, ⟨rfl, by simp [isOne]⟩, fun f hf => by cases hf; rfl⟩, x02.offNew f3 (by omega)⟩
  by_cases hk42 : k = 42
  · subst hk42
    refine gA ?_
    refine store_blk o2 (by simp) (by simp [isOne]) ?_
    intro h3 f3 z3 o3
    replace o3 : BlkW h3 bf 55 [.string ⟨#[]⟩, .int .i64 0, .bool false, .bool false, .string ⟨#[]⟩] := by simpa using o3
    clear o2
    refine gA ?_
    exact ⟨⟨[.string ⟨#[]⟩, .int .i64 0, .bool false, .bool false, .string ⟨#[]⟩], rfl, ⟨rfl, by simp [isOne]⟩, fun f hf => by cases hf; rfl⟩, x02.offNew f3 (by omega)⟩
  have q1 : (k == 1) = false := beq_eq_false_iff_ne.2 hk1
  have q2 : (k == 2) = false := beq_eq_false_iff_ne.2 hk2
  have q3 : (k == 3) = false := beq_eq_false_iff_ne.2 hk3
  have q4 : (k == 4) = false := beq_eq_false_iff_ne.2 hk4
  have q5 : (k == 5) = false := beq_eq_false_iff_ne.2 hk5
  have q6 : (k == 6) = false := beq_eq_false_iff_ne.2 hk6
  have q7 : (k == 7) = false := beq_eq_false_iff_ne.2 hk7
  have q8 : (k == 8) = false := beq_eq_false_iff_ne.2 hk8
  have q9 : (k == 9) = false := beq_eq_false_iff_ne.2 hk9
  have q10 : (k == 10) = false := beq_eq_false_iff_ne.2 hk10
  have q11 : (k == 11) = false := beq_eq_false_iff_ne.2 hk11
  have q12 : (k == 12) = false := beq_eq_false_iff_ne.2 hk12
  have q13 : (k == 13) = false := beq_eq_false_iff_ne.2 hk13
  have q14 : (k == 14) = false := beq_eq_false_iff_ne.2 hk14
  have q15 : (k == 15) = false := beq_eq_false_iff_ne.2 hk15
  have q16 : (k == 16) = false := beq_eq_false_iff_ne.2 hk16
  have q17 : (k == 17) = false := beq_eq_false_iff_ne.2 hk17
  have q18 : (k == 18) = false := beq_eq_false_iff_ne.2 hk18
  have q19 : (k == 19) = false := beq_eq_false_iff_ne.2 hk19
  have q20 : (k == 20) = false := beq_eq_false_iff_ne.2 hk20
  have q21 : (k == 21) = false := beq_eq_false_iff_ne.2 hk21
  have q40 : (k == 40) = false := beq_eq_false_iff_ne.2 hk40
  have q42 : (k == 42) = false := beq_eq_false_iff_ne.2 hk42
  have e : formOf k l.length = stmtOf k l.length := by unfold formOf; rw [if_neg hk1, if_neg hk2, if_neg hk3, if_neg hk4, if_neg hk5, if_neg hk6, if_neg hk7, if_neg hk8, if_neg hk9, if_neg hk10, if_neg hk11, if_neg hk12, if_neg hk13, if_neg hk14, if_neg hk15, if_neg hk16, if_neg hk17, if_neg hk18, if_neg hk19, if_neg hk20, if_neg hk21, if_neg hk40, if_neg hk42]
  rw [e]
  refine gA ?_
  refine HCall.mk ((stmt_spec (d := .mk k nm n t ns l) (TRep.ext x02 (by simp only [TRep]; exact r0))).mono ?_)
  rintro e h3 ⟨⟨v, rfl, ⟨hv5, hv1⟩, hv⟩, x3⟩
  have o3 := o2.ext x3
  clear o2
  refine gA ?_
  refine HMust.mk (by simpa using hv5) ?_
  refine store_blk o3 (by simp [hv5]) (by simpa using hv1) ?_
  intro h4 f4 z4 o4
  have o4' : BlkW h4 bf 55 v := by
    have e : (zeroF : List Value).drop (0 + v.toArray.toList.length) = [] := by simp [hv5]
    rw [e] at o4
    simpa using o4
  clear o4
  refine gA ?_
  refine blk_ldN o4' hv5 ?_
  exact ⟨⟨v, rfl, ⟨hv5, hv1⟩, hv⟩, (x02.trans x3).offNew f4 (by have := x3.1; omega)⟩
end Go.Proofs.YtlogpojkkbcpjaaGreat.Hc
/- tree.named, tree.Deep; a kid's kind. -/
set_option linter.unusedVariables false
set_option linter.unusedSimpArgs false
namespace Go.Proofs.YtlogpojkkbcpjaaGreat.Hc
open Go Go.H Go.Proofs
set_option maxRecDepth 100000
set_option maxHeartbeats 4000000

theorem TRep.kind0 {h : Heap} {d : NT} {cs : List Value} (r : TRep h d cs) : cs[0]? = some (.int .i64 d.kind) := by
  cases d
  simp only [TRep] at r
  obtain ⟨_, _, _, _, _, _, _, ka, kc, la, lc, xs, e, _⟩ := r
  rw [e]; rfl
/-- A load of a kid's kind. -/
theorem tkind {h : Heap} {a : Option Addr} {c : Nat} {xs : List Value} {l : List NT} {p : Addr} {i : Nat} {K : Value → Prop} (x : Sl h 6 a l.length c xs) (r : TReps h l xs) (ep : a = some p) (hi : i < l.length)
    (k : K (.int .i64 l[i].kind)) : HLoad h ((p.add (i * 6)).add 0) K := by
  obtain ⟨cs, r1, r2⟩ := r.els.get (fun _ _ r => r.len) i hi
  refine ⟨_, ?_, k⟩
  rw [add_add, x.2.2.2 p ep (i * 6 + 0) (by omega), r2 0 (by omega), r1.kind0]
def kidKind (l : List NT) (i : Nat) : Int := match l[i]? with
  | some d => d.kind
  | none => 0
theorem kidKind_in {l : List NT} {i : Nat} (hi : i < l.length) : kidKind l i = l[i].kind := by unfold kidKind; rw [List.getElem?_eq_getElem hi]
/-- Whether a node's Name fits. -/
def namedB (s w : ByteArray) (l : List NT) : Bool :=
  if strEq w ⟨#[]⟩ = true then strEq s ⟨#[]⟩ else if strEq w ⟨#[110]⟩ = true then isNameB s else if strEq w ⟨#[109]⟩ = true then strEq s ⟨#[]⟩ || isNameB s else
  if strEq w ⟨#[105]⟩ = true then identB s else if strEq w ⟨#[99]⟩ = true then (if 1 < l.length ∧ kidKind l 1 = 25 then isNameB s else strEq s ⟨#[]⟩) else amongB w s
theorem named_spec {h : Heap} (g : Glb h) {d : NT} {cs : List Value} (r : TRep h d cs) (w : ByteArray) (hw : w.size < 4294967281) : HCalls Tryz.prog 30 #[.agg cs.toArray, .string w] h fun e h' => e = .returned (.bool (namedB d.name w d.l)) ∧ Ext h h' := by
  cases d with
  | mk k nm n t ns l =>
  simp only [TRep] at r
  obtain ⟨b1, b2, b3, b4, b5, b6, b7, ka, kc, la, lc, ys, rfl, s1, s2, s3⟩ := r
  show HCalls Tryz.prog 30 _ h fun e h' => e = .returned (.bool (namedB nm w l)) ∧ Ext h h'
  refine c30 (by simp) ?_
  refine gA ?_
  refine new_var (e := 25) [.int .i64 k, .string nm, .int .i64 n, .string t, .slice ka ns.length kc, .slice la l.length lc] rfl ?_
  intro h1 bn o1 x1 z1 hbn
  have g1 := g.ext x1
  unfold namedB
  cases q1 : strEq w ⟨#[]⟩
  · cases q2 : strEq w ⟨#[110]⟩
    · cases q3 : strEq w ⟨#[109]⟩
      · cases q4 : strEq w ⟨#[105]⟩
        · cases q5 : strEq w ⟨#[99]⟩
          · simp only [Bool.false_eq_true, if_false]
            refine gA ?_
            refine HCall.mk ((among2_spec g1 w nm hw b3).mono ?_)
            rintro e h2 ⟨rfl, rfl⟩
            refine gA ?_
            exact ⟨rfl, x1⟩
          · simp only [Bool.false_eq_true, if_false, if_true]
            by_cases hl : 1 < l.length
            · have qh : decide ((l.length : Int) > 1) = true := decide_eq_true (by omega)
              by_cases hk : kidKind l 1 = 25
              · rw [if_pos ⟨hl, hk⟩]
                rw [kidKind_in hl] at hk
                have qk : (l[1].kind == 25) = true := beq_iff_eq.2 hk
                refine gA ?_
                refine HIdx.mk 1 rfl hl ?_
                refine sl_some s2 hl fun p ep => ?_
                refine gA ?_
                refine tkind (s2.ext x1) (s3.ext x1) ep hl ?_
                refine gA ?_
                refine HCall.mk ((name_spec g1 nm b3).mono ?_)
                rintro e h2 ⟨rfl, rfl⟩
                refine gA ?_
                exact ⟨rfl, x1⟩
              · rw [if_neg (fun hh => hk hh.2)]
                rw [kidKind_in hl] at hk
                have qk : (l[1].kind == 25) = false := beq_eq_false_iff_ne.2 hk
                refine gA ?_
                refine HIdx.mk 1 rfl hl ?_
                refine sl_some s2 hl fun p ep => ?_
                refine gA ?_
                refine tkind (s2.ext x1) (s3.ext x1) ep hl ?_
                refine gA ?_
                exact ⟨rfl, x1⟩
            · have qh : decide ((l.length : Int) > 1) = false := decide_eq_false (by omega)
              rw [if_neg (fun hh => hl hh.1)]
              refine gA ?_
              exact ⟨rfl, x1⟩
        · simp only [Bool.false_eq_true, if_false, if_true]
          refine gA ?_
          refine HCall.mk ((ident_spec nm (by omega) h1).mono ?_)
          rintro e h2 ⟨rfl, rfl⟩
          refine gA ?_
          exact ⟨rfl, x1⟩
      · simp only [Bool.false_eq_true, if_false, if_true]
        cases q6 : strEq nm ⟨#[]⟩
        · refine gA ?_
          refine HCall.mk ((name_spec g1 nm b3).mono ?_)
          rintro e h2 ⟨rfl, rfl⟩
          refine gA ?_
          exact ⟨rfl, x1⟩
        · refine gA ?_
          exact ⟨rfl, x1⟩
    · simp only [Bool.false_eq_true, if_false, if_true]
      refine gA ?_
      refine HCall.mk ((name_spec g1 nm b3).mono ?_)
      rintro e h2 ⟨rfl, rfl⟩
      refine gA ?_
      exact ⟨rfl, x1⟩
  · simp only [if_true]
    refine gA ?_
    exact ⟨rfl, x1⟩

mutual
/-- How deep. -/
def deepT : NT → Nat
  | .mk _ _ _ _ _ l => deepL l + 1
def deepL : List NT → Nat
  | [] => 0
  | d :: r => max (deepT d) (deepL r)
end
theorem deepL_take (l : List NT) (i : Nat) (hi : i < l.length) : deepL (l.take (i + 1)) = max (deepL (l.take i)) (deepT l[i]) := by
  have key : ∀ (l : List NT) (d : NT), deepL (l ++ [d]) = max (deepL l) (deepT d) := by
    intro l d
    induction l with
    | nil => simp [deepL]
    | cons e r ih => simp only [List.cons_append, deepL, ih]; omega
  rw [take_succ' hi, key]
mutual
theorem deepT_cnt : ∀ d : NT, deepT d ≤ cnt d
  | .mk _ _ _ _ _ l => by have := deepL_cnt l; simp only [deepT, cnt]; omega
theorem deepL_cnt : ∀ l : List NT, deepL l ≤ cnts l
  | [] => by simp [deepL]
  | d :: r => by have h1 := deepT_cnt d; have h2 := deepL_cnt r; simp only [deepL, cnts]; omega
end
theorem deep_spec : ∀ (m : Nat) (d : NT) (_ : cnt d = m) (h : Heap) (cs : List Value) (_ : TRep h d cs) (_ : cnt d ≤ 4194304),
    HCalls Tryz.prog 16 #[.agg cs.toArray] h fun e h' => e = .returned (.int .i64 (deepT d)) ∧ Ext h h' := by
  intro m
  induction m using Nat.strongRecOn with
  | ind m ih =>
  intro d hm h cs r hc
  cases d with
  | mk k nm n t ns l =>
  simp only [TRep] at r
  obtain ⟨b1, b2, b3, b4, b5, b6, b7, ka, kc, la, lc, ys, rfl, s1, s2, s3⟩ := r
  have hdc := deepL_cnt l
  simp only [cnt] at hm hc
  refine c16 (by simp) ?_
  refine gA ?_
  refine new_var (e := 25) [.int .i64 k, .string nm, .int .i64 n, .string t, .slice ka ns.length kc, .slice la l.length lc] rfl ?_
  intro h1 bn o1 x1 z1 hbn
  refine gA ?_
  refine loop_rule [3, 9] (fun vs h' => ∃ (i : Nat), vs = [.int .i64 (deepL (l.take i)), .int .i64 i] ∧ i ≤ l.length ∧ Ext h h')
    (fun vs _ => match vs with | [_, .int _ i] => l.length - i.toNat | _ => 0) rfl ?_ ?_
  · exact ⟨0, rfl, by omega, x1⟩
  intro u h2 v3 v9
  rintro ⟨i, e, hi, x2⟩
  cases e
  refine gA ?_
  refine HIf.mk (fun hlt => ?_) (fun hlt => ?_)
  · have hi1 : i < l.length := by have := of_decide_eq_true hlt; omega
    have hmu : l.length - ((i : Int) + 1).toNat < l.length - ((i : Int)).toNat := by omega
    have dt := deepL_take l i hi1
    have hcg := cnts_get l i hi1
    generalize deepL (l.take i) = q at dt
    refine gA ?_
    refine HIdx.mk i rfl hi1 ?_
    refine sl_some s2 hi1 fun p ep => ?_
    refine gA ?_
    refine tload' s2 s3 x2 ep hi1 fun cs rt => ?_
    refine gA ?_
    refine new_var (e := 25) zeroT rfl ?_
    intro h3 b3' o3 x3 z3 hb3
    refine gA ?_
    have hcl := rt.len
    refine HMust.mk (by simpa using hcl) ?_
    refine store_blk o3 (by simp [hcl]) (by simpa using rt.one) ?_
    intro h4 f4 z4 o4
    have o4' : BlkW h4 b3' 25 cs := by
      have e : (zeroT : List Value).drop (0 + cs.toArray.toList.length) = [] := by simp [hcl]
      rw [e] at o4
      simpa using o4
    have x24 : Ext h2 h4 := x3.offNew f4 (by omega)
    clear o3 o4
    refine gA ?_
    refine blk_ldN o4' hcl ?_
    refine gA ?_
    refine HCall.mk ((ih (cnt l[i]) (by omega) l[i] rfl h4 cs (rt.ext (x2.trans x24)) (by omega)).mono ?_)
    rintro e h5 ⟨rfl, x5⟩
    have em : (if (deepT l[i] : Int) > (q : Int) then (deepT l[i] : Int) else (q : Int)) = ((deepL (l.take (i + 1)) : Nat) : Int) := by rw [dt]; split <;> omega
    refine gA ?_
    exact ⟨⟨i + 1, by rw [← em]; rfl, by omega, x2.trans (x24.trans x5)⟩, hmu⟩
  · have hge := of_decide_eq_false hlt
    obtain rfl : i = l.length := by omega
    rw [List.take_length]
    refine gA ?_
    exact ⟨by simp only [deepT]; rfl, x2⟩
def targetB (k : Int) : Bool := (k == 3) || (k == 11) || (k == 12)
theorem target_spec {h : Heap} {d : NT} {cs : List Value} (r : TRep h d cs) : HCalls Tryz.prog 55 #[.agg cs.toArray] h fun e h' => e = .returned (.bool (targetB d.kind)) ∧ Ext h h' := by
  cases d with
  | mk k nm n t ns l =>
  simp only [TRep] at r
  obtain ⟨b1, b2, b3, b4, b5, b6, b7, ka, kc, la, lc, ys, rfl, s1, s2, s3⟩ := r
  show HCalls Tryz.prog 55 _ h fun e h' => e = .returned (.bool (targetB k)) ∧ Ext h h'
  refine c55 (by simp) ?_
  refine gA ?_
  refine new_var (e := 25) [.int .i64 k, .string nm, .int .i64 n, .string t, .slice ka ns.length kc, .slice la l.length lc] rfl ?_
  intro h1 bn o1 x1 z1 hbn
  unfold targetB
  cases q1 : (k == 3) <;> cases q2 : (k == 11) <;> refine gA ?_ <;> exact ⟨rfl, x1⟩
end Go.Proofs.YtlogpojkkbcpjaaGreat.Hc
/- tree.fits (printed by tools/t9.py). -/
set_option linter.unusedVariables false
set_option linter.unusedSimpArgs false
namespace Go.Proofs.YtlogpojkkbcpjaaGreat.Hc
open Go Go.H Go.Proofs
set_option maxRecDepth 100000
set_option maxHeartbeats 8000000
def exprB (k : Int) : Bool := decide (k ≥ 1) && decide (k ≤ 21) && (k != 9)
def kidLen (l : List NT) : Nat := match l[0]? with
  | some d => d.l.length
  | none => 0
def stB (k : Int) (x : Bool) : Bool := decide (k ≥ 22) && decide (k ≤ 40) && (k != 23) && (k != 37) && ((k != 39) || x)
def shapeB (ex : Bool) (k : Int) (l : List NT) (c : Nat) : Bool :=
  if c = 101 then ex else
  if c = 116 then targetB k else
  if c = 102 then ex || (k == 42) else
  if c = 98 then k == 25 else
  if c = 99 then (k == 25) || (k == 42) else
  if c = 112 then k == 9 else
  if c = 100 then k == 23 else
  if c = 118 then ex || (k == 42) || (k == 22) else
  if c = 119 then targetB k || ((k == 22) && ((l.length : Int) == 1) && ((kidLen l : Int) == 0)) else
  if c = 107 then k == 37 else
  if c = 115 then stB k false else if c = 120 then stB k true else false
/-- A load of the first kid's L. -/
theorem tkids {h : Heap} {a : Option Addr} {c : Nat} {xs : List Value} {l : List NT} {p : Addr} {K : Value → Prop} (x : Sl h 6 a l.length c xs) (r : TReps h l xs) (ep : a = some p) (hi : 0 < l.length)
    (k : ∀ b c', K (.slice b (kidLen l) c')) : HLoad h ((p.add (0 * 6)).add 5) K := by
  obtain ⟨cs, r1, r2⟩ := r.els.get (fun _ _ r => r.len) 0 hi
  have hk : kidLen l = l[0].l.length := by unfold kidLen; rw [List.getElem?_eq_getElem hi]
  cases hd : l[0] with
  | mk kk nm n t ns kl =>
  rw [hd] at r1 hk
  simp only [TRep] at r1
  obtain ⟨_, _, _, _, _, _, _, ka, kc, la, lc, ys, rfl, _⟩ := r1
  refine ⟨_, ?_, k la lc⟩
  rw [add_add, x.2.2.2 p ep (0 * 6 + 5) (by omega), r2 5 (by omega), hk]; rfl
theorem fits_spec {h : Heap} {d : NT} {cs : List Value} {mb : Bool} (r : TRep h d cs) (c : UInt8) (hm : ∀ h', Ext h h' → HCalls Tryz.prog 15 #[.agg cs.toArray] h' fun e h'' => e = .returned (.bool mb) ∧ Ext h' h'') :
    HCalls Tryz.prog 35 #[.agg cs.toArray, byteV c] h fun e h' => e = .returned (.bool (shapeB (exprB d.kind) d.kind d.l c.toNat && mb)) ∧ Ext h h' := by
  cases d with
  | mk k nm n t ns l =>
  simp only [TRep] at r
  have r0 := r
  obtain ⟨b1, b2, b3, b4, b5, b6, b7, ka, kc, la, lc, ys, rfl, s1, s2, s3⟩ := r
  show HCalls Tryz.prog 35 _ h fun e h' => e = .returned (.bool (shapeB (exprB k) k l c.toNat && mb)) ∧ Ext h h'
  unfold byteV
  refine c35 (by simp) ?_
  refine gA ?_
  refine new_var (e := 25) [.int .i64 k, .string nm, .int .i64 n, .string t, .slice ka ns.length kc, .slice la l.length lc] rfl ?_
  intro h1 bn o1 x1 z1 hbn
  have sh : ∀ {K : Bool → Prop}, (decide (k ≥ 1) = false → K false) → (decide (k ≥ 1) = true → decide (k ≤ 21) = false → K false) → (decide (k ≥ 1) = true → decide (k ≤ 21) = true → (k != 9) = false → K false) → (decide (k ≥ 1) = true → decide (k ≤ 21) = true → (k != 9) = true → K true) → K (exprB k) := by
    intro K k1 k2 k3 k4
    unfold exprB
    cases q1 : decide (k ≥ 1)
    · exact k1 q1
    · cases q2 : decide (k ≤ 21)
      · exact k2 q1 q2
      · cases q3 : (k != 9)
        · exact k3 q1 q2 q3
        · exact k4 q1 q2 q3
  refine sh (K := fun ex => aexec _ _ (abody _ fun e h' => e = .returned (.bool (shapeB ex k l c.toNat && mb)) ∧ Ext h h') _ _) ?_ ?_ ?_ ?_
  · intro q1
    refine gB ?_
    refine cut_rule [7] (fun vs h' => vs = [.bool (shapeB false k l c.toNat)] ∧ Ext h1 h') rfl ?_ ?_
    · skip
      by_cases c101 : c.toNat = 101
      · have q101 : ((c.toNat : Int) == 101) = true := by rw [beq_iff_eq]; omega
        have es : shapeB false k l c.toNat = (false) := by unfold shapeB; rw [if_pos c101]
        rw [es]
        refine gA ?_
        exact ⟨rfl, Ext.refl _⟩
      have q101 : ((c.toNat : Int) == 101) = false := by rw [beq_eq_false_iff_ne]; omega
      by_cases c116 : c.toNat = 116
      · have q116 : ((c.toNat : Int) == 116) = true := by rw [beq_iff_eq]; omega
        have es : shapeB false k l c.toNat = (targetB k) := by unfold shapeB; rw [if_neg c101, if_pos c116]
        rw [es]
        refine gA ?_
        refine HCall.mk ((target_spec (d := .mk k nm n t ns l) (TRep.ext x1 (by simp only [TRep]; exact r0))).mono ?_)
        rintro e h2 ⟨rfl, x2⟩
        refine gA ?_
        exact ⟨rfl, x2⟩
      have q116 : ((c.toNat : Int) == 116) = false := by rw [beq_eq_false_iff_ne]; omega
      by_cases c102 : c.toNat = 102
      · have q102 : ((c.toNat : Int) == 102) = true := by rw [beq_iff_eq]; omega
        have es : shapeB false k l c.toNat = (false || (k == 42)) := by unfold shapeB; rw [if_neg c101, if_neg c116, if_pos c102]
        rw [es]
        refine gA ?_
        exact ⟨rfl, Ext.refl _⟩
      have q102 : ((c.toNat : Int) == 102) = false := by rw [beq_eq_false_iff_ne]; omega
      by_cases c98 : c.toNat = 98
      · have q98 : ((c.toNat : Int) == 98) = true := by rw [beq_iff_eq]; omega
        have es : shapeB false k l c.toNat = (k == 25) := by unfold shapeB; rw [if_neg c101, if_neg c116, if_neg c102, if_pos c98]
        rw [es]
        refine gA ?_
        exact ⟨rfl, Ext.refl _⟩
      have q98 : ((c.toNat : Int) == 98) = false := by rw [beq_eq_false_iff_ne]; omega
      by_cases c99 : c.toNat = 99
      · have q99 : ((c.toNat : Int) == 99) = true := by rw [beq_iff_eq]; omega
        have es : shapeB false k l c.toNat = ((k == 25) || (k == 42)) := by unfold shapeB; rw [if_neg c101, if_neg c116, if_neg c102, if_neg c98, if_pos c99]
        rw [es]
        cases v1 : (k == 25)
        · refine gA ?_
          exact ⟨rfl, Ext.refl _⟩
        · refine gA ?_
          exact ⟨rfl, Ext.refl _⟩
      have q99 : ((c.toNat : Int) == 99) = false := by rw [beq_eq_false_iff_ne]; omega
      by_cases c112 : c.toNat = 112
      · have q112 : ((c.toNat : Int) == 112) = true := by rw [beq_iff_eq]; omega
        have es : shapeB false k l c.toNat = (k == 9) := by unfold shapeB; rw [if_neg c101, if_neg c116, if_neg c102, if_neg c98, if_neg c99, if_pos c112]
        rw [es]
        refine gA ?_
        exact ⟨rfl, Ext.refl _⟩
      have q112 : ((c.toNat : Int) == 112) = false := by rw [beq_eq_false_iff_ne]; omega
      by_cases c100 : c.toNat = 100
      · have q100 : ((c.toNat : Int) == 100) = true := by rw [beq_iff_eq]; omega
        have es : shapeB false k l c.toNat = (k == 23) := by unfold shapeB; rw [if_neg c101, if_neg c116, if_neg c102, if_neg c98, if_neg c99, if_neg c112, if_pos c100]
        rw [es]
        refine gA ?_
        exact ⟨rfl, Ext.refl _⟩
      have q100 : ((c.toNat : Int) == 100) = false := by rw [beq_eq_false_iff_ne]; omega
      by_cases c118 : c.toNat = 118
      · have q118 : ((c.toNat : Int) == 118) = true := by rw [beq_iff_eq]; omega
        have es : shapeB false k l c.toNat = (false || (k == 42) || (k == 22)) := by unfold shapeB; rw [if_neg c101, if_neg c116, if_neg c102, if_neg c98, if_neg c99, if_neg c112, if_neg c100, if_pos c118]
        rw [es]
        cases v1 : (k == 42)
        · refine gA ?_
          exact ⟨rfl, Ext.refl _⟩
        · refine gA ?_
          exact ⟨rfl, Ext.refl _⟩
      have q118 : ((c.toNat : Int) == 118) = false := by rw [beq_eq_false_iff_ne]; omega
      by_cases c119 : c.toNat = 119
      · have q119 : ((c.toNat : Int) == 119) = true := by rw [beq_iff_eq]; omega
        have es : shapeB false k l c.toNat = (targetB k || ((k == 22) && ((l.length : Int) == 1) && ((kidLen l : Int) == 0))) := by unfold shapeB; rw [if_neg c101, if_neg c116, if_neg c102, if_neg c98, if_neg c99, if_neg c112, if_neg c100, if_neg c118, if_pos c119]
        rw [es]
        refine gA ?_
        refine HCall.mk ((target_spec (d := .mk k nm n t ns l) (TRep.ext x1 (by simp only [TRep]; exact r0))).mono ?_)
        rintro e h2 ⟨rfl, x2⟩
        have o2 := o1.ext x2
        rw [show NT.kind (.mk k nm n t ns l) = k from rfl]
        cases w1 : targetB k
        · cases w2 : (k == 22)
          · refine gA ?_
            exact ⟨rfl, x2⟩
          · cases w3 : ((l.length : Int) == 1)
            · refine gA ?_
              exact ⟨rfl, x2⟩
            · have hl0 : 0 < l.length := by rw [beq_iff_eq] at w3; omega
              refine gA ?_
              refine HIdx.mk 0 rfl hl0 ?_
              refine sl_some s2 hl0 fun p ep => ?_
              refine gA ?_
              refine tkids (s2.ext (x1.trans x2)) (s3.ext (x1.trans x2)) ep hl0 fun _ _ => ?_
              refine gA ?_
              exact ⟨rfl, x2⟩
        · refine gA ?_
          exact ⟨rfl, x2⟩
      have q119 : ((c.toNat : Int) == 119) = false := by rw [beq_eq_false_iff_ne]; omega
      by_cases c107 : c.toNat = 107
      · have q107 : ((c.toNat : Int) == 107) = true := by rw [beq_iff_eq]; omega
        have es : shapeB false k l c.toNat = (k == 37) := by unfold shapeB; rw [if_neg c101, if_neg c116, if_neg c102, if_neg c98, if_neg c99, if_neg c112, if_neg c100, if_neg c118, if_neg c119, if_pos c107]
        rw [es]
        refine gA ?_
        exact ⟨rfl, Ext.refl _⟩
      have q107 : ((c.toNat : Int) == 107) = false := by rw [beq_eq_false_iff_ne]; omega
      by_cases c115 : c.toNat = 115
      · have q115 : ((c.toNat : Int) == 115) = true := by rw [beq_iff_eq]; omega
        have es : shapeB false k l c.toNat = (stB k false) := by unfold shapeB; rw [if_neg c101, if_neg c116, if_neg c102, if_neg c98, if_neg c99, if_neg c112, if_neg c100, if_neg c118, if_neg c119, if_neg c107, if_pos c115]
        rw [es]
        have c120' : ((c.toNat : Int) == 120) = false := by rw [beq_eq_false_iff_ne]; omega
        unfold stB
        cases a0 : decide (k ≥ 22)
        · refine gA ?_
          exact ⟨rfl, Ext.refl _⟩
        · cases a1 : decide (k ≤ 40)
          · refine gA ?_
            exact ⟨rfl, Ext.refl _⟩
          · cases a2 : (k != 23)
            · refine gA ?_
              exact ⟨rfl, Ext.refl _⟩
            · cases a3 : (k != 37)
              · refine gA ?_
                exact ⟨rfl, Ext.refl _⟩
              · cases a5 : (k != 39)
                · refine gA ?_
                  exact ⟨(show [Value.bool ((c.toNat : Int) == 120)] = [Value.bool false] by rw [c120']), Ext.refl _⟩
                · refine gA ?_
                  exact ⟨rfl, Ext.refl _⟩
      have q115 : ((c.toNat : Int) == 115) = false := by rw [beq_eq_false_iff_ne]; omega
      by_cases c120 : c.toNat = 120
      · have q120 : ((c.toNat : Int) == 120) = true := by rw [beq_iff_eq]; omega
        have es : shapeB false k l c.toNat = (stB k true) := by unfold shapeB; rw [if_neg c101, if_neg c116, if_neg c102, if_neg c98, if_neg c99, if_neg c112, if_neg c100, if_neg c118, if_neg c119, if_neg c107, if_neg c115, if_pos c120]
        rw [es]
        unfold stB
        cases a0 : decide (k ≥ 22)
        · refine gA ?_
          exact ⟨rfl, Ext.refl _⟩
        · cases a1 : decide (k ≤ 40)
          · refine gA ?_
            exact ⟨rfl, Ext.refl _⟩
          · cases a2 : (k != 23)
            · refine gA ?_
              exact ⟨rfl, Ext.refl _⟩
            · cases a3 : (k != 37)
              · refine gA ?_
                exact ⟨rfl, Ext.refl _⟩
              · cases a5 : (k != 39)
                · refine gA ?_
                  exact ⟨(show [Value.bool ((c.toNat : Int) == 120)] = [Value.bool true] by rw [q120]), Ext.refl _⟩
                · refine gA ?_
                  exact ⟨rfl, Ext.refl _⟩
      have q120 : ((c.toNat : Int) == 120) = false := by rw [beq_eq_false_iff_ne]; omega
      have es : shapeB false k l c.toNat = false := by unfold shapeB; rw [if_neg c101, if_neg c116, if_neg c102, if_neg c98, if_neg c99, if_neg c112, if_neg c100, if_neg c118, if_neg c119, if_neg c107, if_neg c115, if_neg c120]
      rw [es]
      refine gA ?_
      exact ⟨rfl, Ext.refl _⟩
    · intro u2 h2 v7
      rintro ⟨e, x2⟩
      cases e
      have o2 := o1.ext x2
      cases hs : shapeB false k l c.toNat
      · refine gA ?_
        exact ⟨rfl, x1.trans x2⟩
      · refine gA ?_
        refine HCall.mk ((hm h2 (x1.trans x2)).mono ?_)
        rintro e h3 ⟨rfl, x3⟩
        refine gA ?_
        exact ⟨rfl, x1.trans (x2.trans x3)⟩
  · intro q1 q2
    refine gB ?_
    rw [q2]
    refine cut_rule [7] (fun vs h' => vs = [.bool (shapeB false k l c.toNat)] ∧ Ext h1 h') rfl ?_ ?_
    · skip
      by_cases c101 : c.toNat = 101
      · have q101 : ((c.toNat : Int) == 101) = true := by rw [beq_iff_eq]; omega
        have es : shapeB false k l c.toNat = (false) := by unfold shapeB; rw [if_pos c101]
        rw [es]
        refine gA ?_
        exact ⟨rfl, Ext.refl _⟩
      have q101 : ((c.toNat : Int) == 101) = false := by rw [beq_eq_false_iff_ne]; omega
      by_cases c116 : c.toNat = 116
      · have q116 : ((c.toNat : Int) == 116) = true := by rw [beq_iff_eq]; omega
        have es : shapeB false k l c.toNat = (targetB k) := by unfold shapeB; rw [if_neg c101, if_pos c116]
        rw [es]
        refine gA ?_
        refine HCall.mk ((target_spec (d := .mk k nm n t ns l) (TRep.ext x1 (by simp only [TRep]; exact r0))).mono ?_)
        rintro e h2 ⟨rfl, x2⟩
        refine gA ?_
        exact ⟨rfl, x2⟩
      have q116 : ((c.toNat : Int) == 116) = false := by rw [beq_eq_false_iff_ne]; omega
      by_cases c102 : c.toNat = 102
      · have q102 : ((c.toNat : Int) == 102) = true := by rw [beq_iff_eq]; omega
        have es : shapeB false k l c.toNat = (false || (k == 42)) := by unfold shapeB; rw [if_neg c101, if_neg c116, if_pos c102]
        rw [es]
        refine gA ?_
        exact ⟨rfl, Ext.refl _⟩
      have q102 : ((c.toNat : Int) == 102) = false := by rw [beq_eq_false_iff_ne]; omega
      by_cases c98 : c.toNat = 98
      · have q98 : ((c.toNat : Int) == 98) = true := by rw [beq_iff_eq]; omega
        have es : shapeB false k l c.toNat = (k == 25) := by unfold shapeB; rw [if_neg c101, if_neg c116, if_neg c102, if_pos c98]
        rw [es]
        refine gA ?_
        exact ⟨rfl, Ext.refl _⟩
      have q98 : ((c.toNat : Int) == 98) = false := by rw [beq_eq_false_iff_ne]; omega
      by_cases c99 : c.toNat = 99
      · have q99 : ((c.toNat : Int) == 99) = true := by rw [beq_iff_eq]; omega
        have es : shapeB false k l c.toNat = ((k == 25) || (k == 42)) := by unfold shapeB; rw [if_neg c101, if_neg c116, if_neg c102, if_neg c98, if_pos c99]
        rw [es]
        cases v1 : (k == 25)
        · refine gA ?_
          exact ⟨rfl, Ext.refl _⟩
        · refine gA ?_
          exact ⟨rfl, Ext.refl _⟩
      have q99 : ((c.toNat : Int) == 99) = false := by rw [beq_eq_false_iff_ne]; omega
      by_cases c112 : c.toNat = 112
      · have q112 : ((c.toNat : Int) == 112) = true := by rw [beq_iff_eq]; omega
        have es : shapeB false k l c.toNat = (k == 9) := by unfold shapeB; rw [if_neg c101, if_neg c116, if_neg c102, if_neg c98, if_neg c99, if_pos c112]
        rw [es]
        refine gA ?_
        exact ⟨rfl, Ext.refl _⟩
      have q112 : ((c.toNat : Int) == 112) = false := by rw [beq_eq_false_iff_ne]; omega
      by_cases c100 : c.toNat = 100
      · have q100 : ((c.toNat : Int) == 100) = true := by rw [beq_iff_eq]; omega
        have es : shapeB false k l c.toNat = (k == 23) := by unfold shapeB; rw [if_neg c101, if_neg c116, if_neg c102, if_neg c98, if_neg c99, if_neg c112, if_pos c100]
        rw [es]
        refine gA ?_
        exact ⟨rfl, Ext.refl _⟩
      have q100 : ((c.toNat : Int) == 100) = false := by rw [beq_eq_false_iff_ne]; omega
      by_cases c118 : c.toNat = 118
      · have q118 : ((c.toNat : Int) == 118) = true := by rw [beq_iff_eq]; omega
        have es : shapeB false k l c.toNat = (false || (k == 42) || (k == 22)) := by unfold shapeB; rw [if_neg c101, if_neg c116, if_neg c102, if_neg c98, if_neg c99, if_neg c112, if_neg c100, if_pos c118]
        rw [es]
        cases v1 : (k == 42)
        · refine gA ?_
          exact ⟨rfl, Ext.refl _⟩
        · refine gA ?_
          exact ⟨rfl, Ext.refl _⟩
      have q118 : ((c.toNat : Int) == 118) = false := by rw [beq_eq_false_iff_ne]; omega
      by_cases c119 : c.toNat = 119
      · have q119 : ((c.toNat : Int) == 119) = true := by rw [beq_iff_eq]; omega
        have es : shapeB false k l c.toNat = (targetB k || ((k == 22) && ((l.length : Int) == 1) && ((kidLen l : Int) == 0))) := by unfold shapeB; rw [if_neg c101, if_neg c116, if_neg c102, if_neg c98, if_neg c99, if_neg c112, if_neg c100, if_neg c118, if_pos c119]
        rw [es]
        refine gA ?_
        refine HCall.mk ((target_spec (d := .mk k nm n t ns l) (TRep.ext x1 (by simp only [TRep]; exact r0))).mono ?_)
        rintro e h2 ⟨rfl, x2⟩
        have o2 := o1.ext x2
        rw [show NT.kind (.mk k nm n t ns l) = k from rfl]
        cases w1 : targetB k
        · cases w2 : (k == 22)
          · refine gA ?_
            exact ⟨rfl, x2⟩
          · cases w3 : ((l.length : Int) == 1)
            · refine gA ?_
              exact ⟨rfl, x2⟩
            · have hl0 : 0 < l.length := by rw [beq_iff_eq] at w3; omega
              refine gA ?_
              refine HIdx.mk 0 rfl hl0 ?_
              refine sl_some s2 hl0 fun p ep => ?_
              refine gA ?_
              refine tkids (s2.ext (x1.trans x2)) (s3.ext (x1.trans x2)) ep hl0 fun _ _ => ?_
              refine gA ?_
              exact ⟨rfl, x2⟩
        · refine gA ?_
          exact ⟨rfl, x2⟩
      have q119 : ((c.toNat : Int) == 119) = false := by rw [beq_eq_false_iff_ne]; omega
      by_cases c107 : c.toNat = 107
      · have q107 : ((c.toNat : Int) == 107) = true := by rw [beq_iff_eq]; omega
        have es : shapeB false k l c.toNat = (k == 37) := by unfold shapeB; rw [if_neg c101, if_neg c116, if_neg c102, if_neg c98, if_neg c99, if_neg c112, if_neg c100, if_neg c118, if_neg c119, if_pos c107]
        rw [es]
        refine gA ?_
        exact ⟨rfl, Ext.refl _⟩
      have q107 : ((c.toNat : Int) == 107) = false := by rw [beq_eq_false_iff_ne]; omega
      by_cases c115 : c.toNat = 115
      · have q115 : ((c.toNat : Int) == 115) = true := by rw [beq_iff_eq]; omega
        have es : shapeB false k l c.toNat = (stB k false) := by unfold shapeB; rw [if_neg c101, if_neg c116, if_neg c102, if_neg c98, if_neg c99, if_neg c112, if_neg c100, if_neg c118, if_neg c119, if_neg c107, if_pos c115]
        rw [es]
        have c120' : ((c.toNat : Int) == 120) = false := by rw [beq_eq_false_iff_ne]; omega
        unfold stB
        cases a0 : decide (k ≥ 22)
        · refine gA ?_
          exact ⟨rfl, Ext.refl _⟩
        · cases a1 : decide (k ≤ 40)
          · refine gA ?_
            exact ⟨rfl, Ext.refl _⟩
          · cases a2 : (k != 23)
            · refine gA ?_
              exact ⟨rfl, Ext.refl _⟩
            · cases a3 : (k != 37)
              · refine gA ?_
                exact ⟨rfl, Ext.refl _⟩
              · cases a5 : (k != 39)
                · refine gA ?_
                  exact ⟨(show [Value.bool ((c.toNat : Int) == 120)] = [Value.bool false] by rw [c120']), Ext.refl _⟩
                · refine gA ?_
                  exact ⟨rfl, Ext.refl _⟩
      have q115 : ((c.toNat : Int) == 115) = false := by rw [beq_eq_false_iff_ne]; omega
      by_cases c120 : c.toNat = 120
      · have q120 : ((c.toNat : Int) == 120) = true := by rw [beq_iff_eq]; omega
        have es : shapeB false k l c.toNat = (stB k true) := by unfold shapeB; rw [if_neg c101, if_neg c116, if_neg c102, if_neg c98, if_neg c99, if_neg c112, if_neg c100, if_neg c118, if_neg c119, if_neg c107, if_neg c115, if_pos c120]
        rw [es]
        unfold stB
        cases a0 : decide (k ≥ 22)
        · refine gA ?_
          exact ⟨rfl, Ext.refl _⟩
        · cases a1 : decide (k ≤ 40)
          · refine gA ?_
            exact ⟨rfl, Ext.refl _⟩
          · cases a2 : (k != 23)
            · refine gA ?_
              exact ⟨rfl, Ext.refl _⟩
            · cases a3 : (k != 37)
              · refine gA ?_
                exact ⟨rfl, Ext.refl _⟩
              · cases a5 : (k != 39)
                · refine gA ?_
                  exact ⟨(show [Value.bool ((c.toNat : Int) == 120)] = [Value.bool true] by rw [q120]), Ext.refl _⟩
                · refine gA ?_
                  exact ⟨rfl, Ext.refl _⟩
      have q120 : ((c.toNat : Int) == 120) = false := by rw [beq_eq_false_iff_ne]; omega
      have es : shapeB false k l c.toNat = false := by unfold shapeB; rw [if_neg c101, if_neg c116, if_neg c102, if_neg c98, if_neg c99, if_neg c112, if_neg c100, if_neg c118, if_neg c119, if_neg c107, if_neg c115, if_neg c120]
      rw [es]
      refine gA ?_
      exact ⟨rfl, Ext.refl _⟩
    · intro u2 h2 v7
      rintro ⟨e, x2⟩
      cases e
      have o2 := o1.ext x2
      cases hs : shapeB false k l c.toNat
      · refine gA ?_
        exact ⟨rfl, x1.trans x2⟩
      · refine gA ?_
        refine HCall.mk ((hm h2 (x1.trans x2)).mono ?_)
        rintro e h3 ⟨rfl, x3⟩
        refine gA ?_
        exact ⟨rfl, x1.trans (x2.trans x3)⟩
  · intro q1 q2 q3
    refine gB ?_
    rw [q3]
    refine cut_rule [7] (fun vs h' => vs = [.bool (shapeB false k l c.toNat)] ∧ Ext h1 h') rfl ?_ ?_
    · skip
      by_cases c101 : c.toNat = 101
      · have q101 : ((c.toNat : Int) == 101) = true := by rw [beq_iff_eq]; omega
        have es : shapeB false k l c.toNat = (false) := by unfold shapeB; rw [if_pos c101]
        rw [es]
        refine gA ?_
        exact ⟨rfl, Ext.refl _⟩
      have q101 : ((c.toNat : Int) == 101) = false := by rw [beq_eq_false_iff_ne]; omega
      by_cases c116 : c.toNat = 116
      · have q116 : ((c.toNat : Int) == 116) = true := by rw [beq_iff_eq]; omega
        have es : shapeB false k l c.toNat = (targetB k) := by unfold shapeB; rw [if_neg c101, if_pos c116]
        rw [es]
        refine gA ?_
        refine HCall.mk ((target_spec (d := .mk k nm n t ns l) (TRep.ext x1 (by simp only [TRep]; exact r0))).mono ?_)
        rintro e h2 ⟨rfl, x2⟩
        refine gA ?_
        exact ⟨rfl, x2⟩
      have q116 : ((c.toNat : Int) == 116) = false := by rw [beq_eq_false_iff_ne]; omega
      by_cases c102 : c.toNat = 102
      · have q102 : ((c.toNat : Int) == 102) = true := by rw [beq_iff_eq]; omega
        have es : shapeB false k l c.toNat = (false || (k == 42)) := by unfold shapeB; rw [if_neg c101, if_neg c116, if_pos c102]
        rw [es]
        refine gA ?_
        exact ⟨rfl, Ext.refl _⟩
      have q102 : ((c.toNat : Int) == 102) = false := by rw [beq_eq_false_iff_ne]; omega
      by_cases c98 : c.toNat = 98
      · have q98 : ((c.toNat : Int) == 98) = true := by rw [beq_iff_eq]; omega
        have es : shapeB false k l c.toNat = (k == 25) := by unfold shapeB; rw [if_neg c101, if_neg c116, if_neg c102, if_pos c98]
        rw [es]
        refine gA ?_
        exact ⟨rfl, Ext.refl _⟩
      have q98 : ((c.toNat : Int) == 98) = false := by rw [beq_eq_false_iff_ne]; omega
      by_cases c99 : c.toNat = 99
      · have q99 : ((c.toNat : Int) == 99) = true := by rw [beq_iff_eq]; omega
        have es : shapeB false k l c.toNat = ((k == 25) || (k == 42)) := by unfold shapeB; rw [if_neg c101, if_neg c116, if_neg c102, if_neg c98, if_pos c99]
        rw [es]
        cases v1 : (k == 25)
        · refine gA ?_
          exact ⟨rfl, Ext.refl _⟩
        · refine gA ?_
          exact ⟨rfl, Ext.refl _⟩
      have q99 : ((c.toNat : Int) == 99) = false := by rw [beq_eq_false_iff_ne]; omega
      by_cases c112 : c.toNat = 112
      · have q112 : ((c.toNat : Int) == 112) = true := by rw [beq_iff_eq]; omega
        have es : shapeB false k l c.toNat = (k == 9) := by unfold shapeB; rw [if_neg c101, if_neg c116, if_neg c102, if_neg c98, if_neg c99, if_pos c112]
        rw [es]
        refine gA ?_
        exact ⟨rfl, Ext.refl _⟩
      have q112 : ((c.toNat : Int) == 112) = false := by rw [beq_eq_false_iff_ne]; omega
      by_cases c100 : c.toNat = 100
      · have q100 : ((c.toNat : Int) == 100) = true := by rw [beq_iff_eq]; omega
        have es : shapeB false k l c.toNat = (k == 23) := by unfold shapeB; rw [if_neg c101, if_neg c116, if_neg c102, if_neg c98, if_neg c99, if_neg c112, if_pos c100]
        rw [es]
        refine gA ?_
        exact ⟨rfl, Ext.refl _⟩
      have q100 : ((c.toNat : Int) == 100) = false := by rw [beq_eq_false_iff_ne]; omega
      by_cases c118 : c.toNat = 118
      · have q118 : ((c.toNat : Int) == 118) = true := by rw [beq_iff_eq]; omega
        have es : shapeB false k l c.toNat = (false || (k == 42) || (k == 22)) := by unfold shapeB; rw [if_neg c101, if_neg c116, if_neg c102, if_neg c98, if_neg c99, if_neg c112, if_neg c100, if_pos c118]
        rw [es]
        cases v1 : (k == 42)
        · refine gA ?_
          exact ⟨rfl, Ext.refl _⟩
        · refine gA ?_
          exact ⟨rfl, Ext.refl _⟩
      have q118 : ((c.toNat : Int) == 118) = false := by rw [beq_eq_false_iff_ne]; omega
      by_cases c119 : c.toNat = 119
      · have q119 : ((c.toNat : Int) == 119) = true := by rw [beq_iff_eq]; omega
        have es : shapeB false k l c.toNat = (targetB k || ((k == 22) && ((l.length : Int) == 1) && ((kidLen l : Int) == 0))) := by unfold shapeB; rw [if_neg c101, if_neg c116, if_neg c102, if_neg c98, if_neg c99, if_neg c112, if_neg c100, if_neg c118, if_pos c119]
        rw [es]
        refine gA ?_
        refine HCall.mk ((target_spec (d := .mk k nm n t ns l) (TRep.ext x1 (by simp only [TRep]; exact r0))).mono ?_)
        rintro e h2 ⟨rfl, x2⟩
        have o2 := o1.ext x2
        rw [show NT.kind (.mk k nm n t ns l) = k from rfl]
        cases w1 : targetB k
        · cases w2 : (k == 22)
          · refine gA ?_
            exact ⟨rfl, x2⟩
          · cases w3 : ((l.length : Int) == 1)
            · refine gA ?_
              exact ⟨rfl, x2⟩
            · have hl0 : 0 < l.length := by rw [beq_iff_eq] at w3; omega
              refine gA ?_
              refine HIdx.mk 0 rfl hl0 ?_
              refine sl_some s2 hl0 fun p ep => ?_
              refine gA ?_
              refine tkids (s2.ext (x1.trans x2)) (s3.ext (x1.trans x2)) ep hl0 fun _ _ => ?_
              refine gA ?_
              exact ⟨rfl, x2⟩
        · refine gA ?_
          exact ⟨rfl, x2⟩
      have q119 : ((c.toNat : Int) == 119) = false := by rw [beq_eq_false_iff_ne]; omega
      by_cases c107 : c.toNat = 107
      · have q107 : ((c.toNat : Int) == 107) = true := by rw [beq_iff_eq]; omega
        have es : shapeB false k l c.toNat = (k == 37) := by unfold shapeB; rw [if_neg c101, if_neg c116, if_neg c102, if_neg c98, if_neg c99, if_neg c112, if_neg c100, if_neg c118, if_neg c119, if_pos c107]
        rw [es]
        refine gA ?_
        exact ⟨rfl, Ext.refl _⟩
      have q107 : ((c.toNat : Int) == 107) = false := by rw [beq_eq_false_iff_ne]; omega
      by_cases c115 : c.toNat = 115
      · have q115 : ((c.toNat : Int) == 115) = true := by rw [beq_iff_eq]; omega
        have es : shapeB false k l c.toNat = (stB k false) := by unfold shapeB; rw [if_neg c101, if_neg c116, if_neg c102, if_neg c98, if_neg c99, if_neg c112, if_neg c100, if_neg c118, if_neg c119, if_neg c107, if_pos c115]
        rw [es]
        have c120' : ((c.toNat : Int) == 120) = false := by rw [beq_eq_false_iff_ne]; omega
        unfold stB
        cases a0 : decide (k ≥ 22)
        · refine gA ?_
          exact ⟨rfl, Ext.refl _⟩
        · cases a1 : decide (k ≤ 40)
          · refine gA ?_
            exact ⟨rfl, Ext.refl _⟩
          · cases a2 : (k != 23)
            · refine gA ?_
              exact ⟨rfl, Ext.refl _⟩
            · cases a3 : (k != 37)
              · refine gA ?_
                exact ⟨rfl, Ext.refl _⟩
              · cases a5 : (k != 39)
                · refine gA ?_
                  exact ⟨(show [Value.bool ((c.toNat : Int) == 120)] = [Value.bool false] by rw [c120']), Ext.refl _⟩
                · refine gA ?_
                  exact ⟨rfl, Ext.refl _⟩
      have q115 : ((c.toNat : Int) == 115) = false := by rw [beq_eq_false_iff_ne]; omega
      by_cases c120 : c.toNat = 120
      · have q120 : ((c.toNat : Int) == 120) = true := by rw [beq_iff_eq]; omega
        have es : shapeB false k l c.toNat = (stB k true) := by unfold shapeB; rw [if_neg c101, if_neg c116, if_neg c102, if_neg c98, if_neg c99, if_neg c112, if_neg c100, if_neg c118, if_neg c119, if_neg c107, if_neg c115, if_pos c120]
        rw [es]
        unfold stB
        cases a0 : decide (k ≥ 22)
        · refine gA ?_
          exact ⟨rfl, Ext.refl _⟩
        · cases a1 : decide (k ≤ 40)
          · refine gA ?_
            exact ⟨rfl, Ext.refl _⟩
          · cases a2 : (k != 23)
            · refine gA ?_
              exact ⟨rfl, Ext.refl _⟩
            · cases a3 : (k != 37)
              · refine gA ?_
                exact ⟨rfl, Ext.refl _⟩
              · cases a5 : (k != 39)
                · refine gA ?_
                  exact ⟨(show [Value.bool ((c.toNat : Int) == 120)] = [Value.bool true] by rw [q120]), Ext.refl _⟩
                · refine gA ?_
                  exact ⟨rfl, Ext.refl _⟩
      have q120 : ((c.toNat : Int) == 120) = false := by rw [beq_eq_false_iff_ne]; omega
      have es : shapeB false k l c.toNat = false := by unfold shapeB; rw [if_neg c101, if_neg c116, if_neg c102, if_neg c98, if_neg c99, if_neg c112, if_neg c100, if_neg c118, if_neg c119, if_neg c107, if_neg c115, if_neg c120]
      rw [es]
      refine gA ?_
      exact ⟨rfl, Ext.refl _⟩
    · intro u2 h2 v7
      rintro ⟨e, x2⟩
      cases e
      have o2 := o1.ext x2
      cases hs : shapeB false k l c.toNat
      · refine gA ?_
        exact ⟨rfl, x1.trans x2⟩
      · refine gA ?_
        refine HCall.mk ((hm h2 (x1.trans x2)).mono ?_)
        rintro e h3 ⟨rfl, x3⟩
        refine gA ?_
        exact ⟨rfl, x1.trans (x2.trans x3)⟩
  · intro q1 q2 q3
    refine gB ?_
    rw [q3]
    refine cut_rule [7] (fun vs h' => vs = [.bool (shapeB true k l c.toNat)] ∧ Ext h1 h') rfl ?_ ?_
    · skip
      by_cases c101 : c.toNat = 101
      · have q101 : ((c.toNat : Int) == 101) = true := by rw [beq_iff_eq]; omega
        have es : shapeB true k l c.toNat = (true) := by unfold shapeB; rw [if_pos c101]
        rw [es]
        refine gA ?_
        exact ⟨rfl, Ext.refl _⟩
      have q101 : ((c.toNat : Int) == 101) = false := by rw [beq_eq_false_iff_ne]; omega
      by_cases c116 : c.toNat = 116
      · have q116 : ((c.toNat : Int) == 116) = true := by rw [beq_iff_eq]; omega
        have es : shapeB true k l c.toNat = (targetB k) := by unfold shapeB; rw [if_neg c101, if_pos c116]
        rw [es]
        refine gA ?_
        refine HCall.mk ((target_spec (d := .mk k nm n t ns l) (TRep.ext x1 (by simp only [TRep]; exact r0))).mono ?_)
        rintro e h2 ⟨rfl, x2⟩
        refine gA ?_
        exact ⟨rfl, x2⟩
      have q116 : ((c.toNat : Int) == 116) = false := by rw [beq_eq_false_iff_ne]; omega
      by_cases c102 : c.toNat = 102
      · have q102 : ((c.toNat : Int) == 102) = true := by rw [beq_iff_eq]; omega
        have es : shapeB true k l c.toNat = (true || (k == 42)) := by unfold shapeB; rw [if_neg c101, if_neg c116, if_pos c102]
        rw [es]
        refine gA ?_
        exact ⟨rfl, Ext.refl _⟩
      have q102 : ((c.toNat : Int) == 102) = false := by rw [beq_eq_false_iff_ne]; omega
      by_cases c98 : c.toNat = 98
      · have q98 : ((c.toNat : Int) == 98) = true := by rw [beq_iff_eq]; omega
        have es : shapeB true k l c.toNat = (k == 25) := by unfold shapeB; rw [if_neg c101, if_neg c116, if_neg c102, if_pos c98]
        rw [es]
        refine gA ?_
        exact ⟨rfl, Ext.refl _⟩
      have q98 : ((c.toNat : Int) == 98) = false := by rw [beq_eq_false_iff_ne]; omega
      by_cases c99 : c.toNat = 99
      · have q99 : ((c.toNat : Int) == 99) = true := by rw [beq_iff_eq]; omega
        have es : shapeB true k l c.toNat = ((k == 25) || (k == 42)) := by unfold shapeB; rw [if_neg c101, if_neg c116, if_neg c102, if_neg c98, if_pos c99]
        rw [es]
        cases v1 : (k == 25)
        · refine gA ?_
          exact ⟨rfl, Ext.refl _⟩
        · refine gA ?_
          exact ⟨rfl, Ext.refl _⟩
      have q99 : ((c.toNat : Int) == 99) = false := by rw [beq_eq_false_iff_ne]; omega
      by_cases c112 : c.toNat = 112
      · have q112 : ((c.toNat : Int) == 112) = true := by rw [beq_iff_eq]; omega
        have es : shapeB true k l c.toNat = (k == 9) := by unfold shapeB; rw [if_neg c101, if_neg c116, if_neg c102, if_neg c98, if_neg c99, if_pos c112]
        rw [es]
        refine gA ?_
        exact ⟨rfl, Ext.refl _⟩
      have q112 : ((c.toNat : Int) == 112) = false := by rw [beq_eq_false_iff_ne]; omega
      by_cases c100 : c.toNat = 100
      · have q100 : ((c.toNat : Int) == 100) = true := by rw [beq_iff_eq]; omega
        have es : shapeB true k l c.toNat = (k == 23) := by unfold shapeB; rw [if_neg c101, if_neg c116, if_neg c102, if_neg c98, if_neg c99, if_neg c112, if_pos c100]
        rw [es]
        refine gA ?_
        exact ⟨rfl, Ext.refl _⟩
      have q100 : ((c.toNat : Int) == 100) = false := by rw [beq_eq_false_iff_ne]; omega
      by_cases c118 : c.toNat = 118
      · have q118 : ((c.toNat : Int) == 118) = true := by rw [beq_iff_eq]; omega
        have es : shapeB true k l c.toNat = (true || (k == 42) || (k == 22)) := by unfold shapeB; rw [if_neg c101, if_neg c116, if_neg c102, if_neg c98, if_neg c99, if_neg c112, if_neg c100, if_pos c118]
        rw [es]
        cases v1 : (k == 42)
        · refine gA ?_
          exact ⟨rfl, Ext.refl _⟩
        · refine gA ?_
          exact ⟨rfl, Ext.refl _⟩
      have q118 : ((c.toNat : Int) == 118) = false := by rw [beq_eq_false_iff_ne]; omega
      by_cases c119 : c.toNat = 119
      · have q119 : ((c.toNat : Int) == 119) = true := by rw [beq_iff_eq]; omega
        have es : shapeB true k l c.toNat = (targetB k || ((k == 22) && ((l.length : Int) == 1) && ((kidLen l : Int) == 0))) := by unfold shapeB; rw [if_neg c101, if_neg c116, if_neg c102, if_neg c98, if_neg c99, if_neg c112, if_neg c100, if_neg c118, if_pos c119]
        rw [es]
        refine gA ?_
        refine HCall.mk ((target_spec (d := .mk k nm n t ns l) (TRep.ext x1 (by simp only [TRep]; exact r0))).mono ?_)
        rintro e h2 ⟨rfl, x2⟩
        have o2 := o1.ext x2
        rw [show NT.kind (.mk k nm n t ns l) = k from rfl]
        cases w1 : targetB k
        · cases w2 : (k == 22)
          · refine gA ?_
            exact ⟨rfl, x2⟩
          · cases w3 : ((l.length : Int) == 1)
            · refine gA ?_
              exact ⟨rfl, x2⟩
            · have hl0 : 0 < l.length := by rw [beq_iff_eq] at w3; omega
              refine gA ?_
              refine HIdx.mk 0 rfl hl0 ?_
              refine sl_some s2 hl0 fun p ep => ?_
              refine gA ?_
              refine tkids (s2.ext (x1.trans x2)) (s3.ext (x1.trans x2)) ep hl0 fun _ _ => ?_
              refine gA ?_
              exact ⟨rfl, x2⟩
        · refine gA ?_
          exact ⟨rfl, x2⟩
      have q119 : ((c.toNat : Int) == 119) = false := by rw [beq_eq_false_iff_ne]; omega
      by_cases c107 : c.toNat = 107
      · have q107 : ((c.toNat : Int) == 107) = true := by rw [beq_iff_eq]; omega
        have es : shapeB true k l c.toNat = (k == 37) := by unfold shapeB; rw [if_neg c101, if_neg c116, if_neg c102, if_neg c98, if_neg c99, if_neg c112, if_neg c100, if_neg c118, if_neg c119, if_pos c107]
        rw [es]
        refine gA ?_
        exact ⟨rfl, Ext.refl _⟩
      have q107 : ((c.toNat : Int) == 107) = false := by rw [beq_eq_false_iff_ne]; omega
      by_cases c115 : c.toNat = 115
      · have q115 : ((c.toNat : Int) == 115) = true := by rw [beq_iff_eq]; omega
        have es : shapeB true k l c.toNat = (stB k false) := by unfold shapeB; rw [if_neg c101, if_neg c116, if_neg c102, if_neg c98, if_neg c99, if_neg c112, if_neg c100, if_neg c118, if_neg c119, if_neg c107, if_pos c115]
        rw [es]
        have c120' : ((c.toNat : Int) == 120) = false := by rw [beq_eq_false_iff_ne]; omega
        unfold stB
        cases a0 : decide (k ≥ 22)
        · refine gA ?_
          exact ⟨rfl, Ext.refl _⟩
        · cases a1 : decide (k ≤ 40)
          · refine gA ?_
            exact ⟨rfl, Ext.refl _⟩
          · cases a2 : (k != 23)
            · refine gA ?_
              exact ⟨rfl, Ext.refl _⟩
            · cases a3 : (k != 37)
              · refine gA ?_
                exact ⟨rfl, Ext.refl _⟩
              · cases a5 : (k != 39)
                · refine gA ?_
                  exact ⟨(show [Value.bool ((c.toNat : Int) == 120)] = [Value.bool false] by rw [c120']), Ext.refl _⟩
                · refine gA ?_
                  exact ⟨rfl, Ext.refl _⟩
      have q115 : ((c.toNat : Int) == 115) = false := by rw [beq_eq_false_iff_ne]; omega
      by_cases c120 : c.toNat = 120
      · have q120 : ((c.toNat : Int) == 120) = true := by rw [beq_iff_eq]; omega
        have es : shapeB true k l c.toNat = (stB k true) := by unfold shapeB; rw [if_neg c101, if_neg c116, if_neg c102, if_neg c98, if_neg c99, if_neg c112, if_neg c100, if_neg c118, if_neg c119, if_neg c107, if_neg c115, if_pos c120]
        rw [es]
        unfold stB
        cases a0 : decide (k ≥ 22)
        · refine gA ?_
          exact ⟨rfl, Ext.refl _⟩
        · cases a1 : decide (k ≤ 40)
          · refine gA ?_
            exact ⟨rfl, Ext.refl _⟩
          · cases a2 : (k != 23)
            · refine gA ?_
              exact ⟨rfl, Ext.refl _⟩
            · cases a3 : (k != 37)
              · refine gA ?_
                exact ⟨rfl, Ext.refl _⟩
              · cases a5 : (k != 39)
                · refine gA ?_
                  exact ⟨(show [Value.bool ((c.toNat : Int) == 120)] = [Value.bool true] by rw [q120]), Ext.refl _⟩
                · refine gA ?_
                  exact ⟨rfl, Ext.refl _⟩
      have q120 : ((c.toNat : Int) == 120) = false := by rw [beq_eq_false_iff_ne]; omega
      have es : shapeB true k l c.toNat = false := by unfold shapeB; rw [if_neg c101, if_neg c116, if_neg c102, if_neg c98, if_neg c99, if_neg c112, if_neg c100, if_neg c118, if_neg c119, if_neg c107, if_neg c115, if_neg c120]
      rw [es]
      refine gA ?_
      exact ⟨rfl, Ext.refl _⟩
    · intro u2 h2 v7
      rintro ⟨e, x2⟩
      cases e
      have o2 := o1.ext x2
      cases hs : shapeB true k l c.toNat
      · refine gA ?_
        exact ⟨rfl, x1.trans x2⟩
      · refine gA ?_
        refine HCall.mk ((hm h2 (x1.trans x2)).mono ?_)
        rintro e h3 ⟨rfl, x3⟩
        refine gA ?_
        exact ⟨rfl, x1.trans (x2.trans x3)⟩
end Go.Proofs.YtlogpojkkbcpjaaGreat.Hc
/- slices.ContainsFunc over names; banned names; may$1. -/
set_option linter.unusedVariables false
set_option linter.unusedSimpArgs false
namespace Go.Proofs.YtlogpojkkbcpjaaGreat.Hc
open Go Go.H Go.Proofs
set_option maxRecDepth 100000
set_option maxHeartbeats 4000000
theorem any_take {ks : List ByteArray} {q : ByteArray → Bool} {i : Nat} (hi : i < ks.length) : (ks.take (i + 1)).any q = ((ks.take i).any q || q ks[i]) := by
  rw [take_succ' hi, List.any_append]; simp
theorem indexFunc_spec {fn : FuncId} {q : ByteArray → Bool} {h : Heap} {a : Option Addr} {c : Nat} {ks : List ByteArray} (hgo : goesIn Tryz.prog fn = true) (hq : ∀ s ∈ ks, HCalls Tryz.prog fn #[.string s] h fun e h' => e = .returned (.bool (q s)) ∧ h' = h)
    (x : Sl h 1 a ks.length c (ks.map .string)) (hn : ks.length ≤ 4194304) :
    HCalls Tryz.prog 37 #[.slice a ks.length c, .func (.func fn) #[] #[]] h fun e h' => ∃ i : Int, e = .returned (.int .i64 i) ∧ (0 ≤ i ↔ ks.any q = true) ∧ h' = h := by
  refine c37 (by simp) ?_
  refine gA ?_
  refine loop_rule [8] (fun vs h' => ∃ (i : Nat), vs = [.int .i64 i] ∧ i ≤ ks.length ∧ (ks.take i).any q = false ∧ h' = h)
    (fun vs _ => match vs with | [.int _ i] => ks.length - i.toNat | _ => 0) rfl ?_ ?_
  · exact ⟨0, rfl, by omega, by simp, rfl⟩
  intro u h1 v8
  rintro ⟨i, e, hi, hz, rfl⟩
  cases e
  refine gA ?_
  refine HIf.mk (fun hlt => ?_) (fun hlt => ?_)
  · have hi1 : i < ks.length := by have := of_decide_eq_true hlt; omega
    have hmu : ks.length - ((i : Int) + 1).toNat < ks.length - ((i : Int)).toNat := by omega
    have at1 := any_take (q := q) hi1
    refine gA ?_
    refine HIdx.mk i rfl hi1 ?_
    refine sl_some x hi1 fun p ep => ?_
    refine gA ?_
    refine x.load ep (by simpa using hi1) ?_
    rw [List.getElem_map]
    refine gA ?_
    refine HMust.mk hgo ?_
    refine gA ?_
    refine HCall.mk ((hq ks[i] (List.getElem_mem hi1)).mono ?_)
    rintro e h2 ⟨rfl, rfl⟩
    cases hb : q ks[i]
    · refine gA ?_
      exact ⟨⟨i + 1, rfl, by omega, by rw [at1, hz, hb]; rfl, rfl⟩, hmu⟩
    · refine gA ?_
      refine ⟨i, rfl, ⟨fun _ => ?_, fun _ => by omega⟩, rfl⟩
      rw [List.any_eq_true]
      exact ⟨ks[i], List.getElem_mem hi1, hb⟩
  · have hge := of_decide_eq_false hlt
    rw [List.take_of_length_le (by omega)] at hz
    refine gA ?_
    exact ⟨-1, rfl, ⟨fun h => by omega, fun h => by rw [hz] at h; cases h⟩, rfl⟩
theorem containsFunc_spec {fn : FuncId} {q : ByteArray → Bool} {h : Heap} {a : Option Addr} {c : Nat} {ks : List ByteArray} (hgo : goesIn Tryz.prog fn = true) (hq : ∀ s ∈ ks, HCalls Tryz.prog fn #[.string s] h fun e h' => e = .returned (.bool (q s)) ∧ h' = h)
    (x : Sl h 1 a ks.length c (ks.map .string)) (hn : ks.length ≤ 4194304) :
    HCalls Tryz.prog 20 #[.slice a ks.length c, .func (.func fn) #[] #[]] h fun e h' => e = .returned (.bool (ks.any q)) ∧ h' = h := by
  refine c20 (by simp) ?_
  refine gA ?_
  refine HCall.mk ((indexFunc_spec hgo hq x hn).mono ?_)
  rintro e h1 ⟨i, rfl, hi, rfl⟩
  have hd : decide (i ≥ 0) = ks.any q := by
    cases hk : ks.any q
    · exact decide_eq_false fun hh => by have := hi.1 hh; rw [hk] at this; cases this
    · exact decide_eq_true (hi.2 hk)
  refine gA ?_
  exact ⟨by rw [← hd]; rfl, rfl⟩
theorem noName_spec {h : Heap} (g : Glb h) (s : ByteArray) (hs : s.size ≤ 4194304) : HCalls Tryz.prog 32 #[.string s] h fun e h' => e = .returned (.bool (!isNameB s)) ∧ h' = h := by
  refine c32 (by simp) ?_
  refine gA ?_
  refine HCall.mk ((name_spec g s hs).mono ?_)
  rintro e h3 ⟨rfl, rfl⟩
  refine gA ?_
  exact ⟨rfl, rfl⟩
def bannedB (s : ByteArray) : Bool := strEq s ⟨#[101, 118, 97, 108]⟩ || strEq s ⟨#[97, 114, 103, 117, 109, 101, 110, 116, 115]⟩
theorem banned_spec (s : ByteArray) (h : Heap) : HCalls Tryz.prog 19 #[.string s] h fun e h' => e = .returned (.bool (bannedB s)) ∧ h' = h := by
  refine c19 (by simp) ?_
  unfold bannedB
  cases q1 : strEq s ⟨#[101, 118, 97, 108]⟩
  · refine gA ?_
    exact ⟨rfl, rfl⟩
  · refine gA ?_
    exact ⟨rfl, rfl⟩
end Go.Proofs.YtlogpojkkbcpjaaGreat.Hc
/- Whether a node may be: the pure law of tree.may. -/
set_option linter.unusedVariables false
set_option linter.unusedSimpArgs false
namespace Go.Proofs.YtlogpojkkbcpjaaGreat.Hc
open Go Go.H Go.Proofs
set_option maxRecDepth 100000
set_option maxHeartbeats 4000000
/-- What a form says of a node's kids: those that must be, those that may be often, whether some may. -/
def cutF (s : ByteArray) : List UInt8 × List UInt8 × Bool := Lib.cut s.data.toList [42]
def letters (s : ByteArray) : List UInt8 := (cutF s).1 ++ (cutF s).2.1
def letterAt (ls : List UInt8) (i : Nat) : UInt8 := (ls[min i (ls.length - 1)]?).getD 0
def evenB (t : ByteArray) : Bool := (ibits .and .i64 (t.size : Int) 1) == 0
/-- What a form says of a node without its kids. -/
def headOk (f : Form) (nm : ByteArray) (n : Int) (t : ByteArray) (ns : List ByteArray) (l : List NT) : Bool :=
  namedB nm f.name l && !decide (n < 0) && !decide (n > f.num) && evenB t && !(!strEq t ⟨#[]⟩ && !f.text) && !(decide ((ns.length : Int) > 0) && !f.names)
def lenOk (f : Form) (n : Nat) : Bool := !decide ((n : Int) < ((cutF f.l).1.length : Int)) && !(!(cutF f.l).2.2 && decide ((n : Int) > ((cutF f.l).1.length : Int)))
/-- A kid that may stand only once. -/
def emptyKid (k : Int) (d : NT) : Bool := (k == 35 && d.kind == 42) || (k == 36 && d.kind == 37 && kidKind d.l 0 == 42)
def empties (k : Int) (l : List NT) : Nat := (l.filter (emptyKid k)).length
mutual
def mayT : NT → Bool
  | .mk k nm n t ns l => match formOf k l.length with
    | none => false
    | some f => headOk f nm n t ns l && !(ns.any fun s => !isNameB s) && lenOk f l.length && kidsB (letters f.l) l 0 && decide ((empties k l : Int) < 2)
def kidsB (ls : List UInt8) : List NT → Nat → Bool
  | [], _ => true
  | d :: r, i => (shapeB (exprB d.kind) d.kind d.l (letterAt ls i).toNat && mayT d) && kidsB ls r (i + 1)
end
/-- Where often is allowed there is a letter for it. -/
theorem often_some {k : Int} {n : Nat} {f : Form} (h : formOf k n = some f) : (cutF f.l).2.2 = true → (cutF f.l).2.1 ≠ [] := by
  have dyn : ∀ (p : Prop) [Decidable p] (a b : ByteArray) (Q : ByteArray → Prop), Q a → Q b → Q (if p then a else b) := by
    intro p _ a b Q ha hb
    split
    · exact ha
    · exact hb
  unfold formOf at h
  by_cases h1 : k = 1
  · rw [if_pos h1] at h; cases h; decide +kernel
  rw [if_neg h1] at h
  by_cases h2 : k = 2
  · rw [if_pos h2] at h; cases h; decide +kernel
  rw [if_neg h2] at h
  by_cases h3 : k = 3
  · rw [if_pos h3] at h; cases h; decide +kernel
  rw [if_neg h3] at h
  by_cases h4 : k = 4
  · rw [if_pos h4] at h; cases h; decide +kernel
  rw [if_neg h4] at h
  by_cases h5 : k = 5
  · rw [if_pos h5] at h; cases h; decide +kernel
  rw [if_neg h5] at h
  by_cases h6 : k = 6
  · rw [if_pos h6] at h; cases h; decide +kernel
  rw [if_neg h6] at h
  by_cases h7 : k = 7
  · rw [if_pos h7] at h; cases h; decide +kernel
  rw [if_neg h7] at h
  by_cases h8 : k = 8
  · rw [if_pos h8] at h; cases h; decide +kernel
  rw [if_neg h8] at h
  by_cases h9 : k = 9
  · rw [if_pos h9] at h; cases h; decide +kernel
  rw [if_neg h9] at h
  by_cases h10 : k = 10
  · rw [if_pos h10] at h; cases h; decide +kernel
  rw [if_neg h10] at h
  by_cases h11 : k = 11
  · rw [if_pos h11] at h; cases h; decide +kernel
  rw [if_neg h11] at h
  by_cases h12 : k = 12
  · rw [if_pos h12] at h; cases h; decide +kernel
  rw [if_neg h12] at h
  by_cases h13 : k = 13
  · rw [if_pos h13] at h; cases h; decide +kernel
  rw [if_neg h13] at h
  by_cases h14 : k = 14
  · rw [if_pos h14] at h; cases h; decide +kernel
  rw [if_neg h14] at h
  by_cases h15 : k = 15
  · rw [if_pos h15] at h; cases h; decide +kernel
  rw [if_neg h15] at h
  by_cases h16 : k = 16
  · rw [if_pos h16] at h; cases h; decide +kernel
  rw [if_neg h16] at h
  by_cases h17 : k = 17
  · rw [if_pos h17] at h; cases h; decide +kernel
  rw [if_neg h17] at h
  by_cases h18 : k = 18
  · rw [if_pos h18] at h; cases h; decide +kernel
  rw [if_neg h18] at h
  by_cases h19 : k = 19
  · rw [if_pos h19] at h; cases h; decide +kernel
  rw [if_neg h19] at h
  by_cases h20 : k = 20
  · rw [if_pos h20] at h; cases h; decide +kernel
  rw [if_neg h20] at h
  by_cases h21 : k = 21
  · rw [if_pos h21] at h; cases h; decide +kernel
  rw [if_neg h21] at h
  by_cases h40 : k = 40
  · rw [if_pos h40] at h; cases h; decide +kernel
  rw [if_neg h40] at h
  by_cases h42 : k = 42
  · rw [if_pos h42] at h; cases h; decide +kernel
  rw [if_neg h42] at h
  unfold stmtOf at h
  by_cases h22 : k = 22
  · rw [if_pos h22] at h; cases h; decide +kernel
  rw [if_neg h22] at h
  by_cases h23 : k = 23
  · rw [if_pos h23] at h; cases h; refine dyn _ _ _ (fun s => (cutF s).2.2 = true → (cutF s).2.1 ≠ []) (by decide +kernel) (by decide +kernel)
  rw [if_neg h23] at h
  by_cases h24 : k = 24
  · rw [if_pos h24] at h; cases h; decide +kernel
  rw [if_neg h24] at h
  by_cases h25 : k = 25
  · rw [if_pos h25] at h; cases h; decide +kernel
  rw [if_neg h25] at h
  by_cases h26 : k = 26
  · rw [if_pos h26] at h; cases h; refine dyn _ _ _ (fun s => (cutF s).2.2 = true → (cutF s).2.1 ≠ []) (by decide +kernel) (by decide +kernel)
  rw [if_neg h26] at h
  by_cases h27 : k = 27
  · rw [if_pos h27] at h; cases h; decide +kernel
  rw [if_neg h27] at h
  by_cases h28 : k = 28
  · rw [if_pos h28] at h; cases h; decide +kernel
  rw [if_neg h28] at h
  by_cases h29 : k = 29
  · rw [if_pos h29] at h; cases h; decide +kernel
  rw [if_neg h29] at h
  by_cases h30 : k = 30
  · rw [if_pos h30] at h; cases h; decide +kernel
  rw [if_neg h30] at h
  by_cases h31 : k = 31
  · rw [if_pos h31] at h; cases h; decide +kernel
  rw [if_neg h31] at h
  by_cases h32 : k = 32
  · rw [if_pos h32] at h; cases h; decide +kernel
  rw [if_neg h32] at h
  by_cases h33 : k = 33
  · rw [if_pos h33] at h; cases h; refine dyn _ _ _ (fun s => (cutF s).2.2 = true → (cutF s).2.1 ≠ []) (by decide +kernel) (by decide +kernel)
  rw [if_neg h33] at h
  by_cases h34 : k = 34
  · rw [if_pos h34] at h; cases h; decide +kernel
  rw [if_neg h34] at h
  by_cases h35 : k = 35
  · rw [if_pos h35] at h; cases h; decide +kernel
  rw [if_neg h35] at h
  by_cases h36 : k = 36
  · rw [if_pos h36] at h; cases h; decide +kernel
  rw [if_neg h36] at h
  by_cases h37 : k = 37
  · rw [if_pos h37] at h; cases h; decide +kernel
  rw [if_neg h37] at h
  by_cases h38 : k = 38
  · rw [if_pos h38] at h; cases h; decide +kernel
  rw [if_neg h38] at h
  by_cases h39 : k = 39
  · rw [if_pos h39] at h; cases h; decide +kernel
  rw [if_neg h39] at h
  by_cases h41 : k = 41
  · rw [if_pos h41] at h; cases h; decide +kernel
  rw [if_neg h41] at h
  cases h
/-- Forms are short. -/
theorem form_small {k : Int} {n : Nat} {f : Form} (h : formOf k n = some f) : f.name.size ≤ 100 ∧ f.l.size ≤ 10 := by
  have dyn : ∀ (p : Prop) [Decidable p] (a b : ByteArray), a.size ≤ 10 → b.size ≤ 10 → (if p then a else b).size ≤ 10 := by
    intro p _ a b ha hb
    split
    · exact ha
    · exact hb
  unfold formOf at h
  by_cases h1 : k = 1
  · rw [if_pos h1] at h; cases h; exact ⟨by decide +kernel, by decide +kernel⟩
  rw [if_neg h1] at h
  by_cases h2 : k = 2
  · rw [if_pos h2] at h; cases h; exact ⟨by decide +kernel, by decide +kernel⟩
  rw [if_neg h2] at h
  by_cases h3 : k = 3
  · rw [if_pos h3] at h; cases h; exact ⟨by decide +kernel, by decide +kernel⟩
  rw [if_neg h3] at h
  by_cases h4 : k = 4
  · rw [if_pos h4] at h; cases h; exact ⟨by decide +kernel, by decide +kernel⟩
  rw [if_neg h4] at h
  by_cases h5 : k = 5
  · rw [if_pos h5] at h; cases h; exact ⟨by decide +kernel, by decide +kernel⟩
  rw [if_neg h5] at h
  by_cases h6 : k = 6
  · rw [if_pos h6] at h; cases h; exact ⟨by decide +kernel, by decide +kernel⟩
  rw [if_neg h6] at h
  by_cases h7 : k = 7
  · rw [if_pos h7] at h; cases h; exact ⟨by decide +kernel, by decide +kernel⟩
  rw [if_neg h7] at h
  by_cases h8 : k = 8
  · rw [if_pos h8] at h; cases h; exact ⟨by decide +kernel, by decide +kernel⟩
  rw [if_neg h8] at h
  by_cases h9 : k = 9
  · rw [if_pos h9] at h; cases h; exact ⟨by decide +kernel, by decide +kernel⟩
  rw [if_neg h9] at h
  by_cases h10 : k = 10
  · rw [if_pos h10] at h; cases h; exact ⟨by decide +kernel, by decide +kernel⟩
  rw [if_neg h10] at h
  by_cases h11 : k = 11
  · rw [if_pos h11] at h; cases h; exact ⟨by decide +kernel, by decide +kernel⟩
  rw [if_neg h11] at h
  by_cases h12 : k = 12
  · rw [if_pos h12] at h; cases h; exact ⟨by decide +kernel, by decide +kernel⟩
  rw [if_neg h12] at h
  by_cases h13 : k = 13
  · rw [if_pos h13] at h; cases h; exact ⟨by decide +kernel, by decide +kernel⟩
  rw [if_neg h13] at h
  by_cases h14 : k = 14
  · rw [if_pos h14] at h; cases h; exact ⟨by decide +kernel, by decide +kernel⟩
  rw [if_neg h14] at h
  by_cases h15 : k = 15
  · rw [if_pos h15] at h; cases h; exact ⟨by decide +kernel, by decide +kernel⟩
  rw [if_neg h15] at h
  by_cases h16 : k = 16
  · rw [if_pos h16] at h; cases h; exact ⟨by decide +kernel, by decide +kernel⟩
  rw [if_neg h16] at h
  by_cases h17 : k = 17
  · rw [if_pos h17] at h; cases h; exact ⟨by decide +kernel, by decide +kernel⟩
  rw [if_neg h17] at h
  by_cases h18 : k = 18
  · rw [if_pos h18] at h; cases h; exact ⟨by decide +kernel, by decide +kernel⟩
  rw [if_neg h18] at h
  by_cases h19 : k = 19
  · rw [if_pos h19] at h; cases h; exact ⟨by decide +kernel, by decide +kernel⟩
  rw [if_neg h19] at h
  by_cases h20 : k = 20
  · rw [if_pos h20] at h; cases h; exact ⟨by decide +kernel, by decide +kernel⟩
  rw [if_neg h20] at h
  by_cases h21 : k = 21
  · rw [if_pos h21] at h; cases h; exact ⟨by decide +kernel, by decide +kernel⟩
  rw [if_neg h21] at h
  by_cases h40 : k = 40
  · rw [if_pos h40] at h; cases h; exact ⟨by decide +kernel, by decide +kernel⟩
  rw [if_neg h40] at h
  by_cases h42 : k = 42
  · rw [if_pos h42] at h; cases h; exact ⟨by decide +kernel, by decide +kernel⟩
  rw [if_neg h42] at h
  unfold stmtOf at h
  by_cases h22 : k = 22
  · rw [if_pos h22] at h; cases h; exact ⟨by decide +kernel, by decide +kernel⟩
  rw [if_neg h22] at h
  by_cases h23 : k = 23
  · rw [if_pos h23] at h; cases h; exact ⟨by dsimp only; decide +kernel, dyn _ _ _ (by decide +kernel) (by decide +kernel)⟩
  rw [if_neg h23] at h
  by_cases h24 : k = 24
  · rw [if_pos h24] at h; cases h; exact ⟨by decide +kernel, by decide +kernel⟩
  rw [if_neg h24] at h
  by_cases h25 : k = 25
  · rw [if_pos h25] at h; cases h; exact ⟨by decide +kernel, by decide +kernel⟩
  rw [if_neg h25] at h
  by_cases h26 : k = 26
  · rw [if_pos h26] at h; cases h; exact ⟨by dsimp only; decide +kernel, dyn _ _ _ (by decide +kernel) (by decide +kernel)⟩
  rw [if_neg h26] at h
  by_cases h27 : k = 27
  · rw [if_pos h27] at h; cases h; exact ⟨by decide +kernel, by decide +kernel⟩
  rw [if_neg h27] at h
  by_cases h28 : k = 28
  · rw [if_pos h28] at h; cases h; exact ⟨by decide +kernel, by decide +kernel⟩
  rw [if_neg h28] at h
  by_cases h29 : k = 29
  · rw [if_pos h29] at h; cases h; exact ⟨by decide +kernel, by decide +kernel⟩
  rw [if_neg h29] at h
  by_cases h30 : k = 30
  · rw [if_pos h30] at h; cases h; exact ⟨by decide +kernel, by decide +kernel⟩
  rw [if_neg h30] at h
  by_cases h31 : k = 31
  · rw [if_pos h31] at h; cases h; exact ⟨by decide +kernel, by decide +kernel⟩
  rw [if_neg h31] at h
  by_cases h32 : k = 32
  · rw [if_pos h32] at h; cases h; exact ⟨by decide +kernel, by decide +kernel⟩
  rw [if_neg h32] at h
  by_cases h33 : k = 33
  · rw [if_pos h33] at h; cases h; exact ⟨by dsimp only; decide +kernel, dyn _ _ _ (by decide +kernel) (by decide +kernel)⟩
  rw [if_neg h33] at h
  by_cases h34 : k = 34
  · rw [if_pos h34] at h; cases h; exact ⟨by decide +kernel, by decide +kernel⟩
  rw [if_neg h34] at h
  by_cases h35 : k = 35
  · rw [if_pos h35] at h; cases h; exact ⟨by decide +kernel, by decide +kernel⟩
  rw [if_neg h35] at h
  by_cases h36 : k = 36
  · rw [if_pos h36] at h; cases h; exact ⟨by decide +kernel, by decide +kernel⟩
  rw [if_neg h36] at h
  by_cases h37 : k = 37
  · rw [if_pos h37] at h; cases h; exact ⟨by decide +kernel, by decide +kernel⟩
  rw [if_neg h37] at h
  by_cases h38 : k = 38
  · rw [if_pos h38] at h; cases h; exact ⟨by decide +kernel, by decide +kernel⟩
  rw [if_neg h38] at h
  by_cases h39 : k = 39
  · rw [if_pos h39] at h; cases h; exact ⟨by decide +kernel, by decide +kernel⟩
  rw [if_neg h39] at h
  by_cases h41 : k = 41
  · rw [if_pos h41] at h; cases h; exact ⟨by decide +kernel, by decide +kernel⟩
  rw [if_neg h41] at h
  cases h
theorem kidsB_append (ls : List UInt8) : ∀ (l m : List NT) (i : Nat), kidsB ls (l ++ m) i = (kidsB ls l i && kidsB ls m (i + l.length))
  | [], m, i => by simp [kidsB]
  | d :: l, m, i => by
    have h1 := kidsB_append ls l m (i + 1)
    simp only [List.cons_append, kidsB, h1, List.length_cons, Bool.and_assoc]
    rw [show i + 1 + l.length = i + (l.length + 1) by omega]
theorem kidsB_take (ls : List UInt8) (l : List NT) (i : Nat) (hi : i < l.length) : kidsB ls (l.take (i + 1)) 0 = (kidsB ls (l.take i) 0 && (shapeB (exprB l[i].kind) l[i].kind l[i].l (letterAt ls i).toNat && mayT l[i])) := by
  rw [take_succ' hi, kidsB_append]
  have e : (l.take i).length = i := by rw [List.length_take]; omega
  rw [e, Nat.zero_add]
  simp only [kidsB, Bool.and_true]
theorem kidsB_no {ls : List UInt8} {l : List NT} {i : Nat} (h : kidsB ls (l.take i) 0 = false) : kidsB ls l 0 = false := by
  rw [← List.take_append_drop i l, kidsB_append, h]; rfl
theorem empties_take (k : Int) (l : List NT) (i : Nat) (hi : i < l.length) : empties k (l.take (i + 1)) = empties k (l.take i) + (if emptyKid k l[i] = true then 1 else 0) := by
  unfold empties
  rw [take_succ' hi, List.filter_append, List.length_append]
  congr 1
  by_cases h : emptyKid k l[i] = true
  · rw [if_pos h]; simp [h]
  · rw [if_neg h]; simp [h]
theorem cut_len {s : ByteArray} {a b : List UInt8} {m : Bool} (e : cutF s = (a, b, m)) : a.length ≤ s.size ∧ b.length ≤ s.size := by
  unfold cutF Lib.cut at e
  have hs : s.size = s.data.toList.length := rfl
  split at e
  · cases e
    rw [List.length_take, List.length_drop]; omega
  · cases e
    exact ⟨by omega, by simp⟩
end Go.Proofs.YtlogpojkkbcpjaaGreat.Hc
/- tree.may. -/
set_option linter.unusedVariables false
set_option linter.unusedSimpArgs false
namespace Go.Proofs.YtlogpojkkbcpjaaGreat.Hc
open Go Go.H Go.Proofs
set_option maxRecDepth 100000
set_option maxHeartbeats 4000000
theorem even_spec (t : ByteArray) (h : Heap) : HCalls Tryz.prog 31 #[.string t] h fun e h' => e = .returned (.bool (evenB t)) ∧ h' = h := by
  refine c31 (by simp) ?_
  refine gA ?_
  exact ⟨rfl, rfl⟩
theorem case_len (d : NT) (h : mayT d = true) (hk : d.kind = 37) : 0 < d.l.length := by
  cases d with
  | mk k nm n t ns l =>
  simp only [NT.kind, NT.l] at hk ⊢
  subst hk
  have e : formOf 37 l.length = some ⟨⟨#[]⟩, 0, false, false, ⟨#[102, 42, 115]⟩⟩ := rfl
  simp only [mayT, e, Bool.and_eq_true] at h
  have h1 := h.1.1.2
  unfold lenOk at h1
  rw [Bool.and_eq_true] at h1
  have h2 := h1.1
  have e3 : (cutF ⟨#[102, 42, 115]⟩).1.length = 1 := by decide +kernel
  simp only [e3, Bool.not_eq_true', decide_eq_false_iff_not] at h2
  omega
theorem may_spec : ∀ (m : Nat) (d : NT) (_ : cnt d = m) (h : Heap) (cs : List Value) (_ : TRep h d cs) (_ : Glb h) (_ : cnt d ≤ 4194304),
    HCalls Tryz.prog 15 #[.agg cs.toArray] h fun e h' => e = .returned (.bool (mayT d)) ∧ Ext h h' := by
  intro m
  induction m using Nat.strongRecOn with
  | ind m ih =>
  intro d hm h cs r g hc
  cases d with
  | mk k nm n t ns l =>
  simp only [TRep] at r
  have r0 := r
  obtain ⟨b1, b2, b3, b4, b5, b6, b7, ka, kc, la, lc, ys, rfl, s1, s2, s3⟩ := r
  refine c15 (by simp) ?_
  refine gA ?_
  refine new_var (e := 25) [.int .i64 k, .string nm, .int .i64 n, .string t, .slice ka ns.length kc, .slice la l.length lc] rfl ?_
  intro h1 bn o1 x1 z1 hbn
  refine gA ?_
  refine HCall.mk ((of_spec (d := .mk k nm n t ns l) (TRep.ext x1 (by simp only [TRep]; exact r0))).mono ?_)
  rintro e h2 ⟨⟨v, rfl, ⟨hv5, hv1⟩, hv⟩, x2⟩
  have o2 := o1.ext x2
  clear o1
  rw [show NT.kind (.mk k nm n t ns l) = k from rfl, show NT.l (.mk k nm n t ns l) = l from rfl] at hv ⊢
  refine gA ?_
  refine new_var (e := 55) zeroF rfl ?_
  intro h3 bf of x3 z3 hbf
  have o3 := o2.ext x3
  clear o2
  refine gA ?_
  refine HMust.mk (by simpa using hv5) ?_
  refine store_blk of (by simp [hv5]) (by simpa using hv1) ?_
  intro h4 f4 z4 o4
  have of4 : BlkW h4 bf 55 v := by
    have e : (zeroF : List Value).drop (0 + v.toArray.toList.length) = [] := by simp [hv5]
    rw [e] at o4
    simpa using o4
  have x24 : Ext h2 h4 := x3.offNew f4 (by omega)
  have o34 : BlkW h4 bn 25 [.int .i64 k, .string nm, .int .i64 n, .string t, .slice ka ns.length kc, .slice la l.length lc] := o3.of (f4.2 _ o3.lt (by have := o3.lt; have := x2.1; have := z1; omega))
  clear o3 o4 of
  have x04 := x1.trans (x2.trans x24)
  have g4 := g.ext x04
  simp only [mayT]
  cases hf : formOf k l.length with
  | none =>
    refine gA ?_
    exact ⟨rfl, x04⟩
  | some f =>
  obtain rfl := hv f hf
  dsimp only
  unfold Form.cells at of4
  have fs := form_small hf
  have q0 : (!(some f).isSome) = false := rfl
  refine gB ?_
  refine cut_rule [] (fun vs h' => vs = [] ∧ headOk f nm n t ns l = true ∧ Ext h4 h') rfl ?_ ?_
  · unfold headOk
    refine gA ?_
    refine HCall.mk ((named_spec (d := .mk k nm n t ns l) g4 (TRep.ext x04 (by simp only [TRep]; exact r0)) f.name (by omega)).mono ?_)
    rintro e h5 ⟨rfl, x5⟩
    have o5 := o34.ext x5
    have f5 := of4.ext x5
    rw [show NT.name (.mk k nm n t ns l) = nm from rfl, show NT.l (.mk k nm n t ns l) = l from rfl]
    cases q1 : namedB nm f.name l
    · refine gA ?_
      exact ⟨rfl, x04.trans x5⟩
    cases q2 : decide (n < 0)
    rotate_left
    · refine gA ?_
      exact ⟨rfl, x04.trans x5⟩
    cases q3 : decide (n > f.num)
    rotate_left
    · refine gA ?_
      exact ⟨rfl, x04.trans x5⟩
    refine gA ?_
    refine HCall.mk ((even_spec t h5).mono ?_)
    rintro e h6 ⟨rfl, rfl⟩
    cases q4 : evenB t
    · refine gA ?_
      exact ⟨rfl, x04.trans x5⟩
    cases q5 : (!strEq t ⟨#[]⟩)
    · skip
      cases q7 : decide ((ns.length : Int) > 0)
      · refine gA ?_
        exact ⟨rfl, rfl, x5⟩
      · cases q8 : f.names
        · have q8' : (!f.names) = true := by rw [q8]; rfl
          refine gA ?_
          exact ⟨rfl, x04.trans x5⟩
        · have q8' : (!f.names) = false := by rw [q8]; rfl
          refine gA ?_
          exact ⟨rfl, rfl, x5⟩
    · cases q6 : f.text
      · have q6' : (!f.text) = true := by rw [q6]; rfl
        refine gA ?_
        exact ⟨rfl, x04.trans x5⟩
      · have q6' : (!f.text) = false := by rw [q6]; rfl
        cases q7 : decide ((ns.length : Int) > 0)
        · refine gA ?_
          exact ⟨rfl, rfl, x5⟩
        · cases q8 : f.names
          · have q8' : (!f.names) = true := by rw [q8]; rfl
            refine gA ?_
            exact ⟨rfl, x04.trans x5⟩
          · have q8' : (!f.names) = false := by rw [q8]; rfl
            refine gA ?_
            exact ⟨rfl, rfl, x5⟩
  · intro u5 h5
    rintro ⟨-, hho, x5⟩
    rw [hho]
    have x05 := x04.trans x5
    have o5 := o34.ext x5
    have f5 := of4.ext x5
    have g5 := g4.ext x5
    clear o34 of4
    refine gA ?_
    refine HCall.mk ((containsFunc_spec (q := fun s => !isNameB s) (by kernel_rfl) (fun s hs => noName_spec g5 s (b7 s hs)) (s1.ext x05) b5).mono ?_)
    rintro e h6 ⟨rfl, rfl⟩
    cases q9 : ns.any fun s => !isNameB s
    rotate_left
    · refine gA ?_
      exact ⟨rfl, x05⟩
    refine gA ?_
    refine HCall.mk ((cut_spec g5 f.l ⟨#[42]⟩ (by omega)).mono ?_)
    rintro e h7 ⟨rfl, rfl⟩
    have ec : Lib.cut f.l.data.toList (⟨#[42]⟩ : ByteArray).data.toList = cutF f.l := rfl
    rw [ec]
    have hoft := often_some hf
    obtain ⟨fx, fo, fm, efc⟩ : ∃ fx fo fm, cutF f.l = (fx, fo, fm) := ⟨_, _, _, rfl⟩
    have elt : letters f.l = fx ++ fo := by unfold letters; rw [efc]
    rw [efc] at hoft ⊢
    dsimp only at hoft ⊢
    have sz : (⟨fx.toArray⟩ : ByteArray).size = fx.length := rfl
    have elo : lenOk f l.length = (!decide ((l.length : Int) < ((⟨fx.toArray⟩ : ByteArray).size : Int)) && !(!fm && decide ((l.length : Int) > ((⟨fx.toArray⟩ : ByteArray).size : Int)))) := by unfold lenOk; rw [efc]; rfl
    cases q10 : decide ((l.length : Int) < ((⟨fx.toArray⟩ : ByteArray).size : Int))
    rotate_left
    · have el : lenOk f l.length = false := by rw [elo, q10]; rfl
      rw [el]
      refine gA ?_
      exact ⟨rfl, x05⟩
    refine gB ?_
    refine cut_rule [] (fun vs h' => vs = [] ∧ lenOk f l.length = true ∧ h' = h7) rfl ?_ ?_
    · cases fm
      · cases q11 : decide ((l.length : Int) > ((⟨fx.toArray⟩ : ByteArray).size : Int))
        · have el : lenOk f l.length = true := by rw [elo, q10, q11]; rfl
          refine gA ?_
          exact ⟨rfl, el, rfl⟩
        · have el : lenOk f l.length = false := by rw [elo, q10, q11]; rfl
          rw [el]
          refine gA ?_
          exact ⟨rfl, x05⟩
      · have el : lenOk f l.length = true := by rw [elo, q10]; rfl
        refine gA ?_
        exact ⟨rfl, el, rfl⟩
    intro u8 h8
    rintro ⟨-, hlo, rfl⟩
    rw [hlo]
    obtain ⟨cl1, cl2⟩ := cut_len efc
    have ecat : (⟨fx.toArray⟩ ++ ⟨fo.toArray⟩ : ByteArray) = ⟨(letters f.l).toArray⟩ := by rw [elt]; apply ByteArray.ext; simp
    have hne : ∀ i, i < l.length → 0 < (letters f.l).length := by
      intro i hi
      rw [elt, List.length_append]
      cases hfm : fm
      · rw [elo, hfm] at hlo
        simp only [Bool.not_false, Bool.true_and, Bool.and_eq_true, Bool.not_eq_true', decide_eq_false_iff_not] at hlo
        have := hlo.2
        rw [sz] at this
        omega
      · have := List.length_pos_iff.2 (hoft hfm)
        omega
    refine gA ?_
    refine loop_rule [8, 96] (fun vs h' => ∃ (i : Nat), vs = [.int .i64 (empties k (l.take i)), .int .i64 i] ∧ i ≤ l.length ∧ kidsB (letters f.l) (l.take i) 0 = true ∧ Ext h8 h')
      (fun vs _ => match vs with | [_, .int _ i] => l.length - i.toNat | _ => 0) rfl ?_ ?_
    · exact ⟨0, rfl, by omega, rfl, Ext.refl _⟩
    intro u9 h9 v8 v96
    rintro ⟨i, e, hi, hkb, x9⟩
    cases e
    refine gA ?_
    refine HIf.mk (fun hlt => ?_) (fun hlt => ?_)
    · have hi1 : i < l.length := by have := of_decide_eq_true hlt; omega
      have hmu : l.length - ((i : Int) + 1).toNat < l.length - ((i : Int)).toNat := by omega
      have kt := kidsB_take (letters f.l) l i hi1
      have et := empties_take k l i hi1
      have hcg := cnts_get l i hi1
      have hln := hne i hi1
      simp only [cnt] at hm hc
      refine gA ?_
      refine HIdx.mk i rfl hi1 ?_
      refine sl_some s2 hi1 fun p ep => ?_
      refine gA ?_
      refine tload' s2 s3 (x05.trans x9) ep hi1 fun cs rt => ?_
      refine gA ?_
      refine new_var (e := 25) zeroT rfl ?_
      intro h10 bk ok x10 z10 hbk
      refine gA ?_
      have hcl := rt.len
      refine HMust.mk (by simpa using hcl) ?_
      refine store_blk ok (by simp [hcl]) (by simpa using rt.one) ?_
      intro h11 f11 z11 o11
      have ok' : BlkW h11 bk 25 cs := by
        have e : (zeroT : List Value).drop (0 + cs.toArray.toList.length) = [] := by simp [hcl]
        rw [e] at o11
        simpa using o11
      have x911 : Ext h9 h11 := x10.offNew f11 (by omega)
      clear ok o11
      refine gA ?_
      refine HMust.mk (show fx.length + fo.length ≤ 9223372036854775807 by omega) ?_
      refine gA ?_
      refine HMust.mk (show fx.length + fo.length ≤ 9223372036854775807 by omega) ?_
      rw [ecat]
      have zl : (⟨(letters f.l).toArray⟩ : ByteArray).size = (letters f.l).length := rfl
      have hll : (letters f.l).length ≤ 20 := by rw [elt, List.length_append]; omega
      generalize hLS : letters f.l = ls at *
      refine gA ?_
      have hmi : min i (ls.length - 1) < ls.length := by omega
      refine HIdx.mk (min i (ls.length - 1)) (by show (if (ls.length : Int) - 1 < (i : Int) then (ls.length : Int) - 1 else (i : Int)) = _; split <;> omega) hmi ?_
      rw [at_l hmi]
      have ela : letterAt ls i = ls[min i (ls.length - 1)] := by unfold letterAt; rw [List.getElem?_eq_getElem hmi]; rfl
      have kl1 : cnt l[i] < m := by omega
      refine gA ?_
      refine blk_ldN ok' hcl ?_
      refine gA ?_
      refine HCall.to #[.agg cs.toArray, byteV ls[min i (ls.length - 1)]] rfl ((fits_spec (mb := mayT l[i]) (rt.ext (x05.trans (x9.trans x911))) ls[min i (ls.length - 1)] (fun h' e' => ih (cnt l[i]) kl1 l[i] rfl h' cs (rt.ext (x05.trans (x9.trans (x911.trans e')))) (g5.ext (x9.trans (x911.trans e'))) (by omega))).mono ?_)
      rintro e h12 ⟨rfl, x12⟩
      rw [← ela]
      have ok2 := ok'.ext x12
      cases hb : (shapeB (exprB l[i].kind) l[i].kind l[i].l (letterAt ls i).toNat && mayT l[i])
      · have e0 : kidsB ls l 0 = false := kidsB_no (i := i + 1) (by rw [kt, hb, Bool.and_false])
        rw [e0]
        refine gA ?_
        exact ⟨rfl, x05.trans (x9.trans (x911.trans x12))⟩
      have o12 := o5.ext (x9.trans (x911.trans x12))
      have kt' : kidsB ls (l.take (i + 1)) 0 = true := by rw [kt, hkb, hb]; rfl
      have xx : Ext h8 h12 := x9.trans (x911.trans x12)
      have rt0 := rt.ext (x05.trans xx)
      rw [Bool.and_eq_true] at hb
      have hkid : l[i].kind = 37 → 0 < l[i].l.length := case_len l[i] hb.2
      cases hd : l[i] with
      | mk kk knm kn ktx kns kl =>
      rw [hd] at rt rt0 et hkid
      simp only [TRep] at rt0
      obtain ⟨_, _, _, _, _, _, _, ka', kc', la', lc', ys', rfl, t1, t2, t3⟩ := rt0
      simp only [NT.kind, NT.l] at hkid
      have hem : empties k (l.take i) ≤ 4194304 := by
        unfold empties
        have := List.length_filter_le (emptyKid k) (l.take i)
        rw [List.length_take] at this
        omega
      have em : emptyKid k (.mk kk knm kn ktx kns kl) = ((k == 35 && kk == 42) || (k == 36 && kk == 37 && kidKind kl 0 == 42)) := rfl
      rw [em] at et
      cases e1 : (k == 35)
      · cases e2 : (k == 36)
        · rw [e1, e2] at et
          refine gA ?_
          exact ⟨⟨i + 1, by rw [et]; rfl, by omega, kt', xx⟩, hmu⟩
        · cases e3 : (kk == 37)
          · rw [e1, e2, e3] at et
            refine gA ?_
            exact ⟨⟨i + 1, by rw [et]; rfl, by omega, kt', xx⟩, hmu⟩
          · have hl0 : 0 < kl.length := hkid (by simpa using e3)
            cases e4 : (kidKind kl 0 == 42)
            · rw [e1, e2, e3, e4] at et
              rw [kidKind_in hl0] at e4
              refine gA ?_
              refine HIdx.mk 0 rfl hl0 ?_
              refine sl_some t2 hl0 fun p' ep' => ?_
              refine gA ?_
              refine tkind t2 t3 ep' hl0 ?_
              refine gA ?_
              exact ⟨⟨i + 1, by rw [et]; rfl, by omega, kt', xx⟩, hmu⟩
            · rw [e1, e2, e3, e4] at et
              rw [kidKind_in hl0] at e4
              refine gA ?_
              refine HIdx.mk 0 rfl hl0 ?_
              refine sl_some t2 hl0 fun p' ep' => ?_
              refine gA ?_
              refine tkind t2 t3 ep' hl0 ?_
              refine gA ?_
              exact ⟨⟨i + 1, by rw [et]; rfl, by omega, kt', xx⟩, hmu⟩
      · have e2 : (k == 36) = false := by rw [beq_iff_eq] at e1; rw [beq_eq_false_iff_ne]; omega
        cases e3 : (kk == 42)
        · rw [e1, e2, e3] at et
          refine gA ?_
          exact ⟨⟨i + 1, by rw [et]; rfl, by omega, kt', xx⟩, hmu⟩
        · rw [e1, e2, e3] at et
          refine gA ?_
          exact ⟨⟨i + 1, by rw [et]; rfl, by omega, kt', xx⟩, hmu⟩
    · have hge := of_decide_eq_false hlt
      obtain rfl : i = l.length := by omega
      rw [List.take_length] at hkb ⊢
      rw [hkb]
      refine gA ?_
      exact ⟨rfl, x05.trans x9⟩
end Go.Proofs.YtlogpojkkbcpjaaGreat.Hc
/- tree.Check. -/
set_option linter.unusedVariables false
set_option linter.unusedSimpArgs false
namespace Go.Proofs.YtlogpojkkbcpjaaGreat.Hc
open Go Go.H Go.Proofs
set_option maxRecDepth 100000
set_option maxHeartbeats 4000000
def tcheck (d : NT) : Int := if d.kind ≠ 41 ∨ mayT d = false then 70 else if deepT d > 64 then 31 else 0
theorem tcheck_spec {d : NT} {h : Heap} {cs : List Value} (r : TRep h d cs) (g : Glb h) (hc : cnt d ≤ 4194304) : HCalls Tryz.prog 9 #[.agg cs.toArray] h fun e h' => e = .returned (.int .i64 (tcheck d)) ∧ Ext h h' := by
  cases d with
  | mk k nm n t ns l =>
  simp only [TRep] at r
  have r0 := r
  obtain ⟨b1, b2, b3, b4, b5, b6, b7, ka, kc, la, lc, ys, rfl, s1, s2, s3⟩ := r
  refine c9 (by simp) ?_
  refine gA ?_
  refine new_var (e := 25) [.int .i64 k, .string nm, .int .i64 n, .string t, .slice ka ns.length kc, .slice la l.length lc] rfl ?_
  intro h1 bn o1 x1 z1 hbn
  unfold tcheck
  rw [show NT.kind (.mk k nm n t ns l) = k from rfl]
  have r1 : TRep h1 (.mk k nm n t ns l) [.int .i64 k, .string nm, .int .i64 n, .string t, .slice ka ns.length kc, .slice la l.length lc] := TRep.ext x1 (by simp only [TRep]; exact r0)
  by_cases hk : k = 41
  · have q : (k != 41) = false := by rw [hk]; rfl
    refine gA ?_
    refine HCall.mk ((may_spec _ (.mk k nm n t ns l) rfl h1 _ r1 (g.ext x1) hc).mono ?_)
    rintro e h2 ⟨rfl, x2⟩
    have o2 := o1.ext x2
    cases hm : mayT (.mk k nm n t ns l)
    · rw [if_pos (.inr rfl)]
      refine gA ?_
      exact ⟨rfl, x1.trans x2⟩
    · rw [if_neg (by simp [hk])]
      refine gA ?_
      refine HCall.mk ((deep_spec _ (.mk k nm n t ns l) rfl h2 _ (r1.ext x2) hc).mono ?_)
      rintro e h3 ⟨rfl, x3⟩
      by_cases hd : deepT (.mk k nm n t ns l) > 64
      · have q2 : decide ((deepT (.mk k nm n t ns l) : Int) > 64) = true := decide_eq_true (by omega)
        rw [if_pos hd]
        refine gA ?_
        exact ⟨rfl, x1.trans (x2.trans x3)⟩
      · have q2 : decide ((deepT (.mk k nm n t ns l) : Int) > 64) = false := decide_eq_false (by omega)
        rw [if_neg hd]
        refine gA ?_
        exact ⟨rfl, x1.trans (x2.trans x3)⟩
  · have q : (k != 41) = true := bne_iff_ne.2 hk
    rw [if_pos (.inl hk)]
    refine gA ?_
    exact ⟨rfl, x1⟩
end Go.Proofs.YtlogpojkkbcpjaaGreat.Hc
/- What is around a place: labels; scope.loop, label.find; trees whose labels have a statement. -/
set_option linter.unusedVariables false
set_option linter.unusedSimpArgs false
namespace Go.Proofs.YtlogpojkkbcpjaaGreat.Hc
open Go Go.H Go.Proofs
set_option maxRecDepth 100000
set_option maxHeartbeats 4000000
/-- A load of some cells of a block. -/
theorem ldP {h : Heap} {b e o n : Nat} {cs vs : List Value} {K : Value → Prop} (x : BlkW h b e cs) (hv : (cs.drop o).take n = vs) (hn : vs.length = n) (k : K (.agg vs.toArray)) : HLoadN h ((⟨b, 0, none⟩ : Addr).add o) n K := by
  subst hv
  refine ⟨_, hn, fun i hi => ?_, k⟩
  rw [add_mk, add_mk, Nat.zero_add, x.blk.cell, List.getElem?_take_of_lt hi, List.getElem?_drop]
/-- Labels around, from the innermost one on: a name, and whether it is a loop's. -/
def LRep (h : Heap) : List (ByteArray × Bool) → Option Addr → Prop
  | [], a => a = none
  | x :: r, a => ∃ b up, a = some ⟨b, 0, none⟩ ∧ BlkW h b 50 [.string x.1, .bool x.2, .pointer up] ∧ (∀ p, up = some p → p.block < b) ∧ LRep h r up
theorem LRep.keepC {h h' : Heap} (k : KeepC h h') : ∀ {l : List (ByteArray × Bool)} {a : Option Addr}, LRep h l a → LRep h' l a
  | [], a, r => r
  | x :: r, a, ⟨b, up, e, o, hu, r2⟩ => ⟨b, up, e, o.keepC k, hu, LRep.keepC k r2⟩
theorem LRep.ext {h h' : Heap} (k : Ext h h') {l : List (ByteArray × Bool)} {a : Option Addr} (r : LRep h l a) : LRep h' l a := r.keepC (.of_ext k)
theorem LRep.lt {h : Heap} {l : List (ByteArray × Bool)} {a : Option Addr} (r : LRep h l a) : ∀ p, a = some p → p.block < h.size := by
  cases l with
  | nil => simp only [LRep] at r; subst r; intro p ep; cases ep
  | cons x l => obtain ⟨b, up, rfl, o, hu, r2⟩ := r; intro p ep; cases ep; exact o.lt
def findL (s : ByteArray) : List (ByteArray × Bool) → List (ByteArray × Bool)
  | [] => []
  | x :: r => if strEq x.1 s = true then x :: r else findL s r
theorem find_spec {h : Heap} {a : Option Addr} {l : List (ByteArray × Bool)} (r : LRep h l a) (s : ByteArray) : HCalls Tryz.prog 22 #[.pointer a, .string s] h fun e h' => h' = h ∧ ∃ a', e = .returned (.pointer a') ∧ LRep h (findL s l) a' := by
  refine c22 (by simp) ?_
  refine gA ?_
  refine loop_rule [0] (fun vs h' => ∃ a' l', vs = [.pointer a'] ∧ LRep h l' a' ∧ h' = h ∧ findL s l' = findL s l)
    (fun vs _ => match vs with | [.pointer (some p)] => p.block + 1 | _ => 0) rfl ?_ ?_
  · exact ⟨a, l, rfl, r, rfl, rfl⟩
  intro u h1 v0
  rintro ⟨a1, l1, e, r1, rfl, hf⟩
  cases e
  cases l1 with
  | nil =>
    simp only [LRep] at r1
    subst r1
    refine gA ?_
    exact ⟨rfl, none, rfl, by rw [← hf]; rfl⟩
  | cons x l2 =>
    have r0 := r1
    obtain ⟨b, up, rfl, o, hu, r2⟩ := r1
    have qn : (bif true then !(some (⟨b, 0, none⟩ : Addr)).isNone else (some (⟨b, 0, none⟩ : Addr)).isNone) = true := rfl
    cases q : strEq x.1 s
    · have q2 : (!strEq x.1 s) = true := by rw [q]; rfl
      refine gA ?_
      refine ⟨⟨up, l2, rfl, r2, rfl, by rw [← hf]; simp only [findL]; rw [if_neg (by rw [q]; simp)]⟩, ?_⟩
      cases up with
      | none => show 0 < b + 1; omega
      | some p => have := hu p rfl; show p.block + 1 < b + 1; omega
    · have q2 : (!strEq x.1 s) = false := by rw [q]; rfl
      refine gA ?_
      refine ⟨rfl, _, rfl, ?_⟩
      rw [← hf]; simp only [findL]; rw [if_pos q]; exact r0
def loopK (k : Int) : Bool := decide (k ≥ 27) && decide (k ≤ 30)
theorem loopk_spec {h : Heap} {d : NT} {cs : List Value} (r : TRep h d cs) : HCalls Tryz.prog 36 #[.agg cs.toArray] h fun e h' => e = .returned (.bool (loopK d.kind)) ∧ Ext h h' := by
  cases d with
  | mk k nm n t ns l =>
  simp only [TRep] at r
  obtain ⟨b1, b2, b3, b4, b5, b6, b7, ka, kc, la, lc, ys, rfl, s1, s2, s3⟩ := r
  show HCalls Tryz.prog 36 _ h fun e h' => e = .returned (.bool (loopK k)) ∧ Ext h h'
  refine c36 (by simp) ?_
  refine gA ?_
  refine new_var (e := 25) [.int .i64 k, .string nm, .int .i64 n, .string t, .slice ka ns.length kc, .slice la l.length lc] rfl ?_
  intro h1 bn o1 x1 z1 hbn
  unfold loopK
  cases q1 : decide (k ≥ 27)
  · refine gA ?_
    exact ⟨rfl, x1⟩
  · refine gA ?_
    exact ⟨rfl, x1⟩
/-- Nodes that have a kid wherever the walk asks for the first one. -/
def needs (k : Int) : Bool := (k == 20) || (k == 16) || (k == 30) || (k == 15) || (k == 38)
mutual
def okT : NT → Bool
  | .mk k _ _ _ _ l => (!needs k || decide (1 ≤ l.length)) && okL l
def okL : List NT → Bool
  | [] => true
  | d :: r => okT d && okL r
end
theorem okL_get : ∀ {l : List NT} (_ : okL l = true) (i : Nat) (hi : i < l.length), okT l[i] = true
  | [], _, i, hi => by simp at hi
  | d :: l, h, i, hi => by
    simp only [okL, Bool.and_eq_true] at h
    cases i with
    | zero => exact h.1
    | succ i => exact okL_get h.2 i (by simpa using hi)
theorem needs_cut {k : Int} {n : Nat} {f : Form} (hk : needs k = true) (h : formOf k n = some f) : 1 ≤ (cutF f.l).1.length := by
  unfold needs at hk
  simp only [Bool.or_eq_true, beq_iff_eq] at hk
  rcases hk with (((rfl | rfl) | rfl) | rfl) | rfl
  all_goals
    simp only [formOf, stmtOf] at h
    cases h
    decide +kernel
mutual
theorem mayT_ok : ∀ (d : NT), mayT d = true → okT d = true
  | .mk k nm n t ns l => by
    intro h
    simp only [mayT] at h
    split at h
    · cases h
    · rename_i f hf
      simp only [Bool.and_eq_true] at h
      obtain ⟨⟨⟨⟨_, _⟩, h3⟩, h4⟩, _⟩ := h
      simp only [okT, Bool.and_eq_true]
      refine ⟨?_, kidsB_ok _ _ _ h4⟩
      cases hk : needs k
      · rfl
      · have h1 := needs_cut hk hf
        unfold lenOk at h3
        simp only [Bool.and_eq_true, Bool.not_eq_true', decide_eq_false_iff_not] at h3
        rw [Bool.not_true, Bool.false_or]
        exact decide_eq_true (by omega)
theorem kidsB_ok : ∀ (ls : List UInt8) (l : List NT) (i : Nat), kidsB ls l i = true → okL l = true
  | ls, [], i => fun _ => rfl
  | ls, d :: r, i => by
    intro h
    simp only [kidsB, Bool.and_eq_true] at h
    simp only [okL, Bool.and_eq_true]
    exact ⟨mayT_ok d h.1.2, kidsB_ok ls r (i + 1) h.2⟩
end
end Go.Proofs.YtlogpojkkbcpjaaGreat.Hc
/- Yields of a slice's texts; what is collected from them. -/
set_option linter.unusedVariables false
set_option linter.unusedSimpArgs false
namespace Go.Proofs.YtlogpojkkbcpjaaGreat.Hc
open Go Go.H Go.Proofs
set_option maxRecDepth 100000
set_option maxHeartbeats 4000000
theorem values_spec (a : Option Addr) (n c : Nat) (h : Heap) : HCalls Tryz.prog 39 #[.slice a n c] h fun e h' => ∃ b, e = .returned (.func (.func 58) #[] #[.pointer (some ⟨b, 0, none⟩)]) ∧ BlkW h' b 22 [.slice a n c] ∧ Ext h h' := by
  refine c39 (by simp) ?_
  refine gA ?_
  refine new_var (e := 22) [.slice a n c] rfl ?_
  intro h1 b o1 x1 z1 hb
  refine gA ?_
  exact ⟨b, rfl, o1, x1⟩
theorem values1_spec {P : Nat → Heap → Prop} {l b : Nat} {ks : List ByteArray} {a : Option Addr} {c : Nat} {h : Heap} (hn : ks.length ≤ 4194304) (o : BlkW h b 22 [.slice a ks.length c]) (hs : ∀ i h', P i h' → Sl h' 1 a ks.length c (ks.map .string))
    (hy : ∀ (i : Nat) (hi : i < ks.length) h', P i h' → HYield Tryz.prog l #[.string ks[i]] h' fun e h'' => e = .returned (.bool true) ∧ P (i + 1) h'') (start : P 0 h) :
    HCalls Tryz.prog 58 #[.func (.yield l) #[] #[], .pointer (some ⟨b, 0, none⟩)] h fun e h' => e = .returned (.tuple #[]) ∧ P ks.length h' := by
  refine c58 (by simp) ?_
  refine gA ?_
  refine loop_rule [7] (fun vs h' => ∃ (i : Nat), vs = [.int .i64 i] ∧ i ≤ ks.length ∧ P i h')
    (fun vs _ => match vs with | [.int _ i] => ks.length - i.toNat | _ => 0) rfl ?_ ?_
  · exact ⟨0, rfl, by omega, start⟩
  intro u h1 v7
  rintro ⟨i, e, hi, hp⟩
  cases e
  refine gA ?_
  refine HIf.mk (fun hlt => ?_) (fun hlt => ?_)
  · have hi1 : i < ks.length := by have := of_decide_eq_true hlt; omega
    have hmu : ks.length - ((i : Int) + 1).toNat < ks.length - ((i : Int)).toNat := by omega
    refine gA ?_
    refine HIdx.mk i rfl hi1 ?_
    refine sl_some (hs i h1 hp) hi1 fun p ep => ?_
    refine gA ?_
    refine (hs i h1 hp).load ep (by simpa using hi1) ?_
    rw [List.getElem_map]
    refine gA ?_
    refine yield_call (hy i hi1 h1 hp) ?_
    rintro e h2 ⟨rfl, hp2⟩
    refine gA ?_
    exact ⟨⟨i + 1, rfl, by omega, hp2⟩, hmu⟩
  · have hge := of_decide_eq_false hlt
    obtain rfl : i = ks.length := by omega
    refine gA ?_
    exact ⟨rfl, hp⟩
theorem off_set (h : Heap) (k : Nat) (o : Obj) : Off k h (h.setIfInBounds k o) := ⟨by simp, fun b hb hne => by rw [Array.getElem?_setIfInBounds, if_neg (Ne.symm hne)]⟩
theorem set_same {h : Heap} {k : Nat} {o o' : Obj} (x : h[k]? = some o') : (h.setIfInBounds k o)[k]? = some o := by
  rcases Nat.lt_or_ge k h.size with hl | hl
  · rw [Array.getElem?_setIfInBounds, if_pos rfl, if_pos hl]
  · rw [Array.getElem?_eq_none hl] at x; cases x
/-- Of a list's texts all that were told so far. -/
structure Told (h0 : Heap) (D b : Nat) (rec : Rec) (ks : List ByteArray) (i : Nat) (h : Heap) : Prop where
  kept : Kept h0.size h0 h
  dfr : h[D]? = some (.deferred (some []))
  rdy : h[D + 1]? = some (.loop (rec .ready none))
  out : ∃ a' c', BlkW h b 22 [.slice a' i c'] ∧ Own h (D + 2) 9 1 a' i c' ((ks.take i).map .string)
theorem collect_spec {b : Nat} {ks : List ByteArray} {a : Option Addr} {c : Nat} {h : Heap} (hn : ks.length ≤ 4194304) (o : BlkW h b 22 [.slice a ks.length c]) (hs : Sl h 1 a ks.length c (ks.map .string)) :
    HCalls Tryz.prog 74 #[.slice none 0 0, .func (.func 58) #[] #[.pointer (some ⟨b, 0, none⟩)]] h fun e h' => ∃ a' c', e = .returned (.slice a' ks.length c') ∧ Own h' h.size 9 1 a' ks.length c' (ks.map .string) ∧ Ext h h' := by
  refine c74 (by simp) ?_
  refine gA ?_
  refine new_var (e := 22) [.slice none 0 0] rfl ?_
  intro h1 b2 o1 x1 z1 hb
  refine gA ?_
  refine HRange.mk 58 #[.pointer (some ⟨b, 0, none⟩)] rfl (by kernel_rfl) fun rec yl => ?_
  have hD : h1.size = h.size + 1 := z1
  have hb' : b2 = h.size := hb
  show HCalls Tryz.prog 58 #[.func (.yield (h1.size + 1)) #[] #[], .pointer (some ⟨b, 0, none⟩)] _ _
  refine (values1_spec (P := Told h h1.size b2 rec ks) hn ((o.ext x1).ext ((Ext.push _ _).trans (Ext.push _ _))) (fun i h' p => hs.ext p.kept) ?_ ?_).mono ?_
  · intro i hi h2 p
    refine yl [.string ks[i]] h2 _ rfl p.rdy ?_
    obtain ⟨p1, p2, p3, a', c', p4, p5⟩ := p
    have f3 := off_set h2 (h1.size + 1) (.loop (rec .busy none))
    have r3 := set_same (o := .loop (rec .busy none)) p3
    have p4' := p4.offk f3 (by have := p4.lt; omega)
    have lt5 := p5.lt
    have p5' := p5.off f3 (fun p ep => by have := lt5 p ep; omega)
    have d3 : (h2.setIfInBounds (h1.size + 1) (.loop (rec .busy none)))[h1.size]? = some (.deferred (some [])) := by
      rw [f3.2 _ ?_ (by omega)]
      · exact p2
      · rcases Nat.lt_or_ge h1.size h2.size with hl | hl
        · exact hl
        · rw [Array.getElem?_eq_none hl] at p2; cases p2
    have k3 : Kept h.size h (h2.setIfInBounds (h1.size + 1) (.loop (rec .busy none))) := p1.trans (f3.kept (by omega) p1.1)
    clear p4 p5 lt5
    have e4 : Told h h1.size b2 rec ks i (h2.setIfInBounds (h1.size + 1) (.loop (rec .busy none))) → True := fun _ => trivial
    clear e4
    refine gA ?_
    refine ⟨p3, ?_⟩
    generalize h2.setIfInBounds (h1.size + 1) (.loop (rec .busy none)) = h3 at f3 r3 p4' p5' d3 k3
    refine gA ?_
    refine new_own (e := 9) 1 1 [.string ks[i]] rfl rfl ?_
    intro h4 b4 w4 x4 z4 hb4
    have p4' := p4'.ext x4
    have p5' := p5'.ext x4
    have r4 : h4[h1.size + 1]? = some (.loop (rec .busy none)) := by
      rw [x4.2 _ ?_]
      · exact r3
      · rcases Nat.lt_or_ge (h1.size + 1) h3.size with hl | hl
        · exact hl
        · rw [Array.getElem?_eq_none hl] at r3; cases r3
    have d4 : h4[h1.size]? = some (.deferred (some [])) := by
      rw [x4.2 _ ?_]
      · exact d3
      · rcases Nat.lt_or_ge h1.size h3.size with hl | hl
        · exact hl
        · rw [Array.getElem?_eq_none hl] at d3; cases d3
    have hl3 : h1.size + 1 < h4.size := by
      rcases Nat.lt_or_ge (h1.size + 1) h4.size with hl | hl
      · exact hl
      · rw [Array.getElem?_eq_none hl] at r4; cases r4
    have lt5 := p5'.lt
    refine gA ?_
    refine w4.sl.cells ?_
    refine Own.grow p5' (by omega) rfl rfl (by intro v hv; simp only [List.mem_singleton] at hv; subst hv; rfl) (by omega) ?_
    intro h5 a5 c5 w5 g5
    have o5 := g5.blk p4' (fun p ep => by have := lt5 p ep; omega)
    have hs5 := g5.1
    refine gA ?_
    refine store1_blk o5 (by simp) rfl ?_
    intro h6 f6 z6 o6
    have o6 : BlkW h6 b2 22 [.slice a5 (i + 1) c5] := o6
    have lt5' := w5.lt
    have w6 := w5.off f6 (fun p ep => by have := lt5' p ep; omega)
    refine gA ?_
    have r6 : h6[h1.size + 1]? = some (.loop (rec .busy none)) := by
      rw [f6.2 _ (by omega) (by omega), g5.2.1 _ (by omega) (fun p ep => by have := lt5 p ep; omega)]; exact r4
    refine ⟨⟨_, _, r6⟩, rfl, ?_⟩
    have f7 := off_set h6 (h1.size + 1) (.loop (rec .ready none))
    have k4 : Kept h.size h h4 := k3.trans (x4.kept k3.1)
    have k5 : Kept h.size h h5 := k4.trans (g5.kept k4.1 fun p ep => by have := lt5 p ep; omega)
    have k6 : Kept h.size h h6 := k5.trans (f6.kept (by omega) k5.1)
    have k7 := k6.trans (f7.kept (by omega) k6.1)
    refine ⟨k7, ?_, set_same r6, a5, c5, o6.offk f7 (by omega), ?_⟩
    · rw [f7.2 _ (by omega) (by omega), f6.2 _ (by omega) (by omega), g5.2.1 _ (by omega) (fun p ep => by have := lt5 p ep; omega)]; exact d4
    · rw [take_succ' hi, List.map_append]
      exact w6.off f7 (fun p ep => by have := lt5' p ep; omega)
  · have e1 := (Ext.push h1 (.deferred (some []))).trans (Ext.push _ (.loop (rec .ready none)))
    refine ⟨(x1.trans e1).kept (Nat.le_refl _), ?_, ?_, none, 0, o1.ext e1, Own.nil _ _ _ _⟩
    · rw [Array.getElem?_push, if_neg (by simp), Array.getElem?_push, if_pos rfl]
    · rw [Array.getElem?_push, if_pos (by simp)]
  · rintro e h2 ⟨rfl, p1, p2, p3, a', c', p4, p5⟩
    rw [List.take_length] at p5
    refine ⟨.ready, none, p3, ⟨(fun e => LoopState.noConfusion e), ?_⟩⟩
    have f3 := off_set h2 (h1.size + 1) (.loop (rec .exhausted none))
    have p4' := p4.offk f3 (by have := p4.lt; omega)
    have lt5 := p5.lt
    have p5' := p5.off f3 (fun p ep => by have := lt5 p ep; omega)
    have k3 : Kept h.size h (h2.setIfInBounds (h1.size + 1) (.loop (rec .exhausted none))) := p1.trans (f3.kept (by omega) p1.1)
    have d3 : (h2.setIfInBounds (h1.size + 1) (.loop (rec .exhausted none)))[h1.size]? = some (.deferred (some [])) := by
      rw [f3.2 _ ?_ (by omega)]
      · exact p2
      · rcases Nat.lt_or_ge h1.size h2.size with hl | hl
        · exact hl
        · rw [Array.getElem?_eq_none hl] at p2; cases p2
    generalize h2.setIfInBounds (h1.size + 1) (.loop (rec .exhausted none)) = h3 at f3 p4' p5' d3 k3
    have f4 := off_set h3 h1.size (.deferred none)
    have p5'' := p5'.off f4 (fun p ep => by have := lt5 p ep; omega)
    refine gA ?_
    refine HMark.mk d3 ?_
    refine gA ?_
    exact ⟨a', c', rfl, p5''.lower (by omega), k3.trans (f4.kept (by omega) k3.1)⟩
theorem collect1_spec {b : Nat} {ks : List ByteArray} {a : Option Addr} {c : Nat} {h : Heap} (hn : ks.length ≤ 4194304) (o : BlkW h b 22 [.slice a ks.length c]) (hs : Sl h 1 a ks.length c (ks.map .string)) :
    HCalls Tryz.prog 56 #[.func (.func 58) #[] #[.pointer (some ⟨b, 0, none⟩)]] h fun e h' => ∃ a' c', e = .returned (.slice a' ks.length c') ∧ Own h' h.size 9 1 a' ks.length c' (ks.map .string) ∧ Ext h h' := by
  refine c56 (by simp) ?_
  refine gA ?_
  refine HCall.mk ((collect_spec hn o hs).mono ?_)
  rintro e h1 ⟨a', c', rfl, w1, x1⟩
  refine gA ?_
  exact ⟨a', c', rfl, w1, x1⟩
end Go.Proofs.YtlogpojkkbcpjaaGreat.Hc
/-
  DERIVED: THE SHELF's CONTRACTS AT THIS DUMP, IN PLAIN WORDS (tools/lay-plain.mjs out of 'YtlogpojkkbcpjaaGreatS2.lean', which tools/lay-shelf.mjs wrote): THE SAME DECLARATIONS UNDER THE SAME NAMES: 'import', 'namespace', 'open', 'def', 'theorem' AND NOTHING ELSE: no command of the shelf's: FOR A HAND-IN. Each laying: the table of numbers ('.._ren') and one theorem, a field a fact of the dump's own or the kernel's comparison; each contract: ONE APPLICATION.
-/
namespace Go.Proofs
open Go.Shelf
def Tryz.lays190_ren : Go.Shelf.Ren := ⟨fun | 190 => 57 | 125 => 76 | 258 => 75 | 128 => 97 | 129 => 98 | 302 => 88 | 303 => 89 | 304 => 90 | 305 => 91 | 306 => 92 | 307 => 93 | 308 => 94 | 309 => 95 | 310 => 96 | 333 => 101 | 329 => 102 | 330 => 103 | 334 => 104 | 335 => 105 | 336 => 106 | 344 => 107 | n => n, fun | 31 => 22 | 9 => 9 | 3 => 3 | 46 => 78 | 0 => 0 | 51 => 91 | 53 => 93 | 4 => 4 | 183 => 84 | 182 => 83 | 131 => 88 | 5 => 5 | 218 => 96 | 222 => 100 | 228 => 102 | 229 => 103 | n => n, fun | n => n⟩
theorem Tryz.lays190 : Go.Proofs.Lays.n190 Tryz.prog Tryz.lays190_ren := {
  mixed := by kernel_rfl
  f125 := Tryz.func76.trans (congrArg some (by kernel_rfl))
  f128 := Tryz.func97.trans (congrArg some (by kernel_rfl))
  f129 := Tryz.func98.trans (congrArg some (by kernel_rfl))
  f190 := Tryz.func57.trans (congrArg some (by kernel_rfl))
  f258 := Tryz.func75.trans (congrArg some (by kernel_rfl))
  f302 := Tryz.func88.trans (congrArg some (by kernel_rfl))
  f303 := Tryz.func89.trans (congrArg some (by kernel_rfl))
  f304 := Tryz.func90.trans (congrArg some (by kernel_rfl))
  f305 := Tryz.func91.trans (congrArg some (by kernel_rfl))
  f306 := Tryz.func92.trans (congrArg some (by kernel_rfl))
  f307 := Tryz.func93.trans (congrArg some (by kernel_rfl))
  f308 := Tryz.func94.trans (congrArg some (by kernel_rfl))
  f309 := Tryz.func95.trans (congrArg some (by kernel_rfl))
  f310 := Tryz.func96.trans (congrArg some (by kernel_rfl))
  f329 := Tryz.func102.trans (congrArg some (by kernel_rfl))
  f330 := Tryz.func103.trans (congrArg some (by kernel_rfl))
  f333 := Tryz.func101.trans (congrArg some (by kernel_rfl))
  f334 := Tryz.func104.trans (congrArg some (by kernel_rfl))
  f335 := Tryz.func105.trans (congrArg some (by kernel_rfl))
  f336 := Tryz.func106.trans (congrArg some (by kernel_rfl))
  f344 := Tryz.func107.trans (congrArg some (by kernel_rfl))
  t0 := Tryz.underlying0
  a0 := Tryz.isAgg0
  z0 := Tryz.sizeOf0
  v0 := Tryz.zeroValue0
  t3 := Tryz.underlying3
  a3 := Tryz.isAgg3
  z3 := Tryz.sizeOf3
  v3 := Tryz.zeroValue3
  t4 := Tryz.underlying4
  a4 := Tryz.isAgg4
  z4 := Tryz.sizeOf4
  v4 := Tryz.zeroValue4
  t5 := Tryz.underlying5
  a5 := Tryz.isAgg5
  z5 := Tryz.sizeOf5
  v5 := Tryz.zeroValue5
  t9 := Tryz.underlying9
  a9 := Tryz.isAgg9
  z9 := Tryz.sizeOf9
  v9 := Tryz.zeroValue9
  t31 := Tryz.underlying22
  a31 := Tryz.isAgg22
  z31 := Tryz.sizeOf22
  v31 := Tryz.zeroValue22
  t46 := Tryz.underlying78
  a46 := Tryz.isAgg78
  z46 := Tryz.sizeOf78
  v46 := Tryz.zeroValue78
  t51 := Tryz.underlying91
  a51 := Tryz.isAgg91
  z51 := Tryz.sizeOf91
  v51 := Tryz.zeroValue91
  t53 := Tryz.underlying93
  a53 := Tryz.isAgg93
  z53 := Tryz.sizeOf93
  v53 := Tryz.zeroValue93
  t131 := Tryz.underlying88
  a131 := Tryz.isAgg88
  z131 := Tryz.sizeOf88
  v131 := Tryz.zeroValue88
  t182 := Tryz.underlying83
  a182 := Tryz.isAgg83
  z182 := Tryz.sizeOf83
  v182 := Tryz.zeroValue83
  t183 := Tryz.underlying84
  a183 := Tryz.isAgg84
  z183 := Tryz.sizeOf84
  v183 := Tryz.zeroValue84
  t218 := Tryz.underlying96
  a218 := Tryz.isAgg96
  z218 := Tryz.sizeOf96
  v218 := Tryz.zeroValue96
  t222 := Tryz.underlying100
  a222 := Tryz.isAgg100
  z222 := Tryz.sizeOf100
  v222 := Tryz.zeroValue100
  t228 := Tryz.underlying102
  a228 := Tryz.isAgg102
  z228 := Tryz.sizeOf102
  v228 := Tryz.zeroValue102
  t229 := Tryz.underlying103
  a229 := Tryz.isAgg103
  z229 := Tryz.sizeOf103
  v229 := Tryz.zeroValue103 }
def Tryz.lays194_ren : Go.Shelf.Ren := ⟨fun | 194 => 40 | n => n, fun | 31 => 22 | 9 => 9 | 3 => 3 | 4 => 4 | 0 => 0 | n => n, fun | n => n⟩
theorem Tryz.lays194 : Go.Proofs.Lays.n194 Tryz.prog Tryz.lays194_ren := {
  mixed := by kernel_rfl
  f194 := Tryz.func40.trans (congrArg some (by kernel_rfl))
  t0 := Tryz.underlying0
  a0 := Tryz.isAgg0
  z0 := Tryz.sizeOf0
  v0 := Tryz.zeroValue0
  t3 := Tryz.underlying3
  a3 := Tryz.isAgg3
  z3 := Tryz.sizeOf3
  v3 := Tryz.zeroValue3
  t4 := Tryz.underlying4
  a4 := Tryz.isAgg4
  z4 := Tryz.sizeOf4
  v4 := Tryz.zeroValue4
  t9 := Tryz.underlying9
  a9 := Tryz.isAgg9
  z9 := Tryz.sizeOf9
  v9 := Tryz.zeroValue9
  t31 := Tryz.underlying22
  a31 := Tryz.isAgg22
  z31 := Tryz.sizeOf22
  v31 := Tryz.zeroValue22 }
end Go.Proofs
/- slices.Sort, slices.Compact over texts by the shelf; scope.distinct. -/
set_option linter.unusedVariables false
set_option linter.unusedSimpArgs false
namespace Go.Proofs.YtlogpojkkbcpjaaGreat.Hc
open Go Go.H Go.Proofs
open Go.Sort (Holds putRow putCells grow mapBlock onCells)
set_option maxRecDepth 100000
set_option maxHeartbeats 4000000
theorem put_off {α : Type} [Inhabited α] (enc : α → Value) (w : World) (b : Nat) (d : Array α) : Off b w.heap (putRow enc w b 0 d).heap := by
  refine ⟨by simp [putRow, mapBlock], fun k hk hne => ?_⟩
  simp only [putRow, mapBlock]
  rw [Array.getElem?_modify, if_neg (Ne.symm hne)]
theorem put_row {α : Type} [Inhabited α] (enc : α → Value) (w : World) (b e : Nat) (d : Array α) (cs : List Value) (fz : Nat × Nat) (x : w.heap[b]? = some (.cells cs.toArray e fz)) (hl : d.size ≤ cs.length) :
    (putRow enc w b 0 d).heap[b]? = some (.cells (d.toList.map enc ++ cs.drop d.size).toArray e fz) := by
  simp only [putRow, mapBlock]
  rw [Array.getElem?_modify, if_pos rfl, x]
  simp only [Option.map_some, onCells]
  congr 2
  apply Array.ext_getElem?
  intro i
  simp only [putCells, Array.getElem?_mapIdx, List.getElem?_toArray, Nat.zero_le, true_and, Nat.zero_add, Nat.sub_zero]
  by_cases hi : i < d.size
  · rw [List.getElem?_append_left (by simpa using hi), List.getElem?_eq_getElem (by omega), Option.map_some, if_pos hi, List.getElem?_map, List.getElem?_eq_getElem (by simpa using hi), Option.map_some, getElem!_pos d i hi, Array.getElem_toList]
  · rw [List.getElem?_append_right (by simpa using hi), List.length_map, Array.length_toList, List.getElem?_drop, show d.size + (i - d.size) = i by omega]
    cases cs[i]? with
    | none => rfl
    | some v => rw [Option.map_some, if_neg hi]
def toL (s : ByteArray) : List UInt8 := s.data.toList
def toB (l : List UInt8) : ByteArray := ⟨l.toArray⟩
theorem toB_toL (s : ByteArray) : toB (toL s) = s := rfl
theorem toL_toB (l : List UInt8) : toL (toB l) = l := rfl
theorem map_enc (ks : List ByteArray) : (ks.map toL).map encStr = ks.map .string := by rw [List.map_map]; rfl
theorem map_enc' (ss : List (List UInt8)) : ss.map encStr = (ss.map toB).map .string := by rw [List.map_map]; rfl
theorem holds_of {w : World} {b e : Nat} {ks : List ByteArray} {spare : List Value} (x : BlkW w.heap b e (ks.map .string ++ spare)) : Holds encStr w b 0 (ks.map toL).toArray := by
  intro j hj
  have hj : j < ks.length := by simpa using hj
  refine ⟨?_, ?_⟩
  · rw [cell_eq, Nat.zero_add, x.blk.cell, List.getElem?_append_left (by simpa using hj), List.getElem?_map, List.getElem?_eq_getElem hj, Option.map_some]
    congr 1
    rw [getElem!_pos _ j (by simpa using hj)]
    simp [toL]
  · rw [frozen_eq, Nat.zero_add]
    exact x.frozen (by rw [List.length_append, List.length_map]; omega)
/-- Texts in order. -/
def sortS (ks : List ByteArray) : List ByteArray := ((ks.map toL).mergeSort fun x y => decide (x ≤ y)).map toB
theorem sortS_len (ks : List ByteArray) : (sortS ks).length = ks.length := by unfold sortS; simp
theorem sort_spec {h : Heap} {b c : Nat} {ks : List ByteArray} {B : Nat} (w0 : Own h B 9 1 (some ⟨b, 0, none⟩) ks.length c (ks.map .string)) (hn : ks.length ≤ 4194304) :
    HCalls Tryz.prog 57 #[.slice (some ⟨b, 0, none⟩) ks.length c] h fun e h' => e = .returned (.tuple #[]) ∧ Own h' B 9 1 (some ⟨b, 0, none⟩) ks.length c ((sortS ks).map .string) ∧ Off b h h' := by
  intro w hw
  subst hw
  obtain ⟨hl, hc, hnn, hp⟩ := w0
  obtain ⟨b', spare, eb, hB, hs, o⟩ := hp _ rfl
  cases eb
  have c1 := Any.slices_Sort_string Tryz.lays190 b 0 c (ks.map toL) w (holds_of o) o.lt (by simp; omega)
  rw [List.length_map] at c1
  refine c1.mono ?_
  rintro e w' ⟨rfl, n, os, rfl⟩
  refine ⟨⟨rfl, rfl, rfl⟩, rfl, ?_⟩
  obtain ⟨fz, o1, o2⟩ := o
  have hd : ((ks.map toL).mergeSort fun x y => decide (x ≤ y)).toArray.size = ks.length := by simp
  have r1 := put_row encStr (Go.Sort.ahead w n) b 9 ((ks.map toL).mergeSort fun x y => decide (x ≤ y)).toArray _ fz o1 (by rw [hd]; simp)
  have f1 := put_off encStr (Go.Sort.ahead w n) b ((ks.map toL).mergeSort fun x y => decide (x ≤ y)).toArray
  have eg : ∀ (v : World) (i : Nat), i < v.heap.size → (grow v os).heap[i]? = v.heap[i]? := by
    intro v i hi
    show (v.heap ++ os)[i]? = _
    rw [Array.getElem?_append_left hi]
  have hb : b < (Go.Sort.ahead w n).heap.size := by
    rcases Nat.lt_or_ge b w.heap.size with hl | hl
    · exact hl
    · rw [Array.getElem?_eq_none hl] at o1; cases o1
  have hsz : (grow (putRow encStr (Go.Sort.ahead w n) b 0 ((ks.map toL).mergeSort fun x y => decide (x ≤ y)).toArray) os).heap.size = (putRow encStr (Go.Sort.ahead w n) b 0 ((ks.map toL).mergeSort fun x y => decide (x ≤ y)).toArray).heap.size + os.size := by show (_ ++ os : Array Obj).size = _; simp
  refine ⟨⟨by simp [sortS], hc, hnn, ?_⟩, ?_⟩
  · intro p ep
    cases ep
    refine ⟨b, spare, rfl, hB, hs, fz, ?_, ?_⟩
    · rw [eg _ _ (by have := f1.1; omega), r1, hd]
      congr 2
      simp only [map_enc']
      rw [List.drop_left' (by simp)]
      rfl
    · intro i hi
      refine o2 i ?_
      simp only [List.length_append, List.length_map, sortS_len] at hi ⊢
      exact hi
  · refine ⟨by have := f1.1; rw [hsz]; exact Nat.le_trans this (Nat.le_add_right _ _), fun k hk hne => ?_⟩
    rw [eg _ _ (Nat.lt_of_lt_of_le hk f1.1)]
    exact f1.2 k hk hne
theorem sort_none (p : Option Addr) (c : Nat) (h : Heap) : HCalls Tryz.prog 57 #[.slice p 0 c] h fun e h' => e = .returned (.tuple #[]) ∧ h' = h := by
  intro w hw
  subst hw
  exact (Any.slices_Sort_string_none Tryz.lays190 p c w).mono fun e w' ⟨h1, h2⟩ => by subst h2; exact ⟨⟨rfl, rfl, rfl⟩, h1, rfl⟩
theorem sorted_spec {b : Nat} {ks : List ByteArray} {a : Option Addr} {c : Nat} {h : Heap} (hn : ks.length ≤ 4194304) (o : BlkW h b 22 [.slice a ks.length c]) (hs : Sl h 1 a ks.length c (ks.map .string)) :
    HCalls Tryz.prog 38 #[.func (.func 58) #[] #[.pointer (some ⟨b, 0, none⟩)]] h fun e h' => ∃ a' c', e = .returned (.slice a' ks.length c') ∧ Own h' h.size 9 1 a' ks.length c' ((sortS ks).map .string) ∧ Ext h h' := by
  refine c38 (by simp) ?_
  refine gA ?_
  refine HCall.mk ((collect1_spec hn o hs).mono ?_)
  rintro e h1 ⟨a', c', rfl, w1, x1⟩
  cases a' with
  | none =>
    have h0 := w1.2.2.1 rfl
    have h2 := w1.2.1
    obtain rfl : c' = 0 := h0
    have hk : ks = [] := List.length_eq_zero_iff.1 (by omega)
    subst hk
    refine gA ?_
    refine HCall.mk ((sort_none none 0 h1).mono ?_)
    rintro e h2 ⟨rfl, rfl⟩
    refine gA ?_
    exact ⟨none, 0, rfl, by simpa [sortS] using w1, x1⟩
  | some p =>
    obtain ⟨b1, sp, rfl, hB, _⟩ := w1.2.2.2 p rfl
    refine gA ?_
    refine HCall.mk ((sort_spec w1 hn).mono ?_)
    rintro e h2 ⟨rfl, w2, f2⟩
    refine gA ?_
    exact ⟨_, c', rfl, w2, x1.offNew f2 hB⟩
theorem compact_spec {h : Heap} {b c : Nat} {ks : List ByteArray} {B : Nat} (w0 : Own h B 9 1 (some ⟨b, 0, none⟩) ks.length c (ks.map .string)) (hn : ks.length ≤ 4194304) :
    HCalls Tryz.prog 40 #[.slice (some ⟨b, 0, none⟩) ks.length c] h fun e h' => ∃ a' c', e = .returned (.slice a' (Lib.compact (ks.map toL)).length c') ∧ Off b h h' := by
  intro w hw
  subst hw
  obtain ⟨hl, hc, hnn, hp⟩ := w0
  obtain ⟨b', spare, eb, hB, hs, o⟩ := hp _ rfl
  cases eb
  have c1 := Any.slices_Compact_string Tryz.lays194 b 0 c (ks.map toL) w (holds_of o) (by simp; omega) (by simpa using hc)
  rw [List.length_map] at c1
  refine c1.mono ?_
  rintro e w' ⟨rfl, q, rfl⟩
  exact ⟨⟨rfl, rfl, rfl⟩, _, _, rfl, put_off encStr (Go.Sort.ahead w q) b _⟩
theorem compact_none (p : Option Addr) (c : Nat) (h : Heap) : HCalls Tryz.prog 40 #[.slice p 0 c] h fun e h' => e = .returned (.slice p 0 c) ∧ h' = h := by
  intro w hw
  subst hw
  exact (Any.slices_Compact_string_empty Tryz.lays194 p c w).mono fun e w' ⟨h1, h2⟩ => by subst h2; exact ⟨⟨rfl, rfl, rfl⟩, h1, rfl⟩
theorem filter_len {α : Type} (q : α → Bool) : ∀ l : List α, (l.filter q).length = l.length ↔ ∀ x ∈ l, q x = true := by
  intro l
  exact List.length_filter_eq_length_iff
theorem compact_len (zs : List (List UInt8)) : (Lib.compact zs).length = zs.length ↔ ∀ j, 0 < j → j < zs.length → zs[j]? ≠ zs[j - 1]? := by
  have h1 : (Lib.compact zs).length = ((List.range zs.length).filter (Lib.keeps zs.toArray)).length := by unfold Lib.compact Lib.compactUpTo; rw [List.length_map]
  have h2 : (((List.range zs.length).filter (Lib.keeps zs.toArray)).length = zs.length) ↔ ∀ x ∈ List.range zs.length, Lib.keeps zs.toArray x = true := by
    have := filter_len (Lib.keeps zs.toArray) (List.range zs.length)
    rwa [List.length_range] at this
  rw [h1, h2]
  have at1 : ∀ j, j < zs.length → zs.toArray[j]! = zs[j]!  := by intro j hj; simp
  constructor
  · intro h j h0 hj
    have := h j (List.mem_range.2 hj)
    unfold Lib.keeps at this
    have := of_decide_eq_true this
    rcases this with hh | hh
    · omega
    · intro e
      apply hh
      rw [List.getElem?_eq_getElem hj, List.getElem?_eq_getElem (by omega)] at e
      rw [getElem!_pos _ j (by simpa using hj), getElem!_pos _ (j - 1) (by simp; omega)]
      simpa using e
  · intro h j hj
    have hj := List.mem_range.1 hj
    unfold Lib.keeps
    refine decide_eq_true ?_
    by_cases h0 : j = 0
    · exact .inl h0
    · refine .inr fun e => h j (by omega) hj ?_
      rw [getElem!_pos _ j (by simpa using hj), getElem!_pos _ (j - 1) (by simp; omega)] at e
      rw [List.getElem?_eq_getElem hj, List.getElem?_eq_getElem (by omega)]
      simpa using e
theorem sorted_pair (l : List (List UInt8)) : (l.mergeSort fun x y => decide (x ≤ y)).Pairwise (· ≤ ·) := by
  have := List.pairwise_mergeSort (le := fun x y : List UInt8 => decide (x ≤ y)) (by intro a b c h1 h2; simp only [decide_eq_true_eq] at h1 h2 ⊢; exact List.le_trans h1 h2) (by intro a b; simp only [Bool.or_eq_true, decide_eq_true_eq]; exact List.le_total a b) l
  exact this.imp (by intro a b h; simpa using h)
theorem nodup_adj (l : List (List UInt8)) (hp : l.Pairwise (· ≤ ·)) : l.Nodup ↔ ∀ j, 0 < j → j < l.length → l[j]? ≠ l[j - 1]? := by
  constructor
  · intro h j h0 hj e
    rw [List.getElem?_eq_getElem hj, List.getElem?_eq_getElem (by omega)] at e
    have := (List.nodup_iff_pairwise_ne.1 h)
    rw [List.pairwise_iff_getElem] at this
    exact this (j - 1) j (by omega) hj (by omega) (by injection e with e; exact e.symm)
  · intro h
    rw [List.nodup_iff_pairwise_ne, List.pairwise_iff_getElem]
    intro i j hi hj hij e
    rw [List.pairwise_iff_getElem] at hp
    have h1 := hp i (i + 1) hi (by omega) (by omega)
    have h2 : l[i + 1] ≤ l[j] := by
      rcases Nat.lt_or_ge (i + 1) j with hl | hl
      · exact hp (i + 1) j (by omega) hj hl
      · have : i + 1 = j := by omega
        subst this; exact List.le_refl _
    rw [← e] at h2
    have := List.le_antisymm h1 h2
    refine h (i + 1) (by omega) (by omega) ?_
    rw [List.getElem?_eq_getElem (by omega), show i + 1 - 1 = i by omega, List.getElem?_eq_getElem hi, this]
def distinctB (ks : List ByteArray) : Bool := decide (ks.Nodup)
theorem toL_inj : ∀ {a b : ByteArray}, toL a = toL b → a = b := by intro a b h; rw [← toB_toL a, ← toB_toL b, h]
theorem distinct_law (ks : List ByteArray) : (Lib.compact ((sortS ks).map toL)).length = ks.length ↔ ks.Nodup := by
  have e1 : (sortS ks).map toL = (ks.map toL).mergeSort fun x y => decide (x ≤ y) := by unfold sortS; rw [List.map_map]; exact List.map_id _
  have hl : ks.length = ((ks.map toL).mergeSort fun x y => decide (x ≤ y)).length := by simp
  rw [e1, hl, compact_len, ← nodup_adj _ (sorted_pair _), (List.mergeSort_perm _ _).nodup_iff]
  constructor
  · intro h; exact (List.pairwise_map.1 h).imp (by intro a b hne e; exact hne (by rw [e]))
  · intro h; exact List.Pairwise.map toL (by intro a b h e; exact h (toL_inj e)) h
theorem distinct_spec {ks : List ByteArray} {a : Option Addr} {c : Nat} {h : Heap} (hn : ks.length ≤ 4194304) (hs : Sl h 1 a ks.length c (ks.map .string)) :
    HCalls Tryz.prog 21 #[.slice a ks.length c] h fun e h' => e = .returned (.bool (distinctB ks)) ∧ Ext h h' := by
  refine c21 (by simp) ?_
  refine gA ?_
  refine HCall.mk ((values_spec a ks.length c h).mono ?_)
  rintro e h1 ⟨b, rfl, o1, x1⟩
  refine gA ?_
  refine HCall.mk ((sorted_spec hn o1 (hs.ext x1)).mono ?_)
  rintro e h2 ⟨a', c', rfl, w2, x2⟩
  have hl := distinct_law ks
  cases a' with
  | none =>
    have h0 := w2.2.2.1 rfl
    have h3 := w2.2.1
    have hk : ks = [] := List.length_eq_zero_iff.1 (by omega)
    subst hk
    refine gA ?_
    refine HCall.mk ((compact_none none c' h2).mono ?_)
    rintro e h3 ⟨rfl, rfl⟩
    refine gA ?_
    exact ⟨rfl, x1.trans x2⟩
  | some p =>
    obtain ⟨b1, sp, rfl, hB, _⟩ := w2.2.2.2 p rfl
    have w2' : Own h2 h1.size 9 1 (some ⟨b1, 0, none⟩) (sortS ks).length c' ((sortS ks).map .string) := by rw [sortS_len]; exact w2
    have c2 := compact_spec w2' (by rw [sortS_len]; exact hn)
    rw [sortS_len] at c2
    refine gA ?_
    refine HCall.mk (c2.mono ?_)
    rintro e h3 ⟨a3, c3, rfl, f3⟩
    generalize (Lib.compact ((sortS ks).map toL)).length = m at hl
    have q : ((m : Int) == (ks.length : Int)) = distinctB ks := by
      unfold distinctB
      rw [Bool.eq_iff_iff, beq_iff_eq, decide_eq_true_iff, ← hl]; omega
    refine gA ?_
    exact ⟨by rw [← q]; rfl, (x1.trans x2).offNew f3 (Nat.le_trans x1.1 hB)⟩
end Go.Proofs.YtlogpojkkbcpjaaGreat.Hc
/- scope.early: what stands at a place may not be said. -/
set_option linter.unusedVariables false
set_option linter.unusedSimpArgs false
namespace Go.Proofs.YtlogpojkkbcpjaaGreat.Hc
open Go Go.H Go.Proofs
set_option maxRecDepth 100000
set_option maxHeartbeats 8000000
/-- What is around a place. -/
structure Env where
  labels : List (ByteArray × Bool)
  breaks : Bool
  goes : Bool
  inside : Bool
def PRep (h : Heap) (d : NT) (v : Env) (cs : List Value) : Prop := ∃ ncs lb, cs = ncs ++ [.pointer lb, .bool v.breaks, .bool v.goes, .bool v.inside] ∧ TRep h d ncs ∧ LRep h v.labels lb
abbrev zeroP : List Value := [.int .i64 0, .string ⟨#[]⟩, .int .i64 0, .string ⟨#[]⟩, .slice none 0 0, .slice none 0 0, .pointer none, .bool false, .bool false, .bool false]
def kidName (l : List NT) (i : Nat) : ByteArray := match l[i]? with
  | some d => d.name
  | none => ⟨#[]⟩
def earlyB (d : NT) (v : Env) : Bool :=
  if d.kind = 23 ∨ d.kind = 35 then bannedB d.name else
  if d.kind = 39 ∨ d.kind = 10 then bannedB d.name || d.names.any bannedB || !distinctB d.names else
  if d.kind = 20 ∨ d.kind = 16 ∨ d.kind = 30 then (kidKind d.l 0 == 3) && bannedB (kidName d.l 0) else
  if d.kind = 15 then strEq d.name ⟨#[100, 101, 108, 101, 116, 101]⟩ && (kidKind d.l 0 == 3) else
  if d.kind = 8 then !distinctB (d.l.map NT.text) else
  if d.kind = 33 then !v.inside else
  if d.kind = 31 then (strEq d.name ⟨#[]⟩ && !v.breaks) || (!strEq d.name ⟨#[]⟩ && (findL d.name v.labels).isEmpty) else
  if d.kind = 32 then (if strEq d.name ⟨#[]⟩ = true then !v.goes else match findL d.name v.labels with
    | [] => true
    | x :: _ => !x.2) else
  if d.kind = 38 then !(findL d.name v.labels).isEmpty else false
theorem earlyB_mk (k : Int) (nm : ByteArray) (n : Int) (t : ByteArray) (ns : List ByteArray) (l : List NT) (v : Env) : earlyB (.mk k nm n t ns l) v = (
  if k = 23 ∨ k = 35 then bannedB nm else
  if k = 39 ∨ k = 10 then bannedB nm || ns.any bannedB || !distinctB ns else
  if k = 20 ∨ k = 16 ∨ k = 30 then (kidKind l 0 == 3) && bannedB (kidName l 0) else
  if k = 15 then strEq nm ⟨#[100, 101, 108, 101, 116, 101]⟩ && (kidKind l 0 == 3) else
  if k = 8 then !distinctB (l.map NT.text) else
  if k = 33 then !v.inside else
  if k = 31 then (strEq nm ⟨#[]⟩ && !v.breaks) || (!strEq nm ⟨#[]⟩ && (findL nm v.labels).isEmpty) else
  if k = 32 then (if strEq nm ⟨#[]⟩ = true then !v.goes else match findL nm v.labels with
    | [] => true
    | x :: _ => !x.2) else
  if k = 38 then !(findL nm v.labels).isEmpty else false) := rfl
/-- A load of a kid's name. -/
theorem tname {h : Heap} {a : Option Addr} {c : Nat} {xs : List Value} {l : List NT} {p : Addr} {i : Nat} {K : Value → Prop} (x : Sl h 6 a l.length c xs) (r : TReps h l xs) (ep : a = some p) (hi : i < l.length)
    (k : K (.string l[i].name)) : HLoad h ((p.add (i * 6)).add 1) K := by
  obtain ⟨cs, r1, r2⟩ := r.els.get (fun _ _ r => r.len) i hi
  refine ⟨_, ?_, k⟩
  rw [add_add, x.2.2.2 p ep (i * 6 + 1) (by omega), r2 1 (by omega)]
  cases hd : l[i] with
  | mk kk nm n t ns kl =>
  rw [hd] at r1
  simp only [TRep] at r1
  obtain ⟨_, _, _, _, _, _, _, ka, kc, la, lc, ys, rfl, _⟩ := r1
  rfl
theorem isNil_of {h : Heap} {l : List (ByteArray × Bool)} {a : Option Addr} (r : LRep h l a) : a.isNone = l.isEmpty := by
  cases l with
  | nil => simp only [LRep] at r; subst r; rfl
  | cons x l => obtain ⟨b, up, rfl, _⟩ := r; rfl
theorem early_spec {h : Heap} {d : NT} {v : Env} {cs : List Value} (r : PRep h d v cs) (hk : okT d = true) : HCalls Tryz.prog 11 #[.agg cs.toArray] h fun e h' => e = .returned (.bool (earlyB d v)) ∧ Ext h h' := by
  cases d with
  | mk k nm n t ns l =>
  obtain ⟨ncs, lb, rfl, r, rl⟩ := r
  simp only [TRep] at r
  obtain ⟨b1, b2, b3, b4, b5, b6, b7, ka, kc, la, lc, ys, rfl, s1, s2, s3⟩ := r
  simp only [List.cons_append, List.nil_append]
  generalize hz : earlyB (.mk k nm n t ns l) v = z
  refine c11 (by simp) ?_
  refine gA ?_
  refine new_var (e := 37) [.int .i64 k, .string nm, .int .i64 n, .string t, .slice ka ns.length kc, .slice la l.length lc, .pointer lb, .bool v.breaks, .bool v.goes, .bool v.inside] rfl ?_
  intro h1 bp o1 x1 z1 hbp
  refine gA ?_
  refine ldP o1 rfl rfl ?_
  refine gA ?_
  refine new_var (e := 25) zeroT rfl ?_
  intro h2 bn o2 x2 z2 hbn
  have o1 := o1.ext x2
  refine gA ?_
  refine store_blk o2 (by simp) (by simp [isOne]) ?_
  intro h3 f3 z3 o3
  replace o3 : BlkW h3 bn 25 [.int .i64 k, .string nm, .int .i64 n, .string t, .slice ka ns.length kc, .slice la l.length lc] := by simpa using o3
  have hb := o1.lt
  have hb1 := x1.1
  have hb2 := x2.1
  have o1 := o1.offk f3 (by omega)
  have x3 : Ext h h3 := (x1.trans x2).offNew f3 (by omega)
  clear o2
  have s1 := s1.ext x3
  have s2 := s2.ext x3
  have s3 := s3.ext x3
  have rl := rl.ext x3
  rw [earlyB_mk] at hz
  simp only [okT, Bool.and_eq_true] at hk
  have hneed : needs k = true → 0 < l.length := by
    intro e
    have := hk.1
    rw [e, Bool.not_true, Bool.false_or] at this
    have := of_decide_eq_true this
    omega
  by_cases hA : k = 23 ∨ k = 35
  · rw [if_pos hA] at hz
    subst hz
    have qs : (k == 23) = true ∨ ((k == 23) = false ∧ (k == 35) = true) := by rcases hA with rfl | rfl <;> decide
    rcases qs with q | ⟨q, q2⟩
    · refine gA ?_
      refine HCall.mk ((banned_spec nm h3).mono ?_)
      rintro e h4 ⟨rfl, rfl⟩
      refine gA ?_
      exact ⟨rfl, x3⟩
    · refine gA ?_
      refine HCall.mk ((banned_spec nm h3).mono ?_)
      rintro e h4 ⟨rfl, rfl⟩
      refine gA ?_
      exact ⟨rfl, x3⟩
  rw [if_neg hA] at hz
  have qA1 : (k == 23) = false := beq_eq_false_iff_ne.2 fun e => hA (.inl e)
  have qA2 : (k == 35) = false := beq_eq_false_iff_ne.2 fun e => hA (.inr e)
  clear hA
  by_cases hB : k = 39 ∨ k = 10
  · rw [if_pos hB] at hz
    have qs : (k == 39) = true ∨ ((k == 39) = false ∧ (k == 10) = true) := by rcases hB with rfl | rfl <;> decide
    have cb : HCalls Tryz.prog 20 #[.slice ka ns.length kc, .func (.func 19) #[] #[]] h3 fun e h' => e = .returned (.bool (ns.any bannedB)) ∧ h' = h3 :=
      containsFunc_spec (by kernel_rfl) (fun s _ => banned_spec s h3) s1 b5
    have cd := distinct_spec b5 s1
    have fin : ∀ {K : Ending → Heap → Prop}, (∀ h', Ext h h' → K (.returned (.bool z)) h') → ∀ h', Ext h h' → K (.returned (.bool z)) h' := fun k => k
    rcases qs with q | ⟨q, q2⟩
    · refine gA ?_
      refine HCall.mk ((banned_spec nm h3).mono ?_)
      rintro e h4 ⟨rfl, rfl⟩
      cases e1 : bannedB nm
      · refine gA ?_
        refine HCall.mk (cb.mono ?_)
        rintro e h5 ⟨rfl, rfl⟩
        cases e2 : ns.any bannedB
        · refine gA ?_
          refine HCall.mk (cd.mono ?_)
          rintro e h6 ⟨rfl, x6⟩
          refine gA ?_
          exact ⟨by rw [← hz, e1, e2]; rfl, x3.trans x6⟩
        · refine gA ?_
          exact ⟨by rw [← hz, e1, e2]; rfl, x3⟩
      · refine gA ?_
        exact ⟨by rw [← hz, e1]; rfl, x3⟩
    · refine gA ?_
      refine HCall.mk ((banned_spec nm h3).mono ?_)
      rintro e h4 ⟨rfl, rfl⟩
      cases e1 : bannedB nm
      · refine gA ?_
        refine HCall.mk (cb.mono ?_)
        rintro e h5 ⟨rfl, rfl⟩
        cases e2 : ns.any bannedB
        · refine gA ?_
          refine HCall.mk (cd.mono ?_)
          rintro e h6 ⟨rfl, x6⟩
          refine gA ?_
          exact ⟨by rw [← hz, e1, e2]; rfl, x3.trans x6⟩
        · refine gA ?_
          exact ⟨by rw [← hz, e1, e2]; rfl, x3⟩
      · refine gA ?_
        exact ⟨by rw [← hz, e1]; rfl, x3⟩
  rw [if_neg hB] at hz
  have qB1 : (k == 39) = false := beq_eq_false_iff_ne.2 fun e => hB (.inl e)
  have qB2 : (k == 10) = false := beq_eq_false_iff_ne.2 fun e => hB (.inr e)
  clear hB
  by_cases hC : k = 20 ∨ k = 16 ∨ k = 30
  · rw [if_pos hC] at hz
    have hl : 0 < l.length := hneed (by rcases hC with rfl | rfl | rfl <;> rfl)
    have hkn : kidName l 0 = l[0].name := by unfold kidName; rw [List.getElem?_eq_getElem hl]
    rw [kidKind_in hl, hkn] at hz
    have q20 : ∀ b, (k == 20) = b → (k == 20) = b := fun _ h => h
    cases q1 : (k == 20) <;> cases q2 : (k == 16) <;> cases q3 : (k == 30)
    · rw [beq_eq_false_iff_ne] at q1 q2 q3
      exact absurd hC (by rintro (h | h | h) <;> contradiction)
    all_goals
      refine gA ?_
      refine HIdx.mk 0 rfl hl ?_
      refine sl_some s2 hl fun p ep => ?_
      refine gA ?_
      refine tkind s2 s3 ep hl ?_
      cases e1 : (l[0].kind == 3)
      · refine gA ?_
        exact ⟨by rw [← hz, e1]; rfl, x3⟩
      · refine gA ?_
        refine HIdx.mk 0 rfl hl ?_
        refine sl_some s2 hl fun p ep => ?_
        refine gA ?_
        refine tname s2 s3 ep hl ?_
        refine gA ?_
        refine HCall.mk ((banned_spec l[0].name h3).mono ?_)
        rintro e h4 ⟨rfl, rfl⟩
        refine gA ?_
        exact ⟨by rw [← hz, e1]; rfl, x3⟩
  rw [if_neg hC] at hz
  have qC1 : (k == 20) = false := beq_eq_false_iff_ne.2 fun e => hC (.inl e)
  have qC2 : (k == 16) = false := beq_eq_false_iff_ne.2 fun e => hC (.inr (.inl e))
  have qC3 : (k == 30) = false := beq_eq_false_iff_ne.2 fun e => hC (.inr (.inr e))
  clear hC
  by_cases hD : k = 15
  · rw [if_pos hD] at hz
    have hl : 0 < l.length := hneed (by rw [hD]; rfl)
    rw [kidKind_in hl] at hz
    have q : (k == 15) = true := beq_iff_eq.2 hD
    cases e1 : strEq nm ⟨#[100, 101, 108, 101, 116, 101]⟩
    · refine gA ?_
      exact ⟨by rw [← hz, e1]; rfl, x3⟩
    · refine gA ?_
      refine HIdx.mk 0 rfl hl ?_
      refine sl_some s2 hl fun p ep => ?_
      refine gA ?_
      refine tkind s2 s3 ep hl ?_
      refine gA ?_
      exact ⟨by rw [← hz, e1]; rfl, x3⟩
  rw [if_neg hD] at hz
  have qD : (k == 15) = false := beq_eq_false_iff_ne.2 hD
  clear hD
  by_cases hE : k = 8
  · rw [if_pos hE] at hz
    have q : (k == 8) = true := beq_iff_eq.2 hE
    refine gA ?_
    refine loop_rule [4, 71] (fun vs h' => ∃ (i : Nat) (a' : Option Addr) (c' : Nat), vs = [.slice a' i c', .int .i64 i] ∧ i ≤ l.length ∧ Own h' h3.size 9 1 a' i c' (((l.take i).map NT.text).map .string) ∧ Ext h3 h')
      (fun vs _ => match vs with | [_, .int _ i] => l.length - i.toNat | _ => 0) rfl ?_ ?_
    · exact ⟨0, none, 0, rfl, by omega, Own.nil _ _ _ _, Ext.refl _⟩
    intro u h4 v4 v71
    rintro ⟨i, a4, c4, e, hi, w4, x4⟩
    cases e
    refine gA ?_
    refine HIf.mk (fun hlt => ?_) (fun hlt => ?_)
    · have hi1 : i < l.length := by have := of_decide_eq_true hlt; omega
      have hmu : l.length - ((i : Int) + 1).toNat < l.length - ((i : Int)).toNat := by omega
      have vt : ((l.take (i + 1)).map NT.text).map Value.string = ((l.take i).map NT.text).map Value.string ++ [.string l[i].text] := by rw [take_succ' hi1, List.map_append, List.map_append]; rfl
      generalize ((l.take i).map NT.text).map Value.string = out at w4 vt
      refine gA ?_
      refine HIdx.mk i rfl hi1 ?_
      refine sl_some s2 hi1 fun p ep => ?_
      refine gA ?_
      refine tload' s2 s3 x4 ep hi1 fun cs rt => ?_
      cases hd : l[i] with
      | mk k' nm' n' t' ns' kl =>
      rw [hd] at rt vt
      simp only [TRep] at rt
      obtain ⟨_, _, _, _, _, _, _, ka', kc', la', lc', ys', rfl, _⟩ := rt
      refine gA ?_
      refine new_var (e := 25) zeroT rfl ?_
      intro h5 b5 o5 x5 z5 hb5
      have w5 := w4.ext x5
      have hs5 := x5.1
      have hs4 := x4.1
      have w4lt := w4.lt
      refine gA ?_
      refine store_blk o5 (by simp) (by simp [isOne]) ?_
      intro h6 f6 z6 o6
      replace o6 : BlkW h6 b5 25 [.int .i64 k', .string nm', .int .i64 n', .string t', .slice ka' ns'.length kc', .slice la' kl.length lc'] := by simpa using o6
      have w6 := w5.off f6 (fun p ep => by have := w4lt p ep; omega)
      have x6 : Ext h3 h6 := (x4.trans x5).offNew f6 (by omega)
      clear o5
      refine gA ?_
      refine new_own (e := 9) 1 1 [.string t'] rfl rfl ?_
      intro h7 b7 w7 x7 z7 hb7
      have w67 := w6.ext x7
      have hs7 := x7.1
      refine gA ?_
      refine w7.sl.cells ?_
      refine Own.grow w67 (by omega) rfl rfl (by intro v hv; simp only [List.mem_singleton] at hv; subst hv; rfl) (by omega) ?_
      intro h8 a8 c8 w8 g8
      refine gA ?_
      exact ⟨⟨i + 1, a8, c8, rfl, by omega, by rw [vt]; exact w8, (x6.trans x7).keep (g8.kept (by omega) fun p ep => (w4lt p ep).1)⟩, hmu⟩
    · have hge := of_decide_eq_false hlt
      obtain rfl : i = l.length := by omega
      rw [List.take_length] at w4
      have sw := w4.sl
      have e4 : l.length = (l.map NT.text).length := by simp
      rw [e4] at sw
      have cd := distinct_spec (by simpa using b6) sw
      rw [← e4] at cd
      refine gA ?_
      refine HCall.mk (cd.mono ?_)
      rintro e h6 ⟨rfl, x6⟩
      refine gA ?_
      exact ⟨by rw [← hz]; rfl, x3.trans (x4.trans x6)⟩
  rw [if_neg hE] at hz
  have qE : (k == 8) = false := beq_eq_false_iff_ne.2 hE
  clear hE
  by_cases hF : k = 33
  · rw [if_pos hF] at hz
    have q : (k == 33) = true := beq_iff_eq.2 hF
    refine gA ?_
    exact ⟨by rw [← hz]; rfl, x3⟩
  rw [if_neg hF] at hz
  have qF : (k == 33) = false := beq_eq_false_iff_ne.2 hF
  clear hF
  by_cases hG : k = 31
  · rw [if_pos hG] at hz
    have q : (k == 31) = true := beq_iff_eq.2 hG
    cases e1 : strEq nm ⟨#[]⟩
    · have e2 : (!strEq nm ⟨#[]⟩) = true := by rw [e1]; rfl
      refine gA ?_
      refine HCall.mk ((find_spec rl nm).mono ?_)
      rintro e h4 ⟨rfl, a4, rfl, r4⟩
      have en := isNil_of r4
      refine gA ?_
      exact ⟨by rw [← hz, e1, ← en]; rfl, x3⟩
    · have e2 : (!strEq nm ⟨#[]⟩) = false := by rw [e1]; rfl
      cases e3 : v.breaks
      · have e4 : (!v.breaks) = true := by rw [e3]; rfl
        refine gA ?_
        exact ⟨by rw [← hz, e1, e3]; rfl, x3⟩
      · have e4 : (!v.breaks) = false := by rw [e3]; rfl
        refine gA ?_
        exact ⟨by rw [← hz, e1, e3]; rfl, x3⟩
  rw [if_neg hG] at hz
  have qG : (k == 31) = false := beq_eq_false_iff_ne.2 hG
  clear hG
  by_cases hH : k = 32
  · rw [if_pos hH] at hz
    have q : (k == 32) = true := beq_iff_eq.2 hH
    cases e1 : strEq nm ⟨#[]⟩
    · refine gA ?_
      refine HCall.mk ((find_spec rl nm).mono ?_)
      rintro e h4 ⟨rfl, a4, rfl, r4⟩
      rw [e1, if_neg (by simp)] at hz
      cases hf : findL nm v.labels with
      | nil =>
        rw [hf] at r4 hz
        simp only [LRep] at r4
        subst r4
        refine gA ?_
        exact ⟨by rw [← hz]; rfl, x3⟩
      | cons x lr =>
        rw [hf] at r4 hz
        obtain ⟨b, up, rfl, o, hu, r5⟩ := r4
        have qn : (bif false then !(some (⟨b, 0, none⟩ : Addr)).isNone else (some (⟨b, 0, none⟩ : Addr)).isNone) = false := rfl
        refine gA ?_
        exact ⟨by rw [← hz]; rfl, x3⟩
    · refine gA ?_
      rw [e1, if_pos rfl] at hz
      exact ⟨by rw [← hz]; rfl, x3⟩
  rw [if_neg hH] at hz
  have qH : (k == 32) = false := beq_eq_false_iff_ne.2 hH
  clear hH
  by_cases hI : k = 38
  · rw [if_pos hI] at hz
    have q : (k == 38) = true := beq_iff_eq.2 hI
    refine gA ?_
    refine HCall.mk ((find_spec rl nm).mono ?_)
    rintro e h4 ⟨rfl, a4, rfl, r4⟩
    have en := isNil_of r4
    refine gA ?_
    exact ⟨by rw [← hz, ← en]; rfl, x3⟩
  rw [if_neg hI] at hz
  have qI : (k == 38) = false := beq_eq_false_iff_ne.2 hI
  refine gA ?_
  exact ⟨by rw [← hz]; rfl, x3⟩
end Go.Proofs.YtlogpojkkbcpjaaGreat.Hc
/- scope.walk: all places of a tree are told, until one is enough. -/
set_option linter.unusedVariables false
set_option linter.unusedSimpArgs false
namespace Go.Proofs.YtlogpojkkbcpjaaGreat.Hc
open Go Go.H Go.Proofs
set_option maxRecDepth 100000
set_option maxHeartbeats 8000000
mutual
/-- What a label's statement is, without its labels. -/
def bottomK : NT → Int
  | .mk k _ _ _ _ l => if k = 38 then bottomL l else k
def bottomL : List NT → Int
  | [] => 38
  | d :: _ => bottomK d
end
theorem bottomL_0 {l : List NT} (hl : 0 < l.length) : bottomL l = bottomK l[0] := by cases l with
  | nil => simp at hl
  | cons d r => rfl
def innerV (d : NT) (v : Env) : Env :=
  if d.kind = 39 ∨ d.kind = 10 then ⟨[], false, false, true⟩ else
  if loopK d.kind = true then ⟨v.labels, true, true, v.inside⟩ else
  if d.kind = 36 then ⟨v.labels, true, v.goes, v.inside⟩ else
  if d.kind = 38 then ⟨(d.name, loopK (bottomK d)) :: v.labels, v.breaks, v.goes, v.inside⟩ else v
theorem innerV_mk (k : Int) (nm : ByteArray) (n : Int) (t : ByteArray) (ns : List ByteArray) (l : List NT) (v : Env) : innerV (.mk k nm n t ns l) v = (
  if k = 39 ∨ k = 10 then ⟨[], false, false, true⟩ else
  if loopK k = true then ⟨v.labels, true, true, v.inside⟩ else
  if k = 36 then ⟨v.labels, true, v.goes, v.inside⟩ else
  if k = 38 then ⟨(nm, loopK (bottomK (.mk k nm n t ns l))) :: v.labels, v.breaks, v.goes, v.inside⟩ else v) := rfl
mutual
/-- Whether there is such a place. -/
def anyT (q : NT → Env → Bool) : NT → Env → Bool
  | .mk k nm n t ns l, v => q (.mk k nm n t ns l) v || anyL q l (innerV (.mk k nm n t ns l) v)
def anyL (q : NT → Env → Bool) : List NT → Env → Bool
  | [], v => false
  | d :: r, v => anyT q d v || anyL q r v
end
theorem anyL_append (q : NT → Env → Bool) (v : Env) : ∀ l m : List NT, anyL q (l ++ m) v = (anyL q l v || anyL q m v)
  | [], m => by simp [anyL]
  | d :: l, m => by simp only [List.cons_append, anyL, anyL_append q v l m, Bool.or_assoc]
theorem anyL_take (q : NT → Env → Bool) (v : Env) (l : List NT) (i : Nat) (hi : i < l.length) : anyL q (l.take (i + 1)) v = (anyL q (l.take i) v || anyT q l[i] v) := by
  rw [take_succ' hi, anyL_append]; simp [anyL]
theorem anyL_yes {q : NT → Env → Bool} {v : Env} {l : List NT} {i : Nat} (h : anyL q (l.take i) v = true) : anyL q l v = true := by
  rw [← List.take_append_drop i l, anyL_append, h]; rfl
theorem KeepC.offNew {a b c : Heap} {k : Nat} (x : KeepC a b) (o : Off k b c) (hk : a.size ≤ k) : KeepC a c :=
  ⟨Nat.le_trans x.1 o.1, fun i cs e f z => by
    have h1 := x.2 i cs e f z
    have hi : i < a.size := by
      rcases Nat.lt_or_ge i a.size with hl | hl
      · exact hl
      · rw [Array.getElem?_eq_none hl] at z; cases z
    rw [o.2 i (Nat.lt_of_lt_of_le hi x.1) (by omega)]; exact h1⟩
theorem KeepC.ext {a b c : Heap} (x : KeepC a b) (o : Ext b c) : KeepC a c := x.trans (.of_ext o)
theorem tloadK {h h1 : Heap} {a : Option Addr} {c : Nat} {xs : List Value} {l : List NT} {p : Addr} {i : Nat} {K : Value → Prop} (x : Sl h 6 a l.length c xs) (r : TReps h l xs) (e1 : KeepC h h1) (ep : a = some p) (hi : i < l.length)
    (k : ∀ cs, TRep h l[i] cs → K (.agg cs.toArray)) : HLoadN h1 (p.add (i * 6)) 6 K := by
  obtain ⟨cs, r1, r2⟩ := r.els.get (fun _ _ r => r.len) i hi
  refine ⟨cs, r1.len, fun j hj => ?_, k cs r1⟩
  rw [← r2 j hj, add_add, (x.keepC e1).2.2.2 p ep (i * 6 + j) (by omega)]
theorem ld2 {h : Heap} {b e o1 o2 : Nat} {cs : List Value} {v : Value} {K : Value → Prop} (x : BlkW h b e cs) (hv : cs[o1 + o2]? = some v) (k : K v) : HLoad h (((⟨b, 0, none⟩ : Addr).add o1).add o2) K := by
  rw [add_mk, add_mk, Nat.zero_add]
  exact ⟨v, by rw [x.blk.cell]; exact hv, k⟩
theorem stP {h : Heap} {b e o : Nat} {cs vs : List Value} {K : Heap → Prop} (x : BlkW h b e cs) (hl : o + vs.length ≤ cs.length) (one : ∀ v ∈ vs, isOne v = true)
    (k : ∀ h', Off b h h' → h'.size = h.size → BlkW h' b e (cs.take o ++ (vs ++ cs.drop (o + vs.length))) → K h') : HStore h ((⟨b, 0, none⟩ : Addr).add o) vs K := by
  rw [add_mk, Nat.zero_add]; exact store_blk x hl one k
theorem BlkW.same {h : Heap} {b e e' : Nat} {cs cs' : List Value} (x : BlkW h b e cs) (y : BlkW h b e' cs') : cs = cs' := by
  obtain ⟨f, x, _⟩ := x
  obtain ⟨f', y, _⟩ := y
  rw [x] at y
  injection y with y
  injection y with y _ _
  simpa using congrArg Array.toList y
/-- Labels stay where something longer is written. -/
theorem LRep.offk {h h' : Heap} {b e : Nat} {cs : List Value} (o : BlkW h b e cs) (hc : cs.length = 10) (f : Off b h h') : ∀ {l : List (ByteArray × Bool)} {a : Option Addr}, LRep h l a → LRep h' l a
  | [], a, r => r
  | x :: r, a, ⟨b', up, e, o', hu, r2⟩ => ⟨b', up, e, o'.offk f (by rintro rfl; have := congrArg List.length (BlkW.same o o'); rw [hc] at this; simp at this), hu, LRep.offk o hc f r2⟩
/-- What is told of each place. -/
structure Seen (q : NT → Env → Bool) (l B : Nat) (Inv Fin : Heap → Prop) : Prop where
  stay : ∀ h h', Inv h → Kept B h h' → Inv h'
  told : ∀ h d v cs, Inv h → B ≤ h.size → okT d = true → PRep h d v cs → HYield Tryz.prog l #[.agg cs.toArray] h fun e h' => (q d v = false ∧ e = .returned (.bool true) ∧ Inv h' ∧ KeepC h h') ∨ (q d v = true ∧ e = .returned (.bool false) ∧ Fin h')
theorem walk_spec {q : NT → Env → Bool} {lp B : Nat} {Inv Fin : Heap → Prop} (S : Seen q lp B Inv Fin) : ∀ (m : Nat) (d : NT) (_ : cnt d = m) (h : Heap) (v : Env) (cs : List Value) (_ : Inv h) (_ : B ≤ h.size) (_ : PRep h d v cs) (_ : okT d = true),
    HCalls Tryz.prog 18 #[.agg cs.toArray, .func (.yield lp) #[] #[]] h fun e h' => (anyT q d v = false ∧ e = .returned (.bool true) ∧ Inv h' ∧ KeepC h h') ∨ (anyT q d v = true ∧ e = .returned (.bool false) ∧ Fin h') := by
  intro m
  induction m using Nat.strongRecOn with
  | ind m ih =>
  intro d hm h v cs hI hB r hk
  have r0 := r
  cases d with
  | mk k nm n t ns l =>
  obtain ⟨ncs, lb, rfl, r, rl⟩ := r
  have rt := r
  simp only [TRep] at r
  obtain ⟨b1, b2, b3, b4, b5, b6, b7, ka, kc, la, lc, ys, rfl, s1, s2, s3⟩ := r
  simp only [List.cons_append, List.nil_append] at r0 ⊢
  have hz : anyT q (.mk k nm n t ns l) v = (q (.mk k nm n t ns l) v || anyL q l (innerV (.mk k nm n t ns l) v)) := rfl
  generalize anyT q (.mk k nm n t ns l) v = z at hz
  refine c18 (by simp) ?_
  refine gA ?_
  refine new_var (e := 37) [.int .i64 k, .string nm, .int .i64 n, .string t, .slice ka ns.length kc, .slice la l.length lc, .pointer lb, .bool v.breaks, .bool v.goes, .bool v.inside] rfl ?_
  intro h1 bp o1 x1 z1 hbp
  refine gA ?_
  refine yield_call (S.told h1 (.mk k nm n t ns l) v _ (S.stay _ _ hI (x1.kept hB)) (by omega) hk ⟨_, lb, rfl, TRep.ext x1 rt, rl.ext x1⟩) ?_
  rintro e h2 hh
  rcases hh with ⟨q1, rfl, i2, k2⟩ | ⟨q1, rfl, i2⟩
  · rw [q1, Bool.false_or] at hz
    have o1 := o1.keepC k2
    have k02 : KeepC h h2 := (KeepC.of_ext x1).trans k2
    refine gA ?_
    refine new_var (e := 37) zeroP rfl ?_
    intro h3 b5 o3 x3 z3 hb5
    have o1 := o1.ext x3
    refine gA ?_
    refine store_blk o3 (by simp) (by simp [isOne]) ?_
    intro h4 f4 z4 o4
    replace o4 : BlkW h4 b5 37 [.int .i64 k, .string nm, .int .i64 n, .string t, .slice ka ns.length kc, .slice la l.length lc, .pointer lb, .bool v.breaks, .bool v.goes, .bool v.inside] := by simpa using o4
    have hb := o1.lt
    have hb1 := x1.1
    have hb2 := k2.1
    have hb3 := x3.1
    have o1 := o1.offk f4 (by omega)
    have k4 : KeepC h h4 := (k02.ext x3).offNew f4 (by omega)
    have i4 : Inv h4 := S.stay _ _ (S.stay _ _ i2 (x3.kept (by omega))) (f4.kept (by omega) (by omega))
    have rt4 := TRep.keepC k4 _ _ rt
    have rl4 := rl.keepC k4
    have z4' : h4.size = h3.size := z4
    clear o3 i2 f4 z4
    generalize hw : innerV (.mk k nm n t ns l) v = w at hz
    rw [innerV_mk] at hw
    refine gB ?_
    refine cut_rule [] (fun vs h' => ∃ (ncs' : List Value) (lb' : Option Addr), ncs'.length = 6 ∧ BlkW h' b5 37 (ncs' ++ [.pointer lb', .bool w.breaks, .bool w.goes, .bool w.inside]) ∧ LRep h' w.labels lb' ∧ BlkW h' bp 37 [.int .i64 k, .string nm, .int .i64 n, .string t, .slice ka ns.length kc, .slice la l.length lc, .pointer lb, .bool v.breaks, .bool v.goes, .bool v.inside] ∧ KeepC h h' ∧ Inv h') rfl ?_ ?_
    · by_cases hA : k = 39 ∨ k = 10
      · rw [if_pos hA] at hw
        subst hw
        have qs : (k == 39) = true ∨ ((k == 39) = false ∧ (k == 10) = true) := by rcases hA with rfl | rfl <;> decide
        rcases qs with q | ⟨q, q2⟩
        all_goals
          refine gA ?_
          refine ld2 (o1 := 0) (o2 := 0) o1 rfl ?_
          refine gA ?_
          refine store_blk o4 (by simp) (by simp [isOne]) ?_
          intro h5 f5 z5 o5
          refine gA ?_
          exact ⟨[.int .i64 0, .string ⟨#[]⟩, .int .i64 0, .string ⟨#[]⟩, .slice none 0 0, .slice none 0 0], none, rfl, by simpa using o5, rfl, o1.offk f5 (by omega), k4.offNew f5 (by omega), S.stay _ _ i4 (f5.kept (by omega) (by omega))⟩
      rw [if_neg hA] at hw
      have qA1 : (k == 39) = false := beq_eq_false_iff_ne.2 fun e => hA (.inl e)
      have qA2 : (k == 10) = false := beq_eq_false_iff_ne.2 fun e => hA (.inr e)
      clear hA
      refine gA ?_
      refine ld2 (o1 := 0) (o2 := 0) o1 rfl ?_
      refine gA ?_
      refine ldP o1 rfl rfl ?_
      refine gA ?_
      refine HCall.mk ((loopk_spec rt4).mono ?_)
      rintro e h5 ⟨rfl, x5⟩
      have hb5' := x5.1
      have o1 := o1.ext x5
      have o4 := o4.ext x5
      have k5 := k4.ext x5
      have i5 : Inv h5 := S.stay _ _ i4 (x5.kept (by omega))
      have rt5 := rt4.ext x5
      have rl5 := rl4.ext x5
      rw [show NT.kind (.mk k nm n t ns l) = k from rfl]
      clear rt4 rl4 i4 k4
      cases qL : loopK k
      · rw [qL, if_neg (by simp)] at hw
        by_cases hC : k = 36
        · rw [if_pos hC] at hw
          subst hw
          have q : (k == 36) = true := beq_iff_eq.2 hC
          refine gA ?_
          refine blk_st (o := 7) o4 (by simp) rfl ?_
          intro h6 f6 z6 o6
          refine gA ?_
          exact ⟨[.int .i64 k, .string nm, .int .i64 n, .string t, .slice ka ns.length kc, .slice la l.length lc], lb, rfl, o6, LRep.keepC (.refl _) (rl.keepC (k5.offNew f6 (by omega))), o1.offk f6 (by omega), k5.offNew f6 (by omega), S.stay _ _ i5 (f6.kept (by omega) (by omega))⟩
        · rw [if_neg hC] at hw
          have q : (k == 36) = false := beq_eq_false_iff_ne.2 hC
          clear hC
          by_cases hD : k = 38
          · rw [if_pos hD] at hw
            have q : (k == 38) = true := beq_iff_eq.2 hD
            refine gA ?_
            refine ldP o1 rfl rfl ?_
            refine gA ?_
            refine new_var (e := 25) zeroT rfl ?_
            intro h6 b7 o6 x6 z6 hb7
            have o1 := o1.ext x6
            have o4 := o4.ext x6
            have hb6 := x6.1
            refine gA ?_
            refine store_blk o6 (by simp) (by simp [isOne]) ?_
            intro h7 f7 z7 o7
            replace o7 : BlkW h7 b7 25 [.int .i64 k, .string nm, .int .i64 n, .string t, .slice ka ns.length kc, .slice la l.length lc] := by simpa using o7
            have o1 := o1.offk f7 (by omega)
            have o4 := o4.offk f7 (by omega)
            have k57 : KeepC h5 h7 := (KeepC.of_ext x6).offNew f7 (by omega)
            have k7 := k5.trans k57
            have i7 : Inv h7 := S.stay _ _ (S.stay _ _ i5 (x6.kept (by omega))) (f7.kept (by omega) (by omega))
            have hs7 : h7.size = h6.size := z7
            clear o6 x6 f7 z7
            refine gA ?_
            refine loop_ghost [] (fun (d' : NT) vs h' => ∃ cs', TRep h5 d' cs' ∧ BlkW h' b7 25 cs' ∧ okT d' = true ∧ bottomK d' = bottomK (.mk k nm n t ns l) ∧ Off b7 h7 h' ∧ h'.size = h7.size) cnt rfl ?_ ?_
            · exact ⟨.mk k nm n t ns l, _, rt5, o7, hk, rfl, ⟨Nat.le_refl _, fun _ _ _ => rfl⟩, rfl⟩
            intro d' u8 h8
            rintro ⟨cs', r8, o8, hk8, hbk, f8, z8⟩
            have k8 : KeepC h5 h8 := k57.offNew f8 (by omega)
            have o1 := o1.offk f8 (by omega)
            have o4 := o4.offk f8 (by omega)
            have kk8 := k7.offNew f8 (by omega)
            have i8 : Inv h8 := S.stay _ _ i7 (f8.kept (by omega) (by omega))
            have lb8 := rl5.keepC k8
            cases d' with
            | mk k' nm' n' t' ns' l' =>
            have rr0 := r8
            simp only [TRep] at r8
            obtain ⟨_, _, _, _, _, _, _, ka', kc', la', lc', ys', rfl, t1, t2, t3⟩ := r8
            by_cases hk' : k' = 38
            · have qk : (k' == 38) = true := beq_iff_eq.2 hk'
              have hl' : 0 < l'.length := by
                simp only [okT, Bool.and_eq_true] at hk8
                have := hk8.1
                rw [hk', show needs 38 = true from rfl, Bool.not_true, Bool.false_or] at this
                have := of_decide_eq_true this
                omega
              have hbot : bottomK (.mk k' nm' n' t' ns' l') = bottomK l'[0] := by simp only [bottomK]; rw [if_pos hk', bottomL_0 hl']
              have hcg := cnts_get l' 0 hl'
              refine gA ?_
              refine HIdx.mk 0 rfl hl' ?_
              refine sl_some t2 hl' fun p ep => ?_
              refine gA ?_
              refine tloadK t2 t3 k8 ep hl' fun cs rt8 => ?_
              have hcl := rt8.len
              refine gA ?_
              refine HMust.mk (by simpa using hcl) ?_
              refine store_blk o8 (by simp [hcl]) (by simpa using rt8.one) ?_
              intro h9 f9 z9 o9
              have o9' : BlkW h9 b7 25 cs := by simpa [hcl] using o9
              refine gA ?_
              exact ⟨l'[0], ⟨cs, rt8, o9', okL_get (by simp only [okT, Bool.and_eq_true] at hk8; exact hk8.2) 0 hl', by rw [← hbk, hbot], f8.trans f9, by rw [z9, z8]⟩, by show cnt l'[0] < cnt (.mk k' nm' n' t' ns' l'); simp only [cnt]; omega⟩
            · have qk : (k' == 38) = false := beq_eq_false_iff_ne.2 hk'
              have hbot : bottomK (.mk k' nm' n' t' ns' l') = k' := by simp only [bottomK]; rw [if_neg hk']
              rw [← hbk, hbot] at hw
              have rr9 := TRep.keepC k8 _ _ rr0
              refine gA ?_
              repeat' (first | ((with_reducible refine HAlt.mk ?_ ?_) <;> refine gA ?_) | ((with_reducible refine ld2 (o1 := 0) (o2 := 1) o1 rfl ?_); refine gA ?_))
              all_goals
                refine HCall.mk ((loopk_spec rr9).mono ?_)
                rintro e h9 ⟨rfl, x9⟩
                have o1 := o1.ext x9
                have o4 := o4.ext x9
                have kk9 := kk8.ext x9
                have hb9 := x9.1
                have i9 : Inv h9 := S.stay _ _ i8 (x9.kept (by omega))
                have lb9 := lb8.ext x9
                refine gA ?_
                repeat' ((with_reducible refine ld2 (o1 := 0) (o2 := 1) o1 rfl ?_); refine gA ?_)
                refine new_var (e := 50) [.string nm, .bool (loopK k'), .pointer lb] rfl ?_
                intro h10 bl o10 x10 z10 hbl
                have o1 := o1.ext x10
                have o4 := o4.ext x10
                have kk10 := kk9.ext x10
                have lb10 := lb9.ext x10
                have hb10 := x10.1
                have i10 : Inv h10 := S.stay _ _ i9 (x10.kept (by omega))
                have lbl := lb9.lt
                refine gA ?_
                refine blk_st (o := 6) o4 (by simp) rfl ?_
                intro h11 f11 z11 o11
                refine gA ?_
                rw [← hw]
                exact ⟨[.int .i64 k, .string nm, .int .i64 n, .string t, .slice ka ns.length kc, .slice la l.length lc], some ⟨bl, 0, none⟩, rfl, o11, ⟨bl, lb, rfl, o10.offk f11 (by omega), fun p ep => by have := lbl p ep; omega, rl.keepC (kk10.offNew f11 (by omega))⟩, o1.offk f11 (by omega), kk10.offNew f11 (by omega), S.stay _ _ i10 (f11.kept (by omega) (by omega))⟩
          · rw [if_neg hD] at hw
            subst hw
            have q : (k == 38) = false := beq_eq_false_iff_ne.2 hD
            refine gA ?_
            exact ⟨[.int .i64 k, .string nm, .int .i64 n, .string t, .slice ka ns.length kc, .slice la l.length lc], lb, rfl, o4, rl5, o1, k5, i5⟩
      · rw [qL, if_pos rfl] at hw
        subst hw
        refine gA ?_
        refine blk_st (o := 7) o4 (by simp) rfl ?_
        intro h6 f6 z6 o6
        replace o6 : BlkW h6 b5 37 [.int .i64 k, .string nm, .int .i64 n, .string t, .slice ka ns.length kc, .slice la l.length lc, .pointer lb, .bool true, .bool v.goes, .bool v.inside] := o6
        have k6 := k5.offNew f6 (by omega)
        have i6 : Inv h6 := S.stay _ _ i5 (f6.kept (by omega) (by omega))
        have o1 := o1.offk f6 (by omega)
        refine gA ?_
        refine blk_st (o := 8) o6 (by simp) rfl ?_
        intro h7 f7 z7 o7
        refine gA ?_
        exact ⟨[.int .i64 k, .string nm, .int .i64 n, .string t, .slice ka ns.length kc, .slice la l.length lc], lb, rfl, o7, rl.keepC (k6.offNew f7 (by omega)), o1.offk f7 (by omega), k6.offNew f7 (by omega), S.stay _ _ i6 (f7.kept (by omega) (by omega))⟩
    · intro u h5
      rintro ⟨ncs', lb', hn', o5, l5, o1, k5, i5⟩
      have hb5' := k5.1
      refine gA ?_
      refine ld2 (o1 := 0) (o2 := 5) o1 rfl ?_
      refine gA ?_
      refine loop_rule [62] (fun vs h' => ∃ (i : Nat) (ncs' : List Value), vs = [.int .i64 i] ∧ i ≤ l.length ∧ ncs'.length = 6 ∧ BlkW h' b5 37 (ncs' ++ [.pointer lb', .bool w.breaks, .bool w.goes, .bool w.inside]) ∧ LRep h' w.labels lb' ∧ KeepC h h' ∧ Inv h' ∧ anyL q (l.take i) w = false)
        (fun vs _ => match vs with | [.int _ i] => l.length - i.toNat | _ => 0) rfl ?_ ?_
      · exact ⟨0, ncs', rfl, by omega, hn', o5, l5, k5, i5, rfl⟩
      intro u6 h6 v62
      rintro ⟨i, ncs6, e, hi, hn6, o6, l6, k6, i6, a6⟩
      cases e
      refine gA ?_
      refine HIf.mk (fun hlt => ?_) (fun hlt => ?_)
      · have hi1 : i < l.length := by have := of_decide_eq_true hlt; omega
        have hmu : l.length - ((i : Int) + 1).toNat < l.length - ((i : Int)).toNat := by omega
        have at1 := anyL_take q w l i hi1
        have hcg := cnts_get l i hi1
        simp only [cnt] at hm
        have hokl : okT l[i] = true := okL_get (by simp only [okT, Bool.and_eq_true] at hk; exact hk.2) i hi1
        refine gA ?_
        refine HIdx.mk i rfl hi1 ?_
        refine sl_some s2 hi1 fun p ep => ?_
        refine gA ?_
        refine tloadK s2 s3 k6 ep hi1 fun cs rt6 => ?_
        have hcl := rt6.len
        refine gA ?_
        refine new_var (e := 25) zeroT rfl ?_
        intro h7 b9 o7 x7 z7 hb9
        have o6l := o6.lt
        have o6 := o6.ext x7
        have hb6 := k6.1
        have hb7 := x7.1
        refine gA ?_
        refine HMust.mk (by simpa using hcl) ?_
        refine store_blk o7 (by simp [hcl]) (by simpa using rt6.one) ?_
        intro h8 f8 z8 o8
        have o8' : BlkW h8 b9 25 cs := by simpa [hcl] using o8
        have o6 := o6.offk f8 (by omega)
        have k8 := (k6.ext x7).offNew f8 (by omega)
        have i8 : Inv h8 := S.stay _ _ (S.stay _ _ i6 (x7.kept (by omega))) (f8.kept (by omega) (by omega))
        have l8 := l6.keepC ((KeepC.of_ext x7).offNew f8 (by omega))
        refine gA ?_
        refine blk_ldN o8' hcl ?_
        refine gA ?_
        refine HMust.mk (by simpa using hcl) ?_
        refine stP o6 (by simp [hcl, hn6]) (by simpa using rt6.one) ?_
        intro h9 f9 z9 o9
        have o9' : BlkW h9 b5 37 (cs ++ [.pointer lb', .bool w.breaks, .bool w.goes, .bool w.inside]) := by simpa [hcl, hn6] using o9
        have l9 := LRep.offk o6 (by simp [hn6]) f9 l8
        have k9 := k8.offNew f9 (by omega)
        have i9 : Inv h9 := S.stay _ _ i8 (f9.kept (by omega) (by omega))
        clear o9
        refine gA ?_
        refine blk_ldN o9' (by simp [hcl]) ?_
        refine gA ?_
        refine HCall.mk ((ih (cnt l[i]) (by omega) l[i] rfl h9 w _ i9 (by have := f9.1; omega) ⟨cs, lb', rfl, TRep.keepC k9 _ _ rt6, l9⟩ hokl).mono ?_)
        rintro e h10 hh
        rcases hh with ⟨q1, rfl, i10, k10⟩ | ⟨q1, rfl, i10⟩
        · refine gA ?_
          exact ⟨⟨i + 1, cs, rfl, by omega, hcl, o9'.keepC k10, l9.keepC k10, k9.trans k10, i10, by rw [at1, a6, q1]; rfl⟩, hmu⟩
        · refine gA ?_
          refine .inr ⟨?_, rfl, i10⟩
          rw [hz]
          exact anyL_yes (i := i + 1) (by rw [at1, q1]; simp)
      · have hge := of_decide_eq_false hlt
        obtain rfl : i = l.length := by omega
        rw [List.take_length] at a6
        refine gA ?_
        exact .inl ⟨by rw [hz, a6], rfl, i6, k6⟩
  · refine gA ?_
    exact .inr ⟨by rw [hz, q1]; rfl, rfl, i2⟩
end Go.Proofs.YtlogpojkkbcpjaaGreat.Hc
/- scope.all, scope.Check. -/
set_option linter.unusedVariables false
set_option linter.unusedSimpArgs false
namespace Go.Proofs.YtlogpojkkbcpjaaGreat.Hc
open Go Go.H Go.Proofs
set_option maxRecDepth 100000
set_option maxHeartbeats 8000000
abbrev env0 : Env := ⟨[], false, false, false⟩
theorem all1_spec {q : NT → Env → Bool} {lp B : Nat} {Inv Fin : Heap → Prop} (S : Seen q lp B Inv Fin) {d : NT} {h : Heap} {b : Nat} {cs : List Value} (hI : Inv h) (hB : B ≤ h.size) (o : BlkW h b 25 cs) (r : TRep h d cs) (hk : okT d = true) :
    HCalls Tryz.prog 17 #[.func (.yield lp) #[] #[], .pointer (some ⟨b, 0, none⟩)] h fun e h' => e = .returned (.tuple #[]) ∧ ((anyT q d env0 = false ∧ Inv h') ∨ (anyT q d env0 = true ∧ Fin h')) := by
  have rt := r
  cases d with
  | mk k nm n t ns l =>
  simp only [TRep] at r
  obtain ⟨b1, b2, b3, b4, b5, b6, b7, ka, kc, la, lc, ys, rfl, s1, s2, s3⟩ := r
  refine c17 (by simp) ?_
  refine gN ?_
  refine HCall.mk ((walk_spec S _ _ rfl h env0 _ hI hB ⟨_, none, rfl, rt, rfl⟩ hk).mono ?_)
  rintro e h1 (⟨q1, rfl, i1, _⟩ | ⟨q1, rfl, i1⟩)
  · refine gA ?_
    exact ⟨rfl, .inl ⟨q1, i1⟩⟩
  · refine gA ?_
    exact ⟨rfl, .inr ⟨q1, i1⟩⟩
theorem all_spec {d : NT} {h : Heap} {cs : List Value} (r : TRep h d cs) : HCalls Tryz.prog 10 #[.agg cs.toArray] h fun e h' => ∃ b, e = .returned (.func (.func 17) #[] #[.pointer (some ⟨b, 0, none⟩)]) ∧ BlkW h' b 25 cs ∧ Ext h h' := by
  have rt := r
  cases d with
  | mk k nm n t ns l =>
  simp only [TRep] at r
  obtain ⟨b1, b2, b3, b4, b5, b6, b7, ka, kc, la, lc, ys, rfl, s1, s2, s3⟩ := r
  refine c10 (by simp) ?_
  refine gA ?_
  refine new_var (e := 25) [.int .i64 k, .string nm, .int .i64 n, .string t, .slice ka ns.length kc, .slice la l.length lc] rfl ?_
  intro h1 b o1 x1 z1 hb
  refine gA ?_
  exact ⟨b, rfl, o1, x1⟩
theorem keepC_set {h : Heap} {k : Nat} {o : Obj} {r : Loop} (x : h[k]? = some (.loop r)) : KeepC h (h.setIfInBounds k o) :=
  ⟨by simp, fun i c e f z => by
    have hne : k ≠ i := by rintro rfl; rw [x] at z; cases z
    rw [Array.getElem?_setIfInBounds, if_neg hne]; exact z⟩
theorem lt_of_at {h : Heap} {k : Nat} {o : Obj} (x : h[k]? = some o) : k < h.size := by
  rcases Nat.lt_or_ge k h.size with hl | hl
  · exact hl
  · rw [Array.getElem?_eq_none hl] at x; cases x
/-- A range over a tree's places, as it stands. -/
structure Going (h0 : Heap) (D b2 : Nat) (z : Int) (o : Obj) (h : Heap) : Prop where
  kept : Kept h0.size h0 h
  dfr : h[D]? = some (.deferred (some []))
  rdy : h[D + 1]? = some o
  out : BlkW h b2 27 [.int .i64 z]
theorem Going.keep {h0 h h' : Heap} {D b2 : Nat} {z : Int} {o : Obj} (g : Going h0 D b2 z o h) (hB : h0.size ≤ D) (hb : b2 < D) (k : Kept (D + 2) h h') : Going h0 D b2 z o h' :=
  ⟨g.kept.trans (k.mono (by omega)), by rw [k.2 _ (by omega)]; exact g.dfr, by rw [k.2 _ (by omega)]; exact g.rdy, g.out.of (k.2 _ (by omega))⟩
def checkS (d : NT) : Int := if tcheck d ≠ 0 then tcheck d else if anyT earlyB d env0 = true then 90 else 0
theorem check_spec {d : NT} {h : Heap} {cs : List Value} (r : TRep h d cs) (g : Glb h) (hc : cnt d ≤ 4194304) : HCalls Tryz.prog 5 #[.agg cs.toArray] h fun e h' => e = .returned (.int .i64 (checkS d)) ∧ Ext h h' := by
  have rt := r
  cases d with
  | mk k nm n t ns l =>
  simp only [TRep] at r
  obtain ⟨b1, b2, b3, b4, b5, b6, b7, ka, kc, la, lc, ys, rfl, s1, s2, s3⟩ := r
  refine c5 (by simp) ?_
  refine gA ?_
  refine new_var (e := 25) [.int .i64 k, .string nm, .int .i64 n, .string t, .slice ka ns.length kc, .slice la l.length lc] rfl ?_
  intro h1 bn o1 x1 z1 hbn
  refine gA ?_
  refine new_var (e := 27) [.int .i64 0] rfl ?_
  intro h2 b2' o2 x2 z2 hb2
  have o1 := o1.ext x2
  have x02 := x1.trans x2
  have rt2 := rt.ext x02
  refine gN ?_
  refine HCall.mk ((tcheck_spec rt2 (g.ext x02) hc).mono ?_)
  rintro e h3 ⟨rfl, x3⟩
  have o1 := o1.ext x3
  have o2 := o2.ext x3
  have x03 := x02.trans x3
  have hx1 := x1.1
  have hx2 := x2.1
  have hx3 := x3.1
  by_cases ht : tcheck (.mk k nm n t ns l) = 0
  · have q : (tcheck (.mk k nm n t ns l) != 0) = false := by rw [ht]; rfl
    have hz : checkS (.mk k nm n t ns l) = if anyT earlyB (.mk k nm n t ns l) env0 = true then 90 else 0 := by unfold checkS; rw [ht, if_neg (by simp)]
    generalize checkS (.mk k nm n t ns l) = z at hz
    have hk : okT (.mk k nm n t ns l) = true := by
      refine mayT_ok _ ?_
      unfold tcheck at ht
      cases hm : mayT (.mk k nm n t ns l)
      · rw [if_pos (.inr hm)] at ht; cases ht
      · rfl
    refine gN ?_
    refine HCall.mk ((all_spec (rt.ext x03)).mono ?_)
    rintro e h4 ⟨bc, rfl, o4, x4⟩
    have o2 := o2.ext x4
    have x04 := x03.trans x4
    have hx4 := x4.1
    refine gA ?_
    refine HRange.mk 17 #[.pointer (some ⟨bc, 0, none⟩)] rfl (by kernel_rfl) fun rec yl => ?_
    have e1 := (Ext.push h4 (.deferred (some []))).trans (Ext.push _ (.loop (rec .ready none)))
    have ob2 := o2.lt
    have S : Seen earlyB (h4.size + 1) (h4.size + 2) (Going h h4.size b2' 0 (.loop (rec .ready none))) (Going h h4.size b2' 90 (.loop (rec .done (some .ret)))) := by
      refine ⟨fun h5 h6 i k => i.keep (by omega) (by omega) k, ?_⟩
      intro h5 d v cs i5 hB hk5 r5
      refine yl [.agg cs.toArray] h5 _ rfl i5.rdy ?_
      obtain ⟨ncs, lb, rfl, rt5, rl5⟩ := r5
      have hlen : (ncs ++ [Value.pointer lb, .bool v.breaks, .bool v.goes, .bool v.inside]).length = 10 := by simp [rt5.len]
      have hone : ∀ x ∈ ncs ++ [Value.pointer lb, .bool v.breaks, .bool v.goes, .bool v.inside], isOne x = true := by
        intro x hx
        rcases List.mem_append.1 hx with hx | hx
        · exact rt5.one x hx
        · simp only [List.mem_cons, List.not_mem_nil, or_false] at hx
          rcases hx with rfl | rfl | rfl | rfl <;> rfl
      have pr5 : PRep h5 d v (ncs ++ [.pointer lb, .bool v.breaks, .bool v.goes, .bool v.inside]) := ⟨ncs, lb, rfl, rt5, rl5⟩
      generalize ncs ++ [Value.pointer lb, .bool v.breaks, .bool v.goes, .bool v.inside] = cs at hlen hone pr5
      have hsz5 := lt_of_at i5.rdy
      refine gA ?_
      refine new_var (e := 37) zeroP rfl ?_
      intro h6 b6' o6 x6 z6 hb6
      have i6 := i5.keep (by omega) (by omega) (x6.kept hB)
      refine gA ?_
      refine HMust.mk (by simpa using hlen) ?_
      refine store_blk o6 (by simp [hlen]) (by simpa using hone) ?_
      intro h7 f7 z7 o7
      have o7' : BlkW h7 b6' 37 cs := by simpa [hlen] using o7
      have hx6 := x6.1
      have i7 := i6.keep (by omega) (by omega) (f7.kept (by omega) (by omega))
      have x57 : Ext h5 h7 := x6.offNew f7 (by omega)
      clear o6 o7
      have k8 := keepC_set (o := .loop (rec .busy none)) i7.rdy
      have f8 := off_set h7 (h4.size + 1) (.loop (rec .busy none))
      have r8 := set_same (o := .loop (rec .busy none)) i7.rdy
      have o8 := o7'.keepC k8
      have d8 : (h7.setIfInBounds (h4.size + 1) (.loop (rec .busy none)))[h4.size]? = some (.deferred (some [])) := by rw [f8.2 _ (by have := lt_of_at i7.dfr; omega) (by omega)]; exact i7.dfr
      have out8 := i7.out.keepC k8
      have kp8 : Kept h.size h (h7.setIfInBounds (h4.size + 1) (.loop (rec .busy none))) := i7.kept.trans (f8.kept (by omega) (by have := lt_of_at i7.rdy; omega))
      have k58 := (KeepC.of_ext x57).trans k8
      refine gA ?_
      refine ⟨i7.rdy, ?_⟩
      generalize h7.setIfInBounds (h4.size + 1) (.loop (rec .busy none)) = h8 at k8 f8 r8 o8 d8 out8 kp8 k58
      refine gA ?_
      refine blk_ldN o8 hlen ?_
      obtain ⟨ncs, lb, rfl, rt5, rl5⟩ := pr5
      refine gA ?_
      refine HCall.mk ((early_spec ⟨ncs, lb, rfl, TRep.keepC k58 _ _ rt5, rl5.keepC k58⟩ hk5).mono ?_)
      rintro e h9 ⟨rfl, x9⟩
      have r9 : h9[h4.size + 1]? = some (.loop (rec .busy none)) := by rw [x9.2 _ (lt_of_at r8)]; exact r8
      have d9 : h9[h4.size]? = some (.deferred (some [])) := by rw [x9.2 _ (lt_of_at d8)]; exact d8
      have out9 := out8.ext x9
      have kp9 : Kept h.size h h9 := kp8.trans (x9.kept (by have := lt_of_at r8; omega))
      have k59 := k58.ext x9
      have hsz9 := lt_of_at r9
      cases qe : earlyB d v
      · refine gA ?_
        refine ⟨⟨_, _, r9⟩, .inl ⟨rfl, rfl, ⟨kp9.trans ((off_set _ _ _).kept (by omega) (by omega)), ?_, set_same r9, out9.keepC (keepC_set r9)⟩, k59.trans (keepC_set r9)⟩⟩
        rw [(off_set h9 (h4.size + 1) _).2 _ (by omega) (by omega)]; exact d9
      · refine gA ?_
        refine store1_blk out9 (by simp) rfl ?_
        intro h10 f10 z10 o10
        have o10 : BlkW h10 b2' 27 [.int .i64 90] := o10
        have r10 : h10[h4.size + 1]? = some (.loop (rec .busy none)) := by rw [f10.2 _ (by omega) (by omega)]; exact r9
        have d10 : h10[h4.size]? = some (.deferred (some [])) := by rw [f10.2 _ (by omega) (by omega)]; exact d9
        have hsz10 := lt_of_at r10
        refine gA ?_
        refine ⟨⟨_, _, r10⟩, .inr ⟨rfl, rfl, ⟨(kp9.trans (f10.kept (by omega) (by omega))).trans ((off_set _ _ _).kept (by omega) (by omega)), ?_, set_same r10, o10.keepC (keepC_set r10)⟩⟩⟩
        rw [(off_set h10 (h4.size + 1) _).2 _ (by omega) (by omega)]; exact d10
    show HCalls Tryz.prog 17 #[.func (.yield (h4.size + 1)) #[] #[], .pointer (some ⟨bc, 0, none⟩)] _ _
    refine (all1_spec S (d := .mk k nm n t ns l) ⟨(x04.trans e1).kept (Nat.le_refl _), ?_, ?_, o2.ext e1⟩ (by simp) (o4.ext e1) (rt.ext (x04.trans e1)) hk).mono ?_
    · rw [Array.getElem?_push, if_neg (by simp), Array.getElem?_push, if_pos rfl]
    · rw [Array.getElem?_push, if_pos (by simp)]
    rintro e h5 ⟨rfl, ⟨qa, g5⟩ | ⟨qa, g5⟩⟩
    · rw [qa, if_neg (by simp)] at hz
      subst hz
      refine ⟨.ready, none, g5.rdy, ⟨(fun e => LoopState.noConfusion e), ?_⟩⟩
      have f6 := off_set h5 (h4.size + 1) (.loop (rec .exhausted none))
      have hsz5 := lt_of_at g5.rdy
      have d6 : (h5.setIfInBounds (h4.size + 1) (.loop (rec .exhausted none)))[h4.size]? = some (.deferred (some [])) := by rw [f6.2 _ (by omega) (by omega)]; exact g5.dfr
      have o6 := g5.out.offk f6 (by omega)
      have kp6 : Kept h.size h (h5.setIfInBounds (h4.size + 1) (.loop (rec .exhausted none))) := g5.kept.trans (f6.kept (by omega) (by omega))
      generalize h5.setIfInBounds (h4.size + 1) (.loop (rec .exhausted none)) = h6 at f6 d6 o6 kp6
      have hs6 := f6.1
      refine gA ?_
      refine store1_blk o6 (by simp) rfl ?_
      intro h7 f7 z7 o7
      have o7 : BlkW h7 b2' 27 [.int .i64 0] := o7
      have d7 : h7[h4.size]? = some (.deferred (some [])) := by rw [f7.2 _ (by omega) (by omega)]; exact d6
      have f8 := off_set h7 h4.size (.deferred none)
      have o8 := o7.offk f8 (by omega)
      refine gA ?_
      refine HMark.mk d7 ?_
      refine gA ?_
      exact ⟨rfl, (kp6.trans (f7.kept (by omega) (by omega))).trans (f8.kept (by omega) (by omega))⟩
    · rw [qa, if_pos rfl] at hz
      subst hz
      refine ⟨.done, some .ret, g5.rdy, ⟨(fun e => LoopState.noConfusion e), ?_⟩⟩
      have f6 := off_set h5 (h4.size + 1) (.loop (rec .exhausted (some .ret)))
      have hsz5 := lt_of_at g5.rdy
      have d6 : (h5.setIfInBounds (h4.size + 1) (.loop (rec .exhausted (some .ret))))[h4.size]? = some (.deferred (some [])) := by rw [f6.2 _ (by omega) (by omega)]; exact g5.dfr
      have o6 := g5.out.offk f6 (by omega)
      have kp6 : Kept h.size h (h5.setIfInBounds (h4.size + 1) (.loop (rec .exhausted (some .ret)))) := g5.kept.trans (f6.kept (by omega) (by omega))
      generalize h5.setIfInBounds (h4.size + 1) (.loop (rec .exhausted (some .ret))) = h6 at f6 d6 o6 kp6
      have hs6 := f6.1
      have f8 := off_set h6 h4.size (.deferred none)
      have o8 := o6.offk f8 (by omega)
      refine gA ?_
      refine HMark.mk d6 ?_
      refine gA ?_
      exact ⟨rfl, kp6.trans (f8.kept (by omega) (by omega))⟩
  · have q : (tcheck (.mk k nm n t ns l) != 0) = true := bne_iff_ne.2 ht
    have hz : checkS (.mk k nm n t ns l) = tcheck (.mk k nm n t ns l) := by unfold checkS; rw [if_pos ht]
    rw [hz]
    refine gA ?_
    refine store1_blk o2 (by simp) rfl ?_
    intro h4 f4 z4 o4
    have o4 : BlkW h4 b2' 27 [.int .i64 (tcheck (.mk k nm n t ns l))] := o4
    refine gA ?_
    exact ⟨rfl, x03.offNew f4 (by omega)⟩
end Go.Proofs.YtlogpojkkbcpjaaGreat.Hc
/- r09.SameNames; trees that a call makes; live. -/
set_option linter.unusedVariables false
set_option linter.unusedSimpArgs false
namespace Go.Proofs.YtlogpojkkbcpjaaGreat.Hc
open Go Go.H Go.Proofs
set_option maxRecDepth 100000
set_option maxHeartbeats 8000000
theorem getElem_ne {α : Type} {l k : List α} {i : Nat} (h1 : i < l.length) (h2 : i < k.length) (hne : l[i] ≠ k[i]) : l ≠ k := by
  rintro rfl; exact hne rfl
theorem take_step {α : Type} {l k : List α} {i : Nat} (h1 : i < l.length) (h2 : i < k.length) (h : l.take i = k.take i) (he : l[i] = k[i]) : l.take (i + 1) = k.take (i + 1) := by
  rw [List.take_add_one, List.take_add_one, h, List.getElem?_eq_getElem h1, List.getElem?_eq_getElem h2, he]

theorem sameNames_spec {a b : Option Addr} {n m c e : Nat} {l k : List ByteArray} {h : Heap} (x : Sl h 1 a n c (l.map .string)) (y : Sl h 1 b m e (k.map .string)) (hn : n ≤ 4194304) :
    HCalls Tryz.prog 7 #[.slice a n c, .slice b m e] h fun e h' => h' = h ∧ e = .returned (.bool (decide (l = k))) := by
  have hl : l.length = n := by simpa using x.1
  have hk : k.length = m := by simpa using y.1
  refine c7 (by simp) ?_
  (conv => whnf)
  by_cases hlen : n = m
  · subst hlen
    have q0 : (((n : Nat) : Int) != ((n : Nat) : Int)) = false := by simp
    refine gA ?_
    refine loop_rule [13] (fun vs h' => ∃ (i : Nat), vs = [.int .i64 i] ∧ i ≤ n ∧ l.take i = k.take i ∧ h' = h)
      (fun vs _ => match vs with | [.int _ i] => n - i.toNat | _ => 0) rfl ?_ ?_
    · exact ⟨0, rfl, by omega, by simp, rfl⟩
    · intro u h1 v13
      rintro ⟨i, e, hi, hk2, rfl⟩
      cases e
      refine gA ?_
      refine HIf.mk (fun hlt => ?_) (fun hlt => ?_)
      · have hi1 : i < n := by have := of_decide_eq_true hlt; omega
        have hmu : n - ((i : Int) + 1).toNat < n - ((i : Int)).toNat := by omega
        have i1 : i < l.length := by omega
        have i2 : i < k.length := by omega
        refine gA ?_
        refine HIdx.mk i rfl hi1 ?_
        refine sl_some x hi1 fun p ep => ?_
        refine gA ?_
        refine x.load ep (by simpa using i1) ?_
        rw [List.getElem_map]
        refine gA ?_
        refine HIdx.mk i rfl hi1 ?_
        refine sl_some y hi1 fun p ep => ?_
        refine gA ?_
        refine y.load ep (by simpa using i2) ?_
        rw [List.getElem_map]
        by_cases he : l[i] = k[i]
        · have q1 : (!strEq l[i] k[i]) = false := by rw [(strEq_iff _ _).2 he]; rfl
          refine gA ?_
          exact ⟨⟨i + 1, rfl, by omega, take_step i1 i2 hk2 he, rfl⟩, hmu⟩
        · have q1 : (!strEq l[i] k[i]) = true := by rw [(strEq_no _ _).2 he]; rfl
          refine gA ?_
          have hv := decide_eq_false (getElem_ne i1 i2 he)
          rw [hv]
          exact ⟨rfl, rfl⟩
      · have hge := of_decide_eq_false hlt
        obtain rfl : i = n := by omega
        rw [List.take_of_length_le (by omega), List.take_of_length_le (by omega)] at hk2
        refine gA ?_
        have hv := decide_eq_true hk2
        rw [hv]
        exact ⟨rfl, rfl⟩
  · have q0 : (((n : Nat) : Int) != ((m : Nat) : Int)) = true := by rw [bne_iff_ne]; omega
    refine gA ?_
    have hv : decide (l = k) = false := decide_eq_false (by rintro rfl; omega)
    rw [hv]
    exact ⟨rfl, rfl⟩

theorem trep_mk {h : Heap} {k n : Int} {nm t : ByteArray} {l : List NT} {la : Option Addr} {lc : Nat} {xs : List Value} (hk : i64 k) (hn : i64 n) (h1 : nm.size ≤ 4194304) (h2 : t.size ≤ 4194304) (h3 : l.length ≤ 4194304) (s : Sl h 6 la l.length lc xs) (r : TReps h l xs) :
    TRep h (.mk k nm n t [] l) [.int .i64 k, .string nm, .int .i64 n, .string t, .slice none 0 0, .slice la l.length lc] := by
  simp only [TRep]
  exact ⟨hk, hn, h1, h2, by simp, h3, by simp, none, 0, la, lc, xs, rfl, Sl.nil _ _, s, r⟩
theorem trep_leaf {h : Heap} {k n : Int} {nm t : ByteArray} (hk : i64 k) (hn : i64 n) (h1 : nm.size ≤ 4194304) (h2 : t.size ≤ 4194304) : TRep h (.mk k nm n t [] []) [.int .i64 k, .string nm, .int .i64 n, .string t, .slice none 0 0, .slice none 0 0] :=
  trep_mk hk hn h1 h2 (by simp) (Sl.nil _ _) (by simp only [TReps])
theorem treps1 {h : Heap} {d : NT} {a : List Value} (r : TRep h d a) : TReps h [d] a := by
  simp only [TReps]
  exact ⟨a, [], by simp, r, rfl⟩
theorem treps2 {h : Heap} {d e : NT} {a b : List Value} (r : TRep h d a) (s : TRep h e b) : TReps h [d, e] (a ++ b) := by
  simp only [TReps]
  exact ⟨a, b, rfl, r, b, [], by simp, s, rfl⟩
abbrev emp : ByteArray := ⟨#[]⟩
abbrev leafT (k : Int) (nm : ByteArray) : NT := .mk k nm 0 emp [] []
abbrev nodeT (k : Int) (nm : ByteArray) (l : List NT) : NT := .mk k nm 0 emp [] l
abbrev progT (l : List NT) : NT := nodeT 41 emp l
def lBrk : NT := leafT 31 emp
def lLoop : NT := nodeT 27 emp [.mk 1 emp 1 emp [] [], nodeT 25 emp [lBrk]]
def lVar : NT := nodeT 22 emp [leafT 23 ⟨#[120]⟩]
theorem live1 : checkS (progT [lLoop]) = 0 := by decide +kernel
theorem live2 : checkS (progT [lBrk]) = 90 := by decide +kernel
theorem live3 : varsL [lLoop, lVar] [] = [⟨#[120]⟩] := by decide +kernel
theorem i64_small {n : Int} (h : -1000000000000 ≤ n ∧ n ≤ 1000000000000) : i64 n := ⟨by omega, by omega⟩
theorem live_spec {h : Heap} (g : Glb h) : HCalls Tryz.prog 4 #[] h fun e h' => e = .returned (.bool true) ∧ Ext h h' := by
  refine c4 (by simp) ?_
  refine gA ?_
  refine new_var (e := 25) zeroT rfl ?_
  intro h1 p1 o1 x1 z1 hp1
  refine gA ?_
  refine store_blk o1 (by simp) (by simp [isOne]) ?_
  intro h2 f2 z2 o2
  replace o2 : BlkW h2 p1 25 [.int .i64 31, .string emp, .int .i64 0, .string emp, .slice none 0 0, .slice none 0 0] := by simpa using o2
  have x02 : Ext h h2 := x1.offNew f2 (by omega)
  refine gN ?_
  refine new_own (e := 25) 6 1 [.int .i64 31, .string emp, .int .i64 0, .string emp, .slice none 0 0, .slice none 0 0] rfl rfl ?_
  intro h3 b3 w3 x3 z3 hb3
  refine gA ?_
  refine new_own (e := 25) 6 2 [.int .i64 1, .string emp, .int .i64 1, .string emp, .slice none 0 0, .slice none 0 0, .int .i64 25, .string emp, .int .i64 0, .string emp, .slice none 0 0, .slice (some ⟨b3, 0, none⟩) 1 1] rfl rfl ?_
  intro h4 b4 w4 x4 z4 hb4
  refine gA ?_
  refine new_var (e := 25) zeroT rfl ?_
  intro h5 p2 o5 x5 z5 hp2
  refine gA ?_
  refine store_blk o5 (by simp) (by simp [isOne]) ?_
  intro h6 f6 z6 o6
  replace o6 : BlkW h6 p2 25 [.int .i64 27, .string emp, .int .i64 0, .string emp, .slice none 0 0, .slice (some ⟨b4, 0, none⟩) 2 2] := by simpa using o6
  have x26 : Ext h2 h6 := ((x3.trans x4).trans x5).offNew f6 (by have := x3.1; have := x4.1; omega)
  have x46 : Ext h4 h6 := x5.offNew f6 (by omega)
  have x36 : Ext h3 h6 := x4.trans x46
  have rBrk : TRep h6 lBrk [.int .i64 31, .string emp, .int .i64 0, .string emp, .slice none 0 0, .slice none 0 0] := trep_leaf (i64_small (by omega)) (i64_small (by omega)) (by decide) (by decide)
  have rLoop : TRep h6 lLoop [.int .i64 27, .string emp, .int .i64 0, .string emp, .slice none 0 0, .slice (some ⟨b4, 0, none⟩) 2 2] :=
    trep_mk (l := [.mk 1 emp 1 emp [] [], nodeT 25 emp [lBrk]]) (i64_small (by omega)) (i64_small (by omega)) (by decide) (by decide) (by simp) (w4.sl.ext x46)
      (treps2 (trep_leaf (i64_small (by omega)) (i64_small (by omega)) (by decide) (by decide)) (trep_mk (l := [lBrk]) (i64_small (by omega)) (i64_small (by omega)) (by decide) (by decide) (by simp) (w3.sl.ext x36) (treps1 rBrk)))
  refine gA ?_
  refine new_own (e := 25) 6 1 [.int .i64 23, .string ⟨#[120]⟩, .int .i64 0, .string emp, .slice none 0 0, .slice none 0 0] rfl rfl ?_
  intro h7 b7 w7 x7 z7 hb7
  refine gA ?_
  refine new_var (e := 25) zeroT rfl ?_
  intro h8 p3 o8 x8 z8 hp3
  refine gA ?_
  refine store_blk o8 (by simp) (by simp [isOne]) ?_
  intro h9 f9 z9 o9
  replace o9 : BlkW h9 p3 25 [.int .i64 22, .string emp, .int .i64 0, .string emp, .slice none 0 0, .slice (some ⟨b7, 0, none⟩) 1 1] := by simpa using o9
  have x79 : Ext h7 h9 := x8.offNew f9 (by omega)
  have x69 : Ext h6 h9 := x7.trans x79
  have rVar : TRep h9 lVar [.int .i64 22, .string emp, .int .i64 0, .string emp, .slice none 0 0, .slice (some ⟨b7, 0, none⟩) 1 1] :=
    trep_mk (l := [leafT 23 ⟨#[120]⟩]) (i64_small (by omega)) (i64_small (by omega)) (by decide) (by decide) (by simp) (w7.sl.ext x79) (treps1 (trep_leaf (i64_small (by omega)) (i64_small (by omega)) (by decide) (by decide)))
  have x09 := (x02.trans x26).trans x69
  have o6 := o6.ext x69
  have o2 := o2.ext (x26.trans x69)
  have rLoop := rLoop.ext x69
  have rBrk := rBrk.ext x69
  clear x79 x69 x26 x46 x36 w3 w4 w7 f2 f6 f9 x1 x3 x4 x5 x7 x8 o1 o5 o8
  refine gN ?_
  refine new_own (e := 25) 6 1 [.int .i64 27, .string emp, .int .i64 0, .string emp, .slice none 0 0, .slice (some ⟨b4, 0, none⟩) 2 2] rfl rfl ?_
  intro h10 b10 w10 x10 z10 hb10
  have o6 := o6.ext x10
  have o2 := o2.ext x10
  have o9 := o9.ext x10
  refine gA ?_
  refine HCall.mk ((check_spec (trep_mk (l := [lLoop]) (i64_small (by omega)) (i64_small (by omega)) (by decide) (by decide) (by simp) w10.sl (treps1 (rLoop.ext x10))) ((g.ext x09).ext x10) (by decide +kernel)).mono ?_)
  rintro e h11 ⟨rfl, x11⟩
  rw [live1]
  have o6 := o6.ext x11
  have o2 := o2.ext x11
  have o9 := o9.ext x11
  have x9b := x10.trans x11
  refine gN ?_
  refine new_own (e := 25) 6 1 [.int .i64 31, .string emp, .int .i64 0, .string emp, .slice none 0 0, .slice none 0 0] rfl rfl ?_
  intro h12 b12 w12 x12 z12 hb12
  have o6 := o6.ext x12
  have o9 := o9.ext x12
  have x9c := x9b.trans x12
  refine gA ?_
  refine HCall.mk ((check_spec (trep_mk (l := [lBrk]) (i64_small (by omega)) (i64_small (by omega)) (by decide) (by decide) (by simp) w12.sl (treps1 (rBrk.ext x9c))) ((g.ext x09).ext x9c) (by decide +kernel)).mono ?_)
  rintro e h13 ⟨rfl, x13⟩
  rw [live2]
  have o6 := o6.ext x13
  have o9 := o9.ext x13
  have x9d := x9c.trans x13
  refine gN ?_
  refine new_own (e := 25) 6 2 [.int .i64 27, .string emp, .int .i64 0, .string emp, .slice none 0 0, .slice (some ⟨b4, 0, none⟩) 2 2, .int .i64 22, .string emp, .int .i64 0, .string emp, .slice none 0 0, .slice (some ⟨b7, 0, none⟩) 1 1] rfl rfl ?_
  intro h14 b14 w14 x14 z14 hb14
  have x9e := x9d.trans x14
  have cv := vars_spec _ [lLoop, lVar] rfl h14 _ _ _ w14.sl (treps2 (rLoop.ext x9e) (rVar.ext x9e)) (by decide +kernel)
  rw [live3] at cv
  refine gA ?_
  refine HCall.mk (cv.mono ?_)
  rintro e h15 ⟨a15, c15, rfl, w15, x15⟩
  refine gA ?_
  refine new_own (e := 9) 1 1 [.string ⟨#[120]⟩] rfl rfl ?_
  intro h16 b16 w16 x16 z16 hb16
  refine gA ?_
  refine HCall.mk ((sameNames_spec (l := [⟨#[120]⟩]) (k := [⟨#[120]⟩]) (w15.sl.ext x16) w16.sl (by simp)).mono ?_)
  rintro e h17 ⟨rfl, rfl⟩
  rw [decide_eq_true rfl]
  refine gA ?_
  exact ⟨rfl, x09.trans (x9e.trans (x15.trans x16))⟩
end Go.Proofs.YtlogpojkkbcpjaaGreat.Hc
