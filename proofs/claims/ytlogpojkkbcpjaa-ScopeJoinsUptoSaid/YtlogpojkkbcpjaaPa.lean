/- Proof texts, laid together. -/
import Derived.Test.YtlogpojkkbcpjaaRows
import Derived.Test.YtlogpojkkbcpjaaHH
import Derived.Test.YtlogpojkkbcpjaaC0
import Derived.Test.YtlogpojkkbcpjaaC1
import Derived.Test.YtlogpojkkbcpjaaHL
import Derived.Shelf.Strings.Search3
import Derived.Shelf.Strings.Cut
import Derived.Ground.NamesProg
import Derived.Test.YtlogpojkkbcpjaaProg
/- Of the second form: what its bound says of the bytes that came in. -/
set_option linter.unusedVariables false
namespace Go.Proofs.Ytlogpojkkbcpjaa.RU
open Go Go.ChangeShapes Go.WideShapes Go.RowKit

theorem one_le {H : Type} (d : DataW H) : 1 ≤ Rows.uptoBulk d := by
  cases d with
  | lit l => cases l <;> simp only [Rows.uptoBulk] <;> omega
  | nil => simp only [Rows.uptoBulk]; omega
  | ptr d => simp only [Rows.uptoBulk]; omega
  | slice a b => simp only [Rows.uptoBulk]; omega
  | agg a => simp only [Rows.uptoBulk]; omega
  | iface t d => simp only [Rows.uptoBulk]; omega
  | map a => simp only [Rows.uptoBulk]; omega
  | held a => simp only [Rows.uptoBulk]; omega
theorem length_le {H : Type} : ∀ l : List (DataW H), l.length ≤ Rows.uptoBulkAll l
  | [] => by simp
  | d :: r => by
    have h1 := one_le d
    have h2 := length_le r
    simp only [Rows.uptoBulkAll, List.length_cons]
    omega
theorem string_len {H : Type} (s : ByteArray) : s.size < Rows.uptoBulk (DataW.lit (H := H) (.string s.data.toList)) := by
  simp only [Rows.uptoBulk]
  exact Nat.lt_succ_self _
theorem ints_len {H : Type} {enc : TypeId × Value → H} {P : Program} {W : World} {base : Nat} {spare : Nat → Bool} {held : Bool} {t e : TypeId} {k : IntKind} {a : Option Addr} {len cap : Nat} {d : DataW H} {ps : List MemPlace}
    (hu : P.underlying t = some (.slice e)) (he : P.underlying e = some (.int k)) (hc : P.cellsOf e = 1)
    (h : DataW.Trod enc P W base spare held t (.slice a len cap) d ps) : len ≤ Rows.uptoBulk d := by
  obtain ⟨fuel, hf⟩ := h
  rcases open_ints hu he hc hf with ⟨hcs, _⟩ | ⟨x, l, c, zs, hcs, _, hl, _, hz, hx, _, _⟩
  · simp [Value.cells] at hcs
    obtain ⟨rfl, rfl, rfl⟩ := hcs
    exact Nat.zero_le _
  · simp [Value.cells] at hcs
    obtain ⟨rfl, rfl, rfl⟩ := hcs
    obtain ⟨hx, _⟩ := Prod.mk.inj hx
    subst hx
    have hl2 : len ≤ zs.length := by
      rw [hz]
      split
      · exact hl
      · exact Nat.le_refl _
    have h1 := length_le (lits (H := H) k (zs.take len))
    have h2 : (lits (H := H) k (zs.take len)).length = len := by simp [lits]; omega
    simp only [Rows.uptoBulk]
    omega

end Go.Proofs.Ytlogpojkkbcpjaa.RU
/- Trees of a program's text (api.Node: Kind, Name, Num, Text, Names, L), as memory holds them. -/
set_option linter.unusedVariables false
set_option linter.unusedSimpArgs false
namespace Go.Proofs.Ytlogpojkkbcpjaa.Hc
open Go Go.H Go.Proofs
set_option maxRecDepth 100000

/-- What cells lay there lie there. -/
def KeepC (h h' : Heap) : Prop := h.size ≤ h'.size ∧ ∀ (k : Nat) (c : Array Value) (e : TypeId) (f : Nat × Nat), h[k]? = some (Obj.cells c e f) → h'[k]? = some (Obj.cells c e f)
theorem KeepC.refl (h : Heap) : KeepC h h := ⟨Nat.le_refl _, fun _ _ _ _ x => x⟩
theorem KeepC.trans {a b c : Heap} (x : KeepC a b) (y : KeepC b c) : KeepC a c := ⟨Nat.le_trans x.1 y.1, fun k cs e f z => y.2 k cs e f (x.2 k cs e f z)⟩
theorem KeepC.of_ext {h h' : Heap} (x : Ext h h') : KeepC h h' := ⟨x.1, fun k c e f z => by
  have hk : k < h.size := by
    rcases Nat.lt_or_ge k h.size with hl | hl
    · exact hl
    · rw [Array.getElem?_eq_none hl] at z; cases z
  rw [x.2 k hk]; exact z⟩
theorem KeepC.cell {h h' : Heap} (x : KeepC h h') {p : Addr} {v : Value} (z : hcell h p = some v) : hcell h' p = some v := by
  unfold hcell at z ⊢
  cases hb : h[p.block]? with
  | none => rw [hb] at z; cases z
  | some o =>
    rw [hb] at z
    cases o with
    | cells c e f => rw [x.2 _ _ _ _ hb]; exact z
    | _ => cases z
theorem _root_.Go.H.Sl.keepC {h h' : Heap} {size n c : Nat} {a : Option Addr} {xs : List Value} (x : Sl h size a n c xs) (k : KeepC h h') : Sl h' size a n c xs :=
  ⟨x.1, x.2.1, x.2.2.1, fun p e i hi => by
    have h1 := x.2.2.2 p e i hi
    have hl : i < xs.length := by rw [x.1]; exact hi
    rw [List.getElem?_eq_getElem hl] at h1 ⊢
    exact k.cell h1⟩
theorem _root_.Go.H.BlkW.keepC {h h' : Heap} {b e : Nat} {cs : List Value} (x : BlkW h b e cs) (k : KeepC h h') : BlkW h' b e cs := by
  refine x.of ?_
  obtain ⟨fz, e1, _⟩ := x
  rw [e1]
  exact k.2 _ _ _ _ e1

theorem take_succ' {α : Type} {l : List α} {i : Nat} (hi : i < l.length) : l.take (i + 1) = l.take i ++ [l[i]] := by rw [List.take_add_one, List.getElem?_eq_getElem hi]; rfl
def strIn (ks : List ByteArray) (s : ByteArray) : Bool := ks.any fun k => strEq k s
theorem strIn_iff {ks : List ByteArray} {s : ByteArray} : strIn ks s = true ↔ s ∈ ks := by
  unfold strIn; rw [List.any_eq_true]
  constructor
  · rintro ⟨k, hk, e⟩; rw [← (strEq_iff _ _).1 e]; exact hk
  · intro h; exact ⟨s, h, (strEq_iff _ _).2 rfl⟩

inductive NT where
  | mk (kind : Int) (name : ByteArray) (num : Int) (text : ByteArray) (names : List ByteArray) (l : List NT)
def NT.kind : NT → Int | .mk k .. => k
def NT.name : NT → ByteArray | .mk _ s .. => s
def NT.num : NT → Int | .mk _ _ n .. => n
def NT.text : NT → ByteArray | .mk _ _ _ s .. => s
def NT.names : NT → List ByteArray | .mk _ _ _ _ l _ => l
def NT.l : NT → List NT | .mk _ _ _ _ _ l => l

mutual
/-- Six cells hold a tree. -/
def TRep (h : Heap) : NT → List Value → Prop
  | .mk k nm n t ns l, cs => i64 k ∧ i64 n ∧ nm.size ≤ 4194304 ∧ t.size ≤ 4194304 ∧ ns.length ≤ 4194304 ∧ l.length ≤ 4194304 ∧ (∀ x ∈ ns, x.size ≤ 4194304) ∧
      ∃ ka kc la lc xs, cs = [.int .i64 k, .string nm, .int .i64 n, .string t, .slice ka ns.length kc, .slice la l.length lc] ∧ Sl h 1 ka ns.length kc (ns.map .string) ∧ Sl h 6 la l.length lc xs ∧ TReps h l xs
def TReps (h : Heap) : List NT → List Value → Prop
  | [], xs => xs = []
  | d :: r, xs => ∃ a b, xs = a ++ b ∧ TRep h d a ∧ TReps h r b
end
mutual
theorem TRep.keepC {h h' : Heap} (k : KeepC h h') : ∀ (d : NT) (cs : List Value), TRep h d cs → TRep h' d cs
  | .mk kk nm n t ns l, cs, r => by
    simp only [TRep] at r ⊢
    obtain ⟨h1, h2, h3, h4, h5, h6, h7, ka, kc, la, lc, xs, e, s1, s2, s3⟩ := r
    exact ⟨h1, h2, h3, h4, h5, h6, h7, ka, kc, la, lc, xs, e, Sl.keepC s1 k, Sl.keepC s2 k, TReps.keepC k l xs s3⟩
theorem TReps.keepC {h h' : Heap} (k : KeepC h h') : ∀ (l : List NT) (xs : List Value), TReps h l xs → TReps h' l xs
  | [], xs, r => by simp only [TReps] at r ⊢; exact r
  | d :: l, xs, r => by
    simp only [TReps] at r ⊢
    obtain ⟨a, b, e, r1, r2⟩ := r
    exact ⟨a, b, e, TRep.keepC k d a r1, TReps.keepC k l b r2⟩
end
theorem TRep.ext {h h' : Heap} (k : Ext h h') {d : NT} {cs : List Value} (r : TRep h d cs) : TRep h' d cs := TRep.keepC (.of_ext k) d cs r
theorem TReps.ext {h h' : Heap} (k : Ext h h') {l : List NT} {xs : List Value} (r : TReps h l xs) : TReps h' l xs := TReps.keepC (.of_ext k) l xs r
theorem TRep.len {h : Heap} {d : NT} {cs : List Value} (r : TRep h d cs) : cs.length = 6 := by
  cases d
  simp only [TRep] at r
  obtain ⟨_, _, _, _, _, _, _, ka, kc, la, lc, xs, e, _⟩ := r
  rw [e]; rfl
theorem TRep.one {h : Heap} {d : NT} {cs : List Value} (r : TRep h d cs) : ∀ v ∈ cs, isOne v = true := by
  cases d
  simp only [TRep] at r
  obtain ⟨_, _, _, _, _, _, _, ka, kc, la, lc, xs, e, _⟩ := r
  rw [e]; simp [isOne]
theorem TReps.els {h : Heap} : ∀ {l : List NT} {xs : List Value}, TReps h l xs → Els TRep h l xs
  | [], xs, r => by simpa [TReps, Els] using r
  | d :: l, xs, r => by
    simp only [TReps] at r
    obtain ⟨a, b, e, r1, r2⟩ := r
    exact ⟨a, b, e, r1, TReps.els r2⟩
theorem TReps.of_els {h : Heap} : ∀ {l : List NT} {xs : List Value}, Els TRep h l xs → TReps h l xs
  | [], xs, r => by simpa [TReps, Els] using r
  | d :: l, xs, r => by
    obtain ⟨a, b, e, r1, r2⟩ := r
    simp only [TReps]
    exact ⟨a, b, e, r1, TReps.of_els r2⟩
/-- A load of one of a slice's. -/
theorem tload {h : Heap} {a : Option Addr} {c : Nat} {xs : List Value} {l : List NT} {p : Addr} {i : Nat} {K : Value → Prop} (x : Sl h 6 a l.length c xs) (r : TReps h l xs) (ep : a = some p) (hi : i < l.length)
    (k : ∀ cs, TRep h l[i] cs → K (.agg cs.toArray)) : HLoadN h (p.add (i * 6)) 6 K := x.loadEl (fun _ _ r => r.len) r.els ep hi k
/-- .. in a later heap. -/
theorem tload' {h h1 : Heap} {a : Option Addr} {c : Nat} {xs : List Value} {l : List NT} {p : Addr} {i : Nat} {K : Value → Prop} (x : Sl h 6 a l.length c xs) (r : TReps h l xs) (e1 : Ext h h1) (ep : a = some p) (hi : i < l.length)
    (k : ∀ cs, TRep h l[i] cs → K (.agg cs.toArray)) : HLoadN h1 (p.add (i * 6)) 6 K := by
  obtain ⟨cs, r1, r2⟩ := r.els.get (fun _ _ r => r.len) i hi
  refine ⟨cs, r1.len, fun j hj => ?_, k cs r1⟩
  rw [← r2 j hj, add_add, (x.ext e1).2.2.2 p ep (i * 6 + j) (by omega)]
mutual
/-- How many nodes. -/
def cnt : NT → Nat
  | .mk _ _ _ _ _ l => cnts l + 1
def cnts : List NT → Nat
  | [] => 0
  | d :: r => cnt d + cnts r
end
theorem cnts_len : ∀ l : List NT, l.length ≤ cnts l
  | [] => by simp [cnts]
  | .mk k nm n t ns l' :: r => by have := cnts_len r; simp only [cnts, cnt, List.length_cons]; omega
abbrev zeroT : List Value := [.int .i64 0, .string ⟨#[]⟩, .int .i64 0, .string ⟨#[]⟩, .slice none 0 0, .slice none 0 0]

end Go.Proofs.Ytlogpojkkbcpjaa.Hc
set_option linter.unusedVariables false
set_option linter.unusedSimpArgs false
namespace Go.Proofs.Ytlogpojkkbcpjaa.Hc
open Go Go.H Go.Proofs
set_option maxRecDepth 100000

/-- What a buffer that grows leaves alone. -/
def Grew (h : Heap) (a : Option Addr) (h' : Heap) (a' : Option Addr) : Prop :=
  h.size ≤ h'.size ∧ (∀ b, b < h.size → (∀ p, a = some p → p.block ≠ b) → h'[b]? = h[b]?) ∧ (∀ p', a' = some p' → (∃ p, a = some p ∧ p'.block = p.block) ∨ h.size ≤ p'.block)
theorem Grew.refl (h : Heap) (a : Option Addr) : Grew h a h a := ⟨Nat.le_refl _, fun _ _ _ => rfl, fun p ep => .inl ⟨p, ep, rfl⟩⟩
theorem Grew.of_ext {h h' : Heap} (x : Ext h h') (a : Option Addr) : Grew h a h' a := ⟨x.1, fun b hb _ => x.2 b hb, fun p ep => .inl ⟨p, ep, rfl⟩⟩
theorem Grew.trans {h h1 h2 : Heap} {a a1 a2 : Option Addr} (x : Grew h a h1 a1) (y : Grew h1 a1 h2 a2) : Grew h a h2 a2 := by
  refine ⟨Nat.le_trans x.1 y.1, fun b hb hne => ?_, fun p ep => ?_⟩
  · rw [y.2.1 b (by have := x.1; omega), x.2.1 b hb hne]
    intro p ep
    rcases x.2.2 p ep with ⟨q, eq, hq⟩ | hq
    · have := hne q eq; omega
    · omega
  · rcases y.2.2 p ep with ⟨q, eq, hq⟩ | hq
    · rcases x.2.2 q eq with ⟨r, er, hr⟩ | hr
      · exact .inl ⟨r, er, by omega⟩
      · exact .inr (by omega)
    · exact .inr (by have := x.1; omega)
theorem Grew.ext {h h1 h2 : Heap} {a a1 : Option Addr} (x : Grew h a h1 a1) (y : Ext h1 h2) : Grew h a h2 a1 := x.trans (.of_ext y _)
theorem Grew.kept {h h1 : Heap} {a a1 : Option Addr} {B : Nat} (x : Grew h a h1 a1) (hB : B ≤ h.size) (ha : ∀ p, a = some p → B ≤ p.block) : Kept B h h1 :=
  ⟨x.1, fun b hb => x.2.1 b (by omega) fun p ep => by have := ha p ep; omega⟩
theorem Grew.blk {h h1 : Heap} {a a1 : Option Addr} {b e : Nat} {cs : List Value} (x : Grew h a h1 a1) (o : BlkW h b e cs) (hne : ∀ p, a = some p → p.block ≠ b) : BlkW h1 b e cs := o.of (x.2.1 b o.lt hne)
theorem Own.grow {h : Heap} {B e size bytes : Nat} {zs : List Value} {a : Option Addr} {n c m : Nat} {xs more : List Value} {K : Value → Heap → Prop} (x : Own h B e size a n c xs)
    (hB : B ≤ h.size) (hz : zs.length = size) (hm : more.length = m * size) (one : ∀ v ∈ more, isOne v = true) (room : (n + m) * bytes ≤ 140737488355328)
    (k : ∀ h' a' c', Own h' B e size a' (n + m) c' (xs ++ more) → Grew h a h' a' → K (.slice a' (n + m) c') h') :
    HAppend h e size bytes zs a n c more m K :=
  x.append hB hz hm one room fun h' a' c' o k1 k2 k3 => k h' a' c' o ⟨k1.1, k2, k3⟩

theorem Own.bytes {h : Heap} {B : Nat} {a : Option Addr} {c : Nat} {l0 more : List UInt8} {K : Value → Heap → Prop} (x : Own h B 5 1 a l0.length c (l0.map byteV)) (hB : B ≤ h.size)
    (room : l0.length + more.length ≤ 140737488355328)
    (k : ∀ h' a' c', Own h' B 5 1 a' (l0 ++ more).length c' ((l0 ++ more).map byteV) → Grew h a h' a' → K (.slice a' (l0 ++ more).length c') h') :
    HAppend h 5 1 1 [.int .u8 0] a l0.length c (more.map byteV) more.length K := by
  refine Own.grow x hB rfl (by simp) bytesV_one (by omega) fun h' a' c' o g => ?_
  have := k h' a' c' (by rw [List.length_append, List.map_append]; exact o) g
  rw [List.length_append] at this
  exact this

end Go.Proofs.Ytlogpojkkbcpjaa.Hc
/- Names in lists; scope.Vars. -/
set_option linter.unusedVariables false
set_option linter.unusedSimpArgs false
namespace Go.Proofs.Ytlogpojkkbcpjaa.Hc
open Go Go.H Go.Proofs
set_option maxRecDepth 100000
set_option maxHeartbeats 8000000
theorem index_spec {h : Heap} {a : Option Addr} {c : Nat} {ks : List ByteArray} (x : Sl h 1 a ks.length c (ks.map .string)) (s : ByteArray) (hn : ks.length ≤ 17179869184) :
    HCalls Try.prog 43 #[.slice a ks.length c, .string s] h fun e h' => h' = h ∧ ∃ n : Int, e = .returned (.int .i64 n) ∧ -1 ≤ n ∧ n < ks.length ∧
      ((n = -1 ∧ s ∉ ks) ∨ (∃ i : Nat, ∃ hi : i < ks.length, n = i ∧ ks[i] = s ∧ s ∉ ks.take i)) := by
  refine c43 (by simp) ?_
  ((conv=>whnf);repeat((first|(with_reducible first|refine Z1 ?_|refine Z2 ?_|refine Z3 ?_|refine Z4 ?_|refine Z5 ?_|refine Z9 (by assumption) rfl ?_|refine ZA (by assumption) rfl ?_|refine ZB (by assumption) rfl ?_|refine Z6 ?_|refine Z7 ?_|refine Z8 ?_)|((with_reducible refine ZM ?_ ?_);(focus rfl)));(conv=>whnf)))
  refine loop_rule [8] (fun vs h' => ∃ (i : Nat), vs = [.int .i64 i] ∧ i ≤ ks.length ∧ h' = h ∧ s ∉ ks.take i)
    (fun vs _ => match vs with | [.int _ i] => ks.length - i.toNat | _ => 0) rfl ?_ ?_
  · exact ⟨0, rfl, by omega, rfl, by simp⟩
  · intro u h v8
    rintro ⟨i, e, hi, rfl, hs⟩
    cases e
    ((conv=>whnf);repeat((first|(with_reducible first|refine Z1 ?_|refine Z2 ?_|refine Z3 ?_|refine Z4 ?_|refine Z5 ?_|refine Z9 (by assumption) rfl ?_|refine ZA (by assumption) rfl ?_|refine ZB (by assumption) rfl ?_|refine Z6 ?_|refine Z7 ?_|refine Z8 ?_)|((with_reducible refine ZM ?_ ?_);(focus rfl)));(conv=>whnf)))
    refine HIf.mk (fun hb => ?_) (fun hb => ?_)
    · have hi1 : i < ks.length := by have := of_decide_eq_true hb; omega
      ((conv=>whnf);repeat((first|(with_reducible first|refine Z1 ?_|refine Z2 ?_|refine Z3 ?_|refine Z4 ?_|refine Z5 ?_|refine Z9 (by assumption) rfl ?_|refine ZA (by assumption) rfl ?_|refine ZB (by assumption) rfl ?_|refine Z6 ?_|refine Z7 ?_|refine Z8 ?_)|((with_reducible refine ZM ?_ ?_);(focus rfl)));(conv=>whnf)))
      refine HIdx.mk i rfl hi1 ?_
      refine sl_some x hi1 fun p ep => ?_
      ((conv=>whnf);repeat((first|(with_reducible first|refine Z1 ?_|refine Z2 ?_|refine Z3 ?_|refine Z4 ?_|refine Z5 ?_|refine Z9 (by assumption) rfl ?_|refine ZA (by assumption) rfl ?_|refine ZB (by assumption) rfl ?_|refine Z6 ?_|refine Z7 ?_|refine Z8 ?_)|((with_reducible refine ZM ?_ ?_);(focus rfl)));(conv=>whnf)))
      refine x.load ep (by simpa using hi1) ?_
      rw [List.getElem_map]
      ((conv=>whnf);repeat((first|(with_reducible first|refine Z1 ?_|refine Z2 ?_|refine Z3 ?_|refine Z4 ?_|refine Z5 ?_|refine Z9 (by assumption) rfl ?_|refine ZA (by assumption) rfl ?_|refine ZB (by assumption) rfl ?_|refine Z6 ?_|refine Z7 ?_|refine Z8 ?_)|((with_reducible refine ZM ?_ ?_);(focus rfl)));(conv=>whnf)))
      refine HIf.mk (fun he => ?_) (fun he => ?_)
      · have heq := (strEq_iff _ _).1 he
        ((conv=>whnf);repeat((first|(with_reducible first|refine Z1 ?_|refine Z2 ?_|refine Z3 ?_|refine Z4 ?_|refine Z5 ?_|refine Z9 (by assumption) rfl ?_|refine ZA (by assumption) rfl ?_|refine ZB (by assumption) rfl ?_|refine Z6 ?_|refine Z7 ?_|refine Z8 ?_)|((with_reducible refine ZM ?_ ?_);(focus rfl)));(conv=>whnf)))
        exact ⟨rfl, i, rfl, by omega, by omega, .inr ⟨i, hi1, rfl, heq.symm, hs⟩⟩
      · have hne := (strEq_no _ _).1 he
        ((conv=>whnf);repeat((first|(with_reducible first|refine Z1 ?_|refine Z2 ?_|refine Z3 ?_|refine Z4 ?_|refine Z5 ?_|refine Z9 (by assumption) rfl ?_|refine ZA (by assumption) rfl ?_|refine ZB (by assumption) rfl ?_|refine Z6 ?_|refine Z7 ?_|refine Z8 ?_)|((with_reducible refine ZM ?_ ?_);(focus rfl)));(conv=>whnf)))
        refine ⟨⟨i + 1, rfl, by omega, rfl, ?_⟩, ?_⟩
        · rw [take_succ' hi1, List.mem_append, List.mem_singleton]
          rintro (h | h)
          · exact hs h
          · exact hne h
        · show ks.length - (((i : Int) + 1)).toNat < ks.length - ((i : Int)).toNat
          omega
    · have hge := of_decide_eq_false hb
      rw [List.take_of_length_le (by omega)] at hs
      ((conv=>whnf);repeat((first|(with_reducible first|refine Z1 ?_|refine Z2 ?_|refine Z3 ?_|refine Z4 ?_|refine Z5 ?_|refine Z9 (by assumption) rfl ?_|refine ZA (by assumption) rfl ?_|refine ZB (by assumption) rfl ?_|refine Z6 ?_|refine Z7 ?_|refine Z8 ?_)|((with_reducible refine ZM ?_ ?_);(focus rfl)));(conv=>whnf)))
      exact ⟨rfl, -1, rfl, by omega, by omega, .inl ⟨rfl, hs⟩⟩

theorem contains_spec {h : Heap} {a : Option Addr} {c : Nat} {ks : List ByteArray} (x : Sl h 1 a ks.length c (ks.map .string)) (s : ByteArray) (hn : ks.length ≤ 17179869184) :
    HCalls Try.prog 28 #[.slice a ks.length c, .string s] h fun e h' => h' = h ∧ e = .returned (.bool (strIn ks s)) := by
  refine c28 (by simp) ?_
  ((conv=>whnf);repeat((first|(with_reducible first|refine Z1 ?_|refine Z2 ?_|refine Z3 ?_|refine Z4 ?_|refine Z5 ?_|refine Z9 (by assumption) rfl ?_|refine ZA (by assumption) rfl ?_|refine ZB (by assumption) rfl ?_|refine Z6 ?_|refine Z7 ?_|refine Z8 ?_)|((with_reducible refine ZM ?_ ?_);(focus rfl)));(conv=>whnf)))
  refine HCall.mk ((index_spec x s hn).mono ?_)
  rintro e h1 ⟨rfl, n, rfl, h1', h2', h3⟩
  ((conv=>whnf);repeat((first|(with_reducible first|refine Z1 ?_|refine Z2 ?_|refine Z3 ?_|refine Z4 ?_|refine Z5 ?_|refine Z9 (by assumption) rfl ?_|refine ZA (by assumption) rfl ?_|refine ZB (by assumption) rfl ?_|refine Z6 ?_|refine Z7 ?_|refine Z8 ?_)|((with_reducible refine ZM ?_ ?_);(focus rfl)));(conv=>whnf)))
  refine ⟨rfl, ?_⟩
  show Ending.returned (.bool (decide (n ≥ 0))) = _
  rcases h3 with ⟨rfl, hs⟩ | ⟨i, hi, rfl, he, _⟩
  · have : strIn ks s = false := by rw [← Bool.not_eq_true, strIn_iff]; exact hs
    rw [this]; rfl
  · have : strIn ks s = true := strIn_iff.2 (he ▸ List.getElem_mem hi)
    rw [this, decide_eq_true (by omega)]

/-- A name laid behind, if it is new. -/
def addN (out : List ByteArray) (s : ByteArray) : List ByteArray := if strIn out s = true then out else out ++ [s]
theorem addN_yes {out : List ByteArray} {s : ByteArray} (h : strIn out s = true) : addN out s = out := if_pos h
theorem addN_no {out : List ByteArray} {s : ByteArray} (h : strIn out s = false) : addN out s = out ++ [s] := if_neg (by rw [h]; simp)
theorem sl_at {h h' : Heap} {size n c : Nat} {a : Option Addr} {xs : List Value} (x : Sl h size a n c xs) (e : ∀ p, a = some p → h'[p.block]? = h[p.block]?) : Sl h' size a n c xs :=
  ⟨x.1, x.2.1, x.2.2.1, fun p ep i hi => by
    have h1 := x.2.2.2 p ep i hi
    have e2 : h'[(p.add i).block]? = h[(p.add i).block]? := by rw [add_block]; exact e p ep
    rw [hcell_of e2, h1]⟩
theorem addN_len (out : List ByteArray) (s : ByteArray) : (addN out s).length ≤ out.length + 1 := by unfold addN; split <;> simp
theorem fold_len : ∀ (l out : List ByteArray), (l.foldl addN out).length ≤ out.length + l.length
  | [], out => by simp
  | s :: l, out => by
    have h1 := fold_len l (addN out s)
    have h2 := addN_len out s
    rw [List.foldl_cons, List.length_cons]; omega
mutual
/-- What one node declares, laid behind. -/
def varsT : NT → List ByteArray → List ByteArray
  | .mk k nm _ _ _ l, out => if k = 39 ∨ k = 10 then out else (varsL l []).foldl addN (if k = 23 then addN out nm else out)
def varsL : List NT → List ByteArray → List ByteArray
  | [], out => out
  | d :: r, out => varsL r (varsT d out)
end
mutual
theorem varsT_len : ∀ (d : NT) (out : List ByteArray), (varsT d out).length ≤ out.length + cnt d
  | .mk k nm n t ns l, out => by
    unfold varsT
    simp only [cnt]
    split
    · omega
    · have h1 := fold_len (varsL l []) (if k = 23 then addN out nm else out)
      have h2 := varsL_len l []
      have h3 := addN_len out nm
      split at h1
      · rw [if_pos (by assumption)]
        simp only [List.length_nil, Nat.zero_add] at h2; omega
      · rw [if_neg (by assumption)]
        simp only [List.length_nil, Nat.zero_add] at h2; omega
theorem varsL_len : ∀ (l : List NT) (out : List ByteArray), (varsL l out).length ≤ out.length + cnts l
  | [], out => by simp [varsL]
  | d :: r, out => by
    have h1 := varsT_len d out
    have h2 := varsL_len r (varsT d out)
    simp only [varsL, cnts]; omega
end
theorem varsL_take (l : List NT) (i : Nat) (hi : i < l.length) : varsL (l.take (i + 1)) [] = varsT l[i] (varsL (l.take i) []) := by
  have key : ∀ (l m : List NT) (out : List ByteArray), varsL (l ++ m) out = varsL m (varsL l out) := by
    intro l
    induction l with
    | nil => intro m out; rfl
    | cons d r ih => intro m out; simp only [List.cons_append, varsL]; exact ih _ _
  rw [List.take_add_one, List.getElem?_eq_getElem hi]
  show varsL (l.take i ++ [l[i]]) [] = _
  rw [key]; rfl
theorem cnts_take (l : List NT) (i : Nat) : cnts (l.take i) ≤ cnts l := by
  induction l generalizing i with
  | nil => simp [cnts]
  | cons d r ih => cases i with
    | zero => simp [cnts]
    | succ i => have := ih i; simp only [List.take_succ_cons, cnts]; omega
theorem cnts_get (l : List NT) (i : Nat) (hi : i < l.length) : cnt l[i] ≤ cnts l := by
  induction l generalizing i with
  | nil => simp at hi
  | cons d r ih => cases i with
    | zero => simp only [List.getElem_cons_zero, cnts]; omega
    | succ i => have := ih i (by simpa using hi); simp only [List.getElem_cons_succ, cnts]; omega
theorem kids_lt (d : NT) : cnts d.l < cnt d := by cases d; simp only [NT.l, cnt]; omega

abbrev SlS (h : Heap) (B : Nat) (a : Option Addr) (c : Nat) (l : List ByteArray) : Prop := Own h B 9 1 a l.length c (l.map .string)

theorem vars_spec : ∀ (m : Nat) (l : List NT) (_ : cnts l = m) (h : Heap) (a : Option Addr) (c : Nat) (xs : List Value) (_ : Sl h 6 a l.length c xs) (_ : TReps h l xs) (_ : cnts l ≤ 4194304),
    HCalls Try.prog 16 #[.slice a l.length c] h fun e h' => ∃ a' c', e = .returned (.slice a' (varsL l []).length c') ∧ SlS h' h.size a' c' (varsL l []) ∧ Ext h h' := by
  intro m
  induction m using Nat.strongRecOn with
  | ind m ih =>
  intro l hm h a c xs s r hc
  have hl := cnts_len l
  refine c16 (by simp) ?_
  ((conv=>whnf);repeat((first|(with_reducible first|refine Z1 ?_|refine Z2 ?_|refine Z3 ?_|refine Z4 ?_|refine Z5 ?_|refine Z9 (by assumption) rfl ?_|refine ZA (by assumption) rfl ?_|refine ZB (by assumption) rfl ?_|refine Z6 ?_|refine Z7 ?_|refine Z8 ?_)|((with_reducible refine ZM ?_ ?_);(focus rfl)));(conv=>whnf)))
  refine loop_rule [2, 9] (fun vs h' => ∃ (i : Nat) (a' : Option Addr) (c' : Nat), vs = [.slice a' (varsL (l.take i) []).length c', .int .i64 i] ∧ i ≤ l.length ∧ SlS h' h.size a' c' (varsL (l.take i) []) ∧ Ext h h')
    (fun vs _ => match vs with | [_, .int _ i] => l.length - i.toNat | _ => 0) rfl ?_ ?_
  · exact ⟨0, none, 0, rfl, by omega, Own.nil _ _ _ _, Ext.refl _⟩
  intro u h1 v2 v9
  rintro ⟨i, a1, c1, e, hi, w1, x1⟩
  cases e
  ((conv=>whnf);repeat((first|(with_reducible first|refine Z1 ?_|refine Z2 ?_|refine Z3 ?_|refine Z4 ?_|refine Z5 ?_|refine Z9 (by assumption) rfl ?_|refine ZA (by assumption) rfl ?_|refine ZB (by assumption) rfl ?_|refine Z6 ?_|refine Z7 ?_|refine Z8 ?_)|((with_reducible refine ZM ?_ ?_);(focus rfl)));(conv=>whnf)))
  refine HIf.mk (fun hlt => ?_) (fun hlt => ?_)
  · have hi1 : i < l.length := by have := of_decide_eq_true hlt; omega
    have hmu : l.length - ((i : Int) + 1).toNat < l.length - ((i : Int)).toNat := by omega
    have vt := varsL_take l i hi1
    have hvl := varsL_len (l.take i) []
    have hct := cnts_take l i
    have hcg := cnts_get l i hi1
    have hkl := kids_lt l[i]
    simp only [List.length_nil, Nat.zero_add] at hvl
    generalize varsL (l.take i) [] = out at w1 vt hvl
    ((conv=>whnf);repeat((first|(with_reducible first|refine Z1 ?_|refine Z2 ?_|refine Z3 ?_|refine Z4 ?_|refine Z5 ?_|refine Z9 (by assumption) rfl ?_|refine ZA (by assumption) rfl ?_|refine ZB (by assumption) rfl ?_|refine Z6 ?_|refine Z7 ?_|refine Z8 ?_)|((with_reducible refine ZM ?_ ?_);(focus rfl)));(conv=>whnf)))
    refine HIdx.mk i rfl hi1 ?_
    refine sl_some s hi1 fun p ep => ?_
    ((conv=>whnf);repeat((first|(with_reducible first|refine Z1 ?_|refine Z2 ?_|refine Z3 ?_|refine Z4 ?_|refine Z5 ?_|refine Z9 (by assumption) rfl ?_|refine ZA (by assumption) rfl ?_|refine ZB (by assumption) rfl ?_|refine Z6 ?_|refine Z7 ?_|refine Z8 ?_)|((with_reducible refine ZM ?_ ?_);(focus rfl)));(conv=>whnf)))
    refine tload' s r x1 ep hi1 fun cs rt => ?_
    have hcl := rt.len
    cases hd : l[i] with
    | mk k nm n t ns kl =>
    rw [hd] at rt vt hcg hkl
    simp only [NT.l] at hkl
    simp only [TRep] at rt
    obtain ⟨b1, b2, b3, b4, b5, b6, b7, ka, kc, la, lc, ys, rfl, s1, s2, s3⟩ := rt
    ((conv=>whnf);repeat((first|(with_reducible first|refine Z1 ?_|refine Z2 ?_|refine Z3 ?_|refine Z4 ?_|refine Z5 ?_|refine Z9 (by assumption) rfl ?_|refine ZA (by assumption) rfl ?_|refine ZB (by assumption) rfl ?_|refine Z6 ?_|refine Z7 ?_|refine Z8 ?_)|((with_reducible refine ZM ?_ ?_);(focus rfl)));(conv=>whnf)))
    refine new_var (e := 26) zeroT rfl ?_
    intro h2 b2' o2 x2 z2 hb2
    ((conv=>whnf);repeat((first|(with_reducible first|refine Z1 ?_|refine Z2 ?_|refine Z3 ?_|refine Z4 ?_|refine Z5 ?_|refine Z9 (by assumption) rfl ?_|refine ZA (by assumption) rfl ?_|refine ZB (by assumption) rfl ?_|refine Z6 ?_|refine Z7 ?_|refine Z8 ?_)|((with_reducible refine ZM ?_ ?_);(focus rfl)));(conv=>whnf)))
    refine store_blk o2 (by simp) (by simp [isOne]) ?_
    intro h3 f3 z3 o3
    have o3' : BlkW h3 b2' 26 [.int .i64 k, .string nm, .int .i64 n, .string t, .slice ka ns.length kc, .slice la kl.length lc] := by simpa using o3
    have x13 : Ext h1 h3 := x2.offNew f3 (by omega)
    have w3 := w1.ext x13
    clear o2 o3
    simp only [varsT] at vt
    by_cases hk1 : k = 39
    · have q1 : (k == 39) = true := beq_iff_eq.2 hk1
      rw [if_pos (.inl hk1)] at vt
      ((conv=>whnf);repeat((first|(with_reducible first|refine Z1 ?_|refine Z2 ?_|refine Z3 ?_|refine Z4 ?_|refine Z5 ?_|refine Z9 (by assumption) rfl ?_|refine ZA (by assumption) rfl ?_|refine ZB (by assumption) rfl ?_|refine Z6 ?_|refine Z7 ?_|refine Z8 ?_)|((with_reducible refine ZM ?_ ?_);(focus rfl)));(conv=>whnf)))
      exact ⟨⟨i + 1, a1, c1, by rw [vt]; rfl, by omega, by rw [vt]; exact w3, x1.trans x13⟩, hmu⟩
    have q1 : (k == 39) = false := beq_eq_false_iff_ne.2 hk1
    by_cases hk2 : k = 10
    · have q2 : (k == 10) = true := beq_iff_eq.2 hk2
      rw [if_pos (.inr hk2)] at vt
      ((conv=>whnf);repeat((first|(with_reducible first|refine Z1 ?_|refine Z2 ?_|refine Z3 ?_|refine Z4 ?_|refine Z5 ?_|refine Z9 (by assumption) rfl ?_|refine ZA (by assumption) rfl ?_|refine ZB (by assumption) rfl ?_|refine Z6 ?_|refine Z7 ?_|refine Z8 ?_)|((with_reducible refine ZM ?_ ?_);(focus rfl)));(conv=>whnf)))
      exact ⟨⟨i + 1, a1, c1, by rw [vt]; rfl, by omega, by rw [vt]; exact w3, x1.trans x13⟩, hmu⟩
    have q2 : (k == 10) = false := beq_eq_false_iff_ne.2 hk2
    rw [if_neg (by omega)] at vt
    ((conv=>whnf);repeat((first|(with_reducible first|refine Z2 ?_|refine Z3 ?_|refine Z4 ?_|refine Z5 ?_|refine Z9 (by assumption) rfl ?_|refine ZA (by assumption) rfl ?_|refine ZB (by assumption) rfl ?_|refine Z6 ?_|refine Z7 ?_|refine Z8 ?_)|((with_reducible refine ZM ?_ ?_);(focus rfl)));(conv=>whnf)))
    refine cut_rule [2] (fun vs h' => ∃ (a' : Option Addr) (c' : Nat), vs = [.slice a' (if k = 23 then addN out nm else out).length c'] ∧ SlS h' h.size a' c' (if k = 23 then addN out nm else out) ∧ Ext h h' ∧ h3.size ≤ h'.size ∧ BlkW h' b2' 26 [.int .i64 k, .string nm, .int .i64 n, .string t, .slice ka ns.length kc, .slice la kl.length lc]) rfl ?_ ?_
    · by_cases hk3 : k = 23
      · have q3 : (k == 23) = true := beq_iff_eq.2 hk3
        rw [if_pos hk3]
        ((conv=>whnf);repeat((first|(with_reducible first|refine Z1 ?_|refine Z2 ?_|refine Z3 ?_|refine Z4 ?_|refine Z5 ?_|refine Z9 (by assumption) rfl ?_|refine ZA (by assumption) rfl ?_|refine ZB (by assumption) rfl ?_|refine Z6 ?_|refine Z7 ?_|refine Z8 ?_)|((with_reducible refine ZM ?_ ?_);(focus rfl)));(conv=>whnf)))
        refine HCall.mk ((contains_spec w3.sl nm (by omega)).mono ?_)
        rintro e h4 ⟨rfl, rfl⟩
        cases hin : strIn out nm
        · rw [addN_no hin]
          ((conv=>whnf);repeat((first|(with_reducible first|refine Z1 ?_|refine Z2 ?_|refine Z3 ?_|refine Z4 ?_|refine Z5 ?_|refine Z9 (by assumption) rfl ?_|refine ZA (by assumption) rfl ?_|refine ZB (by assumption) rfl ?_|refine Z6 ?_|refine Z7 ?_|refine Z8 ?_)|((with_reducible refine ZM ?_ ?_);(focus rfl)));(conv=>whnf)))
          refine new_own (e := 9) 1 1 [.string nm] rfl rfl ?_
          intro h5 b5 w5 x5 z5 hb5
          have o5 := o3'.ext x5
          have w35 := w3.ext x5
          ((conv=>whnf);repeat((first|(with_reducible first|refine Z1 ?_|refine Z2 ?_|refine Z3 ?_|refine Z4 ?_|refine Z5 ?_|refine Z9 (by assumption) rfl ?_|refine ZA (by assumption) rfl ?_|refine ZB (by assumption) rfl ?_|refine Z6 ?_|refine Z7 ?_|refine Z8 ?_)|((with_reducible refine ZM ?_ ?_);(focus rfl)));(conv=>whnf)))
          refine w5.sl.cells ?_
          refine Own.grow w35 (by have := x1.1; have := x13.1; have := x5.1; omega) rfl rfl (by intro v hv; simp only [List.mem_singleton] at hv; subst hv; rfl) (by omega) ?_
          intro h6 a6 c6 w6 g6
          have w3lt := w3.lt
          have o6 := g6.blk o5 (fun p ep => by have := w3lt p ep; have := w1.lt p ep; have := x2.1; omega)
          have hs6 := g6.1
          ((conv=>whnf);repeat((first|(with_reducible first|refine Z1 ?_|refine Z2 ?_|refine Z3 ?_|refine Z4 ?_|refine Z5 ?_|refine Z9 (by assumption) rfl ?_|refine ZA (by assumption) rfl ?_|refine ZB (by assumption) rfl ?_|refine Z6 ?_|refine Z7 ?_|refine Z8 ?_)|((with_reducible refine ZM ?_ ?_);(focus rfl)));(conv=>whnf)))
          exact ⟨a6, c6, by rw [List.length_append]; rfl, by rw [SlS, List.length_append, List.map_append]; exact w6, (x1.trans (x13.trans x5)).keep (g6.kept (by have := x1.1; have := x13.1; have := x5.1; omega) fun p ep => by have := w3lt p ep; omega), by have := x5.1; omega, o6⟩
        · rw [addN_yes hin]
          ((conv=>whnf);repeat((first|(with_reducible first|refine Z1 ?_|refine Z2 ?_|refine Z3 ?_|refine Z4 ?_|refine Z5 ?_|refine Z9 (by assumption) rfl ?_|refine ZA (by assumption) rfl ?_|refine ZB (by assumption) rfl ?_|refine Z6 ?_|refine Z7 ?_|refine Z8 ?_)|((with_reducible refine ZM ?_ ?_);(focus rfl)));(conv=>whnf)))
          exact ⟨a1, c1, rfl, w3, x1.trans x13, Nat.le_refl _, o3'⟩
      · have q3 : (k == 23) = false := beq_eq_false_iff_ne.2 hk3
        rw [if_neg hk3]
        ((conv=>whnf);repeat((first|(with_reducible first|refine Z1 ?_|refine Z2 ?_|refine Z3 ?_|refine Z4 ?_|refine Z5 ?_|refine Z9 (by assumption) rfl ?_|refine ZA (by assumption) rfl ?_|refine ZB (by assumption) rfl ?_|refine Z6 ?_|refine Z7 ?_|refine Z8 ?_)|((with_reducible refine ZM ?_ ?_);(focus rfl)));(conv=>whnf)))
        exact ⟨a1, c1, rfl, w3, x1.trans x13, Nat.le_refl _, o3'⟩
    · intro u4 h4 v2
      rintro ⟨a4, c4, e, w4, x4, hs4, o4⟩
      cases e
      have hb4 : b2' < h4.size := o4.lt
      have ho2 : (if k = 23 then addN out nm else out).length ≤ 4194305 := by have := addN_len out nm; split <;> omega
      generalize (if k = 23 then addN out nm else out) = out2 at w4 vt ho2
      have hv2 := varsL_len kl []
      ((conv=>whnf);repeat((first|(with_reducible first|refine Z1 ?_|refine Z2 ?_|refine Z3 ?_|refine Z4 ?_|refine Z5 ?_|refine Z9 (by assumption) rfl ?_|refine ZA (by assumption) rfl ?_|refine ZB (by assumption) rfl ?_|refine Z6 ?_|refine Z7 ?_|refine Z8 ?_)|((with_reducible refine ZM ?_ ?_);(focus rfl)));(conv=>whnf)))
      refine HCall.mk ((ih (cnts kl) (by omega) kl rfl h4 la lc ys (s2.ext x4) (s3.ext x4) (by omega)).mono ?_)
      rintro e h5 ⟨a5, c5, rfl, w5, x5⟩
      have w45 := w4.ext x5
      have hs45 := x5.1
      have hs04 := x4.1
      generalize varsL kl [] = ks at w5 vt hv2
      simp only [List.length_nil, Nat.zero_add] at hv2
      have hfl : ∀ j, (ks.take j).foldl addN out2 = (ks.take j).foldl addN out2 := fun _ => rfl
      ((conv=>whnf);repeat((first|(with_reducible first|refine Z1 ?_|refine Z2 ?_|refine Z3 ?_|refine Z4 ?_|refine Z5 ?_|refine Z9 (by assumption) rfl ?_|refine ZA (by assumption) rfl ?_|refine ZB (by assumption) rfl ?_|refine Z6 ?_|refine Z7 ?_|refine Z8 ?_)|((with_reducible refine ZM ?_ ?_);(focus rfl)));(conv=>whnf)))
      refine loop_rule [2, 34] (fun vs h' => ∃ (j : Nat) (a' : Option Addr) (c' : Nat), vs = [.slice a' ((ks.take j).foldl addN out2).length c', .int .i64 j] ∧ j ≤ ks.length ∧ SlS h' h.size a' c' ((ks.take j).foldl addN out2) ∧ Sl h' 1 a5 ks.length c5 (ks.map .string) ∧ Ext h h' ∧ h5.size ≤ h'.size ∧ (∀ p, a' = some p → p.block < h4.size ∨ h5.size ≤ p.block))
        (fun vs _ => match vs with | [_, .int _ i] => ks.length - i.toNat | _ => 0) rfl ?_ ?_
      · exact ⟨0, a4, c4, rfl, by omega, w45, w5.sl, x4.trans x5, Nat.le_refl _, fun p ep => .inl (w4.lt p ep).2⟩
      intro u6 h6 v2' v34
      rintro ⟨j, a6, c6, e, hj, w6, s6, x6, hs6, ap6⟩
      cases e
      ((conv=>whnf);repeat((first|(with_reducible first|refine Z1 ?_|refine Z2 ?_|refine Z3 ?_|refine Z4 ?_|refine Z5 ?_|refine Z9 (by assumption) rfl ?_|refine ZA (by assumption) rfl ?_|refine ZB (by assumption) rfl ?_|refine Z6 ?_|refine Z7 ?_|refine Z8 ?_)|((with_reducible refine ZM ?_ ?_);(focus rfl)));(conv=>whnf)))
      refine HIf.mk (fun hlt2 => ?_) (fun hlt2 => ?_)
      · have hj1 : j < ks.length := by have := of_decide_eq_true hlt2; omega
        have hmu2 : ks.length - ((j : Int) + 1).toNat < ks.length - ((j : Int)).toNat := by omega
        have ft : (ks.take (j + 1)).foldl addN out2 = addN ((ks.take j).foldl addN out2) ks[j] := by rw [take_succ' hj1, List.foldl_append]; rfl
        have fl := fold_len (ks.take j) out2
        rw [List.length_take] at fl
        generalize (ks.take j).foldl addN out2 = out3 at w6 ft fl
        ((conv=>whnf);repeat((first|(with_reducible first|refine Z1 ?_|refine Z2 ?_|refine Z3 ?_|refine Z4 ?_|refine Z5 ?_|refine Z9 (by assumption) rfl ?_|refine ZA (by assumption) rfl ?_|refine ZB (by assumption) rfl ?_|refine Z6 ?_|refine Z7 ?_|refine Z8 ?_)|((with_reducible refine ZM ?_ ?_);(focus rfl)));(conv=>whnf)))
        refine HIdx.mk j rfl hj1 ?_
        refine sl_some s6 hj1 fun p ep => ?_
        ((conv=>whnf);repeat((first|(with_reducible first|refine Z1 ?_|refine Z2 ?_|refine Z3 ?_|refine Z4 ?_|refine Z5 ?_|refine Z9 (by assumption) rfl ?_|refine ZA (by assumption) rfl ?_|refine ZB (by assumption) rfl ?_|refine Z6 ?_|refine Z7 ?_|refine Z8 ?_)|((with_reducible refine ZM ?_ ?_);(focus rfl)));(conv=>whnf)))
        refine s6.load ep (by simpa using hj1) ?_
        rw [List.getElem_map]
        ((conv=>whnf);repeat((first|(with_reducible first|refine Z1 ?_|refine Z2 ?_|refine Z3 ?_|refine Z4 ?_|refine Z5 ?_|refine Z9 (by assumption) rfl ?_|refine ZA (by assumption) rfl ?_|refine ZB (by assumption) rfl ?_|refine Z6 ?_|refine Z7 ?_|refine Z8 ?_)|((with_reducible refine ZM ?_ ?_);(focus rfl)));(conv=>whnf)))
        refine HCall.mk ((contains_spec w6.sl ks[j] (by omega)).mono ?_)
        rintro e h7 ⟨rfl, rfl⟩
        cases hin : strIn out3 ks[j]
        · rw [addN_no hin] at ft
          ((conv=>whnf);repeat((first|(with_reducible first|refine Z1 ?_|refine Z2 ?_|refine Z3 ?_|refine Z4 ?_|refine Z5 ?_|refine Z9 (by assumption) rfl ?_|refine ZA (by assumption) rfl ?_|refine ZB (by assumption) rfl ?_|refine Z6 ?_|refine Z7 ?_|refine Z8 ?_)|((with_reducible refine ZM ?_ ?_);(focus rfl)));(conv=>whnf)))
          refine new_own (e := 9) 1 1 [.string ks[j]] rfl rfl ?_
          intro h8 b8 w8 x8 z8 hb8
          have w68 := w6.ext x8
          have s68 := s6.ext x8
          have hs8 := x8.1
          ((conv=>whnf);repeat((first|(with_reducible first|refine Z1 ?_|refine Z2 ?_|refine Z3 ?_|refine Z4 ?_|refine Z5 ?_|refine Z9 (by assumption) rfl ?_|refine ZA (by assumption) rfl ?_|refine ZB (by assumption) rfl ?_|refine Z6 ?_|refine Z7 ?_|refine Z8 ?_)|((with_reducible refine ZM ?_ ?_);(focus rfl)));(conv=>whnf)))
          refine w8.sl.cells ?_
          refine Own.grow w68 (by have := x6.1; omega) rfl rfl (by intro v hv; simp only [List.mem_singleton] at hv; subst hv; rfl) (by omega) ?_
          intro h9 a9 c9 w9 g9
          have w6lt := w6.lt
          have w5lt := w5.lt
          have hs9 := g9.1
          have ap9 : ∀ p, a9 = some p → p.block < h4.size ∨ h5.size ≤ p.block := by
            intro p ep
            rcases g9.2.2 p ep with ⟨q, eq, hq⟩ | hq
            · rw [hq]; exact ap6 q eq
            · right; omega
          have s9 : Sl h9 1 a5 ks.length c5 (ks.map .string) := sl_at s68 fun q eq => g9.2.1 _ (by have := w5lt q eq; omega) (fun p ep => by have := w5lt q eq; have := ap6 p ep; omega)
          ((conv=>whnf);repeat((first|(with_reducible first|refine Z1 ?_|refine Z2 ?_|refine Z3 ?_|refine Z4 ?_|refine Z5 ?_|refine Z9 (by assumption) rfl ?_|refine ZA (by assumption) rfl ?_|refine ZB (by assumption) rfl ?_|refine Z6 ?_|refine Z7 ?_|refine Z8 ?_)|((with_reducible refine ZM ?_ ?_);(focus rfl)));(conv=>whnf)))
          exact ⟨⟨j + 1, a9, c9, by rw [ft, List.length_append]; rfl, by omega, by rw [ft, SlS, List.length_append, List.map_append]; exact w9, s9, (x6.trans x8).keep (g9.kept (by have := x6.1; omega) fun p ep => by have := w6lt p ep; omega), by omega, ap9⟩, hmu2⟩
        · rw [addN_yes hin] at ft
          ((conv=>whnf);repeat((first|(with_reducible first|refine Z1 ?_|refine Z2 ?_|refine Z3 ?_|refine Z4 ?_|refine Z5 ?_|refine Z9 (by assumption) rfl ?_|refine ZA (by assumption) rfl ?_|refine ZB (by assumption) rfl ?_|refine Z6 ?_|refine Z7 ?_|refine Z8 ?_)|((with_reducible refine ZM ?_ ?_);(focus rfl)));(conv=>whnf)))
          exact ⟨⟨j + 1, a6, c6, by rw [ft]; rfl, by omega, by rw [ft]; exact w6, s6, x6, hs6, ap6⟩, hmu2⟩
      · have hge2 := of_decide_eq_false hlt2
        obtain rfl : j = ks.length := by omega
        rw [List.take_length] at w6 ⊢
        ((conv=>whnf);repeat((first|(with_reducible first|refine Z1 ?_|refine Z2 ?_|refine Z3 ?_|refine Z4 ?_|refine Z5 ?_|refine Z9 (by assumption) rfl ?_|refine ZA (by assumption) rfl ?_|refine ZB (by assumption) rfl ?_|refine Z6 ?_|refine Z7 ?_|refine Z8 ?_)|((with_reducible refine ZM ?_ ?_);(focus rfl)));(conv=>whnf)))
        exact ⟨⟨i + 1, a6, c6, by rw [vt]; rfl, by omega, by rw [vt]; exact w6, x6⟩, hmu⟩
  · have hge := of_decide_eq_false hlt
    obtain rfl : i = l.length := by omega
    rw [List.take_length] at w1 ⊢
    ((conv=>whnf);repeat((first|(with_reducible first|refine Z1 ?_|refine Z2 ?_|refine Z3 ?_|refine Z4 ?_|refine Z5 ?_|refine Z9 (by assumption) rfl ?_|refine ZA (by assumption) rfl ?_|refine ZB (by assumption) rfl ?_|refine Z6 ?_|refine Z7 ?_|refine Z8 ?_)|((with_reducible refine ZM ?_ ?_);(focus rfl)));(conv=>whnf)))
    exact ⟨a1, c1, rfl, w1, x1⟩

end Go.Proofs.Ytlogpojkkbcpjaa.Hc
/-
  DERIVED: THE SHELF's CONTRACTS AT THIS DUMP, IN PLAIN WORDS (tools/lay-plain.mjs out of 'YtlogpojkkbcpjaaS0.lean', which tools/lay-shelf.mjs wrote): THE SAME DECLARATIONS UNDER THE SAME NAMES: 'import', 'namespace', 'open', 'def', 'theorem' AND NOTHING ELSE: no command of the shelf's: FOR A HAND-IN. Each laying: the table of numbers ('.._ren') and one theorem, a field a fact of the dump's own or the kernel's comparison; each contract: ONE APPLICATION.
-/
namespace Go.Proofs
open Go.Shelf
def Try.lays144_ren : Go.Shelf.Ren := ⟨fun | 144 => 82 | 143 => 89 | 219 => 84 | 217 => 90 | 225 => 91 | 224 => 92 | 267 => 93 | 266 => 105 | 314 => 106 | n => n, fun | 9 => 9 | 4 => 4 | 3 => 3 | 5 => 5 | 46 => 81 | 146 => 96 | 51 => 93 | n => n, fun | 1 => 0 | n => n⟩
theorem Try.lays144 : Go.Proofs.Lays.n144 Try.prog Try.lays144_ren := {
  mixed := by kernel_rfl
  f143 := Try.func89.trans (congrArg some (by kernel_rfl))
  f144 := Try.func82.trans (congrArg some (by kernel_rfl))
  f217 := Try.func90.trans (congrArg some (by kernel_rfl))
  f219 := Try.func84.trans (congrArg some (by kernel_rfl))
  f224 := Try.func92.trans (congrArg some (by kernel_rfl))
  f225 := Try.func91.trans (congrArg some (by kernel_rfl))
  f266 := Try.func105.trans (congrArg some (by kernel_rfl))
  f267 := Try.func93.trans (congrArg some (by kernel_rfl))
  f314 := Try.func106.trans (congrArg some (by kernel_rfl))
  t3 := Try.underlying3
  a3 := Try.isAgg3
  z3 := Try.sizeOf3
  v3 := Try.zeroValue3
  t4 := Try.underlying4
  a4 := Try.isAgg4
  z4 := Try.sizeOf4
  v4 := Try.zeroValue4
  t5 := Try.underlying5
  a5 := Try.isAgg5
  z5 := Try.sizeOf5
  v5 := Try.zeroValue5
  t9 := Try.underlying9
  a9 := Try.isAgg9
  z9 := Try.sizeOf9
  v9 := Try.zeroValue9
  t46 := Try.underlying81
  a46 := Try.isAgg81
  z46 := Try.sizeOf81
  v46 := Try.zeroValue81
  t51 := Try.underlying93
  a51 := Try.isAgg93
  z51 := Try.sizeOf93
  v51 := Try.zeroValue93
  t146 := Try.underlying96
  a146 := Try.isAgg96
  z146 := Try.sizeOf96
  v146 := Try.zeroValue96
  g1 := by kernel_rfl }
def Try.lays145_ren : Go.Shelf.Ren := ⟨fun | 145 => 49 | 220 => 70 | 219 => 84 | 217 => 90 | 225 => 91 | 224 => 92 | 267 => 93 | 266 => 105 | 314 => 106 | n => n, fun | 9 => 9 | 4 => 4 | 59 => 62 | 3 => 3 | 5 => 5 | 46 => 81 | 146 => 96 | 51 => 93 | n => n, fun | 1 => 0 | n => n⟩
theorem Try.lays145 : Go.Proofs.Lays.n145 Try.prog Try.lays145_ren := {
  mixed := by kernel_rfl
  f145 := Try.func49.trans (congrArg some (by kernel_rfl))
  f217 := Try.func90.trans (congrArg some (by kernel_rfl))
  f219 := Try.func84.trans (congrArg some (by kernel_rfl))
  f220 := Try.func70.trans (congrArg some (by kernel_rfl))
  f224 := Try.func92.trans (congrArg some (by kernel_rfl))
  f225 := Try.func91.trans (congrArg some (by kernel_rfl))
  f266 := Try.func105.trans (congrArg some (by kernel_rfl))
  f267 := Try.func93.trans (congrArg some (by kernel_rfl))
  f314 := Try.func106.trans (congrArg some (by kernel_rfl))
  t3 := Try.underlying3
  a3 := Try.isAgg3
  z3 := Try.sizeOf3
  v3 := Try.zeroValue3
  t4 := Try.underlying4
  a4 := Try.isAgg4
  z4 := Try.sizeOf4
  v4 := Try.zeroValue4
  t5 := Try.underlying5
  a5 := Try.isAgg5
  z5 := Try.sizeOf5
  v5 := Try.zeroValue5
  t9 := Try.underlying9
  a9 := Try.isAgg9
  z9 := Try.sizeOf9
  v9 := Try.zeroValue9
  t46 := Try.underlying81
  a46 := Try.isAgg81
  z46 := Try.sizeOf81
  v46 := Try.zeroValue81
  t51 := Try.underlying93
  a51 := Try.isAgg93
  z51 := Try.sizeOf93
  v51 := Try.zeroValue93
  t59 := Try.underlying62
  a59 := Try.isAgg62
  z59 := Try.sizeOf62
  v59 := Try.zeroValue62
  t146 := Try.underlying96
  a146 := Try.isAgg96
  z146 := Try.sizeOf96
  v146 := Try.zeroValue96
  g1 := by kernel_rfl }
end Go.Proofs
/- Names: what a text is. -/
set_option linter.unusedVariables false
set_option linter.unusedSimpArgs false
namespace Go.Proofs.Ytlogpojkkbcpjaa.Hc
open Go Go.H Go.Proofs
set_option maxRecDepth 100000
set_option maxHeartbeats 8000000

/-- The variable internal/bytealg.MaxLen holds a number. -/
def Glb (h : Heap) : Prop := ∃ m : Int, hcell h ⟨0, 0, none⟩ = some (.int .i64 m)
theorem Glb.keepC {h h' : Heap} (g : Glb h) (k : KeepC h h') : Glb h' := by obtain ⟨m, e⟩ := g; exact ⟨m, k.cell e⟩
theorem Glb.ext {h h' : Heap} (g : Glb h) (k : Ext h h') : Glb h' := g.keepC (.of_ext k)
def hasSub (s t : ByteArray) : Bool := Lib.contains s.data.toList t.data.toList
theorem scontains_spec {h : Heap} (g : Glb h) (s t : ByteArray) (hs : s.size < 4294967281) :
    HCalls Try.prog 82 #[.string s, .string t] h fun e h' => e = .returned (.bool (hasSub s t)) ∧ h' = h := by
  obtain ⟨m, hm⟩ := g
  intro w hw
  subst hw
  refine (Any.strings_Contains Try.lays144 s t m w hs hm).mono ?_
  rintro e w' ⟨rfl, hw'⟩
  subst hw'
  exact ⟨⟨rfl, rfl, rfl⟩, rfl, rfl⟩
theorem cut_spec {h : Heap} (g : Glb h) (s t : ByteArray) (hs : s.size < 4294967281) :
    HCalls Try.prog 49 #[.string s, .string t] h fun e h' => e = .returned (.tuple #[.string ⟨(Lib.cut s.data.toList t.data.toList).1.toArray⟩, .string ⟨(Lib.cut s.data.toList t.data.toList).2.1.toArray⟩, .bool (Lib.cut s.data.toList t.data.toList).2.2]) ∧ h' = h := by
  obtain ⟨m, hm⟩ := g
  intro w hw
  subst hw
  refine (Any.strings_Cut Try.lays145 s t m w hs hm).mono ?_
  rintro e w' ⟨rfl, n, rfl⟩
  exact ⟨⟨rfl, rfl, rfl⟩, rfl, rfl⟩
def letterB (c : UInt8) : Bool := (decide (ibits .or .u8 (c.toNat : Int) 32 ≥ 97) && decide (ibits .or .u8 (c.toNat : Int) 32 ≤ 122)) || ((c.toNat : Int) == 95) || ((c.toNat : Int) == 36)
def digitB (c : UInt8) : Bool := decide ((c.toNat : Int) ≥ 48) && decide ((c.toNat : Int) ≤ 57)
def wordB (c : UInt8) : Bool := letterB c || digitB c
theorem letter_spec (c : UInt8) (h : Heap) : HCalls Try.prog 80 #[byteV c] h fun e h' => e = .returned (.bool (letterB c)) ∧ h' = h := by
  unfold byteV letterB
  refine c80 (by simp) ?_
  cases q1 : decide (ibits .or .u8 (c.toNat : Int) 32 ≥ 97) <;> cases q2 : decide (ibits .or .u8 (c.toNat : Int) 32 ≤ 122) <;> cases q3 : ((c.toNat : Int) == 95) <;> ((conv=>whnf);repeat((first|(with_reducible first|refine Z1 ?_|refine Z2 ?_|refine Z3 ?_|refine Z4 ?_|refine Z5 ?_|refine Z9 (by assumption) rfl ?_|refine ZA (by assumption) rfl ?_|refine ZB (by assumption) rfl ?_|refine Z6 ?_|refine Z7 ?_|refine Z8 ?_)|((with_reducible refine ZM ?_ ?_);(focus rfl)));(conv=>whnf))) <;> exact ⟨rfl, rfl⟩
theorem digit_spec (c : UInt8) (h : Heap) : HCalls Try.prog 88 #[byteV c] h fun e h' => e = .returned (.bool (digitB c)) ∧ h' = h := by
  unfold byteV digitB
  refine c88 (by simp) ?_
  cases q1 : decide ((c.toNat : Int) ≥ 48) <;> ((conv=>whnf);repeat((first|(with_reducible first|refine Z1 ?_|refine Z2 ?_|refine Z3 ?_|refine Z4 ?_|refine Z5 ?_|refine Z9 (by assumption) rfl ?_|refine ZA (by assumption) rfl ?_|refine ZB (by assumption) rfl ?_|refine Z6 ?_|refine Z7 ?_|refine Z8 ?_)|((with_reducible refine ZM ?_ ?_);(focus rfl)));(conv=>whnf))) <;> exact ⟨rfl, rfl⟩
theorem at_l {l : List UInt8} {i : Nat} (hi : i < l.length) : (⟨l.toArray⟩ : ByteArray).data[i]! = l[i] := by
  show l.toArray[i]! = l[i]
  simp [hi]
theorem all_take {l : List UInt8} {i : Nat} (hi : i < l.length) (ha : (l.take i).all wordB = true) : (l.take (i + 1)).all wordB = wordB l[i] := by
  rw [take_succ' hi, List.all_append, ha]; simp
theorem row_spec (l : List UInt8) (hl : l.length ≤ 140737488351232) (h : Heap) : HCalls Try.prog 81 #[.string ⟨l.toArray⟩] h fun e h' => (∃ n : Nat, e = .returned (.int .i64 n) ∧ (n = l.length ↔ l.all wordB = true)) ∧ h' = h := by
  have hs : (⟨l.toArray⟩ : ByteArray).size = l.length := rfl
  refine c81 (by simp) ?_
  ((conv=>whnf);repeat((first|(with_reducible first|refine Z1 ?_|refine Z2 ?_|refine Z3 ?_|refine Z4 ?_|refine Z5 ?_|refine Z9 (by assumption) rfl ?_|refine ZA (by assumption) rfl ?_|refine ZB (by assumption) rfl ?_|refine Z6 ?_|refine Z7 ?_|refine Z8 ?_)|((with_reducible refine ZM ?_ ?_);(focus rfl)));(conv=>whnf)))
  refine loop_rule [6] (fun vs h' => ∃ (i : Nat), vs = [.int .i64 i] ∧ i ≤ l.length ∧ h' = h ∧ (l.take i).all wordB = true)
    (fun vs _ => match vs with | [.int _ i] => l.length - i.toNat | _ => 0) rfl ?_ ?_
  · exact ⟨0, rfl, by omega, rfl, by simp⟩
  intro u h1 v6
  rintro ⟨i, e, hi, rfl, ha⟩
  cases e
  ((conv=>whnf);repeat((first|(with_reducible first|refine Z1 ?_|refine Z2 ?_|refine Z3 ?_|refine Z4 ?_|refine Z5 ?_|refine Z9 (by assumption) rfl ?_|refine ZA (by assumption) rfl ?_|refine ZB (by assumption) rfl ?_|refine Z6 ?_|refine Z7 ?_|refine Z8 ?_)|((with_reducible refine ZM ?_ ?_);(focus rfl)));(conv=>whnf)))
  refine HIf.mk (fun hlt => ?_) (fun hlt => ?_)
  · have hi1 : i < l.length := by have := of_decide_eq_true hlt; omega
    have hmu : l.length - ((i : Int) + 1).toNat < l.length - ((i : Int)).toNat := by omega
    have at1 := all_take hi1 ha
    have no : wordB l[i] = false → ((i : Nat) = l.length ↔ l.all wordB = true) := fun hw => by
      constructor
      · intro e; omega
      · intro e
        have := List.all_eq_true.1 e l[i] (List.getElem_mem hi1)
        rw [hw] at this; cases this
    ((conv=>whnf);repeat((first|(with_reducible first|refine Z1 ?_|refine Z2 ?_|refine Z3 ?_|refine Z4 ?_|refine Z5 ?_|refine Z9 (by assumption) rfl ?_|refine ZA (by assumption) rfl ?_|refine ZB (by assumption) rfl ?_|refine Z6 ?_|refine Z7 ?_|refine Z8 ?_)|((with_reducible refine ZM ?_ ?_);(focus rfl)));(conv=>whnf)))
    refine HIdx.mk i rfl hi1 ?_
    rw [at_l hi1]
    ((conv=>whnf);repeat((first|(with_reducible first|refine Z1 ?_|refine Z2 ?_|refine Z3 ?_|refine Z4 ?_|refine Z5 ?_|refine Z9 (by assumption) rfl ?_|refine ZA (by assumption) rfl ?_|refine ZB (by assumption) rfl ?_|refine Z6 ?_|refine Z7 ?_|refine Z8 ?_)|((with_reducible refine ZM ?_ ?_);(focus rfl)));(conv=>whnf)))
    refine HCall.mk ((letter_spec l[i] h1).mono ?_)
    rintro e h2 ⟨rfl, rfl⟩
    cases q1 : letterB l[i]
    · ((conv=>whnf);repeat((first|(with_reducible first|refine Z1 ?_|refine Z2 ?_|refine Z3 ?_|refine Z4 ?_|refine Z5 ?_|refine Z9 (by assumption) rfl ?_|refine ZA (by assumption) rfl ?_|refine ZB (by assumption) rfl ?_|refine Z6 ?_|refine Z7 ?_|refine Z8 ?_)|((with_reducible refine ZM ?_ ?_);(focus rfl)));(conv=>whnf)))
      refine HIdx.mk i rfl hi1 ?_
      rw [at_l hi1]
      ((conv=>whnf);repeat((first|(with_reducible first|refine Z1 ?_|refine Z2 ?_|refine Z3 ?_|refine Z4 ?_|refine Z5 ?_|refine Z9 (by assumption) rfl ?_|refine ZA (by assumption) rfl ?_|refine ZB (by assumption) rfl ?_|refine Z6 ?_|refine Z7 ?_|refine Z8 ?_)|((with_reducible refine ZM ?_ ?_);(focus rfl)));(conv=>whnf)))
      refine HCall.mk ((digit_spec l[i] h2).mono ?_)
      rintro e h3 ⟨rfl, rfl⟩
      cases q2 : digitB l[i]
      · ((conv=>whnf);repeat((first|(with_reducible first|refine Z1 ?_|refine Z2 ?_|refine Z3 ?_|refine Z4 ?_|refine Z5 ?_|refine Z9 (by assumption) rfl ?_|refine ZA (by assumption) rfl ?_|refine ZB (by assumption) rfl ?_|refine Z6 ?_|refine Z7 ?_|refine Z8 ?_)|((with_reducible refine ZM ?_ ?_);(focus rfl)));(conv=>whnf)))
        exact ⟨⟨i, rfl, no (by unfold wordB; rw [q1, q2]; rfl)⟩, rfl⟩
      · ((conv=>whnf);repeat((first|(with_reducible first|refine Z1 ?_|refine Z2 ?_|refine Z3 ?_|refine Z4 ?_|refine Z5 ?_|refine Z9 (by assumption) rfl ?_|refine ZA (by assumption) rfl ?_|refine ZB (by assumption) rfl ?_|refine Z6 ?_|refine Z7 ?_|refine Z8 ?_)|((with_reducible refine ZM ?_ ?_);(focus rfl)));(conv=>whnf)))
        exact ⟨⟨i + 1, rfl, by omega, rfl, by rw [at1]; unfold wordB; rw [q1, q2]; rfl⟩, hmu⟩
    · ((conv=>whnf);repeat((first|(with_reducible first|refine Z1 ?_|refine Z2 ?_|refine Z3 ?_|refine Z4 ?_|refine Z5 ?_|refine Z9 (by assumption) rfl ?_|refine ZA (by assumption) rfl ?_|refine ZB (by assumption) rfl ?_|refine Z6 ?_|refine Z7 ?_|refine Z8 ?_)|((with_reducible refine ZM ?_ ?_);(focus rfl)));(conv=>whnf)))
      exact ⟨⟨i + 1, rfl, by omega, rfl, by rw [at1]; unfold wordB; rw [q1]; rfl⟩, hmu⟩
  · have hge := of_decide_eq_false hlt
    obtain rfl : i = l.length := by omega
    rw [List.take_length] at ha
    ((conv=>whnf);repeat((first|(with_reducible first|refine Z1 ?_|refine Z2 ?_|refine Z3 ?_|refine Z4 ?_|refine Z5 ?_|refine Z9 (by assumption) rfl ?_|refine ZA (by assumption) rfl ?_|refine ZB (by assumption) rfl ?_|refine Z6 ?_|refine Z7 ?_|refine Z8 ?_)|((with_reducible refine ZM ?_ ?_);(focus rfl)));(conv=>whnf)))
    exact ⟨⟨l.length, rfl, by simp [ha]⟩, rfl⟩
/-- An identifier. -/
def identL (l : List UInt8) : Bool := match l with
  | [] => false
  | c :: r => decide (l.length ≤ 32) && letterB c && l.all wordB
def identB (s : ByteArray) : Bool := identL s.data.toList
theorem ident_spec (s : ByteArray) (hl : s.size ≤ 140737488351232) (h : Heap) : HCalls Try.prog 67 #[.string s] h fun e h' => e = .returned (.bool (identB s)) ∧ h' = h := by
  obtain ⟨⟨l⟩⟩ := s
  have hs : (⟨l.toArray⟩ : ByteArray).size = l.length := rfl
  have hs2 : l.length ≤ 140737488351232 := hl
  show HCalls Try.prog 67 #[.string ⟨l.toArray⟩] h _
  refine c67 (by simp) ?_
  have e0 : identB ⟨l.toArray⟩ = identL l := rfl
  show aexec _ _ (abody _ fun e h' => e = .returned (.bool (identB ⟨l.toArray⟩)) ∧ h' = h) _ _
  rw [e0]
  cases l with
  | nil =>
    have q : (!strEq (⟨([] : List UInt8).toArray⟩ : ByteArray) ⟨#[]⟩) = false := by rw [(strEq_iff _ _).2 rfl]; rfl
    ((conv=>whnf);repeat((first|(with_reducible first|refine Z1 ?_|refine Z2 ?_|refine Z3 ?_|refine Z4 ?_|refine Z5 ?_|refine Z9 (by assumption) rfl ?_|refine ZA (by assumption) rfl ?_|refine ZB (by assumption) rfl ?_|refine Z6 ?_|refine Z7 ?_|refine Z8 ?_)|((with_reducible refine ZM ?_ ?_);(focus rfl)));(conv=>whnf)))
    exact ⟨rfl, rfl⟩
  | cons c r =>
    have q : (!strEq (⟨(c :: r).toArray⟩ : ByteArray) ⟨#[]⟩) = true := by rw [(strEq_no _ _).2 (by intro e; cases e)]; rfl
    have hid : identL (c :: r) = (decide ((c :: r).length ≤ 32) && letterB c && (c :: r).all wordB) := rfl
    generalize identL (c :: r) = z at hid
    by_cases h32 : (c :: r).length ≤ 32
    · have q2 : decide (((⟨(c :: r).toArray⟩ : ByteArray).size : Int) ≤ 32) = true := decide_eq_true (by rw [hs]; omega)
      rw [decide_eq_true h32, Bool.true_and] at hid
      ((conv=>whnf);repeat((first|(with_reducible first|refine Z1 ?_|refine Z2 ?_|refine Z3 ?_|refine Z4 ?_|refine Z5 ?_|refine Z9 (by assumption) rfl ?_|refine ZA (by assumption) rfl ?_|refine ZB (by assumption) rfl ?_|refine Z6 ?_|refine Z7 ?_|refine Z8 ?_)|((with_reducible refine ZM ?_ ?_);(focus rfl)));(conv=>whnf)))
      refine HIdx.mk 0 rfl (show 0 < (c :: r).length by simp) ?_
      rw [at_l (by simp)]
      ((conv=>whnf);repeat((first|(with_reducible first|refine Z1 ?_|refine Z2 ?_|refine Z3 ?_|refine Z4 ?_|refine Z5 ?_|refine Z9 (by assumption) rfl ?_|refine ZA (by assumption) rfl ?_|refine ZB (by assumption) rfl ?_|refine Z6 ?_|refine Z7 ?_|refine Z8 ?_)|((with_reducible refine ZM ?_ ?_);(focus rfl)));(conv=>whnf)))
      refine HCall.mk ((letter_spec c h).mono ?_)
      rintro e h2 ⟨rfl, rfl⟩
      rw [List.getElem_cons_zero]
      cases q3 : letterB c
      · rw [q3, Bool.false_and] at hid
        subst hid
        ((conv=>whnf);repeat((first|(with_reducible first|refine Z1 ?_|refine Z2 ?_|refine Z3 ?_|refine Z4 ?_|refine Z5 ?_|refine Z9 (by assumption) rfl ?_|refine ZA (by assumption) rfl ?_|refine ZB (by assumption) rfl ?_|refine Z6 ?_|refine Z7 ?_|refine Z8 ?_)|((with_reducible refine ZM ?_ ?_);(focus rfl)));(conv=>whnf)))
        exact ⟨rfl, rfl⟩
      · rw [q3, Bool.true_and] at hid
        ((conv=>whnf);repeat((first|(with_reducible first|refine Z1 ?_|refine Z2 ?_|refine Z3 ?_|refine Z4 ?_|refine Z5 ?_|refine Z9 (by assumption) rfl ?_|refine ZA (by assumption) rfl ?_|refine ZB (by assumption) rfl ?_|refine Z6 ?_|refine Z7 ?_|refine Z8 ?_)|((with_reducible refine ZM ?_ ?_);(focus rfl)));(conv=>whnf)))
        refine HCall.mk ((row_spec (c :: r) hs2 h2).mono ?_)
        rintro e h3 ⟨⟨n, rfl, hn⟩, rfl⟩
        have q6 : ((n : Int) == ((⟨(c :: r).toArray⟩ : ByteArray).size : Int)) = z := by
          rw [hid, hs]
          cases q5 : (c :: r).all wordB
          · rw [beq_eq_false_iff_ne]; intro e
            have := hn.1 (by omega)
            rw [q5] at this; cases this
          · rw [beq_iff_eq]; have := hn.2 q5; omega
        ((conv=>whnf);repeat((first|(with_reducible first|refine Z1 ?_|refine Z2 ?_|refine Z3 ?_|refine Z4 ?_|refine Z5 ?_|refine Z9 (by assumption) rfl ?_|refine ZA (by assumption) rfl ?_|refine ZB (by assumption) rfl ?_|refine Z6 ?_|refine Z7 ?_|refine Z8 ?_)|((with_reducible refine ZM ?_ ?_);(focus rfl)));(conv=>whnf)))
        exact ⟨by rw [← q6]; rfl, rfl⟩
    · have q2 : decide (((⟨(c :: r).toArray⟩ : ByteArray).size : Int) ≤ 32) = false := decide_eq_false (by rw [hs]; omega)
      rw [decide_eq_false h32, Bool.false_and, Bool.false_and] at hid
      subst hid
      ((conv=>whnf);repeat((first|(with_reducible first|refine Z1 ?_|refine Z2 ?_|refine Z3 ?_|refine Z4 ?_|refine Z5 ?_|refine Z9 (by assumption) rfl ?_|refine ZA (by assumption) rfl ?_|refine ZB (by assumption) rfl ?_|refine Z6 ?_|refine Z7 ?_|refine Z8 ?_)|((with_reducible refine ZM ?_ ?_);(focus rfl)));(conv=>whnf)))
      exact ⟨rfl, rfl⟩

end Go.Proofs.Ytlogpojkkbcpjaa.Hc
/- Words and names. -/
set_option linter.unusedVariables false
set_option linter.unusedSimpArgs false
namespace Go.Proofs.Ytlogpojkkbcpjaa.Hc
open Go Go.H Go.Proofs
set_option maxRecDepth 100000
set_option maxHeartbeats 1000000

def amongB (list s : ByteArray) : Bool := !strEq s ⟨#[]⟩ && !hasSub s ⟨#[32]⟩ && hasSub list (⟨#[32]⟩ ++ s ++ ⟨#[32]⟩)
def wordsB : ByteArray := ⟨#[32, 98, 114, 101, 97, 107, 32, 99, 97, 115, 101, 32, 99, 97, 116, 99, 104, 32, 99, 108, 97, 115, 115, 32, 99, 111, 110, 115, 116, 32, 99, 111, 110, 116, 105, 110, 117, 101, 32, 100, 101, 98, 117, 103, 103, 101, 114, 32, 100, 101, 102, 97, 117, 108, 116, 32, 100, 101, 108, 101, 116, 101, 32, 100, 111, 32, 101, 108, 115, 101, 32, 101, 110, 117, 109, 32, 101, 120, 112, 111, 114, 116, 32, 101, 120, 116, 101, 110, 100, 115, 32, 102, 97, 108, 115, 101, 32, 102, 105, 110, 97, 108, 108, 121, 32, 102, 111, 114, 32, 102, 117, 110, 99, 116, 105, 111, 110, 32, 105, 102, 32, 105, 109, 112, 108, 101, 109, 101, 110, 116, 115, 32, 105, 109, 112, 111, 114, 116, 32, 105, 110, 32, 105, 110, 115, 116, 97, 110, 99, 101, 111, 102, 32, 105, 110, 116, 101, 114, 102, 97, 99, 101, 32, 108, 101, 116, 32, 110, 101, 119, 32, 110, 117, 108, 108, 32, 112, 97, 99, 107, 97, 103, 101, 32, 112, 114, 105, 118, 97, 116, 101, 32, 112, 114, 111, 116, 101, 99, 116, 101, 100, 32, 112, 117, 98, 108, 105, 99, 32, 114, 101, 116, 117, 114, 110, 32, 115, 116, 97, 116, 105, 99, 32, 115, 117, 112, 101, 114, 32, 115, 119, 105, 116, 99, 104, 32, 116, 104, 105, 115, 32, 116, 104, 114, 111, 119, 32, 116, 114, 117, 101, 32, 116, 114, 121, 32, 116, 121, 112, 101, 111, 102, 32, 118, 97, 114, 32, 118, 111, 105, 100, 32, 119, 104, 105, 108, 101, 32, 119, 105, 116, 104, 32, 121, 105, 101, 108, 100, 32]⟩
def isWordB (s : ByteArray) : Bool := amongB wordsB s
def isNameB (s : ByteArray) : Bool := identB s && !isWordB s
theorem among1_spec {h : Heap} (g : Glb h) (list s : ByteArray) (hl : list.size < 4294967281) (hs : s.size ≤ 4194304) : HCalls Try.prog 83 #[.string list, .string s] h fun e h' => e = .returned (.bool (amongB list s)) ∧ h' = h := by
  refine c83 (by simp) ?_
  have z1 : (⟨#[32]⟩ : ByteArray).size = 1 := rfl
  have z2 : ((⟨#[32]⟩ : ByteArray) ++ s).size = 1 + s.size := by rw [ByteArray.size_append]; rfl
  cases q1 : (!strEq s ⟨#[]⟩)
  · have e : amongB list s = false := by unfold amongB; rw [q1]; rfl
    rw [e]
    ((conv=>whnf);repeat((first|(with_reducible first|refine Z1 ?_|refine Z2 ?_|refine Z3 ?_|refine Z4 ?_|refine Z5 ?_|refine Z9 (by assumption) rfl ?_|refine ZA (by assumption) rfl ?_|refine ZB (by assumption) rfl ?_|refine Z6 ?_|refine Z7 ?_|refine Z8 ?_)|((with_reducible refine ZM ?_ ?_);(focus rfl)));(conv=>whnf)))
    exact ⟨rfl, rfl⟩
  · ((conv=>whnf);repeat((first|(with_reducible first|refine Z1 ?_|refine Z2 ?_|refine Z3 ?_|refine Z4 ?_|refine Z5 ?_|refine Z9 (by assumption) rfl ?_|refine ZA (by assumption) rfl ?_|refine ZB (by assumption) rfl ?_|refine Z6 ?_|refine Z7 ?_|refine Z8 ?_)|((with_reducible refine ZM ?_ ?_);(focus rfl)));(conv=>whnf)))
    refine HCall.mk ((scontains_spec g s ⟨#[32]⟩ (by omega)).mono ?_)
    rintro e h2 ⟨rfl, rfl⟩
    cases q2 : hasSub s ⟨#[32]⟩
    · have e : amongB list s = hasSub list (⟨#[32]⟩ ++ s ++ ⟨#[32]⟩) := by unfold amongB; rw [q1, q2]; rfl
      rw [e]
      ((conv=>whnf);repeat((first|(with_reducible first|refine Z1 ?_|refine Z2 ?_|refine Z3 ?_|refine Z4 ?_|refine Z5 ?_|refine Z9 (by assumption) rfl ?_|refine ZA (by assumption) rfl ?_|refine ZB (by assumption) rfl ?_|refine Z6 ?_|refine Z7 ?_|refine Z8 ?_)|((with_reducible refine ZM ?_ ?_);(focus rfl)));(conv=>whnf)))
      refine HMust.mk (by rw [z1]; omega) ?_
      ((conv=>whnf);repeat((first|(with_reducible first|refine Z1 ?_|refine Z2 ?_|refine Z3 ?_|refine Z4 ?_|refine Z5 ?_|refine Z9 (by assumption) rfl ?_|refine ZA (by assumption) rfl ?_|refine ZB (by assumption) rfl ?_|refine Z6 ?_|refine Z7 ?_|refine Z8 ?_)|((with_reducible refine ZM ?_ ?_);(focus rfl)));(conv=>whnf)))
      refine HMust.mk (by rw [z2, z1]; omega) ?_
      ((conv=>whnf);repeat((first|(with_reducible first|refine Z1 ?_|refine Z2 ?_|refine Z3 ?_|refine Z4 ?_|refine Z5 ?_|refine Z9 (by assumption) rfl ?_|refine ZA (by assumption) rfl ?_|refine ZB (by assumption) rfl ?_|refine Z6 ?_|refine Z7 ?_|refine Z8 ?_)|((with_reducible refine ZM ?_ ?_);(focus rfl)));(conv=>whnf)))
      generalize (⟨#[32]⟩ ++ s ++ ⟨#[32]⟩ : ByteArray) = c at e ⊢
      refine HCall.mk ((scontains_spec g list c hl).mono ?_)
      rintro e h3 ⟨rfl, rfl⟩
      ((conv=>whnf);repeat((first|(with_reducible first|refine Z1 ?_|refine Z2 ?_|refine Z3 ?_|refine Z4 ?_|refine Z5 ?_|refine Z9 (by assumption) rfl ?_|refine ZA (by assumption) rfl ?_|refine ZB (by assumption) rfl ?_|refine Z6 ?_|refine Z7 ?_|refine Z8 ?_)|((with_reducible refine ZM ?_ ?_);(focus rfl)));(conv=>whnf)))
      exact ⟨rfl, rfl⟩
    · have e : amongB list s = false := by unfold amongB; rw [q1, q2]; rfl
      rw [e]
      ((conv=>whnf);repeat((first|(with_reducible first|refine Z1 ?_|refine Z2 ?_|refine Z3 ?_|refine Z4 ?_|refine Z5 ?_|refine Z9 (by assumption) rfl ?_|refine ZA (by assumption) rfl ?_|refine ZB (by assumption) rfl ?_|refine Z6 ?_|refine Z7 ?_|refine Z8 ?_)|((with_reducible refine ZM ?_ ?_);(focus rfl)));(conv=>whnf)))
      exact ⟨rfl, rfl⟩
theorem among2_spec {h : Heap} (g : Glb h) (list s : ByteArray) (hl : list.size < 4294967281) (hs : s.size ≤ 4194304) : HCalls Try.prog 68 #[.string list, .string s] h fun e h' => e = .returned (.bool (amongB list s)) ∧ h' = h := by
  refine c68 (by simp) ?_
  have z1 : (⟨#[32]⟩ : ByteArray).size = 1 := rfl
  have z2 : ((⟨#[32]⟩ : ByteArray) ++ s).size = 1 + s.size := by rw [ByteArray.size_append]; rfl
  cases q1 : (!strEq s ⟨#[]⟩)
  · have e : amongB list s = false := by unfold amongB; rw [q1]; rfl
    rw [e]
    ((conv=>whnf);repeat((first|(with_reducible first|refine Z1 ?_|refine Z2 ?_|refine Z3 ?_|refine Z4 ?_|refine Z5 ?_|refine Z9 (by assumption) rfl ?_|refine ZA (by assumption) rfl ?_|refine ZB (by assumption) rfl ?_|refine Z6 ?_|refine Z7 ?_|refine Z8 ?_)|((with_reducible refine ZM ?_ ?_);(focus rfl)));(conv=>whnf)))
    exact ⟨rfl, rfl⟩
  · ((conv=>whnf);repeat((first|(with_reducible first|refine Z1 ?_|refine Z2 ?_|refine Z3 ?_|refine Z4 ?_|refine Z5 ?_|refine Z9 (by assumption) rfl ?_|refine ZA (by assumption) rfl ?_|refine ZB (by assumption) rfl ?_|refine Z6 ?_|refine Z7 ?_|refine Z8 ?_)|((with_reducible refine ZM ?_ ?_);(focus rfl)));(conv=>whnf)))
    refine HCall.mk ((scontains_spec g s ⟨#[32]⟩ (by omega)).mono ?_)
    rintro e h2 ⟨rfl, rfl⟩
    cases q2 : hasSub s ⟨#[32]⟩
    · have e : amongB list s = hasSub list (⟨#[32]⟩ ++ s ++ ⟨#[32]⟩) := by unfold amongB; rw [q1, q2]; rfl
      rw [e]
      ((conv=>whnf);repeat((first|(with_reducible first|refine Z1 ?_|refine Z2 ?_|refine Z3 ?_|refine Z4 ?_|refine Z5 ?_|refine Z9 (by assumption) rfl ?_|refine ZA (by assumption) rfl ?_|refine ZB (by assumption) rfl ?_|refine Z6 ?_|refine Z7 ?_|refine Z8 ?_)|((with_reducible refine ZM ?_ ?_);(focus rfl)));(conv=>whnf)))
      refine HMust.mk (by rw [z1]; omega) ?_
      ((conv=>whnf);repeat((first|(with_reducible first|refine Z1 ?_|refine Z2 ?_|refine Z3 ?_|refine Z4 ?_|refine Z5 ?_|refine Z9 (by assumption) rfl ?_|refine ZA (by assumption) rfl ?_|refine ZB (by assumption) rfl ?_|refine Z6 ?_|refine Z7 ?_|refine Z8 ?_)|((with_reducible refine ZM ?_ ?_);(focus rfl)));(conv=>whnf)))
      refine HMust.mk (by rw [z2, z1]; omega) ?_
      ((conv=>whnf);repeat((first|(with_reducible first|refine Z1 ?_|refine Z2 ?_|refine Z3 ?_|refine Z4 ?_|refine Z5 ?_|refine Z9 (by assumption) rfl ?_|refine ZA (by assumption) rfl ?_|refine ZB (by assumption) rfl ?_|refine Z6 ?_|refine Z7 ?_|refine Z8 ?_)|((with_reducible refine ZM ?_ ?_);(focus rfl)));(conv=>whnf)))
      generalize (⟨#[32]⟩ ++ s ++ ⟨#[32]⟩ : ByteArray) = c at e ⊢
      refine HCall.mk ((scontains_spec g list c hl).mono ?_)
      rintro e h3 ⟨rfl, rfl⟩
      ((conv=>whnf);repeat((first|(with_reducible first|refine Z1 ?_|refine Z2 ?_|refine Z3 ?_|refine Z4 ?_|refine Z5 ?_|refine Z9 (by assumption) rfl ?_|refine ZA (by assumption) rfl ?_|refine ZB (by assumption) rfl ?_|refine Z6 ?_|refine Z7 ?_|refine Z8 ?_)|((with_reducible refine ZM ?_ ?_);(focus rfl)));(conv=>whnf)))
      exact ⟨rfl, rfl⟩
    · have e : amongB list s = false := by unfold amongB; rw [q1, q2]; rfl
      rw [e]
      ((conv=>whnf);repeat((first|(with_reducible first|refine Z1 ?_|refine Z2 ?_|refine Z3 ?_|refine Z4 ?_|refine Z5 ?_|refine Z9 (by assumption) rfl ?_|refine ZA (by assumption) rfl ?_|refine ZB (by assumption) rfl ?_|refine Z6 ?_|refine Z7 ?_|refine Z8 ?_)|((with_reducible refine ZM ?_ ?_);(focus rfl)));(conv=>whnf)))
      exact ⟨rfl, rfl⟩
theorem word_spec {h : Heap} (g : Glb h) (s : ByteArray) (hs : s.size ≤ 4194304) : HCalls Try.prog 69 #[.string s] h fun e h' => e = .returned (.bool (isWordB s)) ∧ h' = h := by
  refine c69 (by simp) ?_
  ((conv=>whnf);repeat((first|(with_reducible first|refine Z1 ?_|refine Z2 ?_|refine Z3 ?_|refine Z4 ?_|refine Z5 ?_|refine Z9 (by assumption) rfl ?_|refine ZA (by assumption) rfl ?_|refine ZB (by assumption) rfl ?_|refine Z6 ?_|refine Z7 ?_|refine Z8 ?_)|((with_reducible refine ZM ?_ ?_);(focus rfl)));(conv=>whnf)))
  refine HCall.mk ((among1_spec g wordsB s (by decide +kernel) hs).mono ?_)
  rintro e h3 ⟨rfl, rfl⟩
  ((conv=>whnf);repeat((first|(with_reducible first|refine Z1 ?_|refine Z2 ?_|refine Z3 ?_|refine Z4 ?_|refine Z5 ?_|refine Z9 (by assumption) rfl ?_|refine ZA (by assumption) rfl ?_|refine ZB (by assumption) rfl ?_|refine Z6 ?_|refine Z7 ?_|refine Z8 ?_)|((with_reducible refine ZM ?_ ?_);(focus rfl)));(conv=>whnf)))
  exact ⟨rfl, rfl⟩
theorem name_spec {h : Heap} (g : Glb h) (s : ByteArray) (hs : s.size ≤ 4194304) : HCalls Try.prog 48 #[.string s] h fun e h' => e = .returned (.bool (isNameB s)) ∧ h' = h := by
  refine c48 (by simp) ?_
  ((conv=>whnf);repeat((first|(with_reducible first|refine Z1 ?_|refine Z2 ?_|refine Z3 ?_|refine Z4 ?_|refine Z5 ?_|refine Z9 (by assumption) rfl ?_|refine ZA (by assumption) rfl ?_|refine ZB (by assumption) rfl ?_|refine Z6 ?_|refine Z7 ?_|refine Z8 ?_)|((with_reducible refine ZM ?_ ?_);(focus rfl)));(conv=>whnf)))
  refine HCall.mk ((ident_spec s (by omega) h).mono ?_)
  rintro e h3 ⟨rfl, rfl⟩
  unfold isNameB
  cases q : identB s
  · ((conv=>whnf);repeat((first|(with_reducible first|refine Z1 ?_|refine Z2 ?_|refine Z3 ?_|refine Z4 ?_|refine Z5 ?_|refine Z9 (by assumption) rfl ?_|refine ZA (by assumption) rfl ?_|refine ZB (by assumption) rfl ?_|refine Z6 ?_|refine Z7 ?_|refine Z8 ?_)|((with_reducible refine ZM ?_ ?_);(focus rfl)));(conv=>whnf)))
    exact ⟨rfl, rfl⟩
  · ((conv=>whnf);repeat((first|(with_reducible first|refine Z1 ?_|refine Z2 ?_|refine Z3 ?_|refine Z4 ?_|refine Z5 ?_|refine Z9 (by assumption) rfl ?_|refine ZA (by assumption) rfl ?_|refine ZB (by assumption) rfl ?_|refine Z6 ?_|refine Z7 ?_|refine Z8 ?_)|((with_reducible refine ZM ?_ ?_);(focus rfl)));(conv=>whnf)))
    refine HCall.mk ((word_spec g s hs).mono ?_)
    rintro e h4 ⟨rfl, rfl⟩
    ((conv=>whnf);repeat((first|(with_reducible first|refine Z1 ?_|refine Z2 ?_|refine Z3 ?_|refine Z4 ?_|refine Z5 ?_|refine Z9 (by assumption) rfl ?_|refine ZA (by assumption) rfl ?_|refine ZB (by assumption) rfl ?_|refine Z6 ?_|refine Z7 ?_|refine Z8 ?_)|((with_reducible refine ZM ?_ ?_);(focus rfl)));(conv=>whnf)))
    exact ⟨rfl, rfl⟩

end Go.Proofs.Ytlogpojkkbcpjaa.Hc
/- What a kind of node has: tree.of, tree.statement (printed by tools/t8.py). -/
set_option linter.unusedVariables false
set_option linter.unusedSimpArgs false
namespace Go.Proofs.Ytlogpojkkbcpjaa.Hc
open Go Go.H Go.Proofs
set_option maxRecDepth 100000
set_option maxHeartbeats 8000000
structure Form where
  name : ByteArray
  num : Int
  text : Bool
  names : Bool
  l : ByteArray
def Form.cells (f : Form) : List Value := [.string f.name, .int .i64 f.num, .bool f.text, .bool f.names, .string f.l]
abbrev zeroF : List Value := [.string ⟨#[]⟩, .int .i64 0, .bool false, .bool false, .string ⟨#[]⟩]
def stmtOf (k : Int) (n : Nat) : Option Form :=
  if k = 22 then some ⟨⟨#[]⟩, 0, false, false, ⟨#[100, 42, 100]⟩⟩ else
  if k = 23 then some ⟨⟨#[110]⟩, 0, false, false, (if n = 0 then ⟨#[]⟩ else ⟨#[101]⟩)⟩ else
  if k = 24 then some ⟨⟨#[]⟩, 0, false, false, ⟨#[101]⟩⟩ else
  if k = 25 then some ⟨⟨#[]⟩, 0, false, false, ⟨#[42, 115]⟩⟩ else
  if k = 26 then some ⟨⟨#[]⟩, 0, false, false, (if n ≤ 2 then ⟨#[101, 98]⟩ else ⟨#[101, 98, 98]⟩)⟩ else
  if k = 27 then some ⟨⟨#[]⟩, 0, false, false, ⟨#[101, 98]⟩⟩ else
  if k = 28 then some ⟨⟨#[]⟩, 0, false, false, ⟨#[98, 101]⟩⟩ else
  if k = 29 then some ⟨⟨#[]⟩, 0, false, false, ⟨#[118, 102, 102, 98]⟩⟩ else
  if k = 30 then some ⟨⟨#[]⟩, 0, false, false, ⟨#[119, 101, 98]⟩⟩ else
  if k = 31 then some ⟨⟨#[109]⟩, 0, false, false, ⟨#[]⟩⟩ else
  if k = 32 then some ⟨⟨#[109]⟩, 0, false, false, ⟨#[]⟩⟩ else
  if k = 33 then some ⟨⟨#[]⟩, 0, false, false, (if n = 0 then ⟨#[]⟩ else ⟨#[101]⟩)⟩ else
  if k = 34 then some ⟨⟨#[]⟩, 0, false, false, ⟨#[101]⟩⟩ else
  if k = 35 then some ⟨⟨#[99]⟩, 0, false, false, ⟨#[98, 99, 99]⟩⟩ else
  if k = 36 then some ⟨⟨#[]⟩, 0, false, false, ⟨#[101, 42, 107]⟩⟩ else
  if k = 37 then some ⟨⟨#[]⟩, 0, false, false, ⟨#[102, 42, 115]⟩⟩ else
  if k = 38 then some ⟨⟨#[110]⟩, 0, false, false, ⟨#[115]⟩⟩ else
  if k = 39 then some ⟨⟨#[110]⟩, 0, false, true, ⟨#[42, 120]⟩⟩ else
  if k = 41 then some ⟨⟨#[]⟩, 0, false, false, ⟨#[42, 120]⟩⟩ else
  none
def formOf (k : Int) (n : Nat) : Option Form :=
  if k = 1 then some ⟨⟨#[]⟩, 9007199254740991, false, false, ⟨#[]⟩⟩ else
  if k = 2 then some ⟨⟨#[]⟩, 0, true, false, ⟨#[]⟩⟩ else
  if k = 3 then some ⟨⟨#[110]⟩, 0, false, false, ⟨#[]⟩⟩ else
  if k = 4 then some ⟨⟨#[]⟩, 0, false, false, ⟨#[]⟩⟩ else
  if k = 5 then some ⟨⟨#[]⟩, 0, false, false, ⟨#[]⟩⟩ else
  if k = 6 then some ⟨⟨#[]⟩, 1, false, false, ⟨#[]⟩⟩ else
  if k = 7 then some ⟨⟨#[]⟩, 0, false, false, ⟨#[42, 101]⟩⟩ else
  if k = 8 then some ⟨⟨#[]⟩, 0, false, false, ⟨#[42, 112]⟩⟩ else
  if k = 9 then some ⟨⟨#[]⟩, 0, true, false, ⟨#[101]⟩⟩ else
  if k = 10 then some ⟨⟨#[109]⟩, 0, false, true, ⟨#[42, 120]⟩⟩ else
  if k = 11 then some ⟨⟨#[105]⟩, 0, false, false, ⟨#[101]⟩⟩ else
  if k = 12 then some ⟨⟨#[]⟩, 0, false, false, ⟨#[101, 101]⟩⟩ else
  if k = 13 then some ⟨⟨#[]⟩, 0, false, false, ⟨#[101, 42, 101]⟩⟩ else
  if k = 14 then some ⟨⟨#[]⟩, 0, false, false, ⟨#[101, 42, 101]⟩⟩ else
  if k = 15 then some ⟨⟨#[32, 45, 32, 43, 32, 33, 32, 116, 121, 112, 101, 111, 102, 32, 100, 101, 108, 101, 116, 101, 32, 118, 111, 105, 100, 32]⟩, 0, false, false, ⟨#[101]⟩⟩ else
  if k = 16 then some ⟨⟨#[32, 43, 43, 32, 45, 45, 32]⟩, 1, false, false, ⟨#[116]⟩⟩ else
  if k = 17 then some ⟨⟨#[32, 43, 32, 45, 32, 42, 32, 47, 32, 37, 32, 60, 32, 62, 32, 60, 61, 32, 62, 61, 32, 61, 61, 32, 33, 61, 32, 61, 61, 61, 32, 33, 61, 61, 32, 105, 110, 32, 105, 110, 115, 116, 97, 110, 99, 101, 111, 102, 32]⟩, 0, false, false, ⟨#[101, 101]⟩⟩ else
  if k = 18 then some ⟨⟨#[32, 38, 38, 32, 124, 124, 32]⟩, 0, false, false, ⟨#[101, 101]⟩⟩ else
  if k = 19 then some ⟨⟨#[]⟩, 0, false, false, ⟨#[101, 101, 101]⟩⟩ else
  if k = 20 then some ⟨⟨#[32, 61, 32, 43, 61, 32, 45, 61, 32, 42, 61, 32, 47, 61, 32, 37, 61, 32]⟩, 0, false, false, ⟨#[116, 101]⟩⟩ else
  if k = 21 then some ⟨⟨#[]⟩, 0, false, false, ⟨#[101, 101]⟩⟩ else
  if k = 40 then some ⟨⟨#[]⟩, 0, false, false, ⟨#[]⟩⟩ else
  if k = 42 then some ⟨⟨#[]⟩, 0, false, false, ⟨#[]⟩⟩ else
  stmtOf k n
theorem stmt_spec {h : Heap} {d : NT} {cs : List Value} (r : TRep h d cs) : HCalls Try.prog 66 #[.agg cs.toArray] h fun e h' => (∃ v, e = .returned (.tuple #[.agg (v : List Value).toArray, .bool (stmtOf d.kind d.l.length).isSome]) ∧ (v.length = 5 ∧ (∀ x ∈ v, isOne x = true)) ∧ ∀ f, stmtOf d.kind d.l.length = some f → v = f.cells) ∧ Ext h h' := by
  cases d with
  | mk k nm n t ns l =>
  simp only [TRep] at r
  have r0 := r
  obtain ⟨b1, b2, b3, b4, b5, b6, b7, ka, kc, la, lc, ys, rfl, s1, s2, s3⟩ := r
  show HCalls Try.prog 66 _ h fun e h' => (∃ v, e = .returned (.tuple #[.agg (v : List Value).toArray, .bool (stmtOf k l.length).isSome]) ∧ (v.length = 5 ∧ (∀ x ∈ v, isOne x = true)) ∧ ∀ f, stmtOf k l.length = some f → v = f.cells) ∧ Ext h h'
  refine c66 (by simp) ?_
  ((conv=>whnf);repeat((first|(with_reducible first|refine Z1 ?_|refine Z2 ?_|refine Z3 ?_|refine Z4 ?_|refine Z5 ?_|refine Z9 (by assumption) rfl ?_|refine ZA (by assumption) rfl ?_|refine ZB (by assumption) rfl ?_|refine Z6 ?_|refine Z7 ?_|refine Z8 ?_)|((with_reducible refine ZM ?_ ?_);(focus rfl)));(conv=>whnf)))
  refine new_var (e := 26) [.int .i64 k, .string nm, .int .i64 n, .string t, .slice ka ns.length kc, .slice la l.length lc] rfl ?_
  intro h1 bn o1 x1 z1 hbn
  ((conv=>whnf);repeat((first|(with_reducible first|refine Z1 ?_|refine Z2 ?_|refine Z3 ?_|refine Z4 ?_|refine Z5 ?_|refine Z9 (by assumption) rfl ?_|refine ZA (by assumption) rfl ?_|refine ZB (by assumption) rfl ?_|refine Z6 ?_|refine Z7 ?_|refine Z8 ?_)|((with_reducible refine ZM ?_ ?_);(focus rfl)));(conv=>whnf)))
  refine new_var (e := 58) zeroF rfl ?_
  intro h2 bf o2 x2 z2 hbf
  have o12 := o1.ext x2
  have x02 := x1.trans x2
  have hh1 := x1.1
  have hbn1 : bn < h1.size := o1.lt
  clear o1
  by_cases hk22 : k = 22
  · subst hk22
    ((conv=>whnf);repeat((first|(with_reducible first|refine Z1 ?_|refine Z2 ?_|refine Z3 ?_|refine Z4 ?_|refine Z5 ?_|refine Z9 (by assumption) rfl ?_|refine ZA (by assumption) rfl ?_|refine ZB (by assumption) rfl ?_|refine Z6 ?_|refine Z7 ?_|refine Z8 ?_)|((with_reducible refine ZM ?_ ?_);(focus rfl)));(conv=>whnf)))
    refine blk_st (o := 4) o2 (by simp) rfl ?_
    intro h3 f3 z3 o3
    replace o3 : BlkW h3 bf 58 [.string ⟨#[]⟩, .int .i64 0, .bool false, .bool false, .string ⟨#[100, 42, 100]⟩] := o3
    have x3 := x02.offNew f3 (by omega)
    clear o2
    ((conv=>whnf);repeat((first|(with_reducible first|refine Z1 ?_|refine Z2 ?_|refine Z3 ?_|refine Z4 ?_|refine Z5 ?_|refine Z9 (by assumption) rfl ?_|refine ZA (by assumption) rfl ?_|refine ZB (by assumption) rfl ?_|refine Z6 ?_|refine Z7 ?_|refine Z8 ?_)|((with_reducible refine ZM ?_ ?_);(focus rfl)));(conv=>whnf)))
    refine store_blk o3 (by simp) (by simp [isOne]) ?_
    intro h4 f4 z4 o4
    replace o4 : BlkW h4 bf 58 [.string ⟨#[]⟩, .int .i64 0, .bool false, .bool false, .string ⟨#[100, 42, 100]⟩] := by simpa using o4
    clear o3
    ((conv=>whnf);repeat((first|(with_reducible first|refine Z1 ?_|refine Z2 ?_|refine Z3 ?_|refine Z4 ?_|refine Z5 ?_|refine Z9 (by assumption) rfl ?_|refine ZA (by assumption) rfl ?_|refine ZB (by assumption) rfl ?_|refine Z6 ?_|refine Z7 ?_|refine Z8 ?_)|((with_reducible refine ZM ?_ ?_);(focus rfl)));(conv=>whnf)))
    exact ⟨⟨[.string ⟨#[]⟩, .int .i64 0, .bool false, .bool false, .string ⟨#[100, 42, 100]⟩], rfl, ⟨rfl, by simp [isOne]⟩, fun f hf => by cases hf; rfl⟩, x3.offNew f4 (by omega)⟩
  by_cases hk24 : k = 24
  · subst hk24
    ((conv=>whnf);repeat((first|(with_reducible first|refine Z1 ?_|refine Z2 ?_|refine Z3 ?_|refine Z4 ?_|refine Z5 ?_|refine Z9 (by assumption) rfl ?_|refine ZA (by assumption) rfl ?_|refine ZB (by assumption) rfl ?_|refine Z6 ?_|refine Z7 ?_|refine Z8 ?_)|((with_reducible refine ZM ?_ ?_);(focus rfl)));(conv=>whnf)))
    refine blk_st (o := 4) o2 (by simp) rfl ?_
    intro h3 f3 z3 o3
    replace o3 : BlkW h3 bf 58 [.string ⟨#[]⟩, .int .i64 0, .bool false, .bool false, .string ⟨#[101]⟩] := o3
    have x3 := x02.offNew f3 (by omega)
    clear o2
    ((conv=>whnf);repeat((first|(with_reducible first|refine Z1 ?_|refine Z2 ?_|refine Z3 ?_|refine Z4 ?_|refine Z5 ?_|refine Z9 (by assumption) rfl ?_|refine ZA (by assumption) rfl ?_|refine ZB (by assumption) rfl ?_|refine Z6 ?_|refine Z7 ?_|refine Z8 ?_)|((with_reducible refine ZM ?_ ?_);(focus rfl)));(conv=>whnf)))
    refine store_blk o3 (by simp) (by simp [isOne]) ?_
    intro h4 f4 z4 o4
    replace o4 : BlkW h4 bf 58 [.string ⟨#[]⟩, .int .i64 0, .bool false, .bool false, .string ⟨#[101]⟩] := by simpa using o4
    clear o3
    ((conv=>whnf);repeat((first|(with_reducible first|refine Z1 ?_|refine Z2 ?_|refine Z3 ?_|refine Z4 ?_|refine Z5 ?_|refine Z9 (by assumption) rfl ?_|refine ZA (by assumption) rfl ?_|refine ZB (by assumption) rfl ?_|refine Z6 ?_|refine Z7 ?_|refine Z8 ?_)|((with_reducible refine ZM ?_ ?_);(focus rfl)));(conv=>whnf)))
    exact ⟨⟨[.string ⟨#[]⟩, .int .i64 0, .bool false, .bool false, .string ⟨#[101]⟩], rfl, ⟨rfl, by simp [isOne]⟩, fun f hf => by cases hf; rfl⟩, x3.offNew f4 (by omega)⟩
  by_cases hk25 : k = 25
  · subst hk25
    ((conv=>whnf);repeat((first|(with_reducible first|refine Z1 ?_|refine Z2 ?_|refine Z3 ?_|refine Z4 ?_|refine Z5 ?_|refine Z9 (by assumption) rfl ?_|refine ZA (by assumption) rfl ?_|refine ZB (by assumption) rfl ?_|refine Z6 ?_|refine Z7 ?_|refine Z8 ?_)|((with_reducible refine ZM ?_ ?_);(focus rfl)));(conv=>whnf)))
    refine blk_st (o := 4) o2 (by simp) rfl ?_
    intro h3 f3 z3 o3
    replace o3 : BlkW h3 bf 58 [.string ⟨#[]⟩, .int .i64 0, .bool false, .bool false, .string ⟨#[42, 115]⟩] := o3
    have x3 := x02.offNew f3 (by omega)
    clear o2
    ((conv=>whnf);repeat((first|(with_reducible first|refine Z1 ?_|refine Z2 ?_|refine Z3 ?_|refine Z4 ?_|refine Z5 ?_|refine Z9 (by assumption) rfl ?_|refine ZA (by assumption) rfl ?_|refine ZB (by assumption) rfl ?_|refine Z6 ?_|refine Z7 ?_|refine Z8 ?_)|((with_reducible refine ZM ?_ ?_);(focus rfl)));(conv=>whnf)))
    refine store_blk o3 (by simp) (by simp [isOne]) ?_
    intro h4 f4 z4 o4
    replace o4 : BlkW h4 bf 58 [.string ⟨#[]⟩, .int .i64 0, .bool false, .bool false, .string ⟨#[42, 115]⟩] := by simpa using o4
    clear o3
    ((conv=>whnf);repeat((first|(with_reducible first|refine Z1 ?_|refine Z2 ?_|refine Z3 ?_|refine Z4 ?_|refine Z5 ?_|refine Z9 (by assumption) rfl ?_|refine ZA (by assumption) rfl ?_|refine ZB (by assumption) rfl ?_|refine Z6 ?_|refine Z7 ?_|refine Z8 ?_)|((with_reducible refine ZM ?_ ?_);(focus rfl)));(conv=>whnf)))
    exact ⟨⟨[.string ⟨#[]⟩, .int .i64 0, .bool false, .bool false, .string ⟨#[42, 115]⟩], rfl, ⟨rfl, by simp [isOne]⟩, fun f hf => by cases hf; rfl⟩, x3.offNew f4 (by omega)⟩
  by_cases hk27 : k = 27
  · subst hk27
    ((conv=>whnf);repeat((first|(with_reducible first|refine Z1 ?_|refine Z2 ?_|refine Z3 ?_|refine Z4 ?_|refine Z5 ?_|refine Z9 (by assumption) rfl ?_|refine ZA (by assumption) rfl ?_|refine ZB (by assumption) rfl ?_|refine Z6 ?_|refine Z7 ?_|refine Z8 ?_)|((with_reducible refine ZM ?_ ?_);(focus rfl)));(conv=>whnf)))
    refine blk_st (o := 4) o2 (by simp) rfl ?_
    intro h3 f3 z3 o3
    replace o3 : BlkW h3 bf 58 [.string ⟨#[]⟩, .int .i64 0, .bool false, .bool false, .string ⟨#[101, 98]⟩] := o3
    have x3 := x02.offNew f3 (by omega)
    clear o2
    ((conv=>whnf);repeat((first|(with_reducible first|refine Z1 ?_|refine Z2 ?_|refine Z3 ?_|refine Z4 ?_|refine Z5 ?_|refine Z9 (by assumption) rfl ?_|refine ZA (by assumption) rfl ?_|refine ZB (by assumption) rfl ?_|refine Z6 ?_|refine Z7 ?_|refine Z8 ?_)|((with_reducible refine ZM ?_ ?_);(focus rfl)));(conv=>whnf)))
    refine store_blk o3 (by simp) (by simp [isOne]) ?_
    intro h4 f4 z4 o4
    replace o4 : BlkW h4 bf 58 [.string ⟨#[]⟩, .int .i64 0, .bool false, .bool false, .string ⟨#[101, 98]⟩] := by simpa using o4
    clear o3
    ((conv=>whnf);repeat((first|(with_reducible first|refine Z1 ?_|refine Z2 ?_|refine Z3 ?_|refine Z4 ?_|refine Z5 ?_|refine Z9 (by assumption) rfl ?_|refine ZA (by assumption) rfl ?_|refine ZB (by assumption) rfl ?_|refine Z6 ?_|refine Z7 ?_|refine Z8 ?_)|((with_reducible refine ZM ?_ ?_);(focus rfl)));(conv=>whnf)))
    exact ⟨⟨[.string ⟨#[]⟩, .int .i64 0, .bool false, .bool false, .string ⟨#[101, 98]⟩], rfl, ⟨rfl, by simp [isOne]⟩, fun f hf => by cases hf; rfl⟩, x3.offNew f4 (by omega)⟩
  by_cases hk28 : k = 28
  · subst hk28
    ((conv=>whnf);repeat((first|(with_reducible first|refine Z1 ?_|refine Z2 ?_|refine Z3 ?_|refine Z4 ?_|refine Z5 ?_|refine Z9 (by assumption) rfl ?_|refine ZA (by assumption) rfl ?_|refine ZB (by assumption) rfl ?_|refine Z6 ?_|refine Z7 ?_|refine Z8 ?_)|((with_reducible refine ZM ?_ ?_);(focus rfl)));(conv=>whnf)))
    refine blk_st (o := 4) o2 (by simp) rfl ?_
    intro h3 f3 z3 o3
    replace o3 : BlkW h3 bf 58 [.string ⟨#[]⟩, .int .i64 0, .bool false, .bool false, .string ⟨#[98, 101]⟩] := o3
    have x3 := x02.offNew f3 (by omega)
    clear o2
    ((conv=>whnf);repeat((first|(with_reducible first|refine Z1 ?_|refine Z2 ?_|refine Z3 ?_|refine Z4 ?_|refine Z5 ?_|refine Z9 (by assumption) rfl ?_|refine ZA (by assumption) rfl ?_|refine ZB (by assumption) rfl ?_|refine Z6 ?_|refine Z7 ?_|refine Z8 ?_)|((with_reducible refine ZM ?_ ?_);(focus rfl)));(conv=>whnf)))
    refine store_blk o3 (by simp) (by simp [isOne]) ?_
    intro h4 f4 z4 o4
    replace o4 : BlkW h4 bf 58 [.string ⟨#[]⟩, .int .i64 0, .bool false, .bool false, .string ⟨#[98, 101]⟩] := by simpa using o4
    clear o3
    ((conv=>whnf);repeat((first|(with_reducible first|refine Z1 ?_|refine Z2 ?_|refine Z3 ?_|refine Z4 ?_|refine Z5 ?_|refine Z9 (by assumption) rfl ?_|refine ZA (by assumption) rfl ?_|refine ZB (by assumption) rfl ?_|refine Z6 ?_|refine Z7 ?_|refine Z8 ?_)|((with_reducible refine ZM ?_ ?_);(focus rfl)));(conv=>whnf)))
    exact ⟨⟨[.string ⟨#[]⟩, .int .i64 0, .bool false, .bool false, .string ⟨#[98, 101]⟩], rfl, ⟨rfl, by simp [isOne]⟩, fun f hf => by cases hf; rfl⟩, x3.offNew f4 (by omega)⟩
  by_cases hk29 : k = 29
  · subst hk29
    ((conv=>whnf);repeat((first|(with_reducible first|refine Z1 ?_|refine Z2 ?_|refine Z3 ?_|refine Z4 ?_|refine Z5 ?_|refine Z9 (by assumption) rfl ?_|refine ZA (by assumption) rfl ?_|refine ZB (by assumption) rfl ?_|refine Z6 ?_|refine Z7 ?_|refine Z8 ?_)|((with_reducible refine ZM ?_ ?_);(focus rfl)));(conv=>whnf)))
    refine blk_st (o := 4) o2 (by simp) rfl ?_
    intro h3 f3 z3 o3
    replace o3 : BlkW h3 bf 58 [.string ⟨#[]⟩, .int .i64 0, .bool false, .bool false, .string ⟨#[118, 102, 102, 98]⟩] := o3
    have x3 := x02.offNew f3 (by omega)
    clear o2
    ((conv=>whnf);repeat((first|(with_reducible first|refine Z1 ?_|refine Z2 ?_|refine Z3 ?_|refine Z4 ?_|refine Z5 ?_|refine Z9 (by assumption) rfl ?_|refine ZA (by assumption) rfl ?_|refine ZB (by assumption) rfl ?_|refine Z6 ?_|refine Z7 ?_|refine Z8 ?_)|((with_reducible refine ZM ?_ ?_);(focus rfl)));(conv=>whnf)))
    refine store_blk o3 (by simp) (by simp [isOne]) ?_
    intro h4 f4 z4 o4
    replace o4 : BlkW h4 bf 58 [.string ⟨#[]⟩, .int .i64 0, .bool false, .bool false, .string ⟨#[118, 102, 102, 98]⟩] := by simpa using o4
    clear o3
    ((conv=>whnf);repeat((first|(with_reducible first|refine Z1 ?_|refine Z2 ?_|refine Z3 ?_|refine Z4 ?_|refine Z5 ?_|refine Z9 (by assumption) rfl ?_|refine ZA (by assumption) rfl ?_|refine ZB (by assumption) rfl ?_|refine Z6 ?_|refine Z7 ?_|refine Z8 ?_)|((with_reducible refine ZM ?_ ?_);(focus rfl)));(conv=>whnf)))
    exact ⟨⟨[.string ⟨#[]⟩, .int .i64 0, .bool false, .bool false, .string ⟨#[118, 102, 102, 98]⟩], rfl, ⟨rfl, by simp [isOne]⟩, fun f hf => by cases hf; rfl⟩, x3.offNew f4 (by omega)⟩
  by_cases hk30 : k = 30
  · subst hk30
    ((conv=>whnf);repeat((first|(with_reducible first|refine Z1 ?_|refine Z2 ?_|refine Z3 ?_|refine Z4 ?_|refine Z5 ?_|refine Z9 (by assumption) rfl ?_|refine ZA (by assumption) rfl ?_|refine ZB (by assumption) rfl ?_|refine Z6 ?_|refine Z7 ?_|refine Z8 ?_)|((with_reducible refine ZM ?_ ?_);(focus rfl)));(conv=>whnf)))
    refine blk_st (o := 4) o2 (by simp) rfl ?_
    intro h3 f3 z3 o3
    replace o3 : BlkW h3 bf 58 [.string ⟨#[]⟩, .int .i64 0, .bool false, .bool false, .string ⟨#[119, 101, 98]⟩] := o3
    have x3 := x02.offNew f3 (by omega)
    clear o2
    ((conv=>whnf);repeat((first|(with_reducible first|refine Z1 ?_|refine Z2 ?_|refine Z3 ?_|refine Z4 ?_|refine Z5 ?_|refine Z9 (by assumption) rfl ?_|refine ZA (by assumption) rfl ?_|refine ZB (by assumption) rfl ?_|refine Z6 ?_|refine Z7 ?_|refine Z8 ?_)|((with_reducible refine ZM ?_ ?_);(focus rfl)));(conv=>whnf)))
    refine store_blk o3 (by simp) (by simp [isOne]) ?_
    intro h4 f4 z4 o4
    replace o4 : BlkW h4 bf 58 [.string ⟨#[]⟩, .int .i64 0, .bool false, .bool false, .string ⟨#[119, 101, 98]⟩] := by simpa using o4
    clear o3
    ((conv=>whnf);repeat((first|(with_reducible first|refine Z1 ?_|refine Z2 ?_|refine Z3 ?_|refine Z4 ?_|refine Z5 ?_|refine Z9 (by assumption) rfl ?_|refine ZA (by assumption) rfl ?_|refine ZB (by assumption) rfl ?_|refine Z6 ?_|refine Z7 ?_|refine Z8 ?_)|((with_reducible refine ZM ?_ ?_);(focus rfl)));(conv=>whnf)))
    exact ⟨⟨[.string ⟨#[]⟩, .int .i64 0, .bool false, .bool false, .string ⟨#[119, 101, 98]⟩], rfl, ⟨rfl, by simp [isOne]⟩, fun f hf => by cases hf; rfl⟩, x3.offNew f4 (by omega)⟩
  by_cases hk31 : k = 31
  · subst hk31
    ((conv=>whnf);repeat((first|(with_reducible first|refine Z1 ?_|refine Z2 ?_|refine Z3 ?_|refine Z4 ?_|refine Z5 ?_|refine Z9 (by assumption) rfl ?_|refine ZA (by assumption) rfl ?_|refine ZB (by assumption) rfl ?_|refine Z6 ?_|refine Z7 ?_|refine Z8 ?_)|((with_reducible refine ZM ?_ ?_);(focus rfl)));(conv=>whnf)))
    refine blk_st (o := 0) o2 (by simp) rfl ?_
    intro h3 f3 z3 o3
    replace o3 : BlkW h3 bf 58 [.string ⟨#[109]⟩, .int .i64 0, .bool false, .bool false, .string ⟨#[]⟩] := o3
    have x3 := x02.offNew f3 (by omega)
    clear o2
    ((conv=>whnf);repeat((first|(with_reducible first|refine Z1 ?_|refine Z2 ?_|refine Z3 ?_|refine Z4 ?_|refine Z5 ?_|refine Z9 (by assumption) rfl ?_|refine ZA (by assumption) rfl ?_|refine ZB (by assumption) rfl ?_|refine Z6 ?_|refine Z7 ?_|refine Z8 ?_)|((with_reducible refine ZM ?_ ?_);(focus rfl)));(conv=>whnf)))
    refine store_blk o3 (by simp) (by simp [isOne]) ?_
    intro h4 f4 z4 o4
    replace o4 : BlkW h4 bf 58 [.string ⟨#[109]⟩, .int .i64 0, .bool false, .bool false, .string ⟨#[]⟩] := by simpa using o4
    clear o3
    ((conv=>whnf);repeat((first|(with_reducible first|refine Z1 ?_|refine Z2 ?_|refine Z3 ?_|refine Z4 ?_|refine Z5 ?_|refine Z9 (by assumption) rfl ?_|refine ZA (by assumption) rfl ?_|refine ZB (by assumption) rfl ?_|refine Z6 ?_|refine Z7 ?_|refine Z8 ?_)|((with_reducible refine ZM ?_ ?_);(focus rfl)));(conv=>whnf)))
    exact ⟨⟨[.string ⟨#[109]⟩, .int .i64 0, .bool false, .bool false, .string ⟨#[]⟩], rfl, ⟨rfl, by simp [isOne]⟩, fun f hf => by cases hf; rfl⟩, x3.offNew f4 (by omega)⟩
  by_cases hk32 : k = 32
  · subst hk32
    ((conv=>whnf);repeat((first|(with_reducible first|refine Z1 ?_|refine Z2 ?_|refine Z3 ?_|refine Z4 ?_|refine Z5 ?_|refine Z9 (by assumption) rfl ?_|refine ZA (by assumption) rfl ?_|refine ZB (by assumption) rfl ?_|refine Z6 ?_|refine Z7 ?_|refine Z8 ?_)|((with_reducible refine ZM ?_ ?_);(focus rfl)));(conv=>whnf)))
    refine blk_st (o := 0) o2 (by simp) rfl ?_
    intro h3 f3 z3 o3
    replace o3 : BlkW h3 bf 58 [.string ⟨#[109]⟩, .int .i64 0, .bool false, .bool false, .string ⟨#[]⟩] := o3
    have x3 := x02.offNew f3 (by omega)
    clear o2
    ((conv=>whnf);repeat((first|(with_reducible first|refine Z1 ?_|refine Z2 ?_|refine Z3 ?_|refine Z4 ?_|refine Z5 ?_|refine Z9 (by assumption) rfl ?_|refine ZA (by assumption) rfl ?_|refine ZB (by assumption) rfl ?_|refine Z6 ?_|refine Z7 ?_|refine Z8 ?_)|((with_reducible refine ZM ?_ ?_);(focus rfl)));(conv=>whnf)))
    refine store_blk o3 (by simp) (by simp [isOne]) ?_
    intro h4 f4 z4 o4
    replace o4 : BlkW h4 bf 58 [.string ⟨#[109]⟩, .int .i64 0, .bool false, .bool false, .string ⟨#[]⟩] := by simpa using o4
    clear o3
    ((conv=>whnf);repeat((first|(with_reducible first|refine Z1 ?_|refine Z2 ?_|refine Z3 ?_|refine Z4 ?_|refine Z5 ?_|refine Z9 (by assumption) rfl ?_|refine ZA (by assumption) rfl ?_|refine ZB (by assumption) rfl ?_|refine Z6 ?_|refine Z7 ?_|refine Z8 ?_)|((with_reducible refine ZM ?_ ?_);(focus rfl)));(conv=>whnf)))
    exact ⟨⟨[.string ⟨#[109]⟩, .int .i64 0, .bool false, .bool false, .string ⟨#[]⟩], rfl, ⟨rfl, by simp [isOne]⟩, fun f hf => by cases hf; rfl⟩, x3.offNew f4 (by omega)⟩
  by_cases hk34 : k = 34
  · subst hk34
    ((conv=>whnf);repeat((first|(with_reducible first|refine Z1 ?_|refine Z2 ?_|refine Z3 ?_|refine Z4 ?_|refine Z5 ?_|refine Z9 (by assumption) rfl ?_|refine ZA (by assumption) rfl ?_|refine ZB (by assumption) rfl ?_|refine Z6 ?_|refine Z7 ?_|refine Z8 ?_)|((with_reducible refine ZM ?_ ?_);(focus rfl)));(conv=>whnf)))
    refine blk_st (o := 4) o2 (by simp) rfl ?_
    intro h3 f3 z3 o3
    replace o3 : BlkW h3 bf 58 [.string ⟨#[]⟩, .int .i64 0, .bool false, .bool false, .string ⟨#[101]⟩] := o3
    have x3 := x02.offNew f3 (by omega)
    clear o2
    ((conv=>whnf);repeat((first|(with_reducible first|refine Z1 ?_|refine Z2 ?_|refine Z3 ?_|refine Z4 ?_|refine Z5 ?_|refine Z9 (by assumption) rfl ?_|refine ZA (by assumption) rfl ?_|refine ZB (by assumption) rfl ?_|refine Z6 ?_|refine Z7 ?_|refine Z8 ?_)|((with_reducible refine ZM ?_ ?_);(focus rfl)));(conv=>whnf)))
    refine store_blk o3 (by simp) (by simp [isOne]) ?_
    intro h4 f4 z4 o4
    replace o4 : BlkW h4 bf 58 [.string ⟨#[]⟩, .int .i64 0, .bool false, .bool false, .string ⟨#[101]⟩] := by simpa using o4
    clear o3
    ((conv=>whnf);repeat((first|(with_reducible first|refine Z1 ?_|refine Z2 ?_|refine Z3 ?_|refine Z4 ?_|refine Z5 ?_|refine Z9 (by assumption) rfl ?_|refine ZA (by assumption) rfl ?_|refine ZB (by assumption) rfl ?_|refine Z6 ?_|refine Z7 ?_|refine Z8 ?_)|((with_reducible refine ZM ?_ ?_);(focus rfl)));(conv=>whnf)))
    exact ⟨⟨[.string ⟨#[]⟩, .int .i64 0, .bool false, .bool false, .string ⟨#[101]⟩], rfl, ⟨rfl, by simp [isOne]⟩, fun f hf => by cases hf; rfl⟩, x3.offNew f4 (by omega)⟩
  by_cases hk35 : k = 35
  · subst hk35
    ((conv=>whnf);repeat((first|(with_reducible first|refine Z1 ?_|refine Z2 ?_|refine Z3 ?_|refine Z4 ?_|refine Z5 ?_|refine Z9 (by assumption) rfl ?_|refine ZA (by assumption) rfl ?_|refine ZB (by assumption) rfl ?_|refine Z6 ?_|refine Z7 ?_|refine Z8 ?_)|((with_reducible refine ZM ?_ ?_);(focus rfl)));(conv=>whnf)))
    refine blk_st (o := 0) o2 (by simp) rfl ?_
    intro h3 f3 z3 o3
    replace o3 : BlkW h3 bf 58 [.string ⟨#[99]⟩, .int .i64 0, .bool false, .bool false, .string ⟨#[]⟩] := o3
    have x3 := x02.offNew f3 (by omega)
    clear o2
    ((conv=>whnf);repeat((first|(with_reducible first|refine Z1 ?_|refine Z2 ?_|refine Z3 ?_|refine Z4 ?_|refine Z5 ?_|refine Z9 (by assumption) rfl ?_|refine ZA (by assumption) rfl ?_|refine ZB (by assumption) rfl ?_|refine Z6 ?_|refine Z7 ?_|refine Z8 ?_)|((with_reducible refine ZM ?_ ?_);(focus rfl)));(conv=>whnf)))
    refine blk_st (o := 4) o3 (by simp) rfl ?_
    intro h4 f4 z4 o4
    replace o4 : BlkW h4 bf 58 [.string ⟨#[99]⟩, .int .i64 0, .bool false, .bool false, .string ⟨#[98, 99, 99]⟩] := o4
    have x4 := x3.offNew f4 (by omega)
    clear o3
    ((conv=>whnf);repeat((first|(with_reducible first|refine Z1 ?_|refine Z2 ?_|refine Z3 ?_|refine Z4 ?_|refine Z5 ?_|refine Z9 (by assumption) rfl ?_|refine ZA (by assumption) rfl ?_|refine ZB (by assumption) rfl ?_|refine Z6 ?_|refine Z7 ?_|refine Z8 ?_)|((with_reducible refine ZM ?_ ?_);(focus rfl)));(conv=>whnf)))
    refine store_blk o4 (by simp) (by simp [isOne]) ?_
    intro h5 f5 z5 o5
    replace o5 : BlkW h5 bf 58 [.string ⟨#[99]⟩, .int .i64 0, .bool false, .bool false, .string ⟨#[98, 99, 99]⟩] := by simpa using o5
    clear o4
    ((conv=>whnf);repeat((first|(with_reducible first|refine Z1 ?_|refine Z2 ?_|refine Z3 ?_|refine Z4 ?_|refine Z5 ?_|refine Z9 (by assumption) rfl ?_|refine ZA (by assumption) rfl ?_|refine ZB (by assumption) rfl ?_|refine Z6 ?_|refine Z7 ?_|refine Z8 ?_)|((with_reducible refine ZM ?_ ?_);(focus rfl)));(conv=>whnf)))
    exact ⟨⟨[.string ⟨#[99]⟩, .int .i64 0, .bool false, .bool false, .string ⟨#[98, 99, 99]⟩], rfl, ⟨rfl, by simp [isOne]⟩, fun f hf => by cases hf; rfl⟩, x4.offNew f5 (by omega)⟩
  by_cases hk36 : k = 36
  · subst hk36
    ((conv=>whnf);repeat((first|(with_reducible first|refine Z1 ?_|refine Z2 ?_|refine Z3 ?_|refine Z4 ?_|refine Z5 ?_|refine Z9 (by assumption) rfl ?_|refine ZA (by assumption) rfl ?_|refine ZB (by assumption) rfl ?_|refine Z6 ?_|refine Z7 ?_|refine Z8 ?_)|((with_reducible refine ZM ?_ ?_);(focus rfl)));(conv=>whnf)))
    refine blk_st (o := 4) o2 (by simp) rfl ?_
    intro h3 f3 z3 o3
    replace o3 : BlkW h3 bf 58 [.string ⟨#[]⟩, .int .i64 0, .bool false, .bool false, .string ⟨#[101, 42, 107]⟩] := o3
    have x3 := x02.offNew f3 (by omega)
    clear o2
    ((conv=>whnf);repeat((first|(with_reducible first|refine Z1 ?_|refine Z2 ?_|refine Z3 ?_|refine Z4 ?_|refine Z5 ?_|refine Z9 (by assumption) rfl ?_|refine ZA (by assumption) rfl ?_|refine ZB (by assumption) rfl ?_|refine Z6 ?_|refine Z7 ?_|refine Z8 ?_)|((with_reducible refine ZM ?_ ?_);(focus rfl)));(conv=>whnf)))
    refine store_blk o3 (by simp) (by simp [isOne]) ?_
    intro h4 f4 z4 o4
    replace o4 : BlkW h4 bf 58 [.string ⟨#[]⟩, .int .i64 0, .bool false, .bool false, .string ⟨#[101, 42, 107]⟩] := by simpa using o4
    clear o3
    ((conv=>whnf);repeat((first|(with_reducible first|refine Z1 ?_|refine Z2 ?_|refine Z3 ?_|refine Z4 ?_|refine Z5 ?_|refine Z9 (by assumption) rfl ?_|refine ZA (by assumption) rfl ?_|refine ZB (by assumption) rfl ?_|refine Z6 ?_|refine Z7 ?_|refine Z8 ?_)|((with_reducible refine ZM ?_ ?_);(focus rfl)));(conv=>whnf)))
    exact ⟨⟨[.string ⟨#[]⟩, .int .i64 0, .bool false, .bool false, .string ⟨#[101, 42, 107]⟩], rfl, ⟨rfl, by simp [isOne]⟩, fun f hf => by cases hf; rfl⟩, x3.offNew f4 (by omega)⟩
  by_cases hk37 : k = 37
  · subst hk37
    ((conv=>whnf);repeat((first|(with_reducible first|refine Z1 ?_|refine Z2 ?_|refine Z3 ?_|refine Z4 ?_|refine Z5 ?_|refine Z9 (by assumption) rfl ?_|refine ZA (by assumption) rfl ?_|refine ZB (by assumption) rfl ?_|refine Z6 ?_|refine Z7 ?_|refine Z8 ?_)|((with_reducible refine ZM ?_ ?_);(focus rfl)));(conv=>whnf)))
    refine blk_st (o := 4) o2 (by simp) rfl ?_
    intro h3 f3 z3 o3
    replace o3 : BlkW h3 bf 58 [.string ⟨#[]⟩, .int .i64 0, .bool false, .bool false, .string ⟨#[102, 42, 115]⟩] := o3
    have x3 := x02.offNew f3 (by omega)
    clear o2
    ((conv=>whnf);repeat((first|(with_reducible first|refine Z1 ?_|refine Z2 ?_|refine Z3 ?_|refine Z4 ?_|refine Z5 ?_|refine Z9 (by assumption) rfl ?_|refine ZA (by assumption) rfl ?_|refine ZB (by assumption) rfl ?_|refine Z6 ?_|refine Z7 ?_|refine Z8 ?_)|((with_reducible refine ZM ?_ ?_);(focus rfl)));(conv=>whnf)))
    refine store_blk o3 (by simp) (by simp [isOne]) ?_
    intro h4 f4 z4 o4
    replace o4 : BlkW h4 bf 58 [.string ⟨#[]⟩, .int .i64 0, .bool false, .bool false, .string ⟨#[102, 42, 115]⟩] := by simpa using o4
    clear o3
    ((conv=>whnf);repeat((first|(with_reducible first|refine Z1 ?_|refine Z2 ?_|refine Z3 ?_|refine Z4 ?_|refine Z5 ?_|refine Z9 (by assumption) rfl ?_|refine ZA (by assumption) rfl ?_|refine ZB (by assumption) rfl ?_|refine Z6 ?_|refine Z7 ?_|refine Z8 ?_)|((with_reducible refine ZM ?_ ?_);(focus rfl)));(conv=>whnf)))
    exact ⟨⟨[.string ⟨#[]⟩, .int .i64 0, .bool false, .bool false, .string ⟨#[102, 42, 115]⟩], rfl, ⟨rfl, by simp [isOne]⟩, fun f hf => by cases hf; rfl⟩, x3.offNew f4 (by omega)⟩
  by_cases hk38 : k = 38
  · subst hk38
    ((conv=>whnf);repeat((first|(with_reducible first|refine Z1 ?_|refine Z2 ?_|refine Z3 ?_|refine Z4 ?_|refine Z5 ?_|refine Z9 (by assumption) rfl ?_|refine ZA (by assumption) rfl ?_|refine ZB (by assumption) rfl ?_|refine Z6 ?_|refine Z7 ?_|refine Z8 ?_)|((with_reducible refine ZM ?_ ?_);(focus rfl)));(conv=>whnf)))
    refine blk_st (o := 0) o2 (by simp) rfl ?_
    intro h3 f3 z3 o3
    replace o3 : BlkW h3 bf 58 [.string ⟨#[110]⟩, .int .i64 0, .bool false, .bool false, .string ⟨#[]⟩] := o3
    have x3 := x02.offNew f3 (by omega)
    clear o2
    ((conv=>whnf);repeat((first|(with_reducible first|refine Z1 ?_|refine Z2 ?_|refine Z3 ?_|refine Z4 ?_|refine Z5 ?_|refine Z9 (by assumption) rfl ?_|refine ZA (by assumption) rfl ?_|refine ZB (by assumption) rfl ?_|refine Z6 ?_|refine Z7 ?_|refine Z8 ?_)|((with_reducible refine ZM ?_ ?_);(focus rfl)));(conv=>whnf)))
    refine blk_st (o := 4) o3 (by simp) rfl ?_
    intro h4 f4 z4 o4
    replace o4 : BlkW h4 bf 58 [.string ⟨#[110]⟩, .int .i64 0, .bool false, .bool false, .string ⟨#[115]⟩] := o4
    have x4 := x3.offNew f4 (by omega)
    clear o3
    ((conv=>whnf);repeat((first|(with_reducible first|refine Z1 ?_|refine Z2 ?_|refine Z3 ?_|refine Z4 ?_|refine Z5 ?_|refine Z9 (by assumption) rfl ?_|refine ZA (by assumption) rfl ?_|refine ZB (by assumption) rfl ?_|refine Z6 ?_|refine Z7 ?_|refine Z8 ?_)|((with_reducible refine ZM ?_ ?_);(focus rfl)));(conv=>whnf)))
    refine store_blk o4 (by simp) (by simp [isOne]) ?_
    intro h5 f5 z5 o5
    replace o5 : BlkW h5 bf 58 [.string ⟨#[110]⟩, .int .i64 0, .bool false, .bool false, .string ⟨#[115]⟩] := by simpa using o5
    clear o4
    ((conv=>whnf);repeat((first|(with_reducible first|refine Z1 ?_|refine Z2 ?_|refine Z3 ?_|refine Z4 ?_|refine Z5 ?_|refine Z9 (by assumption) rfl ?_|refine ZA (by assumption) rfl ?_|refine ZB (by assumption) rfl ?_|refine Z6 ?_|refine Z7 ?_|refine Z8 ?_)|((with_reducible refine ZM ?_ ?_);(focus rfl)));(conv=>whnf)))
    exact ⟨⟨[.string ⟨#[110]⟩, .int .i64 0, .bool false, .bool false, .string ⟨#[115]⟩], rfl, ⟨rfl, by simp [isOne]⟩, fun f hf => by cases hf; rfl⟩, x4.offNew f5 (by omega)⟩
  by_cases hk39 : k = 39
  · subst hk39
    ((conv=>whnf);repeat((first|(with_reducible first|refine Z1 ?_|refine Z2 ?_|refine Z3 ?_|refine Z4 ?_|refine Z5 ?_|refine Z9 (by assumption) rfl ?_|refine ZA (by assumption) rfl ?_|refine ZB (by assumption) rfl ?_|refine Z6 ?_|refine Z7 ?_|refine Z8 ?_)|((with_reducible refine ZM ?_ ?_);(focus rfl)));(conv=>whnf)))
    refine blk_st (o := 0) o2 (by simp) rfl ?_
    intro h3 f3 z3 o3
    replace o3 : BlkW h3 bf 58 [.string ⟨#[110]⟩, .int .i64 0, .bool false, .bool false, .string ⟨#[]⟩] := o3
    have x3 := x02.offNew f3 (by omega)
    clear o2
    ((conv=>whnf);repeat((first|(with_reducible first|refine Z1 ?_|refine Z2 ?_|refine Z3 ?_|refine Z4 ?_|refine Z5 ?_|refine Z9 (by assumption) rfl ?_|refine ZA (by assumption) rfl ?_|refine ZB (by assumption) rfl ?_|refine Z6 ?_|refine Z7 ?_|refine Z8 ?_)|((with_reducible refine ZM ?_ ?_);(focus rfl)));(conv=>whnf)))
    refine blk_st (o := 3) o3 (by simp) rfl ?_
    intro h4 f4 z4 o4
    replace o4 : BlkW h4 bf 58 [.string ⟨#[110]⟩, .int .i64 0, .bool false, .bool true, .string ⟨#[]⟩] := o4
    have x4 := x3.offNew f4 (by omega)
    clear o3
    ((conv=>whnf);repeat((first|(with_reducible first|refine Z1 ?_|refine Z2 ?_|refine Z3 ?_|refine Z4 ?_|refine Z5 ?_|refine Z9 (by assumption) rfl ?_|refine ZA (by assumption) rfl ?_|refine ZB (by assumption) rfl ?_|refine Z6 ?_|refine Z7 ?_|refine Z8 ?_)|((with_reducible refine ZM ?_ ?_);(focus rfl)));(conv=>whnf)))
    refine blk_st (o := 4) o4 (by simp) rfl ?_
    intro h5 f5 z5 o5
    replace o5 : BlkW h5 bf 58 [.string ⟨#[110]⟩, .int .i64 0, .bool false, .bool true, .string ⟨#[42, 120]⟩] := o5
    have x5 := x4.offNew f5 (by omega)
    clear o4
    ((conv=>whnf);repeat((first|(with_reducible first|refine Z1 ?_|refine Z2 ?_|refine Z3 ?_|refine Z4 ?_|refine Z5 ?_|refine Z9 (by assumption) rfl ?_|refine ZA (by assumption) rfl ?_|refine ZB (by assumption) rfl ?_|refine Z6 ?_|refine Z7 ?_|refine Z8 ?_)|((with_reducible refine ZM ?_ ?_);(focus rfl)));(conv=>whnf)))
    refine store_blk o5 (by simp) (by simp [isOne]) ?_
    intro h6 f6 z6 o6
    replace o6 : BlkW h6 bf 58 [.string ⟨#[110]⟩, .int .i64 0, .bool false, .bool true, .string ⟨#[42, 120]⟩] := by simpa using o6
    clear o5
    ((conv=>whnf);repeat((first|(with_reducible first|refine Z1 ?_|refine Z2 ?_|refine Z3 ?_|refine Z4 ?_|refine Z5 ?_|refine Z9 (by assumption) rfl ?_|refine ZA (by assumption) rfl ?_|refine ZB (by assumption) rfl ?_|refine Z6 ?_|refine Z7 ?_|refine Z8 ?_)|((with_reducible refine ZM ?_ ?_);(focus rfl)));(conv=>whnf)))
    exact ⟨⟨[.string ⟨#[110]⟩, .int .i64 0, .bool false, .bool true, .string ⟨#[42, 120]⟩], rfl, ⟨rfl, by simp [isOne]⟩, fun f hf => by cases hf; rfl⟩, x5.offNew f6 (by omega)⟩
  by_cases hk41 : k = 41
  · subst hk41
    ((conv=>whnf);repeat((first|(with_reducible first|refine Z1 ?_|refine Z2 ?_|refine Z3 ?_|refine Z4 ?_|refine Z5 ?_|refine Z9 (by assumption) rfl ?_|refine ZA (by assumption) rfl ?_|refine ZB (by assumption) rfl ?_|refine Z6 ?_|refine Z7 ?_|refine Z8 ?_)|((with_reducible refine ZM ?_ ?_);(focus rfl)));(conv=>whnf)))
    refine blk_st (o := 4) o2 (by simp) rfl ?_
    intro h3 f3 z3 o3
    replace o3 : BlkW h3 bf 58 [.string ⟨#[]⟩, .int .i64 0, .bool false, .bool false, .string ⟨#[42, 120]⟩] := o3
    have x3 := x02.offNew f3 (by omega)
    clear o2
    ((conv=>whnf);repeat((first|(with_reducible first|refine Z1 ?_|refine Z2 ?_|refine Z3 ?_|refine Z4 ?_|refine Z5 ?_|refine Z9 (by assumption) rfl ?_|refine ZA (by assumption) rfl ?_|refine ZB (by assumption) rfl ?_|refine Z6 ?_|refine Z7 ?_|refine Z8 ?_)|((with_reducible refine ZM ?_ ?_);(focus rfl)));(conv=>whnf)))
    refine store_blk o3 (by simp) (by simp [isOne]) ?_
    intro h4 f4 z4 o4
    replace o4 : BlkW h4 bf 58 [.string ⟨#[]⟩, .int .i64 0, .bool false, .bool false, .string ⟨#[42, 120]⟩] := by simpa using o4
    clear o3
    ((conv=>whnf);repeat((first|(with_reducible first|refine Z1 ?_|refine Z2 ?_|refine Z3 ?_|refine Z4 ?_|refine Z5 ?_|refine Z9 (by assumption) rfl ?_|refine ZA (by assumption) rfl ?_|refine ZB (by assumption) rfl ?_|refine Z6 ?_|refine Z7 ?_|refine Z8 ?_)|((with_reducible refine ZM ?_ ?_);(focus rfl)));(conv=>whnf)))
    exact ⟨⟨[.string ⟨#[]⟩, .int .i64 0, .bool false, .bool false, .string ⟨#[42, 120]⟩], rfl, ⟨rfl, by simp [isOne]⟩, fun f hf => by cases hf; rfl⟩, x3.offNew f4 (by omega)⟩
  by_cases hk23 : k = 23
  · subst hk23
    by_cases hl : l.length = 0
    · have he : stmtOf 23 l.length = some ⟨⟨#[110]⟩, 0, false, false, ⟨#[]⟩⟩ := by unfold stmtOf; rw [hl]; rfl
      rw [he]
      ((conv=>whnf);repeat((first|(with_reducible first|refine Z1 ?_|refine Z2 ?_|refine Z3 ?_|refine Z4 ?_|refine Z5 ?_|refine Z9 (by assumption) rfl ?_|refine ZA (by assumption) rfl ?_|refine ZB (by assumption) rfl ?_|refine Z6 ?_|refine Z7 ?_|refine Z8 ?_)|((with_reducible refine ZM ?_ ?_);(focus rfl)));(conv=>whnf)))
      refine HAlt.mk ?_ ?_
      · ((conv=>whnf);repeat((first|(with_reducible first|refine Z1 ?_|refine Z2 ?_|refine Z3 ?_|refine Z4 ?_|refine Z5 ?_|refine Z9 (by assumption) rfl ?_|refine ZA (by assumption) rfl ?_|refine ZB (by assumption) rfl ?_|refine Z6 ?_|refine Z7 ?_|refine Z8 ?_)|((with_reducible refine ZM ?_ ?_);(focus rfl)));(conv=>whnf)))
        refine HBound.mk 0 (by show (if (1 : Int) < ((l.length : Nat) : Int) then (1 : Int) else ((l.length : Nat) : Int)) = ((0 : Nat) : Int); rw [if_neg (by omega)]; omega) (show 0 ≤ (⟨#[101]⟩ : ByteArray).size by decide) ?_
        ((conv=>whnf);repeat((first|(with_reducible first|refine Z1 ?_|refine Z2 ?_|refine Z3 ?_|refine Z4 ?_|refine Z5 ?_|refine Z9 (by assumption) rfl ?_|refine ZA (by assumption) rfl ?_|refine ZB (by assumption) rfl ?_|refine Z6 ?_|refine Z7 ?_|refine Z8 ?_)|((with_reducible refine ZM ?_ ?_);(focus rfl)));(conv=>whnf)))
        refine blk_st (o := 0) o2 (by simp) rfl ?_
        intro h3 f3 z3 o3
        replace o3 : BlkW h3 bf 58 [.string ⟨#[110]⟩, .int .i64 0, .bool false, .bool false, .string ⟨#[]⟩] := o3
        have x3 := x02.offNew f3 (by omega)
        clear o2
        ((conv=>whnf);repeat((first|(with_reducible first|refine Z1 ?_|refine Z2 ?_|refine Z3 ?_|refine Z4 ?_|refine Z5 ?_|refine Z9 (by assumption) rfl ?_|refine ZA (by assumption) rfl ?_|refine ZB (by assumption) rfl ?_|refine Z6 ?_|refine Z7 ?_|refine Z8 ?_)|((with_reducible refine ZM ?_ ?_);(focus rfl)));(conv=>whnf)))
        refine blk_st (o := 4) o3 (by simp) rfl ?_
        intro h4 f4 z4 o4
        replace o4 : BlkW h4 bf 58 [.string ⟨#[110]⟩, .int .i64 0, .bool false, .bool false, .string ⟨#[]⟩] := o4
        have x4 := x3.offNew f4 (by omega)
        clear o3
        ((conv=>whnf);repeat((first|(with_reducible first|refine Z1 ?_|refine Z2 ?_|refine Z3 ?_|refine Z4 ?_|refine Z5 ?_|refine Z9 (by assumption) rfl ?_|refine ZA (by assumption) rfl ?_|refine ZB (by assumption) rfl ?_|refine Z6 ?_|refine Z7 ?_|refine Z8 ?_)|((with_reducible refine ZM ?_ ?_);(focus rfl)));(conv=>whnf)))
        refine store_blk o4 (by simp) (by simp [isOne]) ?_
        intro h5 f5 z5 o5
        replace o5 : BlkW h5 bf 58 [.string ⟨#[110]⟩, .int .i64 0, .bool false, .bool false, .string ⟨#[]⟩] := by simpa using o5
        clear o4
        ((conv=>whnf);repeat((first|(with_reducible first|refine Z1 ?_|refine Z2 ?_|refine Z3 ?_|refine Z4 ?_|refine Z5 ?_|refine Z9 (by assumption) rfl ?_|refine ZA (by assumption) rfl ?_|refine ZB (by assumption) rfl ?_|refine Z6 ?_|refine Z7 ?_|refine Z8 ?_)|((with_reducible refine ZM ?_ ?_);(focus rfl)));(conv=>whnf)))
        exact ⟨⟨[.string ⟨#[110]⟩, .int .i64 0, .bool false, .bool false, .string ⟨#[]⟩], rfl, ⟨rfl, by simp [isOne]⟩, fun f hf => by cases hf; rfl⟩, x4.offNew f5 (by omega)⟩
      · ((conv=>whnf);repeat((first|(with_reducible first|refine Z1 ?_|refine Z2 ?_|refine Z3 ?_|refine Z4 ?_|refine Z5 ?_|refine Z9 (by assumption) rfl ?_|refine ZA (by assumption) rfl ?_|refine ZB (by assumption) rfl ?_|refine Z6 ?_|refine Z7 ?_|refine Z8 ?_)|((with_reducible refine ZM ?_ ?_);(focus rfl)));(conv=>whnf)))
        refine blk_st (o := 0) o2 (by simp) rfl ?_
        intro h3 f3 z3 o3
        replace o3 : BlkW h3 bf 58 [.string ⟨#[110]⟩, .int .i64 0, .bool false, .bool false, .string ⟨#[]⟩] := o3
        have x3 := x02.offNew f3 (by omega)
        clear o2
        replace o12 := o12.of (f3.2 _ o12.lt (by omega))
        ((conv=>whnf);repeat((first|(with_reducible first|refine Z1 ?_|refine Z2 ?_|refine Z3 ?_|refine Z4 ?_|refine Z5 ?_|refine Z9 (by assumption) rfl ?_|refine ZA (by assumption) rfl ?_|refine ZB (by assumption) rfl ?_|refine Z6 ?_|refine Z7 ?_|refine Z8 ?_)|((with_reducible refine ZM ?_ ?_);(focus rfl)));(conv=>whnf)))
        refine HBound.mk 0 (by show (if (1 : Int) < ((l.length : Nat) : Int) then (1 : Int) else ((l.length : Nat) : Int)) = ((0 : Nat) : Int); rw [if_neg (by omega)]; omega) (show 0 ≤ (⟨#[101]⟩ : ByteArray).size by decide) ?_
        ((conv=>whnf);repeat((first|(with_reducible first|refine Z1 ?_|refine Z2 ?_|refine Z3 ?_|refine Z4 ?_|refine Z5 ?_|refine Z9 (by assumption) rfl ?_|refine ZA (by assumption) rfl ?_|refine ZB (by assumption) rfl ?_|refine Z6 ?_|refine Z7 ?_|refine Z8 ?_)|((with_reducible refine ZM ?_ ?_);(focus rfl)));(conv=>whnf)))
        refine blk_st (o := 4) o3 (by simp) rfl ?_
        intro h4 f4 z4 o4
        replace o4 : BlkW h4 bf 58 [.string ⟨#[110]⟩, .int .i64 0, .bool false, .bool false, .string ⟨#[]⟩] := o4
        have x4 := x3.offNew f4 (by omega)
        clear o3
        ((conv=>whnf);repeat((first|(with_reducible first|refine Z1 ?_|refine Z2 ?_|refine Z3 ?_|refine Z4 ?_|refine Z5 ?_|refine Z9 (by assumption) rfl ?_|refine ZA (by assumption) rfl ?_|refine ZB (by assumption) rfl ?_|refine Z6 ?_|refine Z7 ?_|refine Z8 ?_)|((with_reducible refine ZM ?_ ?_);(focus rfl)));(conv=>whnf)))
        refine store_blk o4 (by simp) (by simp [isOne]) ?_
        intro h5 f5 z5 o5
        replace o5 : BlkW h5 bf 58 [.string ⟨#[110]⟩, .int .i64 0, .bool false, .bool false, .string ⟨#[]⟩] := by simpa using o5
        clear o4
        ((conv=>whnf);repeat((first|(with_reducible first|refine Z1 ?_|refine Z2 ?_|refine Z3 ?_|refine Z4 ?_|refine Z5 ?_|refine Z9 (by assumption) rfl ?_|refine ZA (by assumption) rfl ?_|refine ZB (by assumption) rfl ?_|refine Z6 ?_|refine Z7 ?_|refine Z8 ?_)|((with_reducible refine ZM ?_ ?_);(focus rfl)));(conv=>whnf)))
        exact ⟨⟨[.string ⟨#[110]⟩, .int .i64 0, .bool false, .bool false, .string ⟨#[]⟩], rfl, ⟨rfl, by simp [isOne]⟩, fun f hf => by cases hf; rfl⟩, x4.offNew f5 (by omega)⟩
    · have he : stmtOf 23 l.length = some ⟨⟨#[110]⟩, 0, false, false, ⟨#[101]⟩⟩ := by unfold stmtOf; simp [hl]
      rw [he]
      ((conv=>whnf);repeat((first|(with_reducible first|refine Z1 ?_|refine Z2 ?_|refine Z3 ?_|refine Z4 ?_|refine Z5 ?_|refine Z9 (by assumption) rfl ?_|refine ZA (by assumption) rfl ?_|refine ZB (by assumption) rfl ?_|refine Z6 ?_|refine Z7 ?_|refine Z8 ?_)|((with_reducible refine ZM ?_ ?_);(focus rfl)));(conv=>whnf)))
      refine HAlt.mk ?_ ?_
      · ((conv=>whnf);repeat((first|(with_reducible first|refine Z1 ?_|refine Z2 ?_|refine Z3 ?_|refine Z4 ?_|refine Z5 ?_|refine Z9 (by assumption) rfl ?_|refine ZA (by assumption) rfl ?_|refine ZB (by assumption) rfl ?_|refine Z6 ?_|refine Z7 ?_|refine Z8 ?_)|((with_reducible refine ZM ?_ ?_);(focus rfl)));(conv=>whnf)))
        refine HBound.mk 1 (by show (if (1 : Int) < ((l.length : Nat) : Int) then (1 : Int) else ((l.length : Nat) : Int)) = ((1 : Nat) : Int); split <;> omega) (show 1 ≤ (⟨#[101]⟩ : ByteArray).size by decide) ?_
        ((conv=>whnf);repeat((first|(with_reducible first|refine Z1 ?_|refine Z2 ?_|refine Z3 ?_|refine Z4 ?_|refine Z5 ?_|refine Z9 (by assumption) rfl ?_|refine ZA (by assumption) rfl ?_|refine ZB (by assumption) rfl ?_|refine Z6 ?_|refine Z7 ?_|refine Z8 ?_)|((with_reducible refine ZM ?_ ?_);(focus rfl)));(conv=>whnf)))
        refine blk_st (o := 0) o2 (by simp) rfl ?_
        intro h3 f3 z3 o3
        replace o3 : BlkW h3 bf 58 [.string ⟨#[110]⟩, .int .i64 0, .bool false, .bool false, .string ⟨#[]⟩] := o3
        have x3 := x02.offNew f3 (by omega)
        clear o2
        ((conv=>whnf);repeat((first|(with_reducible first|refine Z1 ?_|refine Z2 ?_|refine Z3 ?_|refine Z4 ?_|refine Z5 ?_|refine Z9 (by assumption) rfl ?_|refine ZA (by assumption) rfl ?_|refine ZB (by assumption) rfl ?_|refine Z6 ?_|refine Z7 ?_|refine Z8 ?_)|((with_reducible refine ZM ?_ ?_);(focus rfl)));(conv=>whnf)))
        refine blk_st (o := 4) o3 (by simp) rfl ?_
        intro h4 f4 z4 o4
        replace o4 : BlkW h4 bf 58 [.string ⟨#[110]⟩, .int .i64 0, .bool false, .bool false, .string ⟨#[101]⟩] := o4
        have x4 := x3.offNew f4 (by omega)
        clear o3
        ((conv=>whnf);repeat((first|(with_reducible first|refine Z1 ?_|refine Z2 ?_|refine Z3 ?_|refine Z4 ?_|refine Z5 ?_|refine Z9 (by assumption) rfl ?_|refine ZA (by assumption) rfl ?_|refine ZB (by assumption) rfl ?_|refine Z6 ?_|refine Z7 ?_|refine Z8 ?_)|((with_reducible refine ZM ?_ ?_);(focus rfl)));(conv=>whnf)))
        refine store_blk o4 (by simp) (by simp [isOne]) ?_
        intro h5 f5 z5 o5
        replace o5 : BlkW h5 bf 58 [.string ⟨#[110]⟩, .int .i64 0, .bool false, .bool false, .string ⟨#[101]⟩] := by simpa using o5
        clear o4
        ((conv=>whnf);repeat((first|(with_reducible first|refine Z1 ?_|refine Z2 ?_|refine Z3 ?_|refine Z4 ?_|refine Z5 ?_|refine Z9 (by assumption) rfl ?_|refine ZA (by assumption) rfl ?_|refine ZB (by assumption) rfl ?_|refine Z6 ?_|refine Z7 ?_|refine Z8 ?_)|((with_reducible refine ZM ?_ ?_);(focus rfl)));(conv=>whnf)))
        exact ⟨⟨[.string ⟨#[110]⟩, .int .i64 0, .bool false, .bool false, .string ⟨#[101]⟩], rfl, ⟨rfl, by simp [isOne]⟩, fun f hf => by cases hf; rfl⟩, x4.offNew f5 (by omega)⟩
      · ((conv=>whnf);repeat((first|(with_reducible first|refine Z1 ?_|refine Z2 ?_|refine Z3 ?_|refine Z4 ?_|refine Z5 ?_|refine Z9 (by assumption) rfl ?_|refine ZA (by assumption) rfl ?_|refine ZB (by assumption) rfl ?_|refine Z6 ?_|refine Z7 ?_|refine Z8 ?_)|((with_reducible refine ZM ?_ ?_);(focus rfl)));(conv=>whnf)))
        refine blk_st (o := 0) o2 (by simp) rfl ?_
        intro h3 f3 z3 o3
        replace o3 : BlkW h3 bf 58 [.string ⟨#[110]⟩, .int .i64 0, .bool false, .bool false, .string ⟨#[]⟩] := o3
        have x3 := x02.offNew f3 (by omega)
        clear o2
        replace o12 := o12.of (f3.2 _ o12.lt (by omega))
        ((conv=>whnf);repeat((first|(with_reducible first|refine Z1 ?_|refine Z2 ?_|refine Z3 ?_|refine Z4 ?_|refine Z5 ?_|refine Z9 (by assumption) rfl ?_|refine ZA (by assumption) rfl ?_|refine ZB (by assumption) rfl ?_|refine Z6 ?_|refine Z7 ?_|refine Z8 ?_)|((with_reducible refine ZM ?_ ?_);(focus rfl)));(conv=>whnf)))
        refine HBound.mk 1 (by show (if (1 : Int) < ((l.length : Nat) : Int) then (1 : Int) else ((l.length : Nat) : Int)) = ((1 : Nat) : Int); split <;> omega) (show 1 ≤ (⟨#[101]⟩ : ByteArray).size by decide) ?_
        ((conv=>whnf);repeat((first|(with_reducible first|refine Z1 ?_|refine Z2 ?_|refine Z3 ?_|refine Z4 ?_|refine Z5 ?_|refine Z9 (by assumption) rfl ?_|refine ZA (by assumption) rfl ?_|refine ZB (by assumption) rfl ?_|refine Z6 ?_|refine Z7 ?_|refine Z8 ?_)|((with_reducible refine ZM ?_ ?_);(focus rfl)));(conv=>whnf)))
        refine blk_st (o := 4) o3 (by simp) rfl ?_
        intro h4 f4 z4 o4
        replace o4 : BlkW h4 bf 58 [.string ⟨#[110]⟩, .int .i64 0, .bool false, .bool false, .string ⟨#[101]⟩] := o4
        have x4 := x3.offNew f4 (by omega)
        clear o3
        ((conv=>whnf);repeat((first|(with_reducible first|refine Z1 ?_|refine Z2 ?_|refine Z3 ?_|refine Z4 ?_|refine Z5 ?_|refine Z9 (by assumption) rfl ?_|refine ZA (by assumption) rfl ?_|refine ZB (by assumption) rfl ?_|refine Z6 ?_|refine Z7 ?_|refine Z8 ?_)|((with_reducible refine ZM ?_ ?_);(focus rfl)));(conv=>whnf)))
        refine store_blk o4 (by simp) (by simp [isOne]) ?_
        intro h5 f5 z5 o5
        replace o5 : BlkW h5 bf 58 [.string ⟨#[110]⟩, .int .i64 0, .bool false, .bool false, .string ⟨#[101]⟩] := by simpa using o5
        clear o4
        ((conv=>whnf);repeat((first|(with_reducible first|refine Z1 ?_|refine Z2 ?_|refine Z3 ?_|refine Z4 ?_|refine Z5 ?_|refine Z9 (by assumption) rfl ?_|refine ZA (by assumption) rfl ?_|refine ZB (by assumption) rfl ?_|refine Z6 ?_|refine Z7 ?_|refine Z8 ?_)|((with_reducible refine ZM ?_ ?_);(focus rfl)));(conv=>whnf)))
        exact ⟨⟨[.string ⟨#[110]⟩, .int .i64 0, .bool false, .bool false, .string ⟨#[101]⟩], rfl, ⟨rfl, by simp [isOne]⟩, fun f hf => by cases hf; rfl⟩, x4.offNew f5 (by omega)⟩
  by_cases hk26 : k = 26
  · subst hk26
    by_cases hl : l.length ≤ 2
    · have he : stmtOf 26 l.length = some ⟨⟨#[]⟩, 0, false, false, ⟨#[101, 98]⟩⟩ := by unfold stmtOf; simp [hl]
      rw [he]
      ((conv=>whnf);repeat((first|(with_reducible first|refine Z1 ?_|refine Z2 ?_|refine Z3 ?_|refine Z4 ?_|refine Z5 ?_|refine Z9 (by assumption) rfl ?_|refine ZA (by assumption) rfl ?_|refine ZB (by assumption) rfl ?_|refine Z6 ?_|refine Z7 ?_|refine Z8 ?_)|((with_reducible refine ZM ?_ ?_);(focus rfl)));(conv=>whnf)))
      refine HBound.mk 2 (by show (if (3 : Int) < (if (2 : Int) > ((l.length : Nat) : Int) then (2 : Int) else ((l.length : Nat) : Int)) then (3 : Int) else (if (2 : Int) > ((l.length : Nat) : Int) then (2 : Int) else ((l.length : Nat) : Int))) = ((2 : Nat) : Int); split <;> split <;> omega) (show 2 ≤ (⟨#[101, 98, 98]⟩ : ByteArray).size by decide) ?_
      ((conv=>whnf);repeat((first|(with_reducible first|refine Z1 ?_|refine Z2 ?_|refine Z3 ?_|refine Z4 ?_|refine Z5 ?_|refine Z9 (by assumption) rfl ?_|refine ZA (by assumption) rfl ?_|refine ZB (by assumption) rfl ?_|refine Z6 ?_|refine Z7 ?_|refine Z8 ?_)|((with_reducible refine ZM ?_ ?_);(focus rfl)));(conv=>whnf)))
      refine blk_st (o := 4) o2 (by simp) rfl ?_
      intro h3 f3 z3 o3
      replace o3 : BlkW h3 bf 58 [.string ⟨#[]⟩, .int .i64 0, .bool false, .bool false, .string ⟨#[101, 98]⟩] := o3
      have x3 := x02.offNew f3 (by omega)
      clear o2
      ((conv=>whnf);repeat((first|(with_reducible first|refine Z1 ?_|refine Z2 ?_|refine Z3 ?_|refine Z4 ?_|refine Z5 ?_|refine Z9 (by assumption) rfl ?_|refine ZA (by assumption) rfl ?_|refine ZB (by assumption) rfl ?_|refine Z6 ?_|refine Z7 ?_|refine Z8 ?_)|((with_reducible refine ZM ?_ ?_);(focus rfl)));(conv=>whnf)))
      refine store_blk o3 (by simp) (by simp [isOne]) ?_
      intro h4 f4 z4 o4
      replace o4 : BlkW h4 bf 58 [.string ⟨#[]⟩, .int .i64 0, .bool false, .bool false, .string ⟨#[101, 98]⟩] := by simpa using o4
      clear o3
      ((conv=>whnf);repeat((first|(with_reducible first|refine Z1 ?_|refine Z2 ?_|refine Z3 ?_|refine Z4 ?_|refine Z5 ?_|refine Z9 (by assumption) rfl ?_|refine ZA (by assumption) rfl ?_|refine ZB (by assumption) rfl ?_|refine Z6 ?_|refine Z7 ?_|refine Z8 ?_)|((with_reducible refine ZM ?_ ?_);(focus rfl)));(conv=>whnf)))
      exact ⟨⟨[.string ⟨#[]⟩, .int .i64 0, .bool false, .bool false, .string ⟨#[101, 98]⟩], rfl, ⟨rfl, by simp [isOne]⟩, fun f hf => by cases hf; rfl⟩, x3.offNew f4 (by omega)⟩
    · have he : stmtOf 26 l.length = some ⟨⟨#[]⟩, 0, false, false, ⟨#[101, 98, 98]⟩⟩ := by unfold stmtOf; simp [hl]
      rw [he]
      ((conv=>whnf);repeat((first|(with_reducible first|refine Z1 ?_|refine Z2 ?_|refine Z3 ?_|refine Z4 ?_|refine Z5 ?_|refine Z9 (by assumption) rfl ?_|refine ZA (by assumption) rfl ?_|refine ZB (by assumption) rfl ?_|refine Z6 ?_|refine Z7 ?_|refine Z8 ?_)|((with_reducible refine ZM ?_ ?_);(focus rfl)));(conv=>whnf)))
      refine HBound.mk 3 (by show (if (3 : Int) < (if (2 : Int) > ((l.length : Nat) : Int) then (2 : Int) else ((l.length : Nat) : Int)) then (3 : Int) else (if (2 : Int) > ((l.length : Nat) : Int) then (2 : Int) else ((l.length : Nat) : Int))) = ((3 : Nat) : Int); split <;> split <;> omega) (show 3 ≤ (⟨#[101, 98, 98]⟩ : ByteArray).size by decide) ?_
      ((conv=>whnf);repeat((first|(with_reducible first|refine Z1 ?_|refine Z2 ?_|refine Z3 ?_|refine Z4 ?_|refine Z5 ?_|refine Z9 (by assumption) rfl ?_|refine ZA (by assumption) rfl ?_|refine ZB (by assumption) rfl ?_|refine Z6 ?_|refine Z7 ?_|refine Z8 ?_)|((with_reducible refine ZM ?_ ?_);(focus rfl)));(conv=>whnf)))
      refine blk_st (o := 4) o2 (by simp) rfl ?_
      intro h3 f3 z3 o3
      replace o3 : BlkW h3 bf 58 [.string ⟨#[]⟩, .int .i64 0, .bool false, .bool false, .string ⟨#[101, 98, 98]⟩] := o3
      have x3 := x02.offNew f3 (by omega)
      clear o2
      ((conv=>whnf);repeat((first|(with_reducible first|refine Z1 ?_|refine Z2 ?_|refine Z3 ?_|refine Z4 ?_|refine Z5 ?_|refine Z9 (by assumption) rfl ?_|refine ZA (by assumption) rfl ?_|refine ZB (by assumption) rfl ?_|refine Z6 ?_|refine Z7 ?_|refine Z8 ?_)|((with_reducible refine ZM ?_ ?_);(focus rfl)));(conv=>whnf)))
      refine store_blk o3 (by simp) (by simp [isOne]) ?_
      intro h4 f4 z4 o4
      replace o4 : BlkW h4 bf 58 [.string ⟨#[]⟩, .int .i64 0, .bool false, .bool false, .string ⟨#[101, 98, 98]⟩] := by simpa using o4
      clear o3
      ((conv=>whnf);repeat((first|(with_reducible first|refine Z1 ?_|refine Z2 ?_|refine Z3 ?_|refine Z4 ?_|refine Z5 ?_|refine Z9 (by assumption) rfl ?_|refine ZA (by assumption) rfl ?_|refine ZB (by assumption) rfl ?_|refine Z6 ?_|refine Z7 ?_|refine Z8 ?_)|((with_reducible refine ZM ?_ ?_);(focus rfl)));(conv=>whnf)))
      exact ⟨⟨[.string ⟨#[]⟩, .int .i64 0, .bool false, .bool false, .string ⟨#[101, 98, 98]⟩], rfl, ⟨rfl, by simp [isOne]⟩, fun f hf => by cases hf; rfl⟩, x3.offNew f4 (by omega)⟩
  by_cases hk33 : k = 33
  · subst hk33
    by_cases hl : l.length = 0
    · have he : stmtOf 33 l.length = some ⟨⟨#[]⟩, 0, false, false, ⟨#[]⟩⟩ := by unfold stmtOf; rw [hl]; rfl
      rw [he]
      ((conv=>whnf);repeat((first|(with_reducible first|refine Z1 ?_|refine Z2 ?_|refine Z3 ?_|refine Z4 ?_|refine Z5 ?_|refine Z9 (by assumption) rfl ?_|refine ZA (by assumption) rfl ?_|refine ZB (by assumption) rfl ?_|refine Z6 ?_|refine Z7 ?_|refine Z8 ?_)|((with_reducible refine ZM ?_ ?_);(focus rfl)));(conv=>whnf)))
      refine HBound.mk 0 (by show (if (1 : Int) < ((l.length : Nat) : Int) then (1 : Int) else ((l.length : Nat) : Int)) = ((0 : Nat) : Int); rw [if_neg (by omega)]; omega) (show 0 ≤ (⟨#[101]⟩ : ByteArray).size by decide) ?_
      ((conv=>whnf);repeat((first|(with_reducible first|refine Z1 ?_|refine Z2 ?_|refine Z3 ?_|refine Z4 ?_|refine Z5 ?_|refine Z9 (by assumption) rfl ?_|refine ZA (by assumption) rfl ?_|refine ZB (by assumption) rfl ?_|refine Z6 ?_|refine Z7 ?_|refine Z8 ?_)|((with_reducible refine ZM ?_ ?_);(focus rfl)));(conv=>whnf)))
      refine blk_st (o := 4) o2 (by simp) rfl ?_
      intro h3 f3 z3 o3
      replace o3 : BlkW h3 bf 58 [.string ⟨#[]⟩, .int .i64 0, .bool false, .bool false, .string ⟨#[]⟩] := o3
      have x3 := x02.offNew f3 (by omega)
      clear o2
      ((conv=>whnf);repeat((first|(with_reducible first|refine Z1 ?_|refine Z2 ?_|refine Z3 ?_|refine Z4 ?_|refine Z5 ?_|refine Z9 (by assumption) rfl ?_|refine ZA (by assumption) rfl ?_|refine ZB (by assumption) rfl ?_|refine Z6 ?_|refine Z7 ?_|refine Z8 ?_)|((with_reducible refine ZM ?_ ?_);(focus rfl)));(conv=>whnf)))
      refine store_blk o3 (by simp) (by simp [isOne]) ?_
      intro h4 f4 z4 o4
      replace o4 : BlkW h4 bf 58 [.string ⟨#[]⟩, .int .i64 0, .bool false, .bool false, .string ⟨#[]⟩] := by simpa using o4
      clear o3
      ((conv=>whnf);repeat((first|(with_reducible first|refine Z1 ?_|refine Z2 ?_|refine Z3 ?_|refine Z4 ?_|refine Z5 ?_|refine Z9 (by assumption) rfl ?_|refine ZA (by assumption) rfl ?_|refine ZB (by assumption) rfl ?_|refine Z6 ?_|refine Z7 ?_|refine Z8 ?_)|((with_reducible refine ZM ?_ ?_);(focus rfl)));(conv=>whnf)))
      exact ⟨⟨[.string ⟨#[]⟩, .int .i64 0, .bool false, .bool false, .string ⟨#[]⟩], rfl, ⟨rfl, by simp [isOne]⟩, fun f hf => by cases hf; rfl⟩, x3.offNew f4 (by omega)⟩
    · have he : stmtOf 33 l.length = some ⟨⟨#[]⟩, 0, false, false, ⟨#[101]⟩⟩ := by unfold stmtOf; simp [hl]
      rw [he]
      ((conv=>whnf);repeat((first|(with_reducible first|refine Z1 ?_|refine Z2 ?_|refine Z3 ?_|refine Z4 ?_|refine Z5 ?_|refine Z9 (by assumption) rfl ?_|refine ZA (by assumption) rfl ?_|refine ZB (by assumption) rfl ?_|refine Z6 ?_|refine Z7 ?_|refine Z8 ?_)|((with_reducible refine ZM ?_ ?_);(focus rfl)));(conv=>whnf)))
      refine HBound.mk 1 (by show (if (1 : Int) < ((l.length : Nat) : Int) then (1 : Int) else ((l.length : Nat) : Int)) = ((1 : Nat) : Int); split <;> omega) (show 1 ≤ (⟨#[101]⟩ : ByteArray).size by decide) ?_
      ((conv=>whnf);repeat((first|(with_reducible first|refine Z1 ?_|refine Z2 ?_|refine Z3 ?_|refine Z4 ?_|refine Z5 ?_|refine Z9 (by assumption) rfl ?_|refine ZA (by assumption) rfl ?_|refine ZB (by assumption) rfl ?_|refine Z6 ?_|refine Z7 ?_|refine Z8 ?_)|((with_reducible refine ZM ?_ ?_);(focus rfl)));(conv=>whnf)))
      refine blk_st (o := 4) o2 (by simp) rfl ?_
      intro h3 f3 z3 o3
      replace o3 : BlkW h3 bf 58 [.string ⟨#[]⟩, .int .i64 0, .bool false, .bool false, .string ⟨#[101]⟩] := o3
      have x3 := x02.offNew f3 (by omega)
      clear o2
      ((conv=>whnf);repeat((first|(with_reducible first|refine Z1 ?_|refine Z2 ?_|refine Z3 ?_|refine Z4 ?_|refine Z5 ?_|refine Z9 (by assumption) rfl ?_|refine ZA (by assumption) rfl ?_|refine ZB (by assumption) rfl ?_|refine Z6 ?_|refine Z7 ?_|refine Z8 ?_)|((with_reducible refine ZM ?_ ?_);(focus rfl)));(conv=>whnf)))
      refine store_blk o3 (by simp) (by simp [isOne]) ?_
      intro h4 f4 z4 o4
      replace o4 : BlkW h4 bf 58 [.string ⟨#[]⟩, .int .i64 0, .bool false, .bool false, .string ⟨#[101]⟩] := by simpa using o4
      clear o3
      ((conv=>whnf);repeat((first|(with_reducible first|refine Z1 ?_|refine Z2 ?_|refine Z3 ?_|refine Z4 ?_|refine Z5 ?_|refine Z9 (by assumption) rfl ?_|refine ZA (by assumption) rfl ?_|refine ZB (by assumption) rfl ?_|refine Z6 ?_|refine Z7 ?_|refine Z8 ?_)|((with_reducible refine ZM ?_ ?_);(focus rfl)));(conv=>whnf)))
      exact ⟨⟨[.string ⟨#[]⟩, .int .i64 0, .bool false, .bool false, .string ⟨#[101]⟩], rfl, ⟨rfl, by simp [isOne]⟩, fun f hf => by cases hf; rfl⟩, x3.offNew f4 (by omega)⟩
  have q22 : (k == 22) = false := beq_eq_false_iff_ne.2 hk22
  have q23 : (k == 23) = false := beq_eq_false_iff_ne.2 hk23
  have q24 : (k == 24) = false := beq_eq_false_iff_ne.2 hk24
  have q25 : (k == 25) = false := beq_eq_false_iff_ne.2 hk25
  have q26 : (k == 26) = false := beq_eq_false_iff_ne.2 hk26
  have q27 : (k == 27) = false := beq_eq_false_iff_ne.2 hk27
  have q28 : (k == 28) = false := beq_eq_false_iff_ne.2 hk28
  have q29 : (k == 29) = false := beq_eq_false_iff_ne.2 hk29
  have q30 : (k == 30) = false := beq_eq_false_iff_ne.2 hk30
  have q31 : (k == 31) = false := beq_eq_false_iff_ne.2 hk31
  have q32 : (k == 32) = false := beq_eq_false_iff_ne.2 hk32
  have q33 : (k == 33) = false := beq_eq_false_iff_ne.2 hk33
  have q34 : (k == 34) = false := beq_eq_false_iff_ne.2 hk34
  have q35 : (k == 35) = false := beq_eq_false_iff_ne.2 hk35
  have q36 : (k == 36) = false := beq_eq_false_iff_ne.2 hk36
  have q37 : (k == 37) = false := beq_eq_false_iff_ne.2 hk37
  have q38 : (k == 38) = false := beq_eq_false_iff_ne.2 hk38
  have q39 : (k == 39) = false := beq_eq_false_iff_ne.2 hk39
  have q41 : (k == 41) = false := beq_eq_false_iff_ne.2 hk41
  have e : stmtOf k l.length = none := by unfold stmtOf; rw [if_neg hk22, if_neg hk23, if_neg hk24, if_neg hk25, if_neg hk26, if_neg hk27, if_neg hk28, if_neg hk29, if_neg hk30, if_neg hk31, if_neg hk32, if_neg hk33, if_neg hk34, if_neg hk35, if_neg hk36, if_neg hk37, if_neg hk38, if_neg hk39, if_neg hk41]
  rw [e]
  ((conv=>whnf);repeat((first|(with_reducible first|refine Z1 ?_|refine Z2 ?_|refine Z3 ?_|refine Z4 ?_|refine Z5 ?_|refine Z9 (by assumption) rfl ?_|refine ZA (by assumption) rfl ?_|refine ZB (by assumption) rfl ?_|refine Z6 ?_|refine Z7 ?_|refine Z8 ?_)|((with_reducible refine ZM ?_ ?_);(focus rfl)));(conv=>whnf)))
  refine store_blk o2 (by simp) (by simp [isOne]) ?_
  intro h3 f3 z3 o3
  replace o3 : BlkW h3 bf 58 zeroF := by simpa using o3
  clear o2
  ((conv=>whnf);repeat((first|(with_reducible first|refine Z1 ?_|refine Z2 ?_|refine Z3 ?_|refine Z4 ?_|refine Z5 ?_|refine Z9 (by assumption) rfl ?_|refine ZA (by assumption) rfl ?_|refine ZB (by assumption) rfl ?_|refine Z6 ?_|refine Z7 ?_|refine Z8 ?_)|((with_reducible refine ZM ?_ ?_);(focus rfl)));(conv=>whnf)))
  exact ⟨⟨zeroF, rfl, ⟨rfl, by simp [isOne]⟩, fun f hf => by cases hf⟩, x02.offNew f3 (by omega)⟩
theorem of_spec {h : Heap} {d : NT} {cs : List Value} (r : TRep h d cs) : HCalls Try.prog 44 #[.agg cs.toArray] h fun e h' => (∃ v, e = .returned (.tuple #[.agg (v : List Value).toArray, .bool (formOf d.kind d.l.length).isSome]) ∧ (v.length = 5 ∧ (∀ x ∈ v, isOne x = true)) ∧ ∀ f, formOf d.kind d.l.length = some f → v = f.cells) ∧ Ext h h' := by
  cases d with
  | mk k nm n t ns l =>
  simp only [TRep] at r
  have r0 := r
  obtain ⟨b1, b2, b3, b4, b5, b6, b7, ka, kc, la, lc, ys, rfl, s1, s2, s3⟩ := r
  show HCalls Try.prog 44 _ h fun e h' => (∃ v, e = .returned (.tuple #[.agg (v : List Value).toArray, .bool (formOf k l.length).isSome]) ∧ (v.length = 5 ∧ (∀ x ∈ v, isOne x = true)) ∧ ∀ f, formOf k l.length = some f → v = f.cells) ∧ Ext h h'
  refine c44 (by simp) ?_
  ((conv=>whnf);repeat((first|(with_reducible first|refine Z1 ?_|refine Z2 ?_|refine Z3 ?_|refine Z4 ?_|refine Z5 ?_|refine Z9 (by assumption) rfl ?_|refine ZA (by assumption) rfl ?_|refine ZB (by assumption) rfl ?_|refine Z6 ?_|refine Z7 ?_|refine Z8 ?_)|((with_reducible refine ZM ?_ ?_);(focus rfl)));(conv=>whnf)))
  refine new_var (e := 26) [.int .i64 k, .string nm, .int .i64 n, .string t, .slice ka ns.length kc, .slice la l.length lc] rfl ?_
  intro h1 bn o1 x1 z1 hbn
  ((conv=>whnf);repeat((first|(with_reducible first|refine Z1 ?_|refine Z2 ?_|refine Z3 ?_|refine Z4 ?_|refine Z5 ?_|refine Z9 (by assumption) rfl ?_|refine ZA (by assumption) rfl ?_|refine ZB (by assumption) rfl ?_|refine Z6 ?_|refine Z7 ?_|refine Z8 ?_)|((with_reducible refine ZM ?_ ?_);(focus rfl)));(conv=>whnf)))
  refine new_var (e := 58) zeroF rfl ?_
  intro h2 bf o2 x2 z2 hbf
  have o12 := o1.ext x2
  have x02 := x1.trans x2
  have hh1 := x1.1
  have hbn1 : bn < h1.size := o1.lt
  clear o1
  by_cases hk1 : k = 1
  · subst hk1
    ((conv=>whnf);repeat((first|(with_reducible first|refine Z1 ?_|refine Z2 ?_|refine Z3 ?_|refine Z4 ?_|refine Z5 ?_|refine Z9 (by assumption) rfl ?_|refine ZA (by assumption) rfl ?_|refine ZB (by assumption) rfl ?_|refine Z6 ?_|refine Z7 ?_|refine Z8 ?_)|((with_reducible refine ZM ?_ ?_);(focus rfl)));(conv=>whnf)))
    refine blk_st (o := 1) o2 (by simp) rfl ?_
    intro h3 f3 z3 o3
    replace o3 : BlkW h3 bf 58 [.string ⟨#[]⟩, .int .i64 9007199254740991, .bool false, .bool false, .string ⟨#[]⟩] := o3
    have x3 := x02.offNew f3 (by omega)
    clear o2
    ((conv=>whnf);repeat((first|(with_reducible first|refine Z1 ?_|refine Z2 ?_|refine Z3 ?_|refine Z4 ?_|refine Z5 ?_|refine Z9 (by assumption) rfl ?_|refine ZA (by assumption) rfl ?_|refine ZB (by assumption) rfl ?_|refine Z6 ?_|refine Z7 ?_|refine Z8 ?_)|((with_reducible refine ZM ?_ ?_);(focus rfl)));(conv=>whnf)))
    refine store_blk o3 (by simp) (by simp [isOne]) ?_
    intro h4 f4 z4 o4
    replace o4 : BlkW h4 bf 58 [.string ⟨#[]⟩, .int .i64 9007199254740991, .bool false, .bool false, .string ⟨#[]⟩] := by simpa using o4
    clear o3
    ((conv=>whnf);repeat((first|(with_reducible first|refine Z1 ?_|refine Z2 ?_|refine Z3 ?_|refine Z4 ?_|refine Z5 ?_|refine Z9 (by assumption) rfl ?_|refine ZA (by assumption) rfl ?_|refine ZB (by assumption) rfl ?_|refine Z6 ?_|refine Z7 ?_|refine Z8 ?_)|((with_reducible refine ZM ?_ ?_);(focus rfl)));(conv=>whnf)))
    exact ⟨⟨[.string ⟨#[]⟩, .int .i64 9007199254740991, .bool false, .bool false, .string ⟨#[]⟩], rfl, ⟨rfl, by simp [isOne]⟩, fun f hf => by cases hf; rfl⟩, x3.offNew f4 (by omega)⟩
  by_cases hk2 : k = 2
  · subst hk2
    ((conv=>whnf);repeat((first|(with_reducible first|refine Z1 ?_|refine Z2 ?_|refine Z3 ?_|refine Z4 ?_|refine Z5 ?_|refine Z9 (by assumption) rfl ?_|refine ZA (by assumption) rfl ?_|refine ZB (by assumption) rfl ?_|refine Z6 ?_|refine Z7 ?_|refine Z8 ?_)|((with_reducible refine ZM ?_ ?_);(focus rfl)));(conv=>whnf)))
    refine blk_st (o := 2) o2 (by simp) rfl ?_
    intro h3 f3 z3 o3
    replace o3 : BlkW h3 bf 58 [.string ⟨#[]⟩, .int .i64 0, .bool true, .bool false, .string ⟨#[]⟩] := o3
    have x3 := x02.offNew f3 (by omega)
    clear o2
    ((conv=>whnf);repeat((first|(with_reducible first|refine Z1 ?_|refine Z2 ?_|refine Z3 ?_|refine Z4 ?_|refine Z5 ?_|refine Z9 (by assumption) rfl ?_|refine ZA (by assumption) rfl ?_|refine ZB (by assumption) rfl ?_|refine Z6 ?_|refine Z7 ?_|refine Z8 ?_)|((with_reducible refine ZM ?_ ?_);(focus rfl)));(conv=>whnf)))
    refine store_blk o3 (by simp) (by simp [isOne]) ?_
    intro h4 f4 z4 o4
    replace o4 : BlkW h4 bf 58 [.string ⟨#[]⟩, .int .i64 0, .bool true, .bool false, .string ⟨#[]⟩] := by simpa using o4
    clear o3
    ((conv=>whnf);repeat((first|(with_reducible first|refine Z1 ?_|refine Z2 ?_|refine Z3 ?_|refine Z4 ?_|refine Z5 ?_|refine Z9 (by assumption) rfl ?_|refine ZA (by assumption) rfl ?_|refine ZB (by assumption) rfl ?_|refine Z6 ?_|refine Z7 ?_|refine Z8 ?_)|((with_reducible refine ZM ?_ ?_);(focus rfl)));(conv=>whnf)))
    exact ⟨⟨[.string ⟨#[]⟩, .int .i64 0, .bool true, .bool false, .string ⟨#[]⟩], rfl, ⟨rfl, by simp [isOne]⟩, fun f hf => by cases hf; rfl⟩, x3.offNew f4 (by omega)⟩
  by_cases hk3 : k = 3
  · subst hk3
    ((conv=>whnf);repeat((first|(with_reducible first|refine Z1 ?_|refine Z2 ?_|refine Z3 ?_|refine Z4 ?_|refine Z5 ?_|refine Z9 (by assumption) rfl ?_|refine ZA (by assumption) rfl ?_|refine ZB (by assumption) rfl ?_|refine Z6 ?_|refine Z7 ?_|refine Z8 ?_)|((with_reducible refine ZM ?_ ?_);(focus rfl)));(conv=>whnf)))
    refine blk_st (o := 0) o2 (by simp) rfl ?_
    intro h3 f3 z3 o3
    replace o3 : BlkW h3 bf 58 [.string ⟨#[110]⟩, .int .i64 0, .bool false, .bool false, .string ⟨#[]⟩] := o3
    have x3 := x02.offNew f3 (by omega)
    clear o2
    ((conv=>whnf);repeat((first|(with_reducible first|refine Z1 ?_|refine Z2 ?_|refine Z3 ?_|refine Z4 ?_|refine Z5 ?_|refine Z9 (by assumption) rfl ?_|refine ZA (by assumption) rfl ?_|refine ZB (by assumption) rfl ?_|refine Z6 ?_|refine Z7 ?_|refine Z8 ?_)|((with_reducible refine ZM ?_ ?_);(focus rfl)));(conv=>whnf)))
    refine store_blk o3 (by simp) (by simp [isOne]) ?_
    intro h4 f4 z4 o4
    replace o4 : BlkW h4 bf 58 [.string ⟨#[110]⟩, .int .i64 0, .bool false, .bool false, .string ⟨#[]⟩] := by simpa using o4
    clear o3
    ((conv=>whnf);repeat((first|(with_reducible first|refine Z1 ?_|refine Z2 ?_|refine Z3 ?_|refine Z4 ?_|refine Z5 ?_|refine Z9 (by assumption) rfl ?_|refine ZA (by assumption) rfl ?_|refine ZB (by assumption) rfl ?_|refine Z6 ?_|refine Z7 ?_|refine Z8 ?_)|((with_reducible refine ZM ?_ ?_);(focus rfl)));(conv=>whnf)))
    exact ⟨⟨[.string ⟨#[110]⟩, .int .i64 0, .bool false, .bool false, .string ⟨#[]⟩], rfl, ⟨rfl, by simp [isOne]⟩, fun f hf => by cases hf; rfl⟩, x3.offNew f4 (by omega)⟩
  by_cases hk4 : k = 4
  · subst hk4
    ((conv=>whnf);repeat((first|(with_reducible first|refine Z1 ?_|refine Z2 ?_|refine Z3 ?_|refine Z4 ?_|refine Z5 ?_|refine Z9 (by assumption) rfl ?_|refine ZA (by assumption) rfl ?_|refine ZB (by assumption) rfl ?_|refine Z6 ?_|refine Z7 ?_|refine Z8 ?_)|((with_reducible refine ZM ?_ ?_);(focus rfl)));(conv=>whnf)))
    refine store_blk o2 (by simp) (by simp [isOne]) ?_
    intro h3 f3 z3 o3
    replace o3 : BlkW h3 bf 58 [.string ⟨#[]⟩, .int .i64 0, .bool false, .bool false, .string ⟨#[]⟩] := by simpa using o3
    clear o2
    ((conv=>whnf);repeat((first|(with_reducible first|refine Z1 ?_|refine Z2 ?_|refine Z3 ?_|refine Z4 ?_|refine Z5 ?_|refine Z9 (by assumption) rfl ?_|refine ZA (by assumption) rfl ?_|refine ZB (by assumption) rfl ?_|refine Z6 ?_|refine Z7 ?_|refine Z8 ?_)|((with_reducible refine ZM ?_ ?_);(focus rfl)));(conv=>whnf)))
    exact ⟨⟨[.string ⟨#[]⟩, .int .i64 0, .bool false, .bool false, .string ⟨#[]⟩], rfl, ⟨rfl, by simp [isOne]⟩, fun f hf => by cases hf; rfl⟩, x02.offNew f3 (by omega)⟩
  by_cases hk5 : k = 5
  · subst hk5
    ((conv=>whnf);repeat((first|(with_reducible first|refine Z1 ?_|refine Z2 ?_|refine Z3 ?_|refine Z4 ?_|refine Z5 ?_|refine Z9 (by assumption) rfl ?_|refine ZA (by assumption) rfl ?_|refine ZB (by assumption) rfl ?_|refine Z6 ?_|refine Z7 ?_|refine Z8 ?_)|((with_reducible refine ZM ?_ ?_);(focus rfl)));(conv=>whnf)))
    refine store_blk o2 (by simp) (by simp [isOne]) ?_
    intro h3 f3 z3 o3
    replace o3 : BlkW h3 bf 58 [.string ⟨#[]⟩, .int .i64 0, .bool false, .bool false, .string ⟨#[]⟩] := by simpa using o3
    clear o2
    ((conv=>whnf);repeat((first|(with_reducible first|refine Z1 ?_|refine Z2 ?_|refine Z3 ?_|refine Z4 ?_|refine Z5 ?_|refine Z9 (by assumption) rfl ?_|refine ZA (by assumption) rfl ?_|refine ZB (by assumption) rfl ?_|refine Z6 ?_|refine Z7 ?_|refine Z8 ?_)|((with_reducible refine ZM ?_ ?_);(focus rfl)));(conv=>whnf)))
    exact ⟨⟨[.string ⟨#[]⟩, .int .i64 0, .bool false, .bool false, .string ⟨#[]⟩], rfl, ⟨rfl, by simp [isOne]⟩, fun f hf => by cases hf; rfl⟩, x02.offNew f3 (by omega)⟩
  by_cases hk6 : k = 6
  · subst hk6
    ((conv=>whnf);repeat((first|(with_reducible first|refine Z1 ?_|refine Z2 ?_|refine Z3 ?_|refine Z4 ?_|refine Z5 ?_|refine Z9 (by assumption) rfl ?_|refine ZA (by assumption) rfl ?_|refine ZB (by assumption) rfl ?_|refine Z6 ?_|refine Z7 ?_|refine Z8 ?_)|((with_reducible refine ZM ?_ ?_);(focus rfl)));(conv=>whnf)))
    refine blk_st (o := 1) o2 (by simp) rfl ?_
    intro h3 f3 z3 o3
    replace o3 : BlkW h3 bf 58 [.string ⟨#[]⟩, .int .i64 1, .bool false, .bool false, .string ⟨#[]⟩] := o3
    have x3 := x02.offNew f3 (by omega)
    clear o2
    ((conv=>whnf);repeat((first|(with_reducible first|refine Z1 ?_|refine Z2 ?_|refine Z3 ?_|refine Z4 ?_|refine Z5 ?_|refine Z9 (by assumption) rfl ?_|refine ZA (by assumption) rfl ?_|refine ZB (by assumption) rfl ?_|refine Z6 ?_|refine Z7 ?_|refine Z8 ?_)|((with_reducible refine ZM ?_ ?_);(focus rfl)));(conv=>whnf)))
    refine store_blk o3 (by simp) (by simp [isOne]) ?_
    intro h4 f4 z4 o4
    replace o4 : BlkW h4 bf 58 [.string ⟨#[]⟩, .int .i64 1, .bool false, .bool false, .string ⟨#[]⟩] := by simpa using o4
    clear o3
    ((conv=>whnf);repeat((first|(with_reducible first|refine Z1 ?_|refine Z2 ?_|refine Z3 ?_|refine Z4 ?_|refine Z5 ?_|refine Z9 (by assumption) rfl ?_|refine ZA (by assumption) rfl ?_|refine ZB (by assumption) rfl ?_|refine Z6 ?_|refine Z7 ?_|refine Z8 ?_)|((with_reducible refine ZM ?_ ?_);(focus rfl)));(conv=>whnf)))
    exact ⟨⟨[.string ⟨#[]⟩, .int .i64 1, .bool false, .bool false, .string ⟨#[]⟩], rfl, ⟨rfl, by simp [isOne]⟩, fun f hf => by cases hf; rfl⟩, x3.offNew f4 (by omega)⟩
  by_cases hk7 : k = 7
  · subst hk7
    ((conv=>whnf);repeat((first|(with_reducible first|refine Z1 ?_|refine Z2 ?_|refine Z3 ?_|refine Z4 ?_|refine Z5 ?_|refine Z9 (by assumption) rfl ?_|refine ZA (by assumption) rfl ?_|refine ZB (by assumption) rfl ?_|refine Z6 ?_|refine Z7 ?_|refine Z8 ?_)|((with_reducible refine ZM ?_ ?_);(focus rfl)));(conv=>whnf)))
    refine blk_st (o := 4) o2 (by simp) rfl ?_
    intro h3 f3 z3 o3
    replace o3 : BlkW h3 bf 58 [.string ⟨#[]⟩, .int .i64 0, .bool false, .bool false, .string ⟨#[42, 101]⟩] := o3
    have x3 := x02.offNew f3 (by omega)
    clear o2
    ((conv=>whnf);repeat((first|(with_reducible first|refine Z1 ?_|refine Z2 ?_|refine Z3 ?_|refine Z4 ?_|refine Z5 ?_|refine Z9 (by assumption) rfl ?_|refine ZA (by assumption) rfl ?_|refine ZB (by assumption) rfl ?_|refine Z6 ?_|refine Z7 ?_|refine Z8 ?_)|((with_reducible refine ZM ?_ ?_);(focus rfl)));(conv=>whnf)))
    refine store_blk o3 (by simp) (by simp [isOne]) ?_
    intro h4 f4 z4 o4
    replace o4 : BlkW h4 bf 58 [.string ⟨#[]⟩, .int .i64 0, .bool false, .bool false, .string ⟨#[42, 101]⟩] := by simpa using o4
    clear o3
    ((conv=>whnf);repeat((first|(with_reducible first|refine Z1 ?_|refine Z2 ?_|refine Z3 ?_|refine Z4 ?_|refine Z5 ?_|refine Z9 (by assumption) rfl ?_|refine ZA (by assumption) rfl ?_|refine ZB (by assumption) rfl ?_|refine Z6 ?_|refine Z7 ?_|refine Z8 ?_)|((with_reducible refine ZM ?_ ?_);(focus rfl)));(conv=>whnf)))
    exact ⟨⟨[.string ⟨#[]⟩, .int .i64 0, .bool false, .bool false, .string ⟨#[42, 101]⟩], rfl, ⟨rfl, by simp [isOne]⟩, fun f hf => by cases hf; rfl⟩, x3.offNew f4 (by omega)⟩
  by_cases hk8 : k = 8
  · subst hk8
    ((conv=>whnf);repeat((first|(with_reducible first|refine Z1 ?_|refine Z2 ?_|refine Z3 ?_|refine Z4 ?_|refine Z5 ?_|refine Z9 (by assumption) rfl ?_|refine ZA (by assumption) rfl ?_|refine ZB (by assumption) rfl ?_|refine Z6 ?_|refine Z7 ?_|refine Z8 ?_)|((with_reducible refine ZM ?_ ?_);(focus rfl)));(conv=>whnf)))
    refine blk_st (o := 4) o2 (by simp) rfl ?_
    intro h3 f3 z3 o3
    replace o3 : BlkW h3 bf 58 [.string ⟨#[]⟩, .int .i64 0, .bool false, .bool false, .string ⟨#[42, 112]⟩] := o3
    have x3 := x02.offNew f3 (by omega)
    clear o2
    ((conv=>whnf);repeat((first|(with_reducible first|refine Z1 ?_|refine Z2 ?_|refine Z3 ?_|refine Z4 ?_|refine Z5 ?_|refine Z9 (by assumption) rfl ?_|refine ZA (by assumption) rfl ?_|refine ZB (by assumption) rfl ?_|refine Z6 ?_|refine Z7 ?_|refine Z8 ?_)|((with_reducible refine ZM ?_ ?_);(focus rfl)));(conv=>whnf)))
    refine store_blk o3 (by simp) (by simp [isOne]) ?_
    intro h4 f4 z4 o4
    replace o4 : BlkW h4 bf 58 [.string ⟨#[]⟩, .int .i64 0, .bool false, .bool false, .string ⟨#[42, 112]⟩] := by simpa using o4
    clear o3
    ((conv=>whnf);repeat((first|(with_reducible first|refine Z1 ?_|refine Z2 ?_|refine Z3 ?_|refine Z4 ?_|refine Z5 ?_|refine Z9 (by assumption) rfl ?_|refine ZA (by assumption) rfl ?_|refine ZB (by assumption) rfl ?_|refine Z6 ?_|refine Z7 ?_|refine Z8 ?_)|((with_reducible refine ZM ?_ ?_);(focus rfl)));(conv=>whnf)))
    exact ⟨⟨[.string ⟨#[]⟩, .int .i64 0, .bool false, .bool false, .string ⟨#[42, 112]⟩], rfl, ⟨rfl, by simp [isOne]⟩, fun f hf => by cases hf; rfl⟩, x3.offNew f4 (by omega)⟩
  by_cases hk9 : k = 9
  · subst hk9
    ((conv=>whnf);repeat((first|(with_reducible first|refine Z1 ?_|refine Z2 ?_|refine Z3 ?_|refine Z4 ?_|refine Z5 ?_|refine Z9 (by assumption) rfl ?_|refine ZA (by assumption) rfl ?_|refine ZB (by assumption) rfl ?_|refine Z6 ?_|refine Z7 ?_|refine Z8 ?_)|((with_reducible refine ZM ?_ ?_);(focus rfl)));(conv=>whnf)))
    refine blk_st (o := 2) o2 (by simp) rfl ?_
    intro h3 f3 z3 o3
    replace o3 : BlkW h3 bf 58 [.string ⟨#[]⟩, .int .i64 0, .bool true, .bool false, .string ⟨#[]⟩] := o3
    have x3 := x02.offNew f3 (by omega)
    clear o2
    ((conv=>whnf);repeat((first|(with_reducible first|refine Z1 ?_|refine Z2 ?_|refine Z3 ?_|refine Z4 ?_|refine Z5 ?_|refine Z9 (by assumption) rfl ?_|refine ZA (by assumption) rfl ?_|refine ZB (by assumption) rfl ?_|refine Z6 ?_|refine Z7 ?_|refine Z8 ?_)|((with_reducible refine ZM ?_ ?_);(focus rfl)));(conv=>whnf)))
    refine blk_st (o := 4) o3 (by simp) rfl ?_
    intro h4 f4 z4 o4
    replace o4 : BlkW h4 bf 58 [.string ⟨#[]⟩, .int .i64 0, .bool true, .bool false, .string ⟨#[101]⟩] := o4
    have x4 := x3.offNew f4 (by omega)
    clear o3
    ((conv=>whnf);repeat((first|(with_reducible first|refine Z1 ?_|refine Z2 ?_|refine Z3 ?_|refine Z4 ?_|refine Z5 ?_|refine Z9 (by assumption) rfl ?_|refine ZA (by assumption) rfl ?_|refine ZB (by assumption) rfl ?_|refine Z6 ?_|refine Z7 ?_|refine Z8 ?_)|((with_reducible refine ZM ?_ ?_);(focus rfl)));(conv=>whnf)))
    refine store_blk o4 (by simp) (by simp [isOne]) ?_
    intro h5 f5 z5 o5
    replace o5 : BlkW h5 bf 58 [.string ⟨#[]⟩, .int .i64 0, .bool true, .bool false, .string ⟨#[101]⟩] := by simpa using o5
    clear o4
    ((conv=>whnf);repeat((first|(with_reducible first|refine Z1 ?_|refine Z2 ?_|refine Z3 ?_|refine Z4 ?_|refine Z5 ?_|refine Z9 (by assumption) rfl ?_|refine ZA (by assumption) rfl ?_|refine ZB (by assumption) rfl ?_|refine Z6 ?_|refine Z7 ?_|refine Z8 ?_)|((with_reducible refine ZM ?_ ?_);(focus rfl)));(conv=>whnf)))
    exact ⟨⟨[.string ⟨#[]⟩, .int .i64 0, .bool true, .bool false, .string ⟨#[101]⟩], rfl, ⟨rfl, by simp [isOne]⟩, fun f hf => by cases hf; rfl⟩, x4.offNew f5 (by omega)⟩
  by_cases hk10 : k = 10
  · subst hk10
    ((conv=>whnf);repeat((first|(with_reducible first|refine Z1 ?_|refine Z2 ?_|refine Z3 ?_|refine Z4 ?_|refine Z5 ?_|refine Z9 (by assumption) rfl ?_|refine ZA (by assumption) rfl ?_|refine ZB (by assumption) rfl ?_|refine Z6 ?_|refine Z7 ?_|refine Z8 ?_)|((with_reducible refine ZM ?_ ?_);(focus rfl)));(conv=>whnf)))
    refine blk_st (o := 0) o2 (by simp) rfl ?_
    intro h3 f3 z3 o3
    replace o3 : BlkW h3 bf 58 [.string ⟨#[109]⟩, .int .i64 0, .bool false, .bool false, .string ⟨#[]⟩] := o3
    have x3 := x02.offNew f3 (by omega)
    clear o2
    ((conv=>whnf);repeat((first|(with_reducible first|refine Z1 ?_|refine Z2 ?_|refine Z3 ?_|refine Z4 ?_|refine Z5 ?_|refine Z9 (by assumption) rfl ?_|refine ZA (by assumption) rfl ?_|refine ZB (by assumption) rfl ?_|refine Z6 ?_|refine Z7 ?_|refine Z8 ?_)|((with_reducible refine ZM ?_ ?_);(focus rfl)));(conv=>whnf)))
    refine blk_st (o := 3) o3 (by simp) rfl ?_
    intro h4 f4 z4 o4
    replace o4 : BlkW h4 bf 58 [.string ⟨#[109]⟩, .int .i64 0, .bool false, .bool true, .string ⟨#[]⟩] := o4
    have x4 := x3.offNew f4 (by omega)
    clear o3
    ((conv=>whnf);repeat((first|(with_reducible first|refine Z1 ?_|refine Z2 ?_|refine Z3 ?_|refine Z4 ?_|refine Z5 ?_|refine Z9 (by assumption) rfl ?_|refine ZA (by assumption) rfl ?_|refine ZB (by assumption) rfl ?_|refine Z6 ?_|refine Z7 ?_|refine Z8 ?_)|((with_reducible refine ZM ?_ ?_);(focus rfl)));(conv=>whnf)))
    refine blk_st (o := 4) o4 (by simp) rfl ?_
    intro h5 f5 z5 o5
    replace o5 : BlkW h5 bf 58 [.string ⟨#[109]⟩, .int .i64 0, .bool false, .bool true, .string ⟨#[42, 120]⟩] := o5
    have x5 := x4.offNew f5 (by omega)
    clear o4
    ((conv=>whnf);repeat((first|(with_reducible first|refine Z1 ?_|refine Z2 ?_|refine Z3 ?_|refine Z4 ?_|refine Z5 ?_|refine Z9 (by assumption) rfl ?_|refine ZA (by assumption) rfl ?_|refine ZB (by assumption) rfl ?_|refine Z6 ?_|refine Z7 ?_|refine Z8 ?_)|((with_reducible refine ZM ?_ ?_);(focus rfl)));(conv=>whnf)))
    refine store_blk o5 (by simp) (by simp [isOne]) ?_
    intro h6 f6 z6 o6
    replace o6 : BlkW h6 bf 58 [.string ⟨#[109]⟩, .int .i64 0, .bool false, .bool true, .string ⟨#[42, 120]⟩] := by simpa using o6
    clear o5
    ((conv=>whnf);repeat((first|(with_reducible first|refine Z1 ?_|refine Z2 ?_|refine Z3 ?_|refine Z4 ?_|refine Z5 ?_|refine Z9 (by assumption) rfl ?_|refine ZA (by assumption) rfl ?_|refine ZB (by assumption) rfl ?_|refine Z6 ?_|refine Z7 ?_|refine Z8 ?_)|((with_reducible refine ZM ?_ ?_);(focus rfl)));(conv=>whnf)))
    exact ⟨⟨[.string ⟨#[109]⟩, .int .i64 0, .bool false, .bool true, .string ⟨#[42, 120]⟩], rfl, ⟨rfl, by simp [isOne]⟩, fun f hf => by cases hf; rfl⟩, x5.offNew f6 (by omega)⟩
  by_cases hk11 : k = 11
  · subst hk11
    ((conv=>whnf);repeat((first|(with_reducible first|refine Z1 ?_|refine Z2 ?_|refine Z3 ?_|refine Z4 ?_|refine Z5 ?_|refine Z9 (by assumption) rfl ?_|refine ZA (by assumption) rfl ?_|refine ZB (by assumption) rfl ?_|refine Z6 ?_|refine Z7 ?_|refine Z8 ?_)|((with_reducible refine ZM ?_ ?_);(focus rfl)));(conv=>whnf)))
    refine blk_st (o := 0) o2 (by simp) rfl ?_
    intro h3 f3 z3 o3
    replace o3 : BlkW h3 bf 58 [.string ⟨#[105]⟩, .int .i64 0, .bool false, .bool false, .string ⟨#[]⟩] := o3
    have x3 := x02.offNew f3 (by omega)
    clear o2
    ((conv=>whnf);repeat((first|(with_reducible first|refine Z1 ?_|refine Z2 ?_|refine Z3 ?_|refine Z4 ?_|refine Z5 ?_|refine Z9 (by assumption) rfl ?_|refine ZA (by assumption) rfl ?_|refine ZB (by assumption) rfl ?_|refine Z6 ?_|refine Z7 ?_|refine Z8 ?_)|((with_reducible refine ZM ?_ ?_);(focus rfl)));(conv=>whnf)))
    refine blk_st (o := 4) o3 (by simp) rfl ?_
    intro h4 f4 z4 o4
    replace o4 : BlkW h4 bf 58 [.string ⟨#[105]⟩, .int .i64 0, .bool false, .bool false, .string ⟨#[101]⟩] := o4
    have x4 := x3.offNew f4 (by omega)
    clear o3
    ((conv=>whnf);repeat((first|(with_reducible first|refine Z1 ?_|refine Z2 ?_|refine Z3 ?_|refine Z4 ?_|refine Z5 ?_|refine Z9 (by assumption) rfl ?_|refine ZA (by assumption) rfl ?_|refine ZB (by assumption) rfl ?_|refine Z6 ?_|refine Z7 ?_|refine Z8 ?_)|((with_reducible refine ZM ?_ ?_);(focus rfl)));(conv=>whnf)))
    refine store_blk o4 (by simp) (by simp [isOne]) ?_
    intro h5 f5 z5 o5
    replace o5 : BlkW h5 bf 58 [.string ⟨#[105]⟩, .int .i64 0, .bool false, .bool false, .string ⟨#[101]⟩] := by simpa using o5
    clear o4
    ((conv=>whnf);repeat((first|(with_reducible first|refine Z1 ?_|refine Z2 ?_|refine Z3 ?_|refine Z4 ?_|refine Z5 ?_|refine Z9 (by assumption) rfl ?_|refine ZA (by assumption) rfl ?_|refine ZB (by assumption) rfl ?_|refine Z6 ?_|refine Z7 ?_|refine Z8 ?_)|((with_reducible refine ZM ?_ ?_);(focus rfl)));(conv=>whnf)))
    exact ⟨⟨[.string ⟨#[105]⟩, .int .i64 0, .bool false, .bool false, .string ⟨#[101]⟩], rfl, ⟨rfl, by simp [isOne]⟩, fun f hf => by cases hf; rfl⟩, x4.offNew f5 (by omega)⟩
  by_cases hk12 : k = 12
  · subst hk12
    ((conv=>whnf);repeat((first|(with_reducible first|refine Z1 ?_|refine Z2 ?_|refine Z3 ?_|refine Z4 ?_|refine Z5 ?_|refine Z9 (by assumption) rfl ?_|refine ZA (by assumption) rfl ?_|refine ZB (by assumption) rfl ?_|refine Z6 ?_|refine Z7 ?_|refine Z8 ?_)|((with_reducible refine ZM ?_ ?_);(focus rfl)));(conv=>whnf)))
    refine blk_st (o := 4) o2 (by simp) rfl ?_
    intro h3 f3 z3 o3
    replace o3 : BlkW h3 bf 58 [.string ⟨#[]⟩, .int .i64 0, .bool false, .bool false, .string ⟨#[101, 101]⟩] := o3
    have x3 := x02.offNew f3 (by omega)
    clear o2
    ((conv=>whnf);repeat((first|(with_reducible first|refine Z1 ?_|refine Z2 ?_|refine Z3 ?_|refine Z4 ?_|refine Z5 ?_|refine Z9 (by assumption) rfl ?_|refine ZA (by assumption) rfl ?_|refine ZB (by assumption) rfl ?_|refine Z6 ?_|refine Z7 ?_|refine Z8 ?_)|((with_reducible refine ZM ?_ ?_);(focus rfl)));(conv=>whnf)))
    refine store_blk o3 (by simp) (by simp [isOne]) ?_
    intro h4 f4 z4 o4
    replace o4 : BlkW h4 bf 58 [.string ⟨#[]⟩, .int .i64 0, .bool false, .bool false, .string ⟨#[101, 101]⟩] := by simpa using o4
    clear o3
    ((conv=>whnf);repeat((first|(with_reducible first|refine Z1 ?_|refine Z2 ?_|refine Z3 ?_|refine Z4 ?_|refine Z5 ?_|refine Z9 (by assumption) rfl ?_|refine ZA (by assumption) rfl ?_|refine ZB (by assumption) rfl ?_|refine Z6 ?_|refine Z7 ?_|refine Z8 ?_)|((with_reducible refine ZM ?_ ?_);(focus rfl)));(conv=>whnf)))
    exact ⟨⟨[.string ⟨#[]⟩, .int .i64 0, .bool false, .bool false, .string ⟨#[101, 101]⟩], rfl, ⟨rfl, by simp [isOne]⟩, fun f hf => by cases hf; rfl⟩, x3.offNew f4 (by omega)⟩
  by_cases hk13 : k = 13
  · subst hk13
    ((conv=>whnf);repeat((first|(with_reducible first|refine Z1 ?_|refine Z2 ?_|refine Z3 ?_|refine Z4 ?_|refine Z5 ?_|refine Z9 (by assumption) rfl ?_|refine ZA (by assumption) rfl ?_|refine ZB (by assumption) rfl ?_|refine Z6 ?_|refine Z7 ?_|refine Z8 ?_)|((with_reducible refine ZM ?_ ?_);(focus rfl)));(conv=>whnf)))
    refine blk_st (o := 4) o2 (by simp) rfl ?_
    intro h3 f3 z3 o3
    replace o3 : BlkW h3 bf 58 [.string ⟨#[]⟩, .int .i64 0, .bool false, .bool false, .string ⟨#[101, 42, 101]⟩] := o3
    have x3 := x02.offNew f3 (by omega)
    clear o2
    ((conv=>whnf);repeat((first|(with_reducible first|refine Z1 ?_|refine Z2 ?_|refine Z3 ?_|refine Z4 ?_|refine Z5 ?_|refine Z9 (by assumption) rfl ?_|refine ZA (by assumption) rfl ?_|refine ZB (by assumption) rfl ?_|refine Z6 ?_|refine Z7 ?_|refine Z8 ?_)|((with_reducible refine ZM ?_ ?_);(focus rfl)));(conv=>whnf)))
    refine store_blk o3 (by simp) (by simp [isOne]) ?_
    intro h4 f4 z4 o4
    replace o4 : BlkW h4 bf 58 [.string ⟨#[]⟩, .int .i64 0, .bool false, .bool false, .string ⟨#[101, 42, 101]⟩] := by simpa using o4
    clear o3
    ((conv=>whnf);repeat((first|(with_reducible first|refine Z1 ?_|refine Z2 ?_|refine Z3 ?_|refine Z4 ?_|refine Z5 ?_|refine Z9 (by assumption) rfl ?_|refine ZA (by assumption) rfl ?_|refine ZB (by assumption) rfl ?_|refine Z6 ?_|refine Z7 ?_|refine Z8 ?_)|((with_reducible refine ZM ?_ ?_);(focus rfl)));(conv=>whnf)))
    exact ⟨⟨[.string ⟨#[]⟩, .int .i64 0, .bool false, .bool false, .string ⟨#[101, 42, 101]⟩], rfl, ⟨rfl, by simp [isOne]⟩, fun f hf => by cases hf; rfl⟩, x3.offNew f4 (by omega)⟩
  by_cases hk14 : k = 14
  · subst hk14
    ((conv=>whnf);repeat((first|(with_reducible first|refine Z1 ?_|refine Z2 ?_|refine Z3 ?_|refine Z4 ?_|refine Z5 ?_|refine Z9 (by assumption) rfl ?_|refine ZA (by assumption) rfl ?_|refine ZB (by assumption) rfl ?_|refine Z6 ?_|refine Z7 ?_|refine Z8 ?_)|((with_reducible refine ZM ?_ ?_);(focus rfl)));(conv=>whnf)))
    refine blk_st (o := 4) o2 (by simp) rfl ?_
    intro h3 f3 z3 o3
    replace o3 : BlkW h3 bf 58 [.string ⟨#[]⟩, .int .i64 0, .bool false, .bool false, .string ⟨#[101, 42, 101]⟩] := o3
    have x3 := x02.offNew f3 (by omega)
    clear o2
    ((conv=>whnf);repeat((first|(with_reducible first|refine Z1 ?_|refine Z2 ?_|refine Z3 ?_|refine Z4 ?_|refine Z5 ?_|refine Z9 (by assumption) rfl ?_|refine ZA (by assumption) rfl ?_|refine ZB (by assumption) rfl ?_|refine Z6 ?_|refine Z7 ?_|refine Z8 ?_)|((with_reducible refine ZM ?_ ?_);(focus rfl)));(conv=>whnf)))
    refine store_blk o3 (by simp) (by simp [isOne]) ?_
    intro h4 f4 z4 o4
    replace o4 : BlkW h4 bf 58 [.string ⟨#[]⟩, .int .i64 0, .bool false, .bool false, .string ⟨#[101, 42, 101]⟩] := by simpa using o4
    clear o3
    ((conv=>whnf);repeat((first|(with_reducible first|refine Z1 ?_|refine Z2 ?_|refine Z3 ?_|refine Z4 ?_|refine Z5 ?_|refine Z9 (by assumption) rfl ?_|refine ZA (by assumption) rfl ?_|refine ZB (by assumption) rfl ?_|refine Z6 ?_|refine Z7 ?_|refine Z8 ?_)|((with_reducible refine ZM ?_ ?_);(focus rfl)));(conv=>whnf)))
    exact ⟨⟨[.string ⟨#[]⟩, .int .i64 0, .bool false, .bool false, .string ⟨#[101, 42, 101]⟩], rfl, ⟨rfl, by simp [isOne]⟩, fun f hf => by cases hf; rfl⟩, x3.offNew f4 (by omega)⟩
  by_cases hk15 : k = 15
  · subst hk15
    ((conv=>whnf);repeat((first|(with_reducible first|refine Z1 ?_|refine Z2 ?_|refine Z3 ?_|refine Z4 ?_|refine Z5 ?_|refine Z9 (by assumption) rfl ?_|refine ZA (by assumption) rfl ?_|refine ZB (by assumption) rfl ?_|refine Z6 ?_|refine Z7 ?_|refine Z8 ?_)|((with_reducible refine ZM ?_ ?_);(focus rfl)));(conv=>whnf)))
    refine blk_st (o := 0) o2 (by simp) rfl ?_
    intro h3 f3 z3 o3
    replace o3 : BlkW h3 bf 58 [.string ⟨#[32, 45, 32, 43, 32, 33, 32, 116, 121, 112, 101, 111, 102, 32, 100, 101, 108, 101, 116, 101, 32, 118, 111, 105, 100, 32]⟩, .int .i64 0, .bool false, .bool false, .string ⟨#[]⟩] := o3
    have x3 := x02.offNew f3 (by omega)
    clear o2
    ((conv=>whnf);repeat((first|(with_reducible first|refine Z1 ?_|refine Z2 ?_|refine Z3 ?_|refine Z4 ?_|refine Z5 ?_|refine Z9 (by assumption) rfl ?_|refine ZA (by assumption) rfl ?_|refine ZB (by assumption) rfl ?_|refine Z6 ?_|refine Z7 ?_|refine Z8 ?_)|((with_reducible refine ZM ?_ ?_);(focus rfl)));(conv=>whnf)))
    refine blk_st (o := 4) o3 (by simp) rfl ?_
    intro h4 f4 z4 o4
    replace o4 : BlkW h4 bf 58 [.string ⟨#[32, 45, 32, 43, 32, 33, 32, 116, 121, 112, 101, 111, 102, 32, 100, 101, 108, 101, 116, 101, 32, 118, 111, 105, 100, 32]⟩, .int .i64 0, .bool false, .bool false, .string ⟨#[101]⟩] := o4
    have x4 := x3.offNew f4 (by omega)
    clear o3
    ((conv=>whnf);repeat((first|(with_reducible first|refine Z1 ?_|refine Z2 ?_|refine Z3 ?_|refine Z4 ?_|refine Z5 ?_|refine Z9 (by assumption) rfl ?_|refine ZA (by assumption) rfl ?_|refine ZB (by assumption) rfl ?_|refine Z6 ?_|refine Z7 ?_|refine Z8 ?_)|((with_reducible refine ZM ?_ ?_);(focus rfl)));(conv=>whnf)))
    refine store_blk o4 (by simp) (by simp [isOne]) ?_
    intro h5 f5 z5 o5
    replace o5 : BlkW h5 bf 58 [.string ⟨#[32, 45, 32, 43, 32, 33, 32, 116, 121, 112, 101, 111, 102, 32, 100, 101, 108, 101, 116, 101, 32, 118, 111, 105, 100, 32]⟩, .int .i64 0, .bool false, .bool false, .string ⟨#[101]⟩] := by simpa using o5
    clear o4
    ((conv=>whnf);repeat((first|(with_reducible first|refine Z1 ?_|refine Z2 ?_|refine Z3 ?_|refine Z4 ?_|refine Z5 ?_|refine Z9 (by assumption) rfl ?_|refine ZA (by assumption) rfl ?_|refine ZB (by assumption) rfl ?_|refine Z6 ?_|refine Z7 ?_|refine Z8 ?_)|((with_reducible refine ZM ?_ ?_);(focus rfl)));(conv=>whnf)))
    exact ⟨⟨[.string ⟨#[32, 45, 32, 43, 32, 33, 32, 116, 121, 112, 101, 111, 102, 32, 100, 101, 108, 101, 116, 101, 32, 118, 111, 105, 100, 32]⟩, .int .i64 0, .bool false, .bool false, .string ⟨#[101]⟩], rfl, ⟨rfl, by simp [isOne]⟩, fun f hf => by cases hf; rfl⟩, x4.offNew f5 (by omega)⟩
  by_cases hk16 : k = 16
  · subst hk16
    ((conv=>whnf);repeat((first|(with_reducible first|refine Z1 ?_|refine Z2 ?_|refine Z3 ?_|refine Z4 ?_|refine Z5 ?_|refine Z9 (by assumption) rfl ?_|refine ZA (by assumption) rfl ?_|refine ZB (by assumption) rfl ?_|refine Z6 ?_|refine Z7 ?_|refine Z8 ?_)|((with_reducible refine ZM ?_ ?_);(focus rfl)));(conv=>whnf)))
    refine blk_st (o := 0) o2 (by simp) rfl ?_
    intro h3 f3 z3 o3
    replace o3 : BlkW h3 bf 58 [.string ⟨#[32, 43, 43, 32, 45, 45, 32]⟩, .int .i64 0, .bool false, .bool false, .string ⟨#[]⟩] := o3
    have x3 := x02.offNew f3 (by omega)
    clear o2
    ((conv=>whnf);repeat((first|(with_reducible first|refine Z1 ?_|refine Z2 ?_|refine Z3 ?_|refine Z4 ?_|refine Z5 ?_|refine Z9 (by assumption) rfl ?_|refine ZA (by assumption) rfl ?_|refine ZB (by assumption) rfl ?_|refine Z6 ?_|refine Z7 ?_|refine Z8 ?_)|((with_reducible refine ZM ?_ ?_);(focus rfl)));(conv=>whnf)))
    refine blk_st (o := 1) o3 (by simp) rfl ?_
    intro h4 f4 z4 o4
    replace o4 : BlkW h4 bf 58 [.string ⟨#[32, 43, 43, 32, 45, 45, 32]⟩, .int .i64 1, .bool false, .bool false, .string ⟨#[]⟩] := o4
    have x4 := x3.offNew f4 (by omega)
    clear o3
    ((conv=>whnf);repeat((first|(with_reducible first|refine Z1 ?_|refine Z2 ?_|refine Z3 ?_|refine Z4 ?_|refine Z5 ?_|refine Z9 (by assumption) rfl ?_|refine ZA (by assumption) rfl ?_|refine ZB (by assumption) rfl ?_|refine Z6 ?_|refine Z7 ?_|refine Z8 ?_)|((with_reducible refine ZM ?_ ?_);(focus rfl)));(conv=>whnf)))
    refine blk_st (o := 4) o4 (by simp) rfl ?_
    intro h5 f5 z5 o5
    replace o5 : BlkW h5 bf 58 [.string ⟨#[32, 43, 43, 32, 45, 45, 32]⟩, .int .i64 1, .bool false, .bool false, .string ⟨#[116]⟩] := o5
    have x5 := x4.offNew f5 (by omega)
    clear o4
    ((conv=>whnf);repeat((first|(with_reducible first|refine Z1 ?_|refine Z2 ?_|refine Z3 ?_|refine Z4 ?_|refine Z5 ?_|refine Z9 (by assumption) rfl ?_|refine ZA (by assumption) rfl ?_|refine ZB (by assumption) rfl ?_|refine Z6 ?_|refine Z7 ?_|refine Z8 ?_)|((with_reducible refine ZM ?_ ?_);(focus rfl)));(conv=>whnf)))
    refine store_blk o5 (by simp) (by simp [isOne]) ?_
    intro h6 f6 z6 o6
    replace o6 : BlkW h6 bf 58 [.string ⟨#[32, 43, 43, 32, 45, 45, 32]⟩, .int .i64 1, .bool false, .bool false, .string ⟨#[116]⟩] := by simpa using o6
    clear o5
    ((conv=>whnf);repeat((first|(with_reducible first|refine Z1 ?_|refine Z2 ?_|refine Z3 ?_|refine Z4 ?_|refine Z5 ?_|refine Z9 (by assumption) rfl ?_|refine ZA (by assumption) rfl ?_|refine ZB (by assumption) rfl ?_|refine Z6 ?_|refine Z7 ?_|refine Z8 ?_)|((with_reducible refine ZM ?_ ?_);(focus rfl)));(conv=>whnf)))
    exact ⟨⟨[.string ⟨#[32, 43, 43, 32, 45, 45, 32]⟩, .int .i64 1, .bool false, .bool false, .string ⟨#[116]⟩], rfl, ⟨rfl, by simp [isOne]⟩, fun f hf => by cases hf; rfl⟩, x5.offNew f6 (by omega)⟩
  by_cases hk17 : k = 17
  · subst hk17
    ((conv=>whnf);repeat((first|(with_reducible first|refine Z1 ?_|refine Z2 ?_|refine Z3 ?_|refine Z4 ?_|refine Z5 ?_|refine Z9 (by assumption) rfl ?_|refine ZA (by assumption) rfl ?_|refine ZB (by assumption) rfl ?_|refine Z6 ?_|refine Z7 ?_|refine Z8 ?_)|((with_reducible refine ZM ?_ ?_);(focus rfl)));(conv=>whnf)))
    refine blk_st (o := 0) o2 (by simp) rfl ?_
    intro h3 f3 z3 o3
    replace o3 : BlkW h3 bf 58 [.string ⟨#[32, 43, 32, 45, 32, 42, 32, 47, 32, 37, 32, 60, 32, 62, 32, 60, 61, 32, 62, 61, 32, 61, 61, 32, 33, 61, 32, 61, 61, 61, 32, 33, 61, 61, 32, 105, 110, 32, 105, 110, 115, 116, 97, 110, 99, 101, 111, 102, 32]⟩, .int .i64 0, .bool false, .bool false, .string ⟨#[]⟩] := o3
    have x3 := x02.offNew f3 (by omega)
    clear o2
    ((conv=>whnf);repeat((first|(with_reducible first|refine Z1 ?_|refine Z2 ?_|refine Z3 ?_|refine Z4 ?_|refine Z5 ?_|refine Z9 (by assumption) rfl ?_|refine ZA (by assumption) rfl ?_|refine ZB (by assumption) rfl ?_|refine Z6 ?_|refine Z7 ?_|refine Z8 ?_)|((with_reducible refine ZM ?_ ?_);(focus rfl)));(conv=>whnf)))
    refine blk_st (o := 4) o3 (by simp) rfl ?_
    intro h4 f4 z4 o4
    replace o4 : BlkW h4 bf 58 [.string ⟨#[32, 43, 32, 45, 32, 42, 32, 47, 32, 37, 32, 60, 32, 62, 32, 60, 61, 32, 62, 61, 32, 61, 61, 32, 33, 61, 32, 61, 61, 61, 32, 33, 61, 61, 32, 105, 110, 32, 105, 110, 115, 116, 97, 110, 99, 101, 111, 102, 32]⟩, .int .i64 0, .bool false, .bool false, .string ⟨#[101, 101]⟩] := o4
    have x4 := x3.offNew f4 (by omega)
    clear o3
    ((conv=>whnf);repeat((first|(with_reducible first|refine Z1 ?_|refine Z2 ?_|refine Z3 ?_|refine Z4 ?_|refine Z5 ?_|refine Z9 (by assumption) rfl ?_|refine ZA (by assumption) rfl ?_|refine ZB (by assumption) rfl ?_|refine Z6 ?_|refine Z7 ?_|refine Z8 ?_)|((with_reducible refine ZM ?_ ?_);(focus rfl)));(conv=>whnf)))
    refine store_blk o4 (by simp) (by simp [isOne]) ?_
    intro h5 f5 z5 o5
    replace o5 : BlkW h5 bf 58 [.string ⟨#[32, 43, 32, 45, 32, 42, 32, 47, 32, 37, 32, 60, 32, 62, 32, 60, 61, 32, 62, 61, 32, 61, 61, 32, 33, 61, 32, 61, 61, 61, 32, 33, 61, 61, 32, 105, 110, 32, 105, 110, 115, 116, 97, 110, 99, 101, 111, 102, 32]⟩, .int .i64 0, .bool false, .bool false, .string ⟨#[101, 101]⟩] := by simpa using o5
    clear o4
    ((conv=>whnf);repeat((first|(with_reducible first|refine Z1 ?_|refine Z2 ?_|refine Z3 ?_|refine Z4 ?_|refine Z5 ?_|refine Z9 (by assumption) rfl ?_|refine ZA (by assumption) rfl ?_|refine ZB (by assumption) rfl ?_|refine Z6 ?_|refine Z7 ?_|refine Z8 ?_)|((with_reducible refine ZM ?_ ?_);(focus rfl)));(conv=>whnf)))
    exact ⟨⟨[.string ⟨#[32, 43, 32, 45, 32, 42, 32, 47, 32, 37, 32, 60, 32, 62, 32, 60, 61, 32, 62, 61, 32, 61, 61, 32, 33, 61, 32, 61, 61, 61, 32, 33, 61, 61, 32, 105, 110, 32, 105, 110, 115, 116, 97, 110, 99, 101, 111, 102, 32]⟩, .int .i64 0, .bool false, .bool false, .string ⟨#[101, 101]⟩], rfl, ⟨rfl, by simp [isOne]⟩, fun f hf => by cases hf; rfl⟩, x4.offNew f5 (by omega)⟩
  by_cases hk18 : k = 18
  · subst hk18
    ((conv=>whnf);repeat((first|(with_reducible first|refine Z1 ?_|refine Z2 ?_|refine Z3 ?_|refine Z4 ?_|refine Z5 ?_|refine Z9 (by assumption) rfl ?_|refine ZA (by assumption) rfl ?_|refine ZB (by assumption) rfl ?_|refine Z6 ?_|refine Z7 ?_|refine Z8 ?_)|((with_reducible refine ZM ?_ ?_);(focus rfl)));(conv=>whnf)))
    refine blk_st (o := 0) o2 (by simp) rfl ?_
    intro h3 f3 z3 o3
    replace o3 : BlkW h3 bf 58 [.string ⟨#[32, 38, 38, 32, 124, 124, 32]⟩, .int .i64 0, .bool false, .bool false, .string ⟨#[]⟩] := o3
    have x3 := x02.offNew f3 (by omega)
    clear o2
    ((conv=>whnf);repeat((first|(with_reducible first|refine Z1 ?_|refine Z2 ?_|refine Z3 ?_|refine Z4 ?_|refine Z5 ?_|refine Z9 (by assumption) rfl ?_|refine ZA (by assumption) rfl ?_|refine ZB (by assumption) rfl ?_|refine Z6 ?_|refine Z7 ?_|refine Z8 ?_)|((with_reducible refine ZM ?_ ?_);(focus rfl)));(conv=>whnf)))
    refine blk_st (o := 4) o3 (by simp) rfl ?_
    intro h4 f4 z4 o4
    replace o4 : BlkW h4 bf 58 [.string ⟨#[32, 38, 38, 32, 124, 124, 32]⟩, .int .i64 0, .bool false, .bool false, .string ⟨#[101, 101]⟩] := o4
    have x4 := x3.offNew f4 (by omega)
    clear o3
    ((conv=>whnf);repeat((first|(with_reducible first|refine Z1 ?_|refine Z2 ?_|refine Z3 ?_|refine Z4 ?_|refine Z5 ?_|refine Z9 (by assumption) rfl ?_|refine ZA (by assumption) rfl ?_|refine ZB (by assumption) rfl ?_|refine Z6 ?_|refine Z7 ?_|refine Z8 ?_)|((with_reducible refine ZM ?_ ?_);(focus rfl)));(conv=>whnf)))
    refine store_blk o4 (by simp) (by simp [isOne]) ?_
    intro h5 f5 z5 o5
    replace o5 : BlkW h5 bf 58 [.string ⟨#[32, 38, 38, 32, 124, 124, 32]⟩, .int .i64 0, .bool false, .bool false, .string ⟨#[101, 101]⟩] := by simpa using o5
    clear o4
    ((conv=>whnf);repeat((first|(with_reducible first|refine Z1 ?_|refine Z2 ?_|refine Z3 ?_|refine Z4 ?_|refine Z5 ?_|refine Z9 (by assumption) rfl ?_|refine ZA (by assumption) rfl ?_|refine ZB (by assumption) rfl ?_|refine Z6 ?_|refine Z7 ?_|refine Z8 ?_)|((with_reducible refine ZM ?_ ?_);(focus rfl)));(conv=>whnf)))
    exact ⟨⟨[.string ⟨#[32, 38, 38, 32, 124, 124, 32]⟩, .int .i64 0, .bool false, .bool false, .string ⟨#[101, 101]⟩], rfl, ⟨rfl, by simp [isOne]⟩, fun f hf => by cases hf; rfl⟩, x4.offNew f5 (by omega)⟩
  by_cases hk19 : k = 19
  · subst hk19
    ((conv=>whnf);repeat((first|(with_reducible first|refine Z1 ?_|refine Z2 ?_|refine Z3 ?_|refine Z4 ?_|refine Z5 ?_|refine Z9 (by assumption) rfl ?_|refine ZA (by assumption) rfl ?_|refine ZB (by assumption) rfl ?_|refine Z6 ?_|refine Z7 ?_|refine Z8 ?_)|((with_reducible refine ZM ?_ ?_);(focus rfl)));(conv=>whnf)))
    refine blk_st (o := 4) o2 (by simp) rfl ?_
    intro h3 f3 z3 o3
    replace o3 : BlkW h3 bf 58 [.string ⟨#[]⟩, .int .i64 0, .bool false, .bool false, .string ⟨#[101, 101, 101]⟩] := o3
    have x3 := x02.offNew f3 (by omega)
    clear o2
    ((conv=>whnf);repeat((first|(with_reducible first|refine Z1 ?_|refine Z2 ?_|refine Z3 ?_|refine Z4 ?_|refine Z5 ?_|refine Z9 (by assumption) rfl ?_|refine ZA (by assumption) rfl ?_|refine ZB (by assumption) rfl ?_|refine Z6 ?_|refine Z7 ?_|refine Z8 ?_)|((with_reducible refine ZM ?_ ?_);(focus rfl)));(conv=>whnf)))
    refine store_blk o3 (by simp) (by simp [isOne]) ?_
    intro h4 f4 z4 o4
    replace o4 : BlkW h4 bf 58 [.string ⟨#[]⟩, .int .i64 0, .bool false, .bool false, .string ⟨#[101, 101, 101]⟩] := by simpa using o4
    clear o3
    ((conv=>whnf);repeat((first|(with_reducible first|refine Z1 ?_|refine Z2 ?_|refine Z3 ?_|refine Z4 ?_|refine Z5 ?_|refine Z9 (by assumption) rfl ?_|refine ZA (by assumption) rfl ?_|refine ZB (by assumption) rfl ?_|refine Z6 ?_|refine Z7 ?_|refine Z8 ?_)|((with_reducible refine ZM ?_ ?_);(focus rfl)));(conv=>whnf)))
    exact ⟨⟨[.string ⟨#[]⟩, .int .i64 0, .bool false, .bool false, .string ⟨#[101, 101, 101]⟩], rfl, ⟨rfl, by simp [isOne]⟩, fun f hf => by cases hf; rfl⟩, x3.offNew f4 (by omega)⟩
  by_cases hk20 : k = 20
  · subst hk20
    ((conv=>whnf);repeat((first|(with_reducible first|refine Z1 ?_|refine Z2 ?_|refine Z3 ?_|refine Z4 ?_|refine Z5 ?_|refine Z9 (by assumption) rfl ?_|refine ZA (by assumption) rfl ?_|refine ZB (by assumption) rfl ?_|refine Z6 ?_|refine Z7 ?_|refine Z8 ?_)|((with_reducible refine ZM ?_ ?_);(focus rfl)));(conv=>whnf)))
    refine blk_st (o := 0) o2 (by simp) rfl ?_
    intro h3 f3 z3 o3
    replace o3 : BlkW h3 bf 58 [.string ⟨#[32, 61, 32, 43, 61, 32, 45, 61, 32, 42, 61, 32, 47, 61, 32, 37, 61, 32]⟩, .int .i64 0, .bool false, .bool false, .string ⟨#[]⟩] := o3
    have x3 := x02.offNew f3 (by omega)
    clear o2
    ((conv=>whnf);repeat((first|(with_reducible first|refine Z1 ?_|refine Z2 ?_|refine Z3 ?_|refine Z4 ?_|refine Z5 ?_|refine Z9 (by assumption) rfl ?_|refine ZA (by assumption) rfl ?_|refine ZB (by assumption) rfl ?_|refine Z6 ?_|refine Z7 ?_|refine Z8 ?_)|((with_reducible refine ZM ?_ ?_);(focus rfl)));(conv=>whnf)))
    refine blk_st (o := 4) o3 (by simp) rfl ?_
    intro h4 f4 z4 o4
    replace o4 : BlkW h4 bf 58 [.string ⟨#[32, 61, 32, 43, 61, 32, 45, 61, 32, 42, 61, 32, 47, 61, 32, 37, 61, 32]⟩, .int .i64 0, .bool false, .bool false, .string ⟨#[116, 101]⟩] := o4
    have x4 := x3.offNew f4 (by omega)
    clear o3
    ((conv=>whnf);repeat((first|(with_reducible first|refine Z1 ?_|refine Z2 ?_|refine Z3 ?_|refine Z4 ?_|refine Z5 ?_|refine Z9 (by assumption) rfl ?_|refine ZA (by assumption) rfl ?_|refine ZB (by assumption) rfl ?_|refine Z6 ?_|refine Z7 ?_|refine Z8 ?_)|((with_reducible refine ZM ?_ ?_);(focus rfl)));(conv=>whnf)))
    refine store_blk o4 (by simp) (by simp [isOne]) ?_
    intro h5 f5 z5 o5
    replace o5 : BlkW h5 bf 58 [.string ⟨#[32, 61, 32, 43, 61, 32, 45, 61, 32, 42, 61, 32, 47, 61, 32, 37, 61, 32]⟩, .int .i64 0, .bool false, .bool false, .string ⟨#[116, 101]⟩] := by simpa using o5
    clear o4
    ((conv=>whnf);repeat((first|(with_reducible first|refine Z1 ?_|refine Z2 ?_|refine Z3 ?_|refine Z4 ?_|refine Z5 ?_|refine Z9 (by assumption) rfl ?_|refine ZA (by assumption) rfl ?_|refine ZB (by assumption) rfl ?_|refine Z6 ?_|refine Z7 ?_|refine Z8 ?_)|((with_reducible refine ZM ?_ ?_);(focus rfl)));(conv=>whnf)))
    exact ⟨⟨[.string ⟨#[32, 61, 32, 43, 61, 32, 45, 61, 32, 42, 61, 32, 47, 61, 32, 37, 61, 32]⟩, .int .i64 0, .bool false, .bool false, .string ⟨#[116, 101]⟩], rfl, ⟨rfl, by simp [isOne]⟩, fun f hf => by cases hf; rfl⟩, x4.offNew f5 (by omega)⟩
  by_cases hk21 : k = 21
  · subst hk21
    ((conv=>whnf);repeat((first|(with_reducible first|refine Z1 ?_|refine Z2 ?_|refine Z3 ?_|refine Z4 ?_|refine Z5 ?_|refine Z9 (by assumption) rfl ?_|refine ZA (by assumption) rfl ?_|refine ZB (by assumption) rfl ?_|refine Z6 ?_|refine Z7 ?_|refine Z8 ?_)|((with_reducible refine ZM ?_ ?_);(focus rfl)));(conv=>whnf)))
    refine blk_st (o := 4) o2 (by simp) rfl ?_
    intro h3 f3 z3 o3
    replace o3 : BlkW h3 bf 58 [.string ⟨#[]⟩, .int .i64 0, .bool false, .bool false, .string ⟨#[101, 101]⟩] := o3
    have x3 := x02.offNew f3 (by omega)
    clear o2
    ((conv=>whnf);repeat((first|(with_reducible first|refine Z1 ?_|refine Z2 ?_|refine Z3 ?_|refine Z4 ?_|refine Z5 ?_|refine Z9 (by assumption) rfl ?_|refine ZA (by assumption) rfl ?_|refine ZB (by assumption) rfl ?_|refine Z6 ?_|refine Z7 ?_|refine Z8 ?_)|((with_reducible refine ZM ?_ ?_);(focus rfl)));(conv=>whnf)))
    refine store_blk o3 (by simp) (by simp [isOne]) ?_
    intro h4 f4 z4 o4
    replace o4 : BlkW h4 bf 58 [.string ⟨#[]⟩, .int .i64 0, .bool false, .bool false, .string ⟨#[101, 101]⟩] := by simpa using o4
    clear o3
    ((conv=>whnf);repeat((first|(with_reducible first|refine Z1 ?_|refine Z2 ?_|refine Z3 ?_|refine Z4 ?_|refine Z5 ?_|refine Z9 (by assumption) rfl ?_|refine ZA (by assumption) rfl ?_|refine ZB (by assumption) rfl ?_|refine Z6 ?_|refine Z7 ?_|refine Z8 ?_)|((with_reducible refine ZM ?_ ?_);(focus rfl)));(conv=>whnf)))
    exact ⟨⟨[.string ⟨#[]⟩, .int .i64 0, .bool false, .bool false, .string ⟨#[101, 101]⟩], rfl, ⟨rfl, by simp [isOne]⟩, fun f hf => by cases hf; rfl⟩, x3.offNew f4 (by omega)⟩
  by_cases hk40 : k = 40
  · subst hk40
    ((conv=>whnf);repeat((first|(with_reducible first|refine Z1 ?_|refine Z2 ?_|refine Z3 ?_|refine Z4 ?_|refine Z5 ?_|refine Z9 (by assumption) rfl ?_|refine ZA (by assumption) rfl ?_|refine ZB (by assumption) rfl ?_|refine Z6 ?_|refine Z7 ?_|refine Z8 ?_)|((with_reducible refine ZM ?_ ?_);(focus rfl)));(conv=>whnf)))
    refine store_blk o2 (by simp) (by simp [isOne]) ?_
    intro h3 f3 z3 o3
    replace o3 : BlkW h3 bf 58 [.string ⟨#[]⟩, .int .i64 0, .bool false, .bool false, .string ⟨#[]⟩] := by simpa using o3
    clear o2
    ((conv=>whnf);repeat((first|(with_reducible first|refine Z1 ?_|refine Z2 ?_|refine Z3 ?_|refine Z4 ?_|refine Z5 ?_|refine Z9 (by assumption) rfl ?_|refine ZA (by assumption) rfl ?_|refine ZB (by assumption) rfl ?_|refine Z6 ?_|refine Z7 ?_|refine Z8 ?_)|((with_reducible refine ZM ?_ ?_);(focus rfl)));(conv=>whnf)))
    exact ⟨⟨[.string ⟨#[]⟩, .int .i64 0, .bool false, .bool false, .string ⟨#[]⟩], rfl, ⟨rfl, by simp [isOne]⟩, fun f hf => by cases hf; rfl⟩, x02.offNew f3 (by omega)⟩
  by_cases hk42 : k = 42
  · subst hk42
    ((conv=>whnf);repeat((first|(with_reducible first|refine Z1 ?_|refine Z2 ?_|refine Z3 ?_|refine Z4 ?_|refine Z5 ?_|refine Z9 (by assumption) rfl ?_|refine ZA (by assumption) rfl ?_|refine ZB (by assumption) rfl ?_|refine Z6 ?_|refine Z7 ?_|refine Z8 ?_)|((with_reducible refine ZM ?_ ?_);(focus rfl)));(conv=>whnf)))
    refine store_blk o2 (by simp) (by simp [isOne]) ?_
    intro h3 f3 z3 o3
    replace o3 : BlkW h3 bf 58 [.string ⟨#[]⟩, .int .i64 0, .bool false, .bool false, .string ⟨#[]⟩] := by simpa using o3
    clear o2
    ((conv=>whnf);repeat((first|(with_reducible first|refine Z1 ?_|refine Z2 ?_|refine Z3 ?_|refine Z4 ?_|refine Z5 ?_|refine Z9 (by assumption) rfl ?_|refine ZA (by assumption) rfl ?_|refine ZB (by assumption) rfl ?_|refine Z6 ?_|refine Z7 ?_|refine Z8 ?_)|((with_reducible refine ZM ?_ ?_);(focus rfl)));(conv=>whnf)))
    exact ⟨⟨[.string ⟨#[]⟩, .int .i64 0, .bool false, .bool false, .string ⟨#[]⟩], rfl, ⟨rfl, by simp [isOne]⟩, fun f hf => by cases hf; rfl⟩, x02.offNew f3 (by omega)⟩
  have q1 : (k == 1) = false := beq_eq_false_iff_ne.2 hk1
  have q2 : (k == 2) = false := beq_eq_false_iff_ne.2 hk2
  have q3 : (k == 3) = false := beq_eq_false_iff_ne.2 hk3
  have q4 : (k == 4) = false := beq_eq_false_iff_ne.2 hk4
  have q5 : (k == 5) = false := beq_eq_false_iff_ne.2 hk5
  have q6 : (k == 6) = false := beq_eq_false_iff_ne.2 hk6
  have q7 : (k == 7) = false := beq_eq_false_iff_ne.2 hk7
  have q8 : (k == 8) = false := beq_eq_false_iff_ne.2 hk8
  have q9 : (k == 9) = false := beq_eq_false_iff_ne.2 hk9
  have q10 : (k == 10) = false := beq_eq_false_iff_ne.2 hk10
  have q11 : (k == 11) = false := beq_eq_false_iff_ne.2 hk11
  have q12 : (k == 12) = false := beq_eq_false_iff_ne.2 hk12
  have q13 : (k == 13) = false := beq_eq_false_iff_ne.2 hk13
  have q14 : (k == 14) = false := beq_eq_false_iff_ne.2 hk14
  have q15 : (k == 15) = false := beq_eq_false_iff_ne.2 hk15
  have q16 : (k == 16) = false := beq_eq_false_iff_ne.2 hk16
  have q17 : (k == 17) = false := beq_eq_false_iff_ne.2 hk17
  have q18 : (k == 18) = false := beq_eq_false_iff_ne.2 hk18
  have q19 : (k == 19) = false := beq_eq_false_iff_ne.2 hk19
  have q20 : (k == 20) = false := beq_eq_false_iff_ne.2 hk20
  have q21 : (k == 21) = false := beq_eq_false_iff_ne.2 hk21
  have q40 : (k == 40) = false := beq_eq_false_iff_ne.2 hk40
  have q42 : (k == 42) = false := beq_eq_false_iff_ne.2 hk42
  have e : formOf k l.length = stmtOf k l.length := by unfold formOf; rw [if_neg hk1, if_neg hk2, if_neg hk3, if_neg hk4, if_neg hk5, if_neg hk6, if_neg hk7, if_neg hk8, if_neg hk9, if_neg hk10, if_neg hk11, if_neg hk12, if_neg hk13, if_neg hk14, if_neg hk15, if_neg hk16, if_neg hk17, if_neg hk18, if_neg hk19, if_neg hk20, if_neg hk21, if_neg hk40, if_neg hk42]
  rw [e]
  ((conv=>whnf);repeat((first|(with_reducible first|refine Z1 ?_|refine Z2 ?_|refine Z3 ?_|refine Z4 ?_|refine Z5 ?_|refine Z9 (by assumption) rfl ?_|refine ZA (by assumption) rfl ?_|refine ZB (by assumption) rfl ?_|refine Z6 ?_|refine Z7 ?_|refine Z8 ?_)|((with_reducible refine ZM ?_ ?_);(focus rfl)));(conv=>whnf)))
  refine HCall.mk ((stmt_spec (d := .mk k nm n t ns l) (TRep.ext x02 (by simp only [TRep]; exact r0))).mono ?_)
  rintro e h3 ⟨⟨v, rfl, ⟨hv5, hv1⟩, hv⟩, x3⟩
  have o3 := o2.ext x3
  clear o2
  ((conv=>whnf);repeat((first|(with_reducible first|refine Z1 ?_|refine Z2 ?_|refine Z3 ?_|refine Z4 ?_|refine Z5 ?_|refine Z9 (by assumption) rfl ?_|refine ZA (by assumption) rfl ?_|refine ZB (by assumption) rfl ?_|refine Z6 ?_|refine Z7 ?_|refine Z8 ?_)|((with_reducible refine ZM ?_ ?_);(focus rfl)));(conv=>whnf)))
  refine HMust.mk (by simpa using hv5) ?_
  refine store_blk o3 (by simp [hv5]) (by simpa using hv1) ?_
  intro h4 f4 z4 o4
  have o4' : BlkW h4 bf 58 v := by
    have e : (zeroF : List Value).drop (0 + v.toArray.toList.length) = [] := by simp [hv5]
    rw [e] at o4
    simpa using o4
  clear o4
  ((conv=>whnf);repeat((first|(with_reducible first|refine Z1 ?_|refine Z2 ?_|refine Z3 ?_|refine Z4 ?_|refine Z5 ?_|refine Z9 (by assumption) rfl ?_|refine ZA (by assumption) rfl ?_|refine ZB (by assumption) rfl ?_|refine Z6 ?_|refine Z7 ?_|refine Z8 ?_)|((with_reducible refine ZM ?_ ?_);(focus rfl)));(conv=>whnf)))
  refine blk_ldN o4' hv5 ?_
  exact ⟨⟨v, rfl, ⟨hv5, hv1⟩, hv⟩, (x02.trans x3).offNew f4 (by have := x3.1; omega)⟩
end Go.Proofs.Ytlogpojkkbcpjaa.Hc
/- tree.named, tree.Deep; a kid's kind. -/
set_option linter.unusedVariables false
set_option linter.unusedSimpArgs false
namespace Go.Proofs.Ytlogpojkkbcpjaa.Hc
open Go Go.H Go.Proofs
set_option maxRecDepth 100000
set_option maxHeartbeats 4000000

theorem TRep.kind0 {h : Heap} {d : NT} {cs : List Value} (r : TRep h d cs) : cs[0]? = some (.int .i64 d.kind) := by
  cases d
  simp only [TRep] at r
  obtain ⟨_, _, _, _, _, _, _, ka, kc, la, lc, xs, e, _⟩ := r
  rw [e]; rfl
/-- A load of a kid's kind. -/
theorem tkind {h : Heap} {a : Option Addr} {c : Nat} {xs : List Value} {l : List NT} {p : Addr} {i : Nat} {K : Value → Prop} (x : Sl h 6 a l.length c xs) (r : TReps h l xs) (ep : a = some p) (hi : i < l.length)
    (k : K (.int .i64 l[i].kind)) : HLoad h ((p.add (i * 6)).add 0) K := by
  obtain ⟨cs, r1, r2⟩ := r.els.get (fun _ _ r => r.len) i hi
  refine ⟨_, ?_, k⟩
  rw [add_add, x.2.2.2 p ep (i * 6 + 0) (by omega), r2 0 (by omega), r1.kind0]
def kidKind (l : List NT) (i : Nat) : Int := match l[i]? with
  | some d => d.kind
  | none => 0
theorem kidKind_in {l : List NT} {i : Nat} (hi : i < l.length) : kidKind l i = l[i].kind := by unfold kidKind; rw [List.getElem?_eq_getElem hi]
/-- Whether a node's Name fits. -/
def namedB (s w : ByteArray) (l : List NT) : Bool :=
  if strEq w ⟨#[]⟩ = true then strEq s ⟨#[]⟩ else if strEq w ⟨#[110]⟩ = true then isNameB s else if strEq w ⟨#[109]⟩ = true then strEq s ⟨#[]⟩ || isNameB s else
  if strEq w ⟨#[105]⟩ = true then identB s else if strEq w ⟨#[99]⟩ = true then (if 1 < l.length ∧ kidKind l 1 = 25 then isNameB s else strEq s ⟨#[]⟩) else amongB w s
theorem named_spec {h : Heap} (g : Glb h) {d : NT} {cs : List Value} (r : TRep h d cs) (w : ByteArray) (hw : w.size < 4294967281) : HCalls Try.prog 45 #[.agg cs.toArray, .string w] h fun e h' => e = .returned (.bool (namedB d.name w d.l)) ∧ Ext h h' := by
  cases d with
  | mk k nm n t ns l =>
  simp only [TRep] at r
  obtain ⟨b1, b2, b3, b4, b5, b6, b7, ka, kc, la, lc, ys, rfl, s1, s2, s3⟩ := r
  show HCalls Try.prog 45 _ h fun e h' => e = .returned (.bool (namedB nm w l)) ∧ Ext h h'
  refine c45 (by simp) ?_
  ((conv=>whnf);repeat((first|(with_reducible first|refine Z1 ?_|refine Z2 ?_|refine Z3 ?_|refine Z4 ?_|refine Z5 ?_|refine Z9 (by assumption) rfl ?_|refine ZA (by assumption) rfl ?_|refine ZB (by assumption) rfl ?_|refine Z6 ?_|refine Z7 ?_|refine Z8 ?_)|((with_reducible refine ZM ?_ ?_);(focus rfl)));(conv=>whnf)))
  refine new_var (e := 26) [.int .i64 k, .string nm, .int .i64 n, .string t, .slice ka ns.length kc, .slice la l.length lc] rfl ?_
  intro h1 bn o1 x1 z1 hbn
  have g1 := g.ext x1
  unfold namedB
  cases q1 : strEq w ⟨#[]⟩
  · cases q2 : strEq w ⟨#[110]⟩
    · cases q3 : strEq w ⟨#[109]⟩
      · cases q4 : strEq w ⟨#[105]⟩
        · cases q5 : strEq w ⟨#[99]⟩
          · simp only [Bool.false_eq_true, if_false]
            ((conv=>whnf);repeat((first|(with_reducible first|refine Z1 ?_|refine Z2 ?_|refine Z3 ?_|refine Z4 ?_|refine Z5 ?_|refine Z9 (by assumption) rfl ?_|refine ZA (by assumption) rfl ?_|refine ZB (by assumption) rfl ?_|refine Z6 ?_|refine Z7 ?_|refine Z8 ?_)|((with_reducible refine ZM ?_ ?_);(focus rfl)));(conv=>whnf)))
            refine HCall.mk ((among2_spec g1 w nm hw b3).mono ?_)
            rintro e h2 ⟨rfl, rfl⟩
            ((conv=>whnf);repeat((first|(with_reducible first|refine Z1 ?_|refine Z2 ?_|refine Z3 ?_|refine Z4 ?_|refine Z5 ?_|refine Z9 (by assumption) rfl ?_|refine ZA (by assumption) rfl ?_|refine ZB (by assumption) rfl ?_|refine Z6 ?_|refine Z7 ?_|refine Z8 ?_)|((with_reducible refine ZM ?_ ?_);(focus rfl)));(conv=>whnf)))
            exact ⟨rfl, x1⟩
          · simp only [Bool.false_eq_true, if_false, if_true]
            by_cases hl : 1 < l.length
            · have qh : decide ((l.length : Int) > 1) = true := decide_eq_true (by omega)
              by_cases hk : kidKind l 1 = 25
              · rw [if_pos ⟨hl, hk⟩]
                rw [kidKind_in hl] at hk
                have qk : (l[1].kind == 25) = true := beq_iff_eq.2 hk
                ((conv=>whnf);repeat((first|(with_reducible first|refine Z1 ?_|refine Z2 ?_|refine Z3 ?_|refine Z4 ?_|refine Z5 ?_|refine Z9 (by assumption) rfl ?_|refine ZA (by assumption) rfl ?_|refine ZB (by assumption) rfl ?_|refine Z6 ?_|refine Z7 ?_|refine Z8 ?_)|((with_reducible refine ZM ?_ ?_);(focus rfl)));(conv=>whnf)))
                refine HIdx.mk 1 rfl hl ?_
                refine sl_some s2 hl fun p ep => ?_
                ((conv=>whnf);repeat((first|(with_reducible first|refine Z1 ?_|refine Z2 ?_|refine Z3 ?_|refine Z4 ?_|refine Z5 ?_|refine Z9 (by assumption) rfl ?_|refine ZA (by assumption) rfl ?_|refine ZB (by assumption) rfl ?_|refine Z6 ?_|refine Z7 ?_|refine Z8 ?_)|((with_reducible refine ZM ?_ ?_);(focus rfl)));(conv=>whnf)))
                refine tkind (s2.ext x1) (s3.ext x1) ep hl ?_
                ((conv=>whnf);repeat((first|(with_reducible first|refine Z1 ?_|refine Z2 ?_|refine Z3 ?_|refine Z4 ?_|refine Z5 ?_|refine Z9 (by assumption) rfl ?_|refine ZA (by assumption) rfl ?_|refine ZB (by assumption) rfl ?_|refine Z6 ?_|refine Z7 ?_|refine Z8 ?_)|((with_reducible refine ZM ?_ ?_);(focus rfl)));(conv=>whnf)))
                refine HCall.mk ((name_spec g1 nm b3).mono ?_)
                rintro e h2 ⟨rfl, rfl⟩
                ((conv=>whnf);repeat((first|(with_reducible first|refine Z1 ?_|refine Z2 ?_|refine Z3 ?_|refine Z4 ?_|refine Z5 ?_|refine Z9 (by assumption) rfl ?_|refine ZA (by assumption) rfl ?_|refine ZB (by assumption) rfl ?_|refine Z6 ?_|refine Z7 ?_|refine Z8 ?_)|((with_reducible refine ZM ?_ ?_);(focus rfl)));(conv=>whnf)))
                exact ⟨rfl, x1⟩
              · rw [if_neg (fun hh => hk hh.2)]
                rw [kidKind_in hl] at hk
                have qk : (l[1].kind == 25) = false := beq_eq_false_iff_ne.2 hk
                ((conv=>whnf);repeat((first|(with_reducible first|refine Z1 ?_|refine Z2 ?_|refine Z3 ?_|refine Z4 ?_|refine Z5 ?_|refine Z9 (by assumption) rfl ?_|refine ZA (by assumption) rfl ?_|refine ZB (by assumption) rfl ?_|refine Z6 ?_|refine Z7 ?_|refine Z8 ?_)|((with_reducible refine ZM ?_ ?_);(focus rfl)));(conv=>whnf)))
                refine HIdx.mk 1 rfl hl ?_
                refine sl_some s2 hl fun p ep => ?_
                ((conv=>whnf);repeat((first|(with_reducible first|refine Z1 ?_|refine Z2 ?_|refine Z3 ?_|refine Z4 ?_|refine Z5 ?_|refine Z9 (by assumption) rfl ?_|refine ZA (by assumption) rfl ?_|refine ZB (by assumption) rfl ?_|refine Z6 ?_|refine Z7 ?_|refine Z8 ?_)|((with_reducible refine ZM ?_ ?_);(focus rfl)));(conv=>whnf)))
                refine tkind (s2.ext x1) (s3.ext x1) ep hl ?_
                ((conv=>whnf);repeat((first|(with_reducible first|refine Z1 ?_|refine Z2 ?_|refine Z3 ?_|refine Z4 ?_|refine Z5 ?_|refine Z9 (by assumption) rfl ?_|refine ZA (by assumption) rfl ?_|refine ZB (by assumption) rfl ?_|refine Z6 ?_|refine Z7 ?_|refine Z8 ?_)|((with_reducible refine ZM ?_ ?_);(focus rfl)));(conv=>whnf)))
                exact ⟨rfl, x1⟩
            · have qh : decide ((l.length : Int) > 1) = false := decide_eq_false (by omega)
              rw [if_neg (fun hh => hl hh.1)]
              ((conv=>whnf);repeat((first|(with_reducible first|refine Z1 ?_|refine Z2 ?_|refine Z3 ?_|refine Z4 ?_|refine Z5 ?_|refine Z9 (by assumption) rfl ?_|refine ZA (by assumption) rfl ?_|refine ZB (by assumption) rfl ?_|refine Z6 ?_|refine Z7 ?_|refine Z8 ?_)|((with_reducible refine ZM ?_ ?_);(focus rfl)));(conv=>whnf)))
              exact ⟨rfl, x1⟩
        · simp only [Bool.false_eq_true, if_false, if_true]
          ((conv=>whnf);repeat((first|(with_reducible first|refine Z1 ?_|refine Z2 ?_|refine Z3 ?_|refine Z4 ?_|refine Z5 ?_|refine Z9 (by assumption) rfl ?_|refine ZA (by assumption) rfl ?_|refine ZB (by assumption) rfl ?_|refine Z6 ?_|refine Z7 ?_|refine Z8 ?_)|((with_reducible refine ZM ?_ ?_);(focus rfl)));(conv=>whnf)))
          refine HCall.mk ((ident_spec nm (by omega) h1).mono ?_)
          rintro e h2 ⟨rfl, rfl⟩
          ((conv=>whnf);repeat((first|(with_reducible first|refine Z1 ?_|refine Z2 ?_|refine Z3 ?_|refine Z4 ?_|refine Z5 ?_|refine Z9 (by assumption) rfl ?_|refine ZA (by assumption) rfl ?_|refine ZB (by assumption) rfl ?_|refine Z6 ?_|refine Z7 ?_|refine Z8 ?_)|((with_reducible refine ZM ?_ ?_);(focus rfl)));(conv=>whnf)))
          exact ⟨rfl, x1⟩
      · simp only [Bool.false_eq_true, if_false, if_true]
        cases q6 : strEq nm ⟨#[]⟩
        · ((conv=>whnf);repeat((first|(with_reducible first|refine Z1 ?_|refine Z2 ?_|refine Z3 ?_|refine Z4 ?_|refine Z5 ?_|refine Z9 (by assumption) rfl ?_|refine ZA (by assumption) rfl ?_|refine ZB (by assumption) rfl ?_|refine Z6 ?_|refine Z7 ?_|refine Z8 ?_)|((with_reducible refine ZM ?_ ?_);(focus rfl)));(conv=>whnf)))
          refine HCall.mk ((name_spec g1 nm b3).mono ?_)
          rintro e h2 ⟨rfl, rfl⟩
          ((conv=>whnf);repeat((first|(with_reducible first|refine Z1 ?_|refine Z2 ?_|refine Z3 ?_|refine Z4 ?_|refine Z5 ?_|refine Z9 (by assumption) rfl ?_|refine ZA (by assumption) rfl ?_|refine ZB (by assumption) rfl ?_|refine Z6 ?_|refine Z7 ?_|refine Z8 ?_)|((with_reducible refine ZM ?_ ?_);(focus rfl)));(conv=>whnf)))
          exact ⟨rfl, x1⟩
        · ((conv=>whnf);repeat((first|(with_reducible first|refine Z1 ?_|refine Z2 ?_|refine Z3 ?_|refine Z4 ?_|refine Z5 ?_|refine Z9 (by assumption) rfl ?_|refine ZA (by assumption) rfl ?_|refine ZB (by assumption) rfl ?_|refine Z6 ?_|refine Z7 ?_|refine Z8 ?_)|((with_reducible refine ZM ?_ ?_);(focus rfl)));(conv=>whnf)))
          exact ⟨rfl, x1⟩
    · simp only [Bool.false_eq_true, if_false, if_true]
      ((conv=>whnf);repeat((first|(with_reducible first|refine Z1 ?_|refine Z2 ?_|refine Z3 ?_|refine Z4 ?_|refine Z5 ?_|refine Z9 (by assumption) rfl ?_|refine ZA (by assumption) rfl ?_|refine ZB (by assumption) rfl ?_|refine Z6 ?_|refine Z7 ?_|refine Z8 ?_)|((with_reducible refine ZM ?_ ?_);(focus rfl)));(conv=>whnf)))
      refine HCall.mk ((name_spec g1 nm b3).mono ?_)
      rintro e h2 ⟨rfl, rfl⟩
      ((conv=>whnf);repeat((first|(with_reducible first|refine Z1 ?_|refine Z2 ?_|refine Z3 ?_|refine Z4 ?_|refine Z5 ?_|refine Z9 (by assumption) rfl ?_|refine ZA (by assumption) rfl ?_|refine ZB (by assumption) rfl ?_|refine Z6 ?_|refine Z7 ?_|refine Z8 ?_)|((with_reducible refine ZM ?_ ?_);(focus rfl)));(conv=>whnf)))
      exact ⟨rfl, x1⟩
  · simp only [if_true]
    ((conv=>whnf);repeat((first|(with_reducible first|refine Z1 ?_|refine Z2 ?_|refine Z3 ?_|refine Z4 ?_|refine Z5 ?_|refine Z9 (by assumption) rfl ?_|refine ZA (by assumption) rfl ?_|refine ZB (by assumption) rfl ?_|refine Z6 ?_|refine Z7 ?_|refine Z8 ?_)|((with_reducible refine ZM ?_ ?_);(focus rfl)));(conv=>whnf)))
    exact ⟨rfl, x1⟩

mutual
/-- How deep. -/
def deepT : NT → Nat
  | .mk _ _ _ _ _ l => deepL l + 1
def deepL : List NT → Nat
  | [] => 0
  | d :: r => max (deepT d) (deepL r)
end
theorem deepL_take (l : List NT) (i : Nat) (hi : i < l.length) : deepL (l.take (i + 1)) = max (deepL (l.take i)) (deepT l[i]) := by
  have key : ∀ (l : List NT) (d : NT), deepL (l ++ [d]) = max (deepL l) (deepT d) := by
    intro l d
    induction l with
    | nil => simp [deepL]
    | cons e r ih => simp only [List.cons_append, deepL, ih]; omega
  rw [take_succ' hi, key]
mutual
theorem deepT_cnt : ∀ d : NT, deepT d ≤ cnt d
  | .mk _ _ _ _ _ l => by have := deepL_cnt l; simp only [deepT, cnt]; omega
theorem deepL_cnt : ∀ l : List NT, deepL l ≤ cnts l
  | [] => by simp [deepL]
  | d :: r => by have h1 := deepT_cnt d; have h2 := deepL_cnt r; simp only [deepL, cnts]; omega
end
theorem deep_spec : ∀ (m : Nat) (d : NT) (_ : cnt d = m) (h : Heap) (cs : List Value) (_ : TRep h d cs) (_ : cnt d ≤ 4194304),
    HCalls Try.prog 32 #[.agg cs.toArray] h fun e h' => e = .returned (.int .i64 (deepT d)) ∧ Ext h h' := by
  intro m
  induction m using Nat.strongRecOn with
  | ind m ih =>
  intro d hm h cs r hc
  cases d with
  | mk k nm n t ns l =>
  simp only [TRep] at r
  obtain ⟨b1, b2, b3, b4, b5, b6, b7, ka, kc, la, lc, ys, rfl, s1, s2, s3⟩ := r
  have hdc := deepL_cnt l
  simp only [cnt] at hm hc
  refine c32 (by simp) ?_
  ((conv=>whnf);repeat((first|(with_reducible first|refine Z1 ?_|refine Z2 ?_|refine Z3 ?_|refine Z4 ?_|refine Z5 ?_|refine Z9 (by assumption) rfl ?_|refine ZA (by assumption) rfl ?_|refine ZB (by assumption) rfl ?_|refine Z6 ?_|refine Z7 ?_|refine Z8 ?_)|((with_reducible refine ZM ?_ ?_);(focus rfl)));(conv=>whnf)))
  refine new_var (e := 26) [.int .i64 k, .string nm, .int .i64 n, .string t, .slice ka ns.length kc, .slice la l.length lc] rfl ?_
  intro h1 bn o1 x1 z1 hbn
  ((conv=>whnf);repeat((first|(with_reducible first|refine Z1 ?_|refine Z2 ?_|refine Z3 ?_|refine Z4 ?_|refine Z5 ?_|refine Z9 (by assumption) rfl ?_|refine ZA (by assumption) rfl ?_|refine ZB (by assumption) rfl ?_|refine Z6 ?_|refine Z7 ?_|refine Z8 ?_)|((with_reducible refine ZM ?_ ?_);(focus rfl)));(conv=>whnf)))
  refine loop_rule [3, 9] (fun vs h' => ∃ (i : Nat), vs = [.int .i64 (deepL (l.take i)), .int .i64 i] ∧ i ≤ l.length ∧ Ext h h')
    (fun vs _ => match vs with | [_, .int _ i] => l.length - i.toNat | _ => 0) rfl ?_ ?_
  · exact ⟨0, rfl, by omega, x1⟩
  intro u h2 v3 v9
  rintro ⟨i, e, hi, x2⟩
  cases e
  ((conv=>whnf);repeat((first|(with_reducible first|refine Z1 ?_|refine Z2 ?_|refine Z3 ?_|refine Z4 ?_|refine Z5 ?_|refine Z9 (by assumption) rfl ?_|refine ZA (by assumption) rfl ?_|refine ZB (by assumption) rfl ?_|refine Z6 ?_|refine Z7 ?_|refine Z8 ?_)|((with_reducible refine ZM ?_ ?_);(focus rfl)));(conv=>whnf)))
  refine HIf.mk (fun hlt => ?_) (fun hlt => ?_)
  · have hi1 : i < l.length := by have := of_decide_eq_true hlt; omega
    have hmu : l.length - ((i : Int) + 1).toNat < l.length - ((i : Int)).toNat := by omega
    have dt := deepL_take l i hi1
    have hcg := cnts_get l i hi1
    generalize deepL (l.take i) = q at dt
    ((conv=>whnf);repeat((first|(with_reducible first|refine Z1 ?_|refine Z2 ?_|refine Z3 ?_|refine Z4 ?_|refine Z5 ?_|refine Z9 (by assumption) rfl ?_|refine ZA (by assumption) rfl ?_|refine ZB (by assumption) rfl ?_|refine Z6 ?_|refine Z7 ?_|refine Z8 ?_)|((with_reducible refine ZM ?_ ?_);(focus rfl)));(conv=>whnf)))
    refine HIdx.mk i rfl hi1 ?_
    refine sl_some s2 hi1 fun p ep => ?_
    ((conv=>whnf);repeat((first|(with_reducible first|refine Z1 ?_|refine Z2 ?_|refine Z3 ?_|refine Z4 ?_|refine Z5 ?_|refine Z9 (by assumption) rfl ?_|refine ZA (by assumption) rfl ?_|refine ZB (by assumption) rfl ?_|refine Z6 ?_|refine Z7 ?_|refine Z8 ?_)|((with_reducible refine ZM ?_ ?_);(focus rfl)));(conv=>whnf)))
    refine tload' s2 s3 x2 ep hi1 fun cs rt => ?_
    ((conv=>whnf);repeat((first|(with_reducible first|refine Z1 ?_|refine Z2 ?_|refine Z3 ?_|refine Z4 ?_|refine Z5 ?_|refine Z9 (by assumption) rfl ?_|refine ZA (by assumption) rfl ?_|refine ZB (by assumption) rfl ?_|refine Z6 ?_|refine Z7 ?_|refine Z8 ?_)|((with_reducible refine ZM ?_ ?_);(focus rfl)));(conv=>whnf)))
    refine new_var (e := 26) zeroT rfl ?_
    intro h3 b3' o3 x3 z3 hb3
    ((conv=>whnf);repeat((first|(with_reducible first|refine Z1 ?_|refine Z2 ?_|refine Z3 ?_|refine Z4 ?_|refine Z5 ?_|refine Z9 (by assumption) rfl ?_|refine ZA (by assumption) rfl ?_|refine ZB (by assumption) rfl ?_|refine Z6 ?_|refine Z7 ?_|refine Z8 ?_)|((with_reducible refine ZM ?_ ?_);(focus rfl)));(conv=>whnf)))
    have hcl := rt.len
    refine HMust.mk (by simpa using hcl) ?_
    refine store_blk o3 (by simp [hcl]) (by simpa using rt.one) ?_
    intro h4 f4 z4 o4
    have o4' : BlkW h4 b3' 26 cs := by
      have e : (zeroT : List Value).drop (0 + cs.toArray.toList.length) = [] := by simp [hcl]
      rw [e] at o4
      simpa using o4
    have x24 : Ext h2 h4 := x3.offNew f4 (by omega)
    clear o3 o4
    ((conv=>whnf);repeat((first|(with_reducible first|refine Z1 ?_|refine Z2 ?_|refine Z3 ?_|refine Z4 ?_|refine Z5 ?_|refine Z9 (by assumption) rfl ?_|refine ZA (by assumption) rfl ?_|refine ZB (by assumption) rfl ?_|refine Z6 ?_|refine Z7 ?_|refine Z8 ?_)|((with_reducible refine ZM ?_ ?_);(focus rfl)));(conv=>whnf)))
    refine blk_ldN o4' hcl ?_
    ((conv=>whnf);repeat((first|(with_reducible first|refine Z1 ?_|refine Z2 ?_|refine Z3 ?_|refine Z4 ?_|refine Z5 ?_|refine Z9 (by assumption) rfl ?_|refine ZA (by assumption) rfl ?_|refine ZB (by assumption) rfl ?_|refine Z6 ?_|refine Z7 ?_|refine Z8 ?_)|((with_reducible refine ZM ?_ ?_);(focus rfl)));(conv=>whnf)))
    refine HCall.mk ((ih (cnt l[i]) (by omega) l[i] rfl h4 cs (rt.ext (x2.trans x24)) (by omega)).mono ?_)
    rintro e h5 ⟨rfl, x5⟩
    have em : (if (deepT l[i] : Int) > (q : Int) then (deepT l[i] : Int) else (q : Int)) = ((deepL (l.take (i + 1)) : Nat) : Int) := by rw [dt]; split <;> omega
    ((conv=>whnf);repeat((first|(with_reducible first|refine Z1 ?_|refine Z2 ?_|refine Z3 ?_|refine Z4 ?_|refine Z5 ?_|refine Z9 (by assumption) rfl ?_|refine ZA (by assumption) rfl ?_|refine ZB (by assumption) rfl ?_|refine Z6 ?_|refine Z7 ?_|refine Z8 ?_)|((with_reducible refine ZM ?_ ?_);(focus rfl)));(conv=>whnf)))
    exact ⟨⟨i + 1, by rw [← em]; rfl, by omega, x2.trans (x24.trans x5)⟩, hmu⟩
  · have hge := of_decide_eq_false hlt
    obtain rfl : i = l.length := by omega
    rw [List.take_length]
    ((conv=>whnf);repeat((first|(with_reducible first|refine Z1 ?_|refine Z2 ?_|refine Z3 ?_|refine Z4 ?_|refine Z5 ?_|refine Z9 (by assumption) rfl ?_|refine ZA (by assumption) rfl ?_|refine ZB (by assumption) rfl ?_|refine Z6 ?_|refine Z7 ?_|refine Z8 ?_)|((with_reducible refine ZM ?_ ?_);(focus rfl)));(conv=>whnf)))
    exact ⟨by simp only [deepT]; rfl, x2⟩
def targetB (k : Int) : Bool := (k == 3) || (k == 11) || (k == 12)
theorem target_spec {h : Heap} {d : NT} {cs : List Value} (r : TRep h d cs) : HCalls Try.prog 71 #[.agg cs.toArray] h fun e h' => e = .returned (.bool (targetB d.kind)) ∧ Ext h h' := by
  cases d with
  | mk k nm n t ns l =>
  simp only [TRep] at r
  obtain ⟨b1, b2, b3, b4, b5, b6, b7, ka, kc, la, lc, ys, rfl, s1, s2, s3⟩ := r
  show HCalls Try.prog 71 _ h fun e h' => e = .returned (.bool (targetB k)) ∧ Ext h h'
  refine c71 (by simp) ?_
  ((conv=>whnf);repeat((first|(with_reducible first|refine Z1 ?_|refine Z2 ?_|refine Z3 ?_|refine Z4 ?_|refine Z5 ?_|refine Z9 (by assumption) rfl ?_|refine ZA (by assumption) rfl ?_|refine ZB (by assumption) rfl ?_|refine Z6 ?_|refine Z7 ?_|refine Z8 ?_)|((with_reducible refine ZM ?_ ?_);(focus rfl)));(conv=>whnf)))
  refine new_var (e := 26) [.int .i64 k, .string nm, .int .i64 n, .string t, .slice ka ns.length kc, .slice la l.length lc] rfl ?_
  intro h1 bn o1 x1 z1 hbn
  unfold targetB
  cases q1 : (k == 3) <;> cases q2 : (k == 11) <;> ((conv=>whnf);repeat((first|(with_reducible first|refine Z1 ?_|refine Z2 ?_|refine Z3 ?_|refine Z4 ?_|refine Z5 ?_|refine Z9 (by assumption) rfl ?_|refine ZA (by assumption) rfl ?_|refine ZB (by assumption) rfl ?_|refine Z6 ?_|refine Z7 ?_|refine Z8 ?_)|((with_reducible refine ZM ?_ ?_);(focus rfl)));(conv=>whnf))) <;> exact ⟨rfl, x1⟩
end Go.Proofs.Ytlogpojkkbcpjaa.Hc
/- tree.fits (printed by tools/t9.py). -/
set_option linter.unusedVariables false
set_option linter.unusedSimpArgs false
namespace Go.Proofs.Ytlogpojkkbcpjaa.Hc
open Go Go.H Go.Proofs
set_option maxRecDepth 100000
set_option maxHeartbeats 8000000
def exprB (k : Int) : Bool := decide (k ≥ 1) && decide (k ≤ 21) && (k != 9)
def kidLen (l : List NT) : Nat := match l[0]? with
  | some d => d.l.length
  | none => 0
def stB (k : Int) (x : Bool) : Bool := decide (k ≥ 22) && decide (k ≤ 40) && (k != 23) && (k != 37) && ((k != 39) || x)
def shapeB (ex : Bool) (k : Int) (l : List NT) (c : Nat) : Bool :=
  if c = 101 then ex else
  if c = 116 then targetB k else
  if c = 102 then ex || (k == 42) else
  if c = 98 then k == 25 else
  if c = 99 then (k == 25) || (k == 42) else
  if c = 112 then k == 9 else
  if c = 100 then k == 23 else
  if c = 118 then ex || (k == 42) || (k == 22) else
  if c = 119 then targetB k || ((k == 22) && ((l.length : Int) == 1) && ((kidLen l : Int) == 0)) else
  if c = 107 then k == 37 else
  if c = 115 then stB k false else if c = 120 then stB k true else false
/-- A load of the first kid's L. -/
theorem tkids {h : Heap} {a : Option Addr} {c : Nat} {xs : List Value} {l : List NT} {p : Addr} {K : Value → Prop} (x : Sl h 6 a l.length c xs) (r : TReps h l xs) (ep : a = some p) (hi : 0 < l.length)
    (k : ∀ b c', K (.slice b (kidLen l) c')) : HLoad h ((p.add (0 * 6)).add 5) K := by
  obtain ⟨cs, r1, r2⟩ := r.els.get (fun _ _ r => r.len) 0 hi
  have hk : kidLen l = l[0].l.length := by unfold kidLen; rw [List.getElem?_eq_getElem hi]
  cases hd : l[0] with
  | mk kk nm n t ns kl =>
  rw [hd] at r1 hk
  simp only [TRep] at r1
  obtain ⟨_, _, _, _, _, _, _, ka, kc, la, lc, ys, rfl, _⟩ := r1
  refine ⟨_, ?_, k la lc⟩
  rw [add_add, x.2.2.2 p ep (0 * 6 + 5) (by omega), r2 5 (by omega), hk]; rfl
theorem fits_spec {h : Heap} {d : NT} {cs : List Value} {mb : Bool} (r : TRep h d cs) (c : UInt8) (hm : ∀ h', Ext h h' → HCalls Try.prog 31 #[.agg cs.toArray] h' fun e h'' => e = .returned (.bool mb) ∧ Ext h' h'') :
    HCalls Try.prog 50 #[.agg cs.toArray, byteV c] h fun e h' => e = .returned (.bool (shapeB (exprB d.kind) d.kind d.l c.toNat && mb)) ∧ Ext h h' := by
  cases d with
  | mk k nm n t ns l =>
  simp only [TRep] at r
  have r0 := r
  obtain ⟨b1, b2, b3, b4, b5, b6, b7, ka, kc, la, lc, ys, rfl, s1, s2, s3⟩ := r
  show HCalls Try.prog 50 _ h fun e h' => e = .returned (.bool (shapeB (exprB k) k l c.toNat && mb)) ∧ Ext h h'
  unfold byteV
  refine c50 (by simp) ?_
  ((conv=>whnf);repeat((first|(with_reducible first|refine Z1 ?_|refine Z2 ?_|refine Z3 ?_|refine Z4 ?_|refine Z5 ?_|refine Z9 (by assumption) rfl ?_|refine ZA (by assumption) rfl ?_|refine ZB (by assumption) rfl ?_|refine Z6 ?_|refine Z7 ?_|refine Z8 ?_)|((with_reducible refine ZM ?_ ?_);(focus rfl)));(conv=>whnf)))
  refine new_var (e := 26) [.int .i64 k, .string nm, .int .i64 n, .string t, .slice ka ns.length kc, .slice la l.length lc] rfl ?_
  intro h1 bn o1 x1 z1 hbn
  have sh : ∀ {K : Bool → Prop}, (decide (k ≥ 1) = false → K false) → (decide (k ≥ 1) = true → decide (k ≤ 21) = false → K false) → (decide (k ≥ 1) = true → decide (k ≤ 21) = true → (k != 9) = false → K false) → (decide (k ≥ 1) = true → decide (k ≤ 21) = true → (k != 9) = true → K true) → K (exprB k) := by
    intro K k1 k2 k3 k4
    unfold exprB
    cases q1 : decide (k ≥ 1)
    · exact k1 q1
    · cases q2 : decide (k ≤ 21)
      · exact k2 q1 q2
      · cases q3 : (k != 9)
        · exact k3 q1 q2 q3
        · exact k4 q1 q2 q3
  refine sh (K := fun ex => aexec _ _ (abody _ fun e h' => e = .returned (.bool (shapeB ex k l c.toNat && mb)) ∧ Ext h h') _ _) ?_ ?_ ?_ ?_
  · intro q1
    ((conv=>whnf);repeat((first|(with_reducible first|refine Z2 ?_|refine Z3 ?_|refine Z4 ?_|refine Z5 ?_|refine Z9 (by assumption) rfl ?_|refine ZA (by assumption) rfl ?_|refine ZB (by assumption) rfl ?_|refine Z6 ?_|refine Z7 ?_|refine Z8 ?_)|((with_reducible refine ZM ?_ ?_);(focus rfl)));(conv=>whnf)))
    refine cut_rule [7] (fun vs h' => vs = [.bool (shapeB false k l c.toNat)] ∧ Ext h1 h') rfl ?_ ?_
    · skip
      by_cases c101 : c.toNat = 101
      · have q101 : ((c.toNat : Int) == 101) = true := by rw [beq_iff_eq]; omega
        have es : shapeB false k l c.toNat = (false) := by unfold shapeB; rw [if_pos c101]
        rw [es]
        ((conv=>whnf);repeat((first|(with_reducible first|refine Z1 ?_|refine Z2 ?_|refine Z3 ?_|refine Z4 ?_|refine Z5 ?_|refine Z9 (by assumption) rfl ?_|refine ZA (by assumption) rfl ?_|refine ZB (by assumption) rfl ?_|refine Z6 ?_|refine Z7 ?_|refine Z8 ?_)|((with_reducible refine ZM ?_ ?_);(focus rfl)));(conv=>whnf)))
        exact ⟨rfl, Ext.refl _⟩
      have q101 : ((c.toNat : Int) == 101) = false := by rw [beq_eq_false_iff_ne]; omega
      by_cases c116 : c.toNat = 116
      · have q116 : ((c.toNat : Int) == 116) = true := by rw [beq_iff_eq]; omega
        have es : shapeB false k l c.toNat = (targetB k) := by unfold shapeB; rw [if_neg c101, if_pos c116]
        rw [es]
        ((conv=>whnf);repeat((first|(with_reducible first|refine Z1 ?_|refine Z2 ?_|refine Z3 ?_|refine Z4 ?_|refine Z5 ?_|refine Z9 (by assumption) rfl ?_|refine ZA (by assumption) rfl ?_|refine ZB (by assumption) rfl ?_|refine Z6 ?_|refine Z7 ?_|refine Z8 ?_)|((with_reducible refine ZM ?_ ?_);(focus rfl)));(conv=>whnf)))
        refine HCall.mk ((target_spec (d := .mk k nm n t ns l) (TRep.ext x1 (by simp only [TRep]; exact r0))).mono ?_)
        rintro e h2 ⟨rfl, x2⟩
        ((conv=>whnf);repeat((first|(with_reducible first|refine Z1 ?_|refine Z2 ?_|refine Z3 ?_|refine Z4 ?_|refine Z5 ?_|refine Z9 (by assumption) rfl ?_|refine ZA (by assumption) rfl ?_|refine ZB (by assumption) rfl ?_|refine Z6 ?_|refine Z7 ?_|refine Z8 ?_)|((with_reducible refine ZM ?_ ?_);(focus rfl)));(conv=>whnf)))
        exact ⟨rfl, x2⟩
      have q116 : ((c.toNat : Int) == 116) = false := by rw [beq_eq_false_iff_ne]; omega
      by_cases c102 : c.toNat = 102
      · have q102 : ((c.toNat : Int) == 102) = true := by rw [beq_iff_eq]; omega
        have es : shapeB false k l c.toNat = (false || (k == 42)) := by unfold shapeB; rw [if_neg c101, if_neg c116, if_pos c102]
        rw [es]
        ((conv=>whnf);repeat((first|(with_reducible first|refine Z1 ?_|refine Z2 ?_|refine Z3 ?_|refine Z4 ?_|refine Z5 ?_|refine Z9 (by assumption) rfl ?_|refine ZA (by assumption) rfl ?_|refine ZB (by assumption) rfl ?_|refine Z6 ?_|refine Z7 ?_|refine Z8 ?_)|((with_reducible refine ZM ?_ ?_);(focus rfl)));(conv=>whnf)))
        exact ⟨rfl, Ext.refl _⟩
      have q102 : ((c.toNat : Int) == 102) = false := by rw [beq_eq_false_iff_ne]; omega
      by_cases c98 : c.toNat = 98
      · have q98 : ((c.toNat : Int) == 98) = true := by rw [beq_iff_eq]; omega
        have es : shapeB false k l c.toNat = (k == 25) := by unfold shapeB; rw [if_neg c101, if_neg c116, if_neg c102, if_pos c98]
        rw [es]
        ((conv=>whnf);repeat((first|(with_reducible first|refine Z1 ?_|refine Z2 ?_|refine Z3 ?_|refine Z4 ?_|refine Z5 ?_|refine Z9 (by assumption) rfl ?_|refine ZA (by assumption) rfl ?_|refine ZB (by assumption) rfl ?_|refine Z6 ?_|refine Z7 ?_|refine Z8 ?_)|((with_reducible refine ZM ?_ ?_);(focus rfl)));(conv=>whnf)))
        exact ⟨rfl, Ext.refl _⟩
      have q98 : ((c.toNat : Int) == 98) = false := by rw [beq_eq_false_iff_ne]; omega
      by_cases c99 : c.toNat = 99
      · have q99 : ((c.toNat : Int) == 99) = true := by rw [beq_iff_eq]; omega
        have es : shapeB false k l c.toNat = ((k == 25) || (k == 42)) := by unfold shapeB; rw [if_neg c101, if_neg c116, if_neg c102, if_neg c98, if_pos c99]
        rw [es]
        cases v1 : (k == 25)
        · ((conv=>whnf);repeat((first|(with_reducible first|refine Z1 ?_|refine Z2 ?_|refine Z3 ?_|refine Z4 ?_|refine Z5 ?_|refine Z9 (by assumption) rfl ?_|refine ZA (by assumption) rfl ?_|refine ZB (by assumption) rfl ?_|refine Z6 ?_|refine Z7 ?_|refine Z8 ?_)|((with_reducible refine ZM ?_ ?_);(focus rfl)));(conv=>whnf)))
          exact ⟨rfl, Ext.refl _⟩
        · ((conv=>whnf);repeat((first|(with_reducible first|refine Z1 ?_|refine Z2 ?_|refine Z3 ?_|refine Z4 ?_|refine Z5 ?_|refine Z9 (by assumption) rfl ?_|refine ZA (by assumption) rfl ?_|refine ZB (by assumption) rfl ?_|refine Z6 ?_|refine Z7 ?_|refine Z8 ?_)|((with_reducible refine ZM ?_ ?_);(focus rfl)));(conv=>whnf)))
          exact ⟨rfl, Ext.refl _⟩
      have q99 : ((c.toNat : Int) == 99) = false := by rw [beq_eq_false_iff_ne]; omega
      by_cases c112 : c.toNat = 112
      · have q112 : ((c.toNat : Int) == 112) = true := by rw [beq_iff_eq]; omega
        have es : shapeB false k l c.toNat = (k == 9) := by unfold shapeB; rw [if_neg c101, if_neg c116, if_neg c102, if_neg c98, if_neg c99, if_pos c112]
        rw [es]
        ((conv=>whnf);repeat((first|(with_reducible first|refine Z1 ?_|refine Z2 ?_|refine Z3 ?_|refine Z4 ?_|refine Z5 ?_|refine Z9 (by assumption) rfl ?_|refine ZA (by assumption) rfl ?_|refine ZB (by assumption) rfl ?_|refine Z6 ?_|refine Z7 ?_|refine Z8 ?_)|((with_reducible refine ZM ?_ ?_);(focus rfl)));(conv=>whnf)))
        exact ⟨rfl, Ext.refl _⟩
      have q112 : ((c.toNat : Int) == 112) = false := by rw [beq_eq_false_iff_ne]; omega
      by_cases c100 : c.toNat = 100
      · have q100 : ((c.toNat : Int) == 100) = true := by rw [beq_iff_eq]; omega
        have es : shapeB false k l c.toNat = (k == 23) := by unfold shapeB; rw [if_neg c101, if_neg c116, if_neg c102, if_neg c98, if_neg c99, if_neg c112, if_pos c100]
        rw [es]
        ((conv=>whnf);repeat((first|(with_reducible first|refine Z1 ?_|refine Z2 ?_|refine Z3 ?_|refine Z4 ?_|refine Z5 ?_|refine Z9 (by assumption) rfl ?_|refine ZA (by assumption) rfl ?_|refine ZB (by assumption) rfl ?_|refine Z6 ?_|refine Z7 ?_|refine Z8 ?_)|((with_reducible refine ZM ?_ ?_);(focus rfl)));(conv=>whnf)))
        exact ⟨rfl, Ext.refl _⟩
      have q100 : ((c.toNat : Int) == 100) = false := by rw [beq_eq_false_iff_ne]; omega
      by_cases c118 : c.toNat = 118
      · have q118 : ((c.toNat : Int) == 118) = true := by rw [beq_iff_eq]; omega
        have es : shapeB false k l c.toNat = (false || (k == 42) || (k == 22)) := by unfold shapeB; rw [if_neg c101, if_neg c116, if_neg c102, if_neg c98, if_neg c99, if_neg c112, if_neg c100, if_pos c118]
        rw [es]
        cases v1 : (k == 42)
        · ((conv=>whnf);repeat((first|(with_reducible first|refine Z1 ?_|refine Z2 ?_|refine Z3 ?_|refine Z4 ?_|refine Z5 ?_|refine Z9 (by assumption) rfl ?_|refine ZA (by assumption) rfl ?_|refine ZB (by assumption) rfl ?_|refine Z6 ?_|refine Z7 ?_|refine Z8 ?_)|((with_reducible refine ZM ?_ ?_);(focus rfl)));(conv=>whnf)))
          exact ⟨rfl, Ext.refl _⟩
        · ((conv=>whnf);repeat((first|(with_reducible first|refine Z1 ?_|refine Z2 ?_|refine Z3 ?_|refine Z4 ?_|refine Z5 ?_|refine Z9 (by assumption) rfl ?_|refine ZA (by assumption) rfl ?_|refine ZB (by assumption) rfl ?_|refine Z6 ?_|refine Z7 ?_|refine Z8 ?_)|((with_reducible refine ZM ?_ ?_);(focus rfl)));(conv=>whnf)))
          exact ⟨rfl, Ext.refl _⟩
      have q118 : ((c.toNat : Int) == 118) = false := by rw [beq_eq_false_iff_ne]; omega
      by_cases c119 : c.toNat = 119
      · have q119 : ((c.toNat : Int) == 119) = true := by rw [beq_iff_eq]; omega
        have es : shapeB false k l c.toNat = (targetB k || ((k == 22) && ((l.length : Int) == 1) && ((kidLen l : Int) == 0))) := by unfold shapeB; rw [if_neg c101, if_neg c116, if_neg c102, if_neg c98, if_neg c99, if_neg c112, if_neg c100, if_neg c118, if_pos c119]
        rw [es]
        ((conv=>whnf);repeat((first|(with_reducible first|refine Z1 ?_|refine Z2 ?_|refine Z3 ?_|refine Z4 ?_|refine Z5 ?_|refine Z9 (by assumption) rfl ?_|refine ZA (by assumption) rfl ?_|refine ZB (by assumption) rfl ?_|refine Z6 ?_|refine Z7 ?_|refine Z8 ?_)|((with_reducible refine ZM ?_ ?_);(focus rfl)));(conv=>whnf)))
        refine HCall.mk ((target_spec (d := .mk k nm n t ns l) (TRep.ext x1 (by simp only [TRep]; exact r0))).mono ?_)
        rintro e h2 ⟨rfl, x2⟩
        have o2 := o1.ext x2
        rw [show NT.kind (.mk k nm n t ns l) = k from rfl]
        cases w1 : targetB k
        · cases w2 : (k == 22)
          · ((conv=>whnf);repeat((first|(with_reducible first|refine Z1 ?_|refine Z2 ?_|refine Z3 ?_|refine Z4 ?_|refine Z5 ?_|refine Z9 (by assumption) rfl ?_|refine ZA (by assumption) rfl ?_|refine ZB (by assumption) rfl ?_|refine Z6 ?_|refine Z7 ?_|refine Z8 ?_)|((with_reducible refine ZM ?_ ?_);(focus rfl)));(conv=>whnf)))
            exact ⟨rfl, x2⟩
          · cases w3 : ((l.length : Int) == 1)
            · ((conv=>whnf);repeat((first|(with_reducible first|refine Z1 ?_|refine Z2 ?_|refine Z3 ?_|refine Z4 ?_|refine Z5 ?_|refine Z9 (by assumption) rfl ?_|refine ZA (by assumption) rfl ?_|refine ZB (by assumption) rfl ?_|refine Z6 ?_|refine Z7 ?_|refine Z8 ?_)|((with_reducible refine ZM ?_ ?_);(focus rfl)));(conv=>whnf)))
              exact ⟨rfl, x2⟩
            · have hl0 : 0 < l.length := by rw [beq_iff_eq] at w3; omega
              ((conv=>whnf);repeat((first|(with_reducible first|refine Z1 ?_|refine Z2 ?_|refine Z3 ?_|refine Z4 ?_|refine Z5 ?_|refine Z9 (by assumption) rfl ?_|refine ZA (by assumption) rfl ?_|refine ZB (by assumption) rfl ?_|refine Z6 ?_|refine Z7 ?_|refine Z8 ?_)|((with_reducible refine ZM ?_ ?_);(focus rfl)));(conv=>whnf)))
              refine HIdx.mk 0 rfl hl0 ?_
              refine sl_some s2 hl0 fun p ep => ?_
              ((conv=>whnf);repeat((first|(with_reducible first|refine Z1 ?_|refine Z2 ?_|refine Z3 ?_|refine Z4 ?_|refine Z5 ?_|refine Z9 (by assumption) rfl ?_|refine ZA (by assumption) rfl ?_|refine ZB (by assumption) rfl ?_|refine Z6 ?_|refine Z7 ?_|refine Z8 ?_)|((with_reducible refine ZM ?_ ?_);(focus rfl)));(conv=>whnf)))
              refine tkids (s2.ext (x1.trans x2)) (s3.ext (x1.trans x2)) ep hl0 fun _ _ => ?_
              ((conv=>whnf);repeat((first|(with_reducible first|refine Z1 ?_|refine Z2 ?_|refine Z3 ?_|refine Z4 ?_|refine Z5 ?_|refine Z9 (by assumption) rfl ?_|refine ZA (by assumption) rfl ?_|refine ZB (by assumption) rfl ?_|refine Z6 ?_|refine Z7 ?_|refine Z8 ?_)|((with_reducible refine ZM ?_ ?_);(focus rfl)));(conv=>whnf)))
              exact ⟨rfl, x2⟩
        · ((conv=>whnf);repeat((first|(with_reducible first|refine Z1 ?_|refine Z2 ?_|refine Z3 ?_|refine Z4 ?_|refine Z5 ?_|refine Z9 (by assumption) rfl ?_|refine ZA (by assumption) rfl ?_|refine ZB (by assumption) rfl ?_|refine Z6 ?_|refine Z7 ?_|refine Z8 ?_)|((with_reducible refine ZM ?_ ?_);(focus rfl)));(conv=>whnf)))
          exact ⟨rfl, x2⟩
      have q119 : ((c.toNat : Int) == 119) = false := by rw [beq_eq_false_iff_ne]; omega
      by_cases c107 : c.toNat = 107
      · have q107 : ((c.toNat : Int) == 107) = true := by rw [beq_iff_eq]; omega
        have es : shapeB false k l c.toNat = (k == 37) := by unfold shapeB; rw [if_neg c101, if_neg c116, if_neg c102, if_neg c98, if_neg c99, if_neg c112, if_neg c100, if_neg c118, if_neg c119, if_pos c107]
        rw [es]
        ((conv=>whnf);repeat((first|(with_reducible first|refine Z1 ?_|refine Z2 ?_|refine Z3 ?_|refine Z4 ?_|refine Z5 ?_|refine Z9 (by assumption) rfl ?_|refine ZA (by assumption) rfl ?_|refine ZB (by assumption) rfl ?_|refine Z6 ?_|refine Z7 ?_|refine Z8 ?_)|((with_reducible refine ZM ?_ ?_);(focus rfl)));(conv=>whnf)))
        exact ⟨rfl, Ext.refl _⟩
      have q107 : ((c.toNat : Int) == 107) = false := by rw [beq_eq_false_iff_ne]; omega
      by_cases c115 : c.toNat = 115
      · have q115 : ((c.toNat : Int) == 115) = true := by rw [beq_iff_eq]; omega
        have es : shapeB false k l c.toNat = (stB k false) := by unfold shapeB; rw [if_neg c101, if_neg c116, if_neg c102, if_neg c98, if_neg c99, if_neg c112, if_neg c100, if_neg c118, if_neg c119, if_neg c107, if_pos c115]
        rw [es]
        have c120' : ((c.toNat : Int) == 120) = false := by rw [beq_eq_false_iff_ne]; omega
        unfold stB
        cases a0 : decide (k ≥ 22)
        · ((conv=>whnf);repeat((first|(with_reducible first|refine Z1 ?_|refine Z2 ?_|refine Z3 ?_|refine Z4 ?_|refine Z5 ?_|refine Z9 (by assumption) rfl ?_|refine ZA (by assumption) rfl ?_|refine ZB (by assumption) rfl ?_|refine Z6 ?_|refine Z7 ?_|refine Z8 ?_)|((with_reducible refine ZM ?_ ?_);(focus rfl)));(conv=>whnf)))
          exact ⟨rfl, Ext.refl _⟩
        · cases a1 : decide (k ≤ 40)
          · ((conv=>whnf);repeat((first|(with_reducible first|refine Z1 ?_|refine Z2 ?_|refine Z3 ?_|refine Z4 ?_|refine Z5 ?_|refine Z9 (by assumption) rfl ?_|refine ZA (by assumption) rfl ?_|refine ZB (by assumption) rfl ?_|refine Z6 ?_|refine Z7 ?_|refine Z8 ?_)|((with_reducible refine ZM ?_ ?_);(focus rfl)));(conv=>whnf)))
            exact ⟨rfl, Ext.refl _⟩
          · cases a2 : (k != 23)
            · ((conv=>whnf);repeat((first|(with_reducible first|refine Z1 ?_|refine Z2 ?_|refine Z3 ?_|refine Z4 ?_|refine Z5 ?_|refine Z9 (by assumption) rfl ?_|refine ZA (by assumption) rfl ?_|refine ZB (by assumption) rfl ?_|refine Z6 ?_|refine Z7 ?_|refine Z8 ?_)|((with_reducible refine ZM ?_ ?_);(focus rfl)));(conv=>whnf)))
              exact ⟨rfl, Ext.refl _⟩
            · cases a3 : (k != 37)
              · ((conv=>whnf);repeat((first|(with_reducible first|refine Z1 ?_|refine Z2 ?_|refine Z3 ?_|refine Z4 ?_|refine Z5 ?_|refine Z9 (by assumption) rfl ?_|refine ZA (by assumption) rfl ?_|refine ZB (by assumption) rfl ?_|refine Z6 ?_|refine Z7 ?_|refine Z8 ?_)|((with_reducible refine ZM ?_ ?_);(focus rfl)));(conv=>whnf)))
                exact ⟨rfl, Ext.refl _⟩
              · cases a5 : (k != 39)
                · ((conv=>whnf);repeat((first|(with_reducible first|refine Z1 ?_|refine Z2 ?_|refine Z3 ?_|refine Z4 ?_|refine Z5 ?_|refine Z9 (by assumption) rfl ?_|refine ZA (by assumption) rfl ?_|refine ZB (by assumption) rfl ?_|refine Z6 ?_|refine Z7 ?_|refine Z8 ?_)|((with_reducible refine ZM ?_ ?_);(focus rfl)));(conv=>whnf)))
                  exact ⟨(show [Value.bool ((c.toNat : Int) == 120)] = [Value.bool false] by rw [c120']), Ext.refl _⟩
                · ((conv=>whnf);repeat((first|(with_reducible first|refine Z1 ?_|refine Z2 ?_|refine Z3 ?_|refine Z4 ?_|refine Z5 ?_|refine Z9 (by assumption) rfl ?_|refine ZA (by assumption) rfl ?_|refine ZB (by assumption) rfl ?_|refine Z6 ?_|refine Z7 ?_|refine Z8 ?_)|((with_reducible refine ZM ?_ ?_);(focus rfl)));(conv=>whnf)))
                  exact ⟨rfl, Ext.refl _⟩
      have q115 : ((c.toNat : Int) == 115) = false := by rw [beq_eq_false_iff_ne]; omega
      by_cases c120 : c.toNat = 120
      · have q120 : ((c.toNat : Int) == 120) = true := by rw [beq_iff_eq]; omega
        have es : shapeB false k l c.toNat = (stB k true) := by unfold shapeB; rw [if_neg c101, if_neg c116, if_neg c102, if_neg c98, if_neg c99, if_neg c112, if_neg c100, if_neg c118, if_neg c119, if_neg c107, if_neg c115, if_pos c120]
        rw [es]
        unfold stB
        cases a0 : decide (k ≥ 22)
        · ((conv=>whnf);repeat((first|(with_reducible first|refine Z1 ?_|refine Z2 ?_|refine Z3 ?_|refine Z4 ?_|refine Z5 ?_|refine Z9 (by assumption) rfl ?_|refine ZA (by assumption) rfl ?_|refine ZB (by assumption) rfl ?_|refine Z6 ?_|refine Z7 ?_|refine Z8 ?_)|((with_reducible refine ZM ?_ ?_);(focus rfl)));(conv=>whnf)))
          exact ⟨rfl, Ext.refl _⟩
        · cases a1 : decide (k ≤ 40)
          · ((conv=>whnf);repeat((first|(with_reducible first|refine Z1 ?_|refine Z2 ?_|refine Z3 ?_|refine Z4 ?_|refine Z5 ?_|refine Z9 (by assumption) rfl ?_|refine ZA (by assumption) rfl ?_|refine ZB (by assumption) rfl ?_|refine Z6 ?_|refine Z7 ?_|refine Z8 ?_)|((with_reducible refine ZM ?_ ?_);(focus rfl)));(conv=>whnf)))
            exact ⟨rfl, Ext.refl _⟩
          · cases a2 : (k != 23)
            · ((conv=>whnf);repeat((first|(with_reducible first|refine Z1 ?_|refine Z2 ?_|refine Z3 ?_|refine Z4 ?_|refine Z5 ?_|refine Z9 (by assumption) rfl ?_|refine ZA (by assumption) rfl ?_|refine ZB (by assumption) rfl ?_|refine Z6 ?_|refine Z7 ?_|refine Z8 ?_)|((with_reducible refine ZM ?_ ?_);(focus rfl)));(conv=>whnf)))
              exact ⟨rfl, Ext.refl _⟩
            · cases a3 : (k != 37)
              · ((conv=>whnf);repeat((first|(with_reducible first|refine Z1 ?_|refine Z2 ?_|refine Z3 ?_|refine Z4 ?_|refine Z5 ?_|refine Z9 (by assumption) rfl ?_|refine ZA (by assumption) rfl ?_|refine ZB (by assumption) rfl ?_|refine Z6 ?_|refine Z7 ?_|refine Z8 ?_)|((with_reducible refine ZM ?_ ?_);(focus rfl)));(conv=>whnf)))
                exact ⟨rfl, Ext.refl _⟩
              · cases a5 : (k != 39)
                · ((conv=>whnf);repeat((first|(with_reducible first|refine Z1 ?_|refine Z2 ?_|refine Z3 ?_|refine Z4 ?_|refine Z5 ?_|refine Z9 (by assumption) rfl ?_|refine ZA (by assumption) rfl ?_|refine ZB (by assumption) rfl ?_|refine Z6 ?_|refine Z7 ?_|refine Z8 ?_)|((with_reducible refine ZM ?_ ?_);(focus rfl)));(conv=>whnf)))
                  exact ⟨(show [Value.bool ((c.toNat : Int) == 120)] = [Value.bool true] by rw [q120]), Ext.refl _⟩
                · ((conv=>whnf);repeat((first|(with_reducible first|refine Z1 ?_|refine Z2 ?_|refine Z3 ?_|refine Z4 ?_|refine Z5 ?_|refine Z9 (by assumption) rfl ?_|refine ZA (by assumption) rfl ?_|refine ZB (by assumption) rfl ?_|refine Z6 ?_|refine Z7 ?_|refine Z8 ?_)|((with_reducible refine ZM ?_ ?_);(focus rfl)));(conv=>whnf)))
                  exact ⟨rfl, Ext.refl _⟩
      have q120 : ((c.toNat : Int) == 120) = false := by rw [beq_eq_false_iff_ne]; omega
      have es : shapeB false k l c.toNat = false := by unfold shapeB; rw [if_neg c101, if_neg c116, if_neg c102, if_neg c98, if_neg c99, if_neg c112, if_neg c100, if_neg c118, if_neg c119, if_neg c107, if_neg c115, if_neg c120]
      rw [es]
      ((conv=>whnf);repeat((first|(with_reducible first|refine Z1 ?_|refine Z2 ?_|refine Z3 ?_|refine Z4 ?_|refine Z5 ?_|refine Z9 (by assumption) rfl ?_|refine ZA (by assumption) rfl ?_|refine ZB (by assumption) rfl ?_|refine Z6 ?_|refine Z7 ?_|refine Z8 ?_)|((with_reducible refine ZM ?_ ?_);(focus rfl)));(conv=>whnf)))
      exact ⟨rfl, Ext.refl _⟩
    · intro u2 h2 v7
      rintro ⟨e, x2⟩
      cases e
      have o2 := o1.ext x2
      cases hs : shapeB false k l c.toNat
      · ((conv=>whnf);repeat((first|(with_reducible first|refine Z1 ?_|refine Z2 ?_|refine Z3 ?_|refine Z4 ?_|refine Z5 ?_|refine Z9 (by assumption) rfl ?_|refine ZA (by assumption) rfl ?_|refine ZB (by assumption) rfl ?_|refine Z6 ?_|refine Z7 ?_|refine Z8 ?_)|((with_reducible refine ZM ?_ ?_);(focus rfl)));(conv=>whnf)))
        exact ⟨rfl, x1.trans x2⟩
      · ((conv=>whnf);repeat((first|(with_reducible first|refine Z1 ?_|refine Z2 ?_|refine Z3 ?_|refine Z4 ?_|refine Z5 ?_|refine Z9 (by assumption) rfl ?_|refine ZA (by assumption) rfl ?_|refine ZB (by assumption) rfl ?_|refine Z6 ?_|refine Z7 ?_|refine Z8 ?_)|((with_reducible refine ZM ?_ ?_);(focus rfl)));(conv=>whnf)))
        refine HCall.mk ((hm h2 (x1.trans x2)).mono ?_)
        rintro e h3 ⟨rfl, x3⟩
        ((conv=>whnf);repeat((first|(with_reducible first|refine Z1 ?_|refine Z2 ?_|refine Z3 ?_|refine Z4 ?_|refine Z5 ?_|refine Z9 (by assumption) rfl ?_|refine ZA (by assumption) rfl ?_|refine ZB (by assumption) rfl ?_|refine Z6 ?_|refine Z7 ?_|refine Z8 ?_)|((with_reducible refine ZM ?_ ?_);(focus rfl)));(conv=>whnf)))
        exact ⟨rfl, x1.trans (x2.trans x3)⟩
  · intro q1 q2
    ((conv=>whnf);repeat((first|(with_reducible first|refine Z2 ?_|refine Z3 ?_|refine Z4 ?_|refine Z5 ?_|refine Z9 (by assumption) rfl ?_|refine ZA (by assumption) rfl ?_|refine ZB (by assumption) rfl ?_|refine Z6 ?_|refine Z7 ?_|refine Z8 ?_)|((with_reducible refine ZM ?_ ?_);(focus rfl)));(conv=>whnf)))
    rw [q2]
    refine cut_rule [7] (fun vs h' => vs = [.bool (shapeB false k l c.toNat)] ∧ Ext h1 h') rfl ?_ ?_
    · skip
      by_cases c101 : c.toNat = 101
      · have q101 : ((c.toNat : Int) == 101) = true := by rw [beq_iff_eq]; omega
        have es : shapeB false k l c.toNat = (false) := by unfold shapeB; rw [if_pos c101]
        rw [es]
        ((conv=>whnf);repeat((first|(with_reducible first|refine Z1 ?_|refine Z2 ?_|refine Z3 ?_|refine Z4 ?_|refine Z5 ?_|refine Z9 (by assumption) rfl ?_|refine ZA (by assumption) rfl ?_|refine ZB (by assumption) rfl ?_|refine Z6 ?_|refine Z7 ?_|refine Z8 ?_)|((with_reducible refine ZM ?_ ?_);(focus rfl)));(conv=>whnf)))
        exact ⟨rfl, Ext.refl _⟩
      have q101 : ((c.toNat : Int) == 101) = false := by rw [beq_eq_false_iff_ne]; omega
      by_cases c116 : c.toNat = 116
      · have q116 : ((c.toNat : Int) == 116) = true := by rw [beq_iff_eq]; omega
        have es : shapeB false k l c.toNat = (targetB k) := by unfold shapeB; rw [if_neg c101, if_pos c116]
        rw [es]
        ((conv=>whnf);repeat((first|(with_reducible first|refine Z1 ?_|refine Z2 ?_|refine Z3 ?_|refine Z4 ?_|refine Z5 ?_|refine Z9 (by assumption) rfl ?_|refine ZA (by assumption) rfl ?_|refine ZB (by assumption) rfl ?_|refine Z6 ?_|refine Z7 ?_|refine Z8 ?_)|((with_reducible refine ZM ?_ ?_);(focus rfl)));(conv=>whnf)))
        refine HCall.mk ((target_spec (d := .mk k nm n t ns l) (TRep.ext x1 (by simp only [TRep]; exact r0))).mono ?_)
        rintro e h2 ⟨rfl, x2⟩
        ((conv=>whnf);repeat((first|(with_reducible first|refine Z1 ?_|refine Z2 ?_|refine Z3 ?_|refine Z4 ?_|refine Z5 ?_|refine Z9 (by assumption) rfl ?_|refine ZA (by assumption) rfl ?_|refine ZB (by assumption) rfl ?_|refine Z6 ?_|refine Z7 ?_|refine Z8 ?_)|((with_reducible refine ZM ?_ ?_);(focus rfl)));(conv=>whnf)))
        exact ⟨rfl, x2⟩
      have q116 : ((c.toNat : Int) == 116) = false := by rw [beq_eq_false_iff_ne]; omega
      by_cases c102 : c.toNat = 102
      · have q102 : ((c.toNat : Int) == 102) = true := by rw [beq_iff_eq]; omega
        have es : shapeB false k l c.toNat = (false || (k == 42)) := by unfold shapeB; rw [if_neg c101, if_neg c116, if_pos c102]
        rw [es]
        ((conv=>whnf);repeat((first|(with_reducible first|refine Z1 ?_|refine Z2 ?_|refine Z3 ?_|refine Z4 ?_|refine Z5 ?_|refine Z9 (by assumption) rfl ?_|refine ZA (by assumption) rfl ?_|refine ZB (by assumption) rfl ?_|refine Z6 ?_|refine Z7 ?_|refine Z8 ?_)|((with_reducible refine ZM ?_ ?_);(focus rfl)));(conv=>whnf)))
        exact ⟨rfl, Ext.refl _⟩
      have q102 : ((c.toNat : Int) == 102) = false := by rw [beq_eq_false_iff_ne]; omega
      by_cases c98 : c.toNat = 98
      · have q98 : ((c.toNat : Int) == 98) = true := by rw [beq_iff_eq]; omega
        have es : shapeB false k l c.toNat = (k == 25) := by unfold shapeB; rw [if_neg c101, if_neg c116, if_neg c102, if_pos c98]
        rw [es]
        ((conv=>whnf);repeat((first|(with_reducible first|refine Z1 ?_|refine Z2 ?_|refine Z3 ?_|refine Z4 ?_|refine Z5 ?_|refine Z9 (by assumption) rfl ?_|refine ZA (by assumption) rfl ?_|refine ZB (by assumption) rfl ?_|refine Z6 ?_|refine Z7 ?_|refine Z8 ?_)|((with_reducible refine ZM ?_ ?_);(focus rfl)));(conv=>whnf)))
        exact ⟨rfl, Ext.refl _⟩
      have q98 : ((c.toNat : Int) == 98) = false := by rw [beq_eq_false_iff_ne]; omega
      by_cases c99 : c.toNat = 99
      · have q99 : ((c.toNat : Int) == 99) = true := by rw [beq_iff_eq]; omega
        have es : shapeB false k l c.toNat = ((k == 25) || (k == 42)) := by unfold shapeB; rw [if_neg c101, if_neg c116, if_neg c102, if_neg c98, if_pos c99]
        rw [es]
        cases v1 : (k == 25)
        · ((conv=>whnf);repeat((first|(with_reducible first|refine Z1 ?_|refine Z2 ?_|refine Z3 ?_|refine Z4 ?_|refine Z5 ?_|refine Z9 (by assumption) rfl ?_|refine ZA (by assumption) rfl ?_|refine ZB (by assumption) rfl ?_|refine Z6 ?_|refine Z7 ?_|refine Z8 ?_)|((with_reducible refine ZM ?_ ?_);(focus rfl)));(conv=>whnf)))
          exact ⟨rfl, Ext.refl _⟩
        · ((conv=>whnf);repeat((first|(with_reducible first|refine Z1 ?_|refine Z2 ?_|refine Z3 ?_|refine Z4 ?_|refine Z5 ?_|refine Z9 (by assumption) rfl ?_|refine ZA (by assumption) rfl ?_|refine ZB (by assumption) rfl ?_|refine Z6 ?_|refine Z7 ?_|refine Z8 ?_)|((with_reducible refine ZM ?_ ?_);(focus rfl)));(conv=>whnf)))
          exact ⟨rfl, Ext.refl _⟩
      have q99 : ((c.toNat : Int) == 99) = false := by rw [beq_eq_false_iff_ne]; omega
      by_cases c112 : c.toNat = 112
      · have q112 : ((c.toNat : Int) == 112) = true := by rw [beq_iff_eq]; omega
        have es : shapeB false k l c.toNat = (k == 9) := by unfold shapeB; rw [if_neg c101, if_neg c116, if_neg c102, if_neg c98, if_neg c99, if_pos c112]
        rw [es]
        ((conv=>whnf);repeat((first|(with_reducible first|refine Z1 ?_|refine Z2 ?_|refine Z3 ?_|refine Z4 ?_|refine Z5 ?_|refine Z9 (by assumption) rfl ?_|refine ZA (by assumption) rfl ?_|refine ZB (by assumption) rfl ?_|refine Z6 ?_|refine Z7 ?_|refine Z8 ?_)|((with_reducible refine ZM ?_ ?_);(focus rfl)));(conv=>whnf)))
        exact ⟨rfl, Ext.refl _⟩
      have q112 : ((c.toNat : Int) == 112) = false := by rw [beq_eq_false_iff_ne]; omega
      by_cases c100 : c.toNat = 100
      · have q100 : ((c.toNat : Int) == 100) = true := by rw [beq_iff_eq]; omega
        have es : shapeB false k l c.toNat = (k == 23) := by unfold shapeB; rw [if_neg c101, if_neg c116, if_neg c102, if_neg c98, if_neg c99, if_neg c112, if_pos c100]
        rw [es]
        ((conv=>whnf);repeat((first|(with_reducible first|refine Z1 ?_|refine Z2 ?_|refine Z3 ?_|refine Z4 ?_|refine Z5 ?_|refine Z9 (by assumption) rfl ?_|refine ZA (by assumption) rfl ?_|refine ZB (by assumption) rfl ?_|refine Z6 ?_|refine Z7 ?_|refine Z8 ?_)|((with_reducible refine ZM ?_ ?_);(focus rfl)));(conv=>whnf)))
        exact ⟨rfl, Ext.refl _⟩
      have q100 : ((c.toNat : Int) == 100) = false := by rw [beq_eq_false_iff_ne]; omega
      by_cases c118 : c.toNat = 118
      · have q118 : ((c.toNat : Int) == 118) = true := by rw [beq_iff_eq]; omega
        have es : shapeB false k l c.toNat = (false || (k == 42) || (k == 22)) := by unfold shapeB; rw [if_neg c101, if_neg c116, if_neg c102, if_neg c98, if_neg c99, if_neg c112, if_neg c100, if_pos c118]
        rw [es]
        cases v1 : (k == 42)
        · ((conv=>whnf);repeat((first|(with_reducible first|refine Z1 ?_|refine Z2 ?_|refine Z3 ?_|refine Z4 ?_|refine Z5 ?_|refine Z9 (by assumption) rfl ?_|refine ZA (by assumption) rfl ?_|refine ZB (by assumption) rfl ?_|refine Z6 ?_|refine Z7 ?_|refine Z8 ?_)|((with_reducible refine ZM ?_ ?_);(focus rfl)));(conv=>whnf)))
          exact ⟨rfl, Ext.refl _⟩
        · ((conv=>whnf);repeat((first|(with_reducible first|refine Z1 ?_|refine Z2 ?_|refine Z3 ?_|refine Z4 ?_|refine Z5 ?_|refine Z9 (by assumption) rfl ?_|refine ZA (by assumption) rfl ?_|refine ZB (by assumption) rfl ?_|refine Z6 ?_|refine Z7 ?_|refine Z8 ?_)|((with_reducible refine ZM ?_ ?_);(focus rfl)));(conv=>whnf)))
          exact ⟨rfl, Ext.refl _⟩
      have q118 : ((c.toNat : Int) == 118) = false := by rw [beq_eq_false_iff_ne]; omega
      by_cases c119 : c.toNat = 119
      · have q119 : ((c.toNat : Int) == 119) = true := by rw [beq_iff_eq]; omega
        have es : shapeB false k l c.toNat = (targetB k || ((k == 22) && ((l.length : Int) == 1) && ((kidLen l : Int) == 0))) := by unfold shapeB; rw [if_neg c101, if_neg c116, if_neg c102, if_neg c98, if_neg c99, if_neg c112, if_neg c100, if_neg c118, if_pos c119]
        rw [es]
        ((conv=>whnf);repeat((first|(with_reducible first|refine Z1 ?_|refine Z2 ?_|refine Z3 ?_|refine Z4 ?_|refine Z5 ?_|refine Z9 (by assumption) rfl ?_|refine ZA (by assumption) rfl ?_|refine ZB (by assumption) rfl ?_|refine Z6 ?_|refine Z7 ?_|refine Z8 ?_)|((with_reducible refine ZM ?_ ?_);(focus rfl)));(conv=>whnf)))
        refine HCall.mk ((target_spec (d := .mk k nm n t ns l) (TRep.ext x1 (by simp only [TRep]; exact r0))).mono ?_)
        rintro e h2 ⟨rfl, x2⟩
        have o2 := o1.ext x2
        rw [show NT.kind (.mk k nm n t ns l) = k from rfl]
        cases w1 : targetB k
        · cases w2 : (k == 22)
          · ((conv=>whnf);repeat((first|(with_reducible first|refine Z1 ?_|refine Z2 ?_|refine Z3 ?_|refine Z4 ?_|refine Z5 ?_|refine Z9 (by assumption) rfl ?_|refine ZA (by assumption) rfl ?_|refine ZB (by assumption) rfl ?_|refine Z6 ?_|refine Z7 ?_|refine Z8 ?_)|((with_reducible refine ZM ?_ ?_);(focus rfl)));(conv=>whnf)))
            exact ⟨rfl, x2⟩
          · cases w3 : ((l.length : Int) == 1)
            · ((conv=>whnf);repeat((first|(with_reducible first|refine Z1 ?_|refine Z2 ?_|refine Z3 ?_|refine Z4 ?_|refine Z5 ?_|refine Z9 (by assumption) rfl ?_|refine ZA (by assumption) rfl ?_|refine ZB (by assumption) rfl ?_|refine Z6 ?_|refine Z7 ?_|refine Z8 ?_)|((with_reducible refine ZM ?_ ?_);(focus rfl)));(conv=>whnf)))
              exact ⟨rfl, x2⟩
            · have hl0 : 0 < l.length := by rw [beq_iff_eq] at w3; omega
              ((conv=>whnf);repeat((first|(with_reducible first|refine Z1 ?_|refine Z2 ?_|refine Z3 ?_|refine Z4 ?_|refine Z5 ?_|refine Z9 (by assumption) rfl ?_|refine ZA (by assumption) rfl ?_|refine ZB (by assumption) rfl ?_|refine Z6 ?_|refine Z7 ?_|refine Z8 ?_)|((with_reducible refine ZM ?_ ?_);(focus rfl)));(conv=>whnf)))
              refine HIdx.mk 0 rfl hl0 ?_
              refine sl_some s2 hl0 fun p ep => ?_
              ((conv=>whnf);repeat((first|(with_reducible first|refine Z1 ?_|refine Z2 ?_|refine Z3 ?_|refine Z4 ?_|refine Z5 ?_|refine Z9 (by assumption) rfl ?_|refine ZA (by assumption) rfl ?_|refine ZB (by assumption) rfl ?_|refine Z6 ?_|refine Z7 ?_|refine Z8 ?_)|((with_reducible refine ZM ?_ ?_);(focus rfl)));(conv=>whnf)))
              refine tkids (s2.ext (x1.trans x2)) (s3.ext (x1.trans x2)) ep hl0 fun _ _ => ?_
              ((conv=>whnf);repeat((first|(with_reducible first|refine Z1 ?_|refine Z2 ?_|refine Z3 ?_|refine Z4 ?_|refine Z5 ?_|refine Z9 (by assumption) rfl ?_|refine ZA (by assumption) rfl ?_|refine ZB (by assumption) rfl ?_|refine Z6 ?_|refine Z7 ?_|refine Z8 ?_)|((with_reducible refine ZM ?_ ?_);(focus rfl)));(conv=>whnf)))
              exact ⟨rfl, x2⟩
        · ((conv=>whnf);repeat((first|(with_reducible first|refine Z1 ?_|refine Z2 ?_|refine Z3 ?_|refine Z4 ?_|refine Z5 ?_|refine Z9 (by assumption) rfl ?_|refine ZA (by assumption) rfl ?_|refine ZB (by assumption) rfl ?_|refine Z6 ?_|refine Z7 ?_|refine Z8 ?_)|((with_reducible refine ZM ?_ ?_);(focus rfl)));(conv=>whnf)))
          exact ⟨rfl, x2⟩
      have q119 : ((c.toNat : Int) == 119) = false := by rw [beq_eq_false_iff_ne]; omega
      by_cases c107 : c.toNat = 107
      · have q107 : ((c.toNat : Int) == 107) = true := by rw [beq_iff_eq]; omega
        have es : shapeB false k l c.toNat = (k == 37) := by unfold shapeB; rw [if_neg c101, if_neg c116, if_neg c102, if_neg c98, if_neg c99, if_neg c112, if_neg c100, if_neg c118, if_neg c119, if_pos c107]
        rw [es]
        ((conv=>whnf);repeat((first|(with_reducible first|refine Z1 ?_|refine Z2 ?_|refine Z3 ?_|refine Z4 ?_|refine Z5 ?_|refine Z9 (by assumption) rfl ?_|refine ZA (by assumption) rfl ?_|refine ZB (by assumption) rfl ?_|refine Z6 ?_|refine Z7 ?_|refine Z8 ?_)|((with_reducible refine ZM ?_ ?_);(focus rfl)));(conv=>whnf)))
        exact ⟨rfl, Ext.refl _⟩
      have q107 : ((c.toNat : Int) == 107) = false := by rw [beq_eq_false_iff_ne]; omega
      by_cases c115 : c.toNat = 115
      · have q115 : ((c.toNat : Int) == 115) = true := by rw [beq_iff_eq]; omega
        have es : shapeB false k l c.toNat = (stB k false) := by unfold shapeB; rw [if_neg c101, if_neg c116, if_neg c102, if_neg c98, if_neg c99, if_neg c112, if_neg c100, if_neg c118, if_neg c119, if_neg c107, if_pos c115]
        rw [es]
        have c120' : ((c.toNat : Int) == 120) = false := by rw [beq_eq_false_iff_ne]; omega
        unfold stB
        cases a0 : decide (k ≥ 22)
        · ((conv=>whnf);repeat((first|(with_reducible first|refine Z1 ?_|refine Z2 ?_|refine Z3 ?_|refine Z4 ?_|refine Z5 ?_|refine Z9 (by assumption) rfl ?_|refine ZA (by assumption) rfl ?_|refine ZB (by assumption) rfl ?_|refine Z6 ?_|refine Z7 ?_|refine Z8 ?_)|((with_reducible refine ZM ?_ ?_);(focus rfl)));(conv=>whnf)))
          exact ⟨rfl, Ext.refl _⟩
        · cases a1 : decide (k ≤ 40)
          · ((conv=>whnf);repeat((first|(with_reducible first|refine Z1 ?_|refine Z2 ?_|refine Z3 ?_|refine Z4 ?_|refine Z5 ?_|refine Z9 (by assumption) rfl ?_|refine ZA (by assumption) rfl ?_|refine ZB (by assumption) rfl ?_|refine Z6 ?_|refine Z7 ?_|refine Z8 ?_)|((with_reducible refine ZM ?_ ?_);(focus rfl)));(conv=>whnf)))
            exact ⟨rfl, Ext.refl _⟩
          · cases a2 : (k != 23)
            · ((conv=>whnf);repeat((first|(with_reducible first|refine Z1 ?_|refine Z2 ?_|refine Z3 ?_|refine Z4 ?_|refine Z5 ?_|refine Z9 (by assumption) rfl ?_|refine ZA (by assumption) rfl ?_|refine ZB (by assumption) rfl ?_|refine Z6 ?_|refine Z7 ?_|refine Z8 ?_)|((with_reducible refine ZM ?_ ?_);(focus rfl)));(conv=>whnf)))
              exact ⟨rfl, Ext.refl _⟩
            · cases a3 : (k != 37)
              · ((conv=>whnf);repeat((first|(with_reducible first|refine Z1 ?_|refine Z2 ?_|refine Z3 ?_|refine Z4 ?_|refine Z5 ?_|refine Z9 (by assumption) rfl ?_|refine ZA (by assumption) rfl ?_|refine ZB (by assumption) rfl ?_|refine Z6 ?_|refine Z7 ?_|refine Z8 ?_)|((with_reducible refine ZM ?_ ?_);(focus rfl)));(conv=>whnf)))
                exact ⟨rfl, Ext.refl _⟩
              · cases a5 : (k != 39)
                · ((conv=>whnf);repeat((first|(with_reducible first|refine Z1 ?_|refine Z2 ?_|refine Z3 ?_|refine Z4 ?_|refine Z5 ?_|refine Z9 (by assumption) rfl ?_|refine ZA (by assumption) rfl ?_|refine ZB (by assumption) rfl ?_|refine Z6 ?_|refine Z7 ?_|refine Z8 ?_)|((with_reducible refine ZM ?_ ?_);(focus rfl)));(conv=>whnf)))
                  exact ⟨(show [Value.bool ((c.toNat : Int) == 120)] = [Value.bool false] by rw [c120']), Ext.refl _⟩
                · ((conv=>whnf);repeat((first|(with_reducible first|refine Z1 ?_|refine Z2 ?_|refine Z3 ?_|refine Z4 ?_|refine Z5 ?_|refine Z9 (by assumption) rfl ?_|refine ZA (by assumption) rfl ?_|refine ZB (by assumption) rfl ?_|refine Z6 ?_|refine Z7 ?_|refine Z8 ?_)|((with_reducible refine ZM ?_ ?_);(focus rfl)));(conv=>whnf)))
                  exact ⟨rfl, Ext.refl _⟩
      have q115 : ((c.toNat : Int) == 115) = false := by rw [beq_eq_false_iff_ne]; omega
      by_cases c120 : c.toNat = 120
      · have q120 : ((c.toNat : Int) == 120) = true := by rw [beq_iff_eq]; omega
        have es : shapeB false k l c.toNat = (stB k true) := by unfold shapeB; rw [if_neg c101, if_neg c116, if_neg c102, if_neg c98, if_neg c99, if_neg c112, if_neg c100, if_neg c118, if_neg c119, if_neg c107, if_neg c115, if_pos c120]
        rw [es]
        unfold stB
        cases a0 : decide (k ≥ 22)
        · ((conv=>whnf);repeat((first|(with_reducible first|refine Z1 ?_|refine Z2 ?_|refine Z3 ?_|refine Z4 ?_|refine Z5 ?_|refine Z9 (by assumption) rfl ?_|refine ZA (by assumption) rfl ?_|refine ZB (by assumption) rfl ?_|refine Z6 ?_|refine Z7 ?_|refine Z8 ?_)|((with_reducible refine ZM ?_ ?_);(focus rfl)));(conv=>whnf)))
          exact ⟨rfl, Ext.refl _⟩
        · cases a1 : decide (k ≤ 40)
          · ((conv=>whnf);repeat((first|(with_reducible first|refine Z1 ?_|refine Z2 ?_|refine Z3 ?_|refine Z4 ?_|refine Z5 ?_|refine Z9 (by assumption) rfl ?_|refine ZA (by assumption) rfl ?_|refine ZB (by assumption) rfl ?_|refine Z6 ?_|refine Z7 ?_|refine Z8 ?_)|((with_reducible refine ZM ?_ ?_);(focus rfl)));(conv=>whnf)))
            exact ⟨rfl, Ext.refl _⟩
          · cases a2 : (k != 23)
            · ((conv=>whnf);repeat((first|(with_reducible first|refine Z1 ?_|refine Z2 ?_|refine Z3 ?_|refine Z4 ?_|refine Z5 ?_|refine Z9 (by assumption) rfl ?_|refine ZA (by assumption) rfl ?_|refine ZB (by assumption) rfl ?_|refine Z6 ?_|refine Z7 ?_|refine Z8 ?_)|((with_reducible refine ZM ?_ ?_);(focus rfl)));(conv=>whnf)))
              exact ⟨rfl, Ext.refl _⟩
            · cases a3 : (k != 37)
              · ((conv=>whnf);repeat((first|(with_reducible first|refine Z1 ?_|refine Z2 ?_|refine Z3 ?_|refine Z4 ?_|refine Z5 ?_|refine Z9 (by assumption) rfl ?_|refine ZA (by assumption) rfl ?_|refine ZB (by assumption) rfl ?_|refine Z6 ?_|refine Z7 ?_|refine Z8 ?_)|((with_reducible refine ZM ?_ ?_);(focus rfl)));(conv=>whnf)))
                exact ⟨rfl, Ext.refl _⟩
              · cases a5 : (k != 39)
                · ((conv=>whnf);repeat((first|(with_reducible first|refine Z1 ?_|refine Z2 ?_|refine Z3 ?_|refine Z4 ?_|refine Z5 ?_|refine Z9 (by assumption) rfl ?_|refine ZA (by assumption) rfl ?_|refine ZB (by assumption) rfl ?_|refine Z6 ?_|refine Z7 ?_|refine Z8 ?_)|((with_reducible refine ZM ?_ ?_);(focus rfl)));(conv=>whnf)))
                  exact ⟨(show [Value.bool ((c.toNat : Int) == 120)] = [Value.bool true] by rw [q120]), Ext.refl _⟩
                · ((conv=>whnf);repeat((first|(with_reducible first|refine Z1 ?_|refine Z2 ?_|refine Z3 ?_|refine Z4 ?_|refine Z5 ?_|refine Z9 (by assumption) rfl ?_|refine ZA (by assumption) rfl ?_|refine ZB (by assumption) rfl ?_|refine Z6 ?_|refine Z7 ?_|refine Z8 ?_)|((with_reducible refine ZM ?_ ?_);(focus rfl)));(conv=>whnf)))
                  exact ⟨rfl, Ext.refl _⟩
      have q120 : ((c.toNat : Int) == 120) = false := by rw [beq_eq_false_iff_ne]; omega
      have es : shapeB false k l c.toNat = false := by unfold shapeB; rw [if_neg c101, if_neg c116, if_neg c102, if_neg c98, if_neg c99, if_neg c112, if_neg c100, if_neg c118, if_neg c119, if_neg c107, if_neg c115, if_neg c120]
      rw [es]
      ((conv=>whnf);repeat((first|(with_reducible first|refine Z1 ?_|refine Z2 ?_|refine Z3 ?_|refine Z4 ?_|refine Z5 ?_|refine Z9 (by assumption) rfl ?_|refine ZA (by assumption) rfl ?_|refine ZB (by assumption) rfl ?_|refine Z6 ?_|refine Z7 ?_|refine Z8 ?_)|((with_reducible refine ZM ?_ ?_);(focus rfl)));(conv=>whnf)))
      exact ⟨rfl, Ext.refl _⟩
    · intro u2 h2 v7
      rintro ⟨e, x2⟩
      cases e
      have o2 := o1.ext x2
      cases hs : shapeB false k l c.toNat
      · ((conv=>whnf);repeat((first|(with_reducible first|refine Z1 ?_|refine Z2 ?_|refine Z3 ?_|refine Z4 ?_|refine Z5 ?_|refine Z9 (by assumption) rfl ?_|refine ZA (by assumption) rfl ?_|refine ZB (by assumption) rfl ?_|refine Z6 ?_|refine Z7 ?_|refine Z8 ?_)|((with_reducible refine ZM ?_ ?_);(focus rfl)));(conv=>whnf)))
        exact ⟨rfl, x1.trans x2⟩
      · ((conv=>whnf);repeat((first|(with_reducible first|refine Z1 ?_|refine Z2 ?_|refine Z3 ?_|refine Z4 ?_|refine Z5 ?_|refine Z9 (by assumption) rfl ?_|refine ZA (by assumption) rfl ?_|refine ZB (by assumption) rfl ?_|refine Z6 ?_|refine Z7 ?_|refine Z8 ?_)|((with_reducible refine ZM ?_ ?_);(focus rfl)));(conv=>whnf)))
        refine HCall.mk ((hm h2 (x1.trans x2)).mono ?_)
        rintro e h3 ⟨rfl, x3⟩
        ((conv=>whnf);repeat((first|(with_reducible first|refine Z1 ?_|refine Z2 ?_|refine Z3 ?_|refine Z4 ?_|refine Z5 ?_|refine Z9 (by assumption) rfl ?_|refine ZA (by assumption) rfl ?_|refine ZB (by assumption) rfl ?_|refine Z6 ?_|refine Z7 ?_|refine Z8 ?_)|((with_reducible refine ZM ?_ ?_);(focus rfl)));(conv=>whnf)))
        exact ⟨rfl, x1.trans (x2.trans x3)⟩
  · intro q1 q2 q3
    ((conv=>whnf);repeat((first|(with_reducible first|refine Z2 ?_|refine Z3 ?_|refine Z4 ?_|refine Z5 ?_|refine Z9 (by assumption) rfl ?_|refine ZA (by assumption) rfl ?_|refine ZB (by assumption) rfl ?_|refine Z6 ?_|refine Z7 ?_|refine Z8 ?_)|((with_reducible refine ZM ?_ ?_);(focus rfl)));(conv=>whnf)))
    rw [q3]
    refine cut_rule [7] (fun vs h' => vs = [.bool (shapeB false k l c.toNat)] ∧ Ext h1 h') rfl ?_ ?_
    · skip
      by_cases c101 : c.toNat = 101
      · have q101 : ((c.toNat : Int) == 101) = true := by rw [beq_iff_eq]; omega
        have es : shapeB false k l c.toNat = (false) := by unfold shapeB; rw [if_pos c101]
        rw [es]
        ((conv=>whnf);repeat((first|(with_reducible first|refine Z1 ?_|refine Z2 ?_|refine Z3 ?_|refine Z4 ?_|refine Z5 ?_|refine Z9 (by assumption) rfl ?_|refine ZA (by assumption) rfl ?_|refine ZB (by assumption) rfl ?_|refine Z6 ?_|refine Z7 ?_|refine Z8 ?_)|((with_reducible refine ZM ?_ ?_);(focus rfl)));(conv=>whnf)))
        exact ⟨rfl, Ext.refl _⟩
      have q101 : ((c.toNat : Int) == 101) = false := by rw [beq_eq_false_iff_ne]; omega
      by_cases c116 : c.toNat = 116
      · have q116 : ((c.toNat : Int) == 116) = true := by rw [beq_iff_eq]; omega
        have es : shapeB false k l c.toNat = (targetB k) := by unfold shapeB; rw [if_neg c101, if_pos c116]
        rw [es]
        ((conv=>whnf);repeat((first|(with_reducible first|refine Z1 ?_|refine Z2 ?_|refine Z3 ?_|refine Z4 ?_|refine Z5 ?_|refine Z9 (by assumption) rfl ?_|refine ZA (by assumption) rfl ?_|refine ZB (by assumption) rfl ?_|refine Z6 ?_|refine Z7 ?_|refine Z8 ?_)|((with_reducible refine ZM ?_ ?_);(focus rfl)));(conv=>whnf)))
        refine HCall.mk ((target_spec (d := .mk k nm n t ns l) (TRep.ext x1 (by simp only [TRep]; exact r0))).mono ?_)
        rintro e h2 ⟨rfl, x2⟩
        ((conv=>whnf);repeat((first|(with_reducible first|refine Z1 ?_|refine Z2 ?_|refine Z3 ?_|refine Z4 ?_|refine Z5 ?_|refine Z9 (by assumption) rfl ?_|refine ZA (by assumption) rfl ?_|refine ZB (by assumption) rfl ?_|refine Z6 ?_|refine Z7 ?_|refine Z8 ?_)|((with_reducible refine ZM ?_ ?_);(focus rfl)));(conv=>whnf)))
        exact ⟨rfl, x2⟩
      have q116 : ((c.toNat : Int) == 116) = false := by rw [beq_eq_false_iff_ne]; omega
      by_cases c102 : c.toNat = 102
      · have q102 : ((c.toNat : Int) == 102) = true := by rw [beq_iff_eq]; omega
        have es : shapeB false k l c.toNat = (false || (k == 42)) := by unfold shapeB; rw [if_neg c101, if_neg c116, if_pos c102]
        rw [es]
        ((conv=>whnf);repeat((first|(with_reducible first|refine Z1 ?_|refine Z2 ?_|refine Z3 ?_|refine Z4 ?_|refine Z5 ?_|refine Z9 (by assumption) rfl ?_|refine ZA (by assumption) rfl ?_|refine ZB (by assumption) rfl ?_|refine Z6 ?_|refine Z7 ?_|refine Z8 ?_)|((with_reducible refine ZM ?_ ?_);(focus rfl)));(conv=>whnf)))
        exact ⟨rfl, Ext.refl _⟩
      have q102 : ((c.toNat : Int) == 102) = false := by rw [beq_eq_false_iff_ne]; omega
      by_cases c98 : c.toNat = 98
      · have q98 : ((c.toNat : Int) == 98) = true := by rw [beq_iff_eq]; omega
        have es : shapeB false k l c.toNat = (k == 25) := by unfold shapeB; rw [if_neg c101, if_neg c116, if_neg c102, if_pos c98]
        rw [es]
        ((conv=>whnf);repeat((first|(with_reducible first|refine Z1 ?_|refine Z2 ?_|refine Z3 ?_|refine Z4 ?_|refine Z5 ?_|refine Z9 (by assumption) rfl ?_|refine ZA (by assumption) rfl ?_|refine ZB (by assumption) rfl ?_|refine Z6 ?_|refine Z7 ?_|refine Z8 ?_)|((with_reducible refine ZM ?_ ?_);(focus rfl)));(conv=>whnf)))
        exact ⟨rfl, Ext.refl _⟩
      have q98 : ((c.toNat : Int) == 98) = false := by rw [beq_eq_false_iff_ne]; omega
      by_cases c99 : c.toNat = 99
      · have q99 : ((c.toNat : Int) == 99) = true := by rw [beq_iff_eq]; omega
        have es : shapeB false k l c.toNat = ((k == 25) || (k == 42)) := by unfold shapeB; rw [if_neg c101, if_neg c116, if_neg c102, if_neg c98, if_pos c99]
        rw [es]
        cases v1 : (k == 25)
        · ((conv=>whnf);repeat((first|(with_reducible first|refine Z1 ?_|refine Z2 ?_|refine Z3 ?_|refine Z4 ?_|refine Z5 ?_|refine Z9 (by assumption) rfl ?_|refine ZA (by assumption) rfl ?_|refine ZB (by assumption) rfl ?_|refine Z6 ?_|refine Z7 ?_|refine Z8 ?_)|((with_reducible refine ZM ?_ ?_);(focus rfl)));(conv=>whnf)))
          exact ⟨rfl, Ext.refl _⟩
        · ((conv=>whnf);repeat((first|(with_reducible first|refine Z1 ?_|refine Z2 ?_|refine Z3 ?_|refine Z4 ?_|refine Z5 ?_|refine Z9 (by assumption) rfl ?_|refine ZA (by assumption) rfl ?_|refine ZB (by assumption) rfl ?_|refine Z6 ?_|refine Z7 ?_|refine Z8 ?_)|((with_reducible refine ZM ?_ ?_);(focus rfl)));(conv=>whnf)))
          exact ⟨rfl, Ext.refl _⟩
      have q99 : ((c.toNat : Int) == 99) = false := by rw [beq_eq_false_iff_ne]; omega
      by_cases c112 : c.toNat = 112
      · have q112 : ((c.toNat : Int) == 112) = true := by rw [beq_iff_eq]; omega
        have es : shapeB false k l c.toNat = (k == 9) := by unfold shapeB; rw [if_neg c101, if_neg c116, if_neg c102, if_neg c98, if_neg c99, if_pos c112]
        rw [es]
        ((conv=>whnf);repeat((first|(with_reducible first|refine Z1 ?_|refine Z2 ?_|refine Z3 ?_|refine Z4 ?_|refine Z5 ?_|refine Z9 (by assumption) rfl ?_|refine ZA (by assumption) rfl ?_|refine ZB (by assumption) rfl ?_|refine Z6 ?_|refine Z7 ?_|refine Z8 ?_)|((with_reducible refine ZM ?_ ?_);(focus rfl)));(conv=>whnf)))
        exact ⟨rfl, Ext.refl _⟩
      have q112 : ((c.toNat : Int) == 112) = false := by rw [beq_eq_false_iff_ne]; omega
      by_cases c100 : c.toNat = 100
      · have q100 : ((c.toNat : Int) == 100) = true := by rw [beq_iff_eq]; omega
        have es : shapeB false k l c.toNat = (k == 23) := by unfold shapeB; rw [if_neg c101, if_neg c116, if_neg c102, if_neg c98, if_neg c99, if_neg c112, if_pos c100]
        rw [es]
        ((conv=>whnf);repeat((first|(with_reducible first|refine Z1 ?_|refine Z2 ?_|refine Z3 ?_|refine Z4 ?_|refine Z5 ?_|refine Z9 (by assumption) rfl ?_|refine ZA (by assumption) rfl ?_|refine ZB (by assumption) rfl ?_|refine Z6 ?_|refine Z7 ?_|refine Z8 ?_)|((with_reducible refine ZM ?_ ?_);(focus rfl)));(conv=>whnf)))
        exact ⟨rfl, Ext.refl _⟩
      have q100 : ((c.toNat : Int) == 100) = false := by rw [beq_eq_false_iff_ne]; omega
      by_cases c118 : c.toNat = 118
      · have q118 : ((c.toNat : Int) == 118) = true := by rw [beq_iff_eq]; omega
        have es : shapeB false k l c.toNat = (false || (k == 42) || (k == 22)) := by unfold shapeB; rw [if_neg c101, if_neg c116, if_neg c102, if_neg c98, if_neg c99, if_neg c112, if_neg c100, if_pos c118]
        rw [es]
        cases v1 : (k == 42)
        · ((conv=>whnf);repeat((first|(with_reducible first|refine Z1 ?_|refine Z2 ?_|refine Z3 ?_|refine Z4 ?_|refine Z5 ?_|refine Z9 (by assumption) rfl ?_|refine ZA (by assumption) rfl ?_|refine ZB (by assumption) rfl ?_|refine Z6 ?_|refine Z7 ?_|refine Z8 ?_)|((with_reducible refine ZM ?_ ?_);(focus rfl)));(conv=>whnf)))
          exact ⟨rfl, Ext.refl _⟩
        · ((conv=>whnf);repeat((first|(with_reducible first|refine Z1 ?_|refine Z2 ?_|refine Z3 ?_|refine Z4 ?_|refine Z5 ?_|refine Z9 (by assumption) rfl ?_|refine ZA (by assumption) rfl ?_|refine ZB (by assumption) rfl ?_|refine Z6 ?_|refine Z7 ?_|refine Z8 ?_)|((with_reducible refine ZM ?_ ?_);(focus rfl)));(conv=>whnf)))
          exact ⟨rfl, Ext.refl _⟩
      have q118 : ((c.toNat : Int) == 118) = false := by rw [beq_eq_false_iff_ne]; omega
      by_cases c119 : c.toNat = 119
      · have q119 : ((c.toNat : Int) == 119) = true := by rw [beq_iff_eq]; omega
        have es : shapeB false k l c.toNat = (targetB k || ((k == 22) && ((l.length : Int) == 1) && ((kidLen l : Int) == 0))) := by unfold shapeB; rw [if_neg c101, if_neg c116, if_neg c102, if_neg c98, if_neg c99, if_neg c112, if_neg c100, if_neg c118, if_pos c119]
        rw [es]
        ((conv=>whnf);repeat((first|(with_reducible first|refine Z1 ?_|refine Z2 ?_|refine Z3 ?_|refine Z4 ?_|refine Z5 ?_|refine Z9 (by assumption) rfl ?_|refine ZA (by assumption) rfl ?_|refine ZB (by assumption) rfl ?_|refine Z6 ?_|refine Z7 ?_|refine Z8 ?_)|((with_reducible refine ZM ?_ ?_);(focus rfl)));(conv=>whnf)))
        refine HCall.mk ((target_spec (d := .mk k nm n t ns l) (TRep.ext x1 (by simp only [TRep]; exact r0))).mono ?_)
        rintro e h2 ⟨rfl, x2⟩
        have o2 := o1.ext x2
        rw [show NT.kind (.mk k nm n t ns l) = k from rfl]
        cases w1 : targetB k
        · cases w2 : (k == 22)
          · ((conv=>whnf);repeat((first|(with_reducible first|refine Z1 ?_|refine Z2 ?_|refine Z3 ?_|refine Z4 ?_|refine Z5 ?_|refine Z9 (by assumption) rfl ?_|refine ZA (by assumption) rfl ?_|refine ZB (by assumption) rfl ?_|refine Z6 ?_|refine Z7 ?_|refine Z8 ?_)|((with_reducible refine ZM ?_ ?_);(focus rfl)));(conv=>whnf)))
            exact ⟨rfl, x2⟩
          · cases w3 : ((l.length : Int) == 1)
            · ((conv=>whnf);repeat((first|(with_reducible first|refine Z1 ?_|refine Z2 ?_|refine Z3 ?_|refine Z4 ?_|refine Z5 ?_|refine Z9 (by assumption) rfl ?_|refine ZA (by assumption) rfl ?_|refine ZB (by assumption) rfl ?_|refine Z6 ?_|refine Z7 ?_|refine Z8 ?_)|((with_reducible refine ZM ?_ ?_);(focus rfl)));(conv=>whnf)))
              exact ⟨rfl, x2⟩
            · have hl0 : 0 < l.length := by rw [beq_iff_eq] at w3; omega
              ((conv=>whnf);repeat((first|(with_reducible first|refine Z1 ?_|refine Z2 ?_|refine Z3 ?_|refine Z4 ?_|refine Z5 ?_|refine Z9 (by assumption) rfl ?_|refine ZA (by assumption) rfl ?_|refine ZB (by assumption) rfl ?_|refine Z6 ?_|refine Z7 ?_|refine Z8 ?_)|((with_reducible refine ZM ?_ ?_);(focus rfl)));(conv=>whnf)))
              refine HIdx.mk 0 rfl hl0 ?_
              refine sl_some s2 hl0 fun p ep => ?_
              ((conv=>whnf);repeat((first|(with_reducible first|refine Z1 ?_|refine Z2 ?_|refine Z3 ?_|refine Z4 ?_|refine Z5 ?_|refine Z9 (by assumption) rfl ?_|refine ZA (by assumption) rfl ?_|refine ZB (by assumption) rfl ?_|refine Z6 ?_|refine Z7 ?_|refine Z8 ?_)|((with_reducible refine ZM ?_ ?_);(focus rfl)));(conv=>whnf)))
              refine tkids (s2.ext (x1.trans x2)) (s3.ext (x1.trans x2)) ep hl0 fun _ _ => ?_
              ((conv=>whnf);repeat((first|(with_reducible first|refine Z1 ?_|refine Z2 ?_|refine Z3 ?_|refine Z4 ?_|refine Z5 ?_|refine Z9 (by assumption) rfl ?_|refine ZA (by assumption) rfl ?_|refine ZB (by assumption) rfl ?_|refine Z6 ?_|refine Z7 ?_|refine Z8 ?_)|((with_reducible refine ZM ?_ ?_);(focus rfl)));(conv=>whnf)))
              exact ⟨rfl, x2⟩
        · ((conv=>whnf);repeat((first|(with_reducible first|refine Z1 ?_|refine Z2 ?_|refine Z3 ?_|refine Z4 ?_|refine Z5 ?_|refine Z9 (by assumption) rfl ?_|refine ZA (by assumption) rfl ?_|refine ZB (by assumption) rfl ?_|refine Z6 ?_|refine Z7 ?_|refine Z8 ?_)|((with_reducible refine ZM ?_ ?_);(focus rfl)));(conv=>whnf)))
          exact ⟨rfl, x2⟩
      have q119 : ((c.toNat : Int) == 119) = false := by rw [beq_eq_false_iff_ne]; omega
      by_cases c107 : c.toNat = 107
      · have q107 : ((c.toNat : Int) == 107) = true := by rw [beq_iff_eq]; omega
        have es : shapeB false k l c.toNat = (k == 37) := by unfold shapeB; rw [if_neg c101, if_neg c116, if_neg c102, if_neg c98, if_neg c99, if_neg c112, if_neg c100, if_neg c118, if_neg c119, if_pos c107]
        rw [es]
        ((conv=>whnf);repeat((first|(with_reducible first|refine Z1 ?_|refine Z2 ?_|refine Z3 ?_|refine Z4 ?_|refine Z5 ?_|refine Z9 (by assumption) rfl ?_|refine ZA (by assumption) rfl ?_|refine ZB (by assumption) rfl ?_|refine Z6 ?_|refine Z7 ?_|refine Z8 ?_)|((with_reducible refine ZM ?_ ?_);(focus rfl)));(conv=>whnf)))
        exact ⟨rfl, Ext.refl _⟩
      have q107 : ((c.toNat : Int) == 107) = false := by rw [beq_eq_false_iff_ne]; omega
      by_cases c115 : c.toNat = 115
      · have q115 : ((c.toNat : Int) == 115) = true := by rw [beq_iff_eq]; omega
        have es : shapeB false k l c.toNat = (stB k false) := by unfold shapeB; rw [if_neg c101, if_neg c116, if_neg c102, if_neg c98, if_neg c99, if_neg c112, if_neg c100, if_neg c118, if_neg c119, if_neg c107, if_pos c115]
        rw [es]
        have c120' : ((c.toNat : Int) == 120) = false := by rw [beq_eq_false_iff_ne]; omega
        unfold stB
        cases a0 : decide (k ≥ 22)
        · ((conv=>whnf);repeat((first|(with_reducible first|refine Z1 ?_|refine Z2 ?_|refine Z3 ?_|refine Z4 ?_|refine Z5 ?_|refine Z9 (by assumption) rfl ?_|refine ZA (by assumption) rfl ?_|refine ZB (by assumption) rfl ?_|refine Z6 ?_|refine Z7 ?_|refine Z8 ?_)|((with_reducible refine ZM ?_ ?_);(focus rfl)));(conv=>whnf)))
          exact ⟨rfl, Ext.refl _⟩
        · cases a1 : decide (k ≤ 40)
          · ((conv=>whnf);repeat((first|(with_reducible first|refine Z1 ?_|refine Z2 ?_|refine Z3 ?_|refine Z4 ?_|refine Z5 ?_|refine Z9 (by assumption) rfl ?_|refine ZA (by assumption) rfl ?_|refine ZB (by assumption) rfl ?_|refine Z6 ?_|refine Z7 ?_|refine Z8 ?_)|((with_reducible refine ZM ?_ ?_);(focus rfl)));(conv=>whnf)))
            exact ⟨rfl, Ext.refl _⟩
          · cases a2 : (k != 23)
            · ((conv=>whnf);repeat((first|(with_reducible first|refine Z1 ?_|refine Z2 ?_|refine Z3 ?_|refine Z4 ?_|refine Z5 ?_|refine Z9 (by assumption) rfl ?_|refine ZA (by assumption) rfl ?_|refine ZB (by assumption) rfl ?_|refine Z6 ?_|refine Z7 ?_|refine Z8 ?_)|((with_reducible refine ZM ?_ ?_);(focus rfl)));(conv=>whnf)))
              exact ⟨rfl, Ext.refl _⟩
            · cases a3 : (k != 37)
              · ((conv=>whnf);repeat((first|(with_reducible first|refine Z1 ?_|refine Z2 ?_|refine Z3 ?_|refine Z4 ?_|refine Z5 ?_|refine Z9 (by assumption) rfl ?_|refine ZA (by assumption) rfl ?_|refine ZB (by assumption) rfl ?_|refine Z6 ?_|refine Z7 ?_|refine Z8 ?_)|((with_reducible refine ZM ?_ ?_);(focus rfl)));(conv=>whnf)))
                exact ⟨rfl, Ext.refl _⟩
              · cases a5 : (k != 39)
                · ((conv=>whnf);repeat((first|(with_reducible first|refine Z1 ?_|refine Z2 ?_|refine Z3 ?_|refine Z4 ?_|refine Z5 ?_|refine Z9 (by assumption) rfl ?_|refine ZA (by assumption) rfl ?_|refine ZB (by assumption) rfl ?_|refine Z6 ?_|refine Z7 ?_|refine Z8 ?_)|((with_reducible refine ZM ?_ ?_);(focus rfl)));(conv=>whnf)))
                  exact ⟨(show [Value.bool ((c.toNat : Int) == 120)] = [Value.bool false] by rw [c120']), Ext.refl _⟩
                · ((conv=>whnf);repeat((first|(with_reducible first|refine Z1 ?_|refine Z2 ?_|refine Z3 ?_|refine Z4 ?_|refine Z5 ?_|refine Z9 (by assumption) rfl ?_|refine ZA (by assumption) rfl ?_|refine ZB (by assumption) rfl ?_|refine Z6 ?_|refine Z7 ?_|refine Z8 ?_)|((with_reducible refine ZM ?_ ?_);(focus rfl)));(conv=>whnf)))
                  exact ⟨rfl, Ext.refl _⟩
      have q115 : ((c.toNat : Int) == 115) = false := by rw [beq_eq_false_iff_ne]; omega
      by_cases c120 : c.toNat = 120
      · have q120 : ((c.toNat : Int) == 120) = true := by rw [beq_iff_eq]; omega
        have es : shapeB false k l c.toNat = (stB k true) := by unfold shapeB; rw [if_neg c101, if_neg c116, if_neg c102, if_neg c98, if_neg c99, if_neg c112, if_neg c100, if_neg c118, if_neg c119, if_neg c107, if_neg c115, if_pos c120]
        rw [es]
        unfold stB
        cases a0 : decide (k ≥ 22)
        · ((conv=>whnf);repeat((first|(with_reducible first|refine Z1 ?_|refine Z2 ?_|refine Z3 ?_|refine Z4 ?_|refine Z5 ?_|refine Z9 (by assumption) rfl ?_|refine ZA (by assumption) rfl ?_|refine ZB (by assumption) rfl ?_|refine Z6 ?_|refine Z7 ?_|refine Z8 ?_)|((with_reducible refine ZM ?_ ?_);(focus rfl)));(conv=>whnf)))
          exact ⟨rfl, Ext.refl _⟩
        · cases a1 : decide (k ≤ 40)
          · ((conv=>whnf);repeat((first|(with_reducible first|refine Z1 ?_|refine Z2 ?_|refine Z3 ?_|refine Z4 ?_|refine Z5 ?_|refine Z9 (by assumption) rfl ?_|refine ZA (by assumption) rfl ?_|refine ZB (by assumption) rfl ?_|refine Z6 ?_|refine Z7 ?_|refine Z8 ?_)|((with_reducible refine ZM ?_ ?_);(focus rfl)));(conv=>whnf)))
            exact ⟨rfl, Ext.refl _⟩
          · cases a2 : (k != 23)
            · ((conv=>whnf);repeat((first|(with_reducible first|refine Z1 ?_|refine Z2 ?_|refine Z3 ?_|refine Z4 ?_|refine Z5 ?_|refine Z9 (by assumption) rfl ?_|refine ZA (by assumption) rfl ?_|refine ZB (by assumption) rfl ?_|refine Z6 ?_|refine Z7 ?_|refine Z8 ?_)|((with_reducible refine ZM ?_ ?_);(focus rfl)));(conv=>whnf)))
              exact ⟨rfl, Ext.refl _⟩
            · cases a3 : (k != 37)
              · ((conv=>whnf);repeat((first|(with_reducible first|refine Z1 ?_|refine Z2 ?_|refine Z3 ?_|refine Z4 ?_|refine Z5 ?_|refine Z9 (by assumption) rfl ?_|refine ZA (by assumption) rfl ?_|refine ZB (by assumption) rfl ?_|refine Z6 ?_|refine Z7 ?_|refine Z8 ?_)|((with_reducible refine ZM ?_ ?_);(focus rfl)));(conv=>whnf)))
                exact ⟨rfl, Ext.refl _⟩
              · cases a5 : (k != 39)
                · ((conv=>whnf);repeat((first|(with_reducible first|refine Z1 ?_|refine Z2 ?_|refine Z3 ?_|refine Z4 ?_|refine Z5 ?_|refine Z9 (by assumption) rfl ?_|refine ZA (by assumption) rfl ?_|refine ZB (by assumption) rfl ?_|refine Z6 ?_|refine Z7 ?_|refine Z8 ?_)|((with_reducible refine ZM ?_ ?_);(focus rfl)));(conv=>whnf)))
                  exact ⟨(show [Value.bool ((c.toNat : Int) == 120)] = [Value.bool true] by rw [q120]), Ext.refl _⟩
                · ((conv=>whnf);repeat((first|(with_reducible first|refine Z1 ?_|refine Z2 ?_|refine Z3 ?_|refine Z4 ?_|refine Z5 ?_|refine Z9 (by assumption) rfl ?_|refine ZA (by assumption) rfl ?_|refine ZB (by assumption) rfl ?_|refine Z6 ?_|refine Z7 ?_|refine Z8 ?_)|((with_reducible refine ZM ?_ ?_);(focus rfl)));(conv=>whnf)))
                  exact ⟨rfl, Ext.refl _⟩
      have q120 : ((c.toNat : Int) == 120) = false := by rw [beq_eq_false_iff_ne]; omega
      have es : shapeB false k l c.toNat = false := by unfold shapeB; rw [if_neg c101, if_neg c116, if_neg c102, if_neg c98, if_neg c99, if_neg c112, if_neg c100, if_neg c118, if_neg c119, if_neg c107, if_neg c115, if_neg c120]
      rw [es]
      ((conv=>whnf);repeat((first|(with_reducible first|refine Z1 ?_|refine Z2 ?_|refine Z3 ?_|refine Z4 ?_|refine Z5 ?_|refine Z9 (by assumption) rfl ?_|refine ZA (by assumption) rfl ?_|refine ZB (by assumption) rfl ?_|refine Z6 ?_|refine Z7 ?_|refine Z8 ?_)|((with_reducible refine ZM ?_ ?_);(focus rfl)));(conv=>whnf)))
      exact ⟨rfl, Ext.refl _⟩
    · intro u2 h2 v7
      rintro ⟨e, x2⟩
      cases e
      have o2 := o1.ext x2
      cases hs : shapeB false k l c.toNat
      · ((conv=>whnf);repeat((first|(with_reducible first|refine Z1 ?_|refine Z2 ?_|refine Z3 ?_|refine Z4 ?_|refine Z5 ?_|refine Z9 (by assumption) rfl ?_|refine ZA (by assumption) rfl ?_|refine ZB (by assumption) rfl ?_|refine Z6 ?_|refine Z7 ?_|refine Z8 ?_)|((with_reducible refine ZM ?_ ?_);(focus rfl)));(conv=>whnf)))
        exact ⟨rfl, x1.trans x2⟩
      · ((conv=>whnf);repeat((first|(with_reducible first|refine Z1 ?_|refine Z2 ?_|refine Z3 ?_|refine Z4 ?_|refine Z5 ?_|refine Z9 (by assumption) rfl ?_|refine ZA (by assumption) rfl ?_|refine ZB (by assumption) rfl ?_|refine Z6 ?_|refine Z7 ?_|refine Z8 ?_)|((with_reducible refine ZM ?_ ?_);(focus rfl)));(conv=>whnf)))
        refine HCall.mk ((hm h2 (x1.trans x2)).mono ?_)
        rintro e h3 ⟨rfl, x3⟩
        ((conv=>whnf);repeat((first|(with_reducible first|refine Z1 ?_|refine Z2 ?_|refine Z3 ?_|refine Z4 ?_|refine Z5 ?_|refine Z9 (by assumption) rfl ?_|refine ZA (by assumption) rfl ?_|refine ZB (by assumption) rfl ?_|refine Z6 ?_|refine Z7 ?_|refine Z8 ?_)|((with_reducible refine ZM ?_ ?_);(focus rfl)));(conv=>whnf)))
        exact ⟨rfl, x1.trans (x2.trans x3)⟩
  · intro q1 q2 q3
    ((conv=>whnf);repeat((first|(with_reducible first|refine Z2 ?_|refine Z3 ?_|refine Z4 ?_|refine Z5 ?_|refine Z9 (by assumption) rfl ?_|refine ZA (by assumption) rfl ?_|refine ZB (by assumption) rfl ?_|refine Z6 ?_|refine Z7 ?_|refine Z8 ?_)|((with_reducible refine ZM ?_ ?_);(focus rfl)));(conv=>whnf)))
    rw [q3]
    refine cut_rule [7] (fun vs h' => vs = [.bool (shapeB true k l c.toNat)] ∧ Ext h1 h') rfl ?_ ?_
    · skip
      by_cases c101 : c.toNat = 101
      · have q101 : ((c.toNat : Int) == 101) = true := by rw [beq_iff_eq]; omega
        have es : shapeB true k l c.toNat = (true) := by unfold shapeB; rw [if_pos c101]
        rw [es]
        ((conv=>whnf);repeat((first|(with_reducible first|refine Z1 ?_|refine Z2 ?_|refine Z3 ?_|refine Z4 ?_|refine Z5 ?_|refine Z9 (by assumption) rfl ?_|refine ZA (by assumption) rfl ?_|refine ZB (by assumption) rfl ?_|refine Z6 ?_|refine Z7 ?_|refine Z8 ?_)|((with_reducible refine ZM ?_ ?_);(focus rfl)));(conv=>whnf)))
        exact ⟨rfl, Ext.refl _⟩
      have q101 : ((c.toNat : Int) == 101) = false := by rw [beq_eq_false_iff_ne]; omega
      by_cases c116 : c.toNat = 116
      · have q116 : ((c.toNat : Int) == 116) = true := by rw [beq_iff_eq]; omega
        have es : shapeB true k l c.toNat = (targetB k) := by unfold shapeB; rw [if_neg c101, if_pos c116]
        rw [es]
        ((conv=>whnf);repeat((first|(with_reducible first|refine Z1 ?_|refine Z2 ?_|refine Z3 ?_|refine Z4 ?_|refine Z5 ?_|refine Z9 (by assumption) rfl ?_|refine ZA (by assumption) rfl ?_|refine ZB (by assumption) rfl ?_|refine Z6 ?_|refine Z7 ?_|refine Z8 ?_)|((with_reducible refine ZM ?_ ?_);(focus rfl)));(conv=>whnf)))
        refine HCall.mk ((target_spec (d := .mk k nm n t ns l) (TRep.ext x1 (by simp only [TRep]; exact r0))).mono ?_)
        rintro e h2 ⟨rfl, x2⟩
        ((conv=>whnf);repeat((first|(with_reducible first|refine Z1 ?_|refine Z2 ?_|refine Z3 ?_|refine Z4 ?_|refine Z5 ?_|refine Z9 (by assumption) rfl ?_|refine ZA (by assumption) rfl ?_|refine ZB (by assumption) rfl ?_|refine Z6 ?_|refine Z7 ?_|refine Z8 ?_)|((with_reducible refine ZM ?_ ?_);(focus rfl)));(conv=>whnf)))
        exact ⟨rfl, x2⟩
      have q116 : ((c.toNat : Int) == 116) = false := by rw [beq_eq_false_iff_ne]; omega
      by_cases c102 : c.toNat = 102
      · have q102 : ((c.toNat : Int) == 102) = true := by rw [beq_iff_eq]; omega
        have es : shapeB true k l c.toNat = (true || (k == 42)) := by unfold shapeB; rw [if_neg c101, if_neg c116, if_pos c102]
        rw [es]
        ((conv=>whnf);repeat((first|(with_reducible first|refine Z1 ?_|refine Z2 ?_|refine Z3 ?_|refine Z4 ?_|refine Z5 ?_|refine Z9 (by assumption) rfl ?_|refine ZA (by assumption) rfl ?_|refine ZB (by assumption) rfl ?_|refine Z6 ?_|refine Z7 ?_|refine Z8 ?_)|((with_reducible refine ZM ?_ ?_);(focus rfl)));(conv=>whnf)))
        exact ⟨rfl, Ext.refl _⟩
      have q102 : ((c.toNat : Int) == 102) = false := by rw [beq_eq_false_iff_ne]; omega
      by_cases c98 : c.toNat = 98
      · have q98 : ((c.toNat : Int) == 98) = true := by rw [beq_iff_eq]; omega
        have es : shapeB true k l c.toNat = (k == 25) := by unfold shapeB; rw [if_neg c101, if_neg c116, if_neg c102, if_pos c98]
        rw [es]
        ((conv=>whnf);repeat((first|(with_reducible first|refine Z1 ?_|refine Z2 ?_|refine Z3 ?_|refine Z4 ?_|refine Z5 ?_|refine Z9 (by assumption) rfl ?_|refine ZA (by assumption) rfl ?_|refine ZB (by assumption) rfl ?_|refine Z6 ?_|refine Z7 ?_|refine Z8 ?_)|((with_reducible refine ZM ?_ ?_);(focus rfl)));(conv=>whnf)))
        exact ⟨rfl, Ext.refl _⟩
      have q98 : ((c.toNat : Int) == 98) = false := by rw [beq_eq_false_iff_ne]; omega
      by_cases c99 : c.toNat = 99
      · have q99 : ((c.toNat : Int) == 99) = true := by rw [beq_iff_eq]; omega
        have es : shapeB true k l c.toNat = ((k == 25) || (k == 42)) := by unfold shapeB; rw [if_neg c101, if_neg c116, if_neg c102, if_neg c98, if_pos c99]
        rw [es]
        cases v1 : (k == 25)
        · ((conv=>whnf);repeat((first|(with_reducible first|refine Z1 ?_|refine Z2 ?_|refine Z3 ?_|refine Z4 ?_|refine Z5 ?_|refine Z9 (by assumption) rfl ?_|refine ZA (by assumption) rfl ?_|refine ZB (by assumption) rfl ?_|refine Z6 ?_|refine Z7 ?_|refine Z8 ?_)|((with_reducible refine ZM ?_ ?_);(focus rfl)));(conv=>whnf)))
          exact ⟨rfl, Ext.refl _⟩
        · ((conv=>whnf);repeat((first|(with_reducible first|refine Z1 ?_|refine Z2 ?_|refine Z3 ?_|refine Z4 ?_|refine Z5 ?_|refine Z9 (by assumption) rfl ?_|refine ZA (by assumption) rfl ?_|refine ZB (by assumption) rfl ?_|refine Z6 ?_|refine Z7 ?_|refine Z8 ?_)|((with_reducible refine ZM ?_ ?_);(focus rfl)));(conv=>whnf)))
          exact ⟨rfl, Ext.refl _⟩
      have q99 : ((c.toNat : Int) == 99) = false := by rw [beq_eq_false_iff_ne]; omega
      by_cases c112 : c.toNat = 112
      · have q112 : ((c.toNat : Int) == 112) = true := by rw [beq_iff_eq]; omega
        have es : shapeB true k l c.toNat = (k == 9) := by unfold shapeB; rw [if_neg c101, if_neg c116, if_neg c102, if_neg c98, if_neg c99, if_pos c112]
        rw [es]
        ((conv=>whnf);repeat((first|(with_reducible first|refine Z1 ?_|refine Z2 ?_|refine Z3 ?_|refine Z4 ?_|refine Z5 ?_|refine Z9 (by assumption) rfl ?_|refine ZA (by assumption) rfl ?_|refine ZB (by assumption) rfl ?_|refine Z6 ?_|refine Z7 ?_|refine Z8 ?_)|((with_reducible refine ZM ?_ ?_);(focus rfl)));(conv=>whnf)))
        exact ⟨rfl, Ext.refl _⟩
      have q112 : ((c.toNat : Int) == 112) = false := by rw [beq_eq_false_iff_ne]; omega
      by_cases c100 : c.toNat = 100
      · have q100 : ((c.toNat : Int) == 100) = true := by rw [beq_iff_eq]; omega
        have es : shapeB true k l c.toNat = (k == 23) := by unfold shapeB; rw [if_neg c101, if_neg c116, if_neg c102, if_neg c98, if_neg c99, if_neg c112, if_pos c100]
        rw [es]
        ((conv=>whnf);repeat((first|(with_reducible first|refine Z1 ?_|refine Z2 ?_|refine Z3 ?_|refine Z4 ?_|refine Z5 ?_|refine Z9 (by assumption) rfl ?_|refine ZA (by assumption) rfl ?_|refine ZB (by assumption) rfl ?_|refine Z6 ?_|refine Z7 ?_|refine Z8 ?_)|((with_reducible refine ZM ?_ ?_);(focus rfl)));(conv=>whnf)))
        exact ⟨rfl, Ext.refl _⟩
      have q100 : ((c.toNat : Int) == 100) = false := by rw [beq_eq_false_iff_ne]; omega
      by_cases c118 : c.toNat = 118
      · have q118 : ((c.toNat : Int) == 118) = true := by rw [beq_iff_eq]; omega
        have es : shapeB true k l c.toNat = (true || (k == 42) || (k == 22)) := by unfold shapeB; rw [if_neg c101, if_neg c116, if_neg c102, if_neg c98, if_neg c99, if_neg c112, if_neg c100, if_pos c118]
        rw [es]
        cases v1 : (k == 42)
        · ((conv=>whnf);repeat((first|(with_reducible first|refine Z1 ?_|refine Z2 ?_|refine Z3 ?_|refine Z4 ?_|refine Z5 ?_|refine Z9 (by assumption) rfl ?_|refine ZA (by assumption) rfl ?_|refine ZB (by assumption) rfl ?_|refine Z6 ?_|refine Z7 ?_|refine Z8 ?_)|((with_reducible refine ZM ?_ ?_);(focus rfl)));(conv=>whnf)))
          exact ⟨rfl, Ext.refl _⟩
        · ((conv=>whnf);repeat((first|(with_reducible first|refine Z1 ?_|refine Z2 ?_|refine Z3 ?_|refine Z4 ?_|refine Z5 ?_|refine Z9 (by assumption) rfl ?_|refine ZA (by assumption) rfl ?_|refine ZB (by assumption) rfl ?_|refine Z6 ?_|refine Z7 ?_|refine Z8 ?_)|((with_reducible refine ZM ?_ ?_);(focus rfl)));(conv=>whnf)))
          exact ⟨rfl, Ext.refl _⟩
      have q118 : ((c.toNat : Int) == 118) = false := by rw [beq_eq_false_iff_ne]; omega
      by_cases c119 : c.toNat = 119
      · have q119 : ((c.toNat : Int) == 119) = true := by rw [beq_iff_eq]; omega
        have es : shapeB true k l c.toNat = (targetB k || ((k == 22) && ((l.length : Int) == 1) && ((kidLen l : Int) == 0))) := by unfold shapeB; rw [if_neg c101, if_neg c116, if_neg c102, if_neg c98, if_neg c99, if_neg c112, if_neg c100, if_neg c118, if_pos c119]
        rw [es]
        ((conv=>whnf);repeat((first|(with_reducible first|refine Z1 ?_|refine Z2 ?_|refine Z3 ?_|refine Z4 ?_|refine Z5 ?_|refine Z9 (by assumption) rfl ?_|refine ZA (by assumption) rfl ?_|refine ZB (by assumption) rfl ?_|refine Z6 ?_|refine Z7 ?_|refine Z8 ?_)|((with_reducible refine ZM ?_ ?_);(focus rfl)));(conv=>whnf)))
        refine HCall.mk ((target_spec (d := .mk k nm n t ns l) (TRep.ext x1 (by simp only [TRep]; exact r0))).mono ?_)
        rintro e h2 ⟨rfl, x2⟩
        have o2 := o1.ext x2
        rw [show NT.kind (.mk k nm n t ns l) = k from rfl]
        cases w1 : targetB k
        · cases w2 : (k == 22)
          · ((conv=>whnf);repeat((first|(with_reducible first|refine Z1 ?_|refine Z2 ?_|refine Z3 ?_|refine Z4 ?_|refine Z5 ?_|refine Z9 (by assumption) rfl ?_|refine ZA (by assumption) rfl ?_|refine ZB (by assumption) rfl ?_|refine Z6 ?_|refine Z7 ?_|refine Z8 ?_)|((with_reducible refine ZM ?_ ?_);(focus rfl)));(conv=>whnf)))
            exact ⟨rfl, x2⟩
          · cases w3 : ((l.length : Int) == 1)
            · ((conv=>whnf);repeat((first|(with_reducible first|refine Z1 ?_|refine Z2 ?_|refine Z3 ?_|refine Z4 ?_|refine Z5 ?_|refine Z9 (by assumption) rfl ?_|refine ZA (by assumption) rfl ?_|refine ZB (by assumption) rfl ?_|refine Z6 ?_|refine Z7 ?_|refine Z8 ?_)|((with_reducible refine ZM ?_ ?_);(focus rfl)));(conv=>whnf)))
              exact ⟨rfl, x2⟩
            · have hl0 : 0 < l.length := by rw [beq_iff_eq] at w3; omega
              ((conv=>whnf);repeat((first|(with_reducible first|refine Z1 ?_|refine Z2 ?_|refine Z3 ?_|refine Z4 ?_|refine Z5 ?_|refine Z9 (by assumption) rfl ?_|refine ZA (by assumption) rfl ?_|refine ZB (by assumption) rfl ?_|refine Z6 ?_|refine Z7 ?_|refine Z8 ?_)|((with_reducible refine ZM ?_ ?_);(focus rfl)));(conv=>whnf)))
              refine HIdx.mk 0 rfl hl0 ?_
              refine sl_some s2 hl0 fun p ep => ?_
              ((conv=>whnf);repeat((first|(with_reducible first|refine Z1 ?_|refine Z2 ?_|refine Z3 ?_|refine Z4 ?_|refine Z5 ?_|refine Z9 (by assumption) rfl ?_|refine ZA (by assumption) rfl ?_|refine ZB (by assumption) rfl ?_|refine Z6 ?_|refine Z7 ?_|refine Z8 ?_)|((with_reducible refine ZM ?_ ?_);(focus rfl)));(conv=>whnf)))
              refine tkids (s2.ext (x1.trans x2)) (s3.ext (x1.trans x2)) ep hl0 fun _ _ => ?_
              ((conv=>whnf);repeat((first|(with_reducible first|refine Z1 ?_|refine Z2 ?_|refine Z3 ?_|refine Z4 ?_|refine Z5 ?_|refine Z9 (by assumption) rfl ?_|refine ZA (by assumption) rfl ?_|refine ZB (by assumption) rfl ?_|refine Z6 ?_|refine Z7 ?_|refine Z8 ?_)|((with_reducible refine ZM ?_ ?_);(focus rfl)));(conv=>whnf)))
              exact ⟨rfl, x2⟩
        · ((conv=>whnf);repeat((first|(with_reducible first|refine Z1 ?_|refine Z2 ?_|refine Z3 ?_|refine Z4 ?_|refine Z5 ?_|refine Z9 (by assumption) rfl ?_|refine ZA (by assumption) rfl ?_|refine ZB (by assumption) rfl ?_|refine Z6 ?_|refine Z7 ?_|refine Z8 ?_)|((with_reducible refine ZM ?_ ?_);(focus rfl)));(conv=>whnf)))
          exact ⟨rfl, x2⟩
      have q119 : ((c.toNat : Int) == 119) = false := by rw [beq_eq_false_iff_ne]; omega
      by_cases c107 : c.toNat = 107
      · have q107 : ((c.toNat : Int) == 107) = true := by rw [beq_iff_eq]; omega
        have es : shapeB true k l c.toNat = (k == 37) := by unfold shapeB; rw [if_neg c101, if_neg c116, if_neg c102, if_neg c98, if_neg c99, if_neg c112, if_neg c100, if_neg c118, if_neg c119, if_pos c107]
        rw [es]
        ((conv=>whnf);repeat((first|(with_reducible first|refine Z1 ?_|refine Z2 ?_|refine Z3 ?_|refine Z4 ?_|refine Z5 ?_|refine Z9 (by assumption) rfl ?_|refine ZA (by assumption) rfl ?_|refine ZB (by assumption) rfl ?_|refine Z6 ?_|refine Z7 ?_|refine Z8 ?_)|((with_reducible refine ZM ?_ ?_);(focus rfl)));(conv=>whnf)))
        exact ⟨rfl, Ext.refl _⟩
      have q107 : ((c.toNat : Int) == 107) = false := by rw [beq_eq_false_iff_ne]; omega
      by_cases c115 : c.toNat = 115
      · have q115 : ((c.toNat : Int) == 115) = true := by rw [beq_iff_eq]; omega
        have es : shapeB true k l c.toNat = (stB k false) := by unfold shapeB; rw [if_neg c101, if_neg c116, if_neg c102, if_neg c98, if_neg c99, if_neg c112, if_neg c100, if_neg c118, if_neg c119, if_neg c107, if_pos c115]
        rw [es]
        have c120' : ((c.toNat : Int) == 120) = false := by rw [beq_eq_false_iff_ne]; omega
        unfold stB
        cases a0 : decide (k ≥ 22)
        · ((conv=>whnf);repeat((first|(with_reducible first|refine Z1 ?_|refine Z2 ?_|refine Z3 ?_|refine Z4 ?_|refine Z5 ?_|refine Z9 (by assumption) rfl ?_|refine ZA (by assumption) rfl ?_|refine ZB (by assumption) rfl ?_|refine Z6 ?_|refine Z7 ?_|refine Z8 ?_)|((with_reducible refine ZM ?_ ?_);(focus rfl)));(conv=>whnf)))
          exact ⟨rfl, Ext.refl _⟩
        · cases a1 : decide (k ≤ 40)
          · ((conv=>whnf);repeat((first|(with_reducible first|refine Z1 ?_|refine Z2 ?_|refine Z3 ?_|refine Z4 ?_|refine Z5 ?_|refine Z9 (by assumption) rfl ?_|refine ZA (by assumption) rfl ?_|refine ZB (by assumption) rfl ?_|refine Z6 ?_|refine Z7 ?_|refine Z8 ?_)|((with_reducible refine ZM ?_ ?_);(focus rfl)));(conv=>whnf)))
            exact ⟨rfl, Ext.refl _⟩
          · cases a2 : (k != 23)
            · ((conv=>whnf);repeat((first|(with_reducible first|refine Z1 ?_|refine Z2 ?_|refine Z3 ?_|refine Z4 ?_|refine Z5 ?_|refine Z9 (by assumption) rfl ?_|refine ZA (by assumption) rfl ?_|refine ZB (by assumption) rfl ?_|refine Z6 ?_|refine Z7 ?_|refine Z8 ?_)|((with_reducible refine ZM ?_ ?_);(focus rfl)));(conv=>whnf)))
              exact ⟨rfl, Ext.refl _⟩
            · cases a3 : (k != 37)
              · ((conv=>whnf);repeat((first|(with_reducible first|refine Z1 ?_|refine Z2 ?_|refine Z3 ?_|refine Z4 ?_|refine Z5 ?_|refine Z9 (by assumption) rfl ?_|refine ZA (by assumption) rfl ?_|refine ZB (by assumption) rfl ?_|refine Z6 ?_|refine Z7 ?_|refine Z8 ?_)|((with_reducible refine ZM ?_ ?_);(focus rfl)));(conv=>whnf)))
                exact ⟨rfl, Ext.refl _⟩
              · cases a5 : (k != 39)
                · ((conv=>whnf);repeat((first|(with_reducible first|refine Z1 ?_|refine Z2 ?_|refine Z3 ?_|refine Z4 ?_|refine Z5 ?_|refine Z9 (by assumption) rfl ?_|refine ZA (by assumption) rfl ?_|refine ZB (by assumption) rfl ?_|refine Z6 ?_|refine Z7 ?_|refine Z8 ?_)|((with_reducible refine ZM ?_ ?_);(focus rfl)));(conv=>whnf)))
                  exact ⟨(show [Value.bool ((c.toNat : Int) == 120)] = [Value.bool false] by rw [c120']), Ext.refl _⟩
                · ((conv=>whnf);repeat((first|(with_reducible first|refine Z1 ?_|refine Z2 ?_|refine Z3 ?_|refine Z4 ?_|refine Z5 ?_|refine Z9 (by assumption) rfl ?_|refine ZA (by assumption) rfl ?_|refine ZB (by assumption) rfl ?_|refine Z6 ?_|refine Z7 ?_|refine Z8 ?_)|((with_reducible refine ZM ?_ ?_);(focus rfl)));(conv=>whnf)))
                  exact ⟨rfl, Ext.refl _⟩
      have q115 : ((c.toNat : Int) == 115) = false := by rw [beq_eq_false_iff_ne]; omega
      by_cases c120 : c.toNat = 120
      · have q120 : ((c.toNat : Int) == 120) = true := by rw [beq_iff_eq]; omega
        have es : shapeB true k l c.toNat = (stB k true) := by unfold shapeB; rw [if_neg c101, if_neg c116, if_neg c102, if_neg c98, if_neg c99, if_neg c112, if_neg c100, if_neg c118, if_neg c119, if_neg c107, if_neg c115, if_pos c120]
        rw [es]
        unfold stB
        cases a0 : decide (k ≥ 22)
        · ((conv=>whnf);repeat((first|(with_reducible first|refine Z1 ?_|refine Z2 ?_|refine Z3 ?_|refine Z4 ?_|refine Z5 ?_|refine Z9 (by assumption) rfl ?_|refine ZA (by assumption) rfl ?_|refine ZB (by assumption) rfl ?_|refine Z6 ?_|refine Z7 ?_|refine Z8 ?_)|((with_reducible refine ZM ?_ ?_);(focus rfl)));(conv=>whnf)))
          exact ⟨rfl, Ext.refl _⟩
        · cases a1 : decide (k ≤ 40)
          · ((conv=>whnf);repeat((first|(with_reducible first|refine Z1 ?_|refine Z2 ?_|refine Z3 ?_|refine Z4 ?_|refine Z5 ?_|refine Z9 (by assumption) rfl ?_|refine ZA (by assumption) rfl ?_|refine ZB (by assumption) rfl ?_|refine Z6 ?_|refine Z7 ?_|refine Z8 ?_)|((with_reducible refine ZM ?_ ?_);(focus rfl)));(conv=>whnf)))
            exact ⟨rfl, Ext.refl _⟩
          · cases a2 : (k != 23)
            · ((conv=>whnf);repeat((first|(with_reducible first|refine Z1 ?_|refine Z2 ?_|refine Z3 ?_|refine Z4 ?_|refine Z5 ?_|refine Z9 (by assumption) rfl ?_|refine ZA (by assumption) rfl ?_|refine ZB (by assumption) rfl ?_|refine Z6 ?_|refine Z7 ?_|refine Z8 ?_)|((with_reducible refine ZM ?_ ?_);(focus rfl)));(conv=>whnf)))
              exact ⟨rfl, Ext.refl _⟩
            · cases a3 : (k != 37)
              · ((conv=>whnf);repeat((first|(with_reducible first|refine Z1 ?_|refine Z2 ?_|refine Z3 ?_|refine Z4 ?_|refine Z5 ?_|refine Z9 (by assumption) rfl ?_|refine ZA (by assumption) rfl ?_|refine ZB (by assumption) rfl ?_|refine Z6 ?_|refine Z7 ?_|refine Z8 ?_)|((with_reducible refine ZM ?_ ?_);(focus rfl)));(conv=>whnf)))
                exact ⟨rfl, Ext.refl _⟩
              · cases a5 : (k != 39)
                · ((conv=>whnf);repeat((first|(with_reducible first|refine Z1 ?_|refine Z2 ?_|refine Z3 ?_|refine Z4 ?_|refine Z5 ?_|refine Z9 (by assumption) rfl ?_|refine ZA (by assumption) rfl ?_|refine ZB (by assumption) rfl ?_|refine Z6 ?_|refine Z7 ?_|refine Z8 ?_)|((with_reducible refine ZM ?_ ?_);(focus rfl)));(conv=>whnf)))
                  exact ⟨(show [Value.bool ((c.toNat : Int) == 120)] = [Value.bool true] by rw [q120]), Ext.refl _⟩
                · ((conv=>whnf);repeat((first|(with_reducible first|refine Z1 ?_|refine Z2 ?_|refine Z3 ?_|refine Z4 ?_|refine Z5 ?_|refine Z9 (by assumption) rfl ?_|refine ZA (by assumption) rfl ?_|refine ZB (by assumption) rfl ?_|refine Z6 ?_|refine Z7 ?_|refine Z8 ?_)|((with_reducible refine ZM ?_ ?_);(focus rfl)));(conv=>whnf)))
                  exact ⟨rfl, Ext.refl _⟩
      have q120 : ((c.toNat : Int) == 120) = false := by rw [beq_eq_false_iff_ne]; omega
      have es : shapeB true k l c.toNat = false := by unfold shapeB; rw [if_neg c101, if_neg c116, if_neg c102, if_neg c98, if_neg c99, if_neg c112, if_neg c100, if_neg c118, if_neg c119, if_neg c107, if_neg c115, if_neg c120]
      rw [es]
      ((conv=>whnf);repeat((first|(with_reducible first|refine Z1 ?_|refine Z2 ?_|refine Z3 ?_|refine Z4 ?_|refine Z5 ?_|refine Z9 (by assumption) rfl ?_|refine ZA (by assumption) rfl ?_|refine ZB (by assumption) rfl ?_|refine Z6 ?_|refine Z7 ?_|refine Z8 ?_)|((with_reducible refine ZM ?_ ?_);(focus rfl)));(conv=>whnf)))
      exact ⟨rfl, Ext.refl _⟩
    · intro u2 h2 v7
      rintro ⟨e, x2⟩
      cases e
      have o2 := o1.ext x2
      cases hs : shapeB true k l c.toNat
      · ((conv=>whnf);repeat((first|(with_reducible first|refine Z1 ?_|refine Z2 ?_|refine Z3 ?_|refine Z4 ?_|refine Z5 ?_|refine Z9 (by assumption) rfl ?_|refine ZA (by assumption) rfl ?_|refine ZB (by assumption) rfl ?_|refine Z6 ?_|refine Z7 ?_|refine Z8 ?_)|((with_reducible refine ZM ?_ ?_);(focus rfl)));(conv=>whnf)))
        exact ⟨rfl, x1.trans x2⟩
      · ((conv=>whnf);repeat((first|(with_reducible first|refine Z1 ?_|refine Z2 ?_|refine Z3 ?_|refine Z4 ?_|refine Z5 ?_|refine Z9 (by assumption) rfl ?_|refine ZA (by assumption) rfl ?_|refine ZB (by assumption) rfl ?_|refine Z6 ?_|refine Z7 ?_|refine Z8 ?_)|((with_reducible refine ZM ?_ ?_);(focus rfl)));(conv=>whnf)))
        refine HCall.mk ((hm h2 (x1.trans x2)).mono ?_)
        rintro e h3 ⟨rfl, x3⟩
        ((conv=>whnf);repeat((first|(with_reducible first|refine Z1 ?_|refine Z2 ?_|refine Z3 ?_|refine Z4 ?_|refine Z5 ?_|refine Z9 (by assumption) rfl ?_|refine ZA (by assumption) rfl ?_|refine ZB (by assumption) rfl ?_|refine Z6 ?_|refine Z7 ?_|refine Z8 ?_)|((with_reducible refine ZM ?_ ?_);(focus rfl)));(conv=>whnf)))
        exact ⟨rfl, x1.trans (x2.trans x3)⟩
end Go.Proofs.Ytlogpojkkbcpjaa.Hc
