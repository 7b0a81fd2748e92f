/- Lists of things, in slices: as they are, and owned. -/
import Derived.Test.YtljindmibfkhfaaHK
set_option linter.unusedVariables false
set_option linter.unusedSimpArgs false
namespace Go.H

section els
variable {α : Type}
/-- Cells that hold some things, one behind the other. -/
def Els (R : Heap → α → List Value → Prop) (h : Heap) : List α → List Value → Prop
  | [], xs => xs = []
  | d :: r, xs => ∃ a b, xs = a ++ b ∧ R h d a ∧ Els R h r b
theorem Els.append {R : Heap → α → List Value → Prop} {h : Heap} : ∀ {l m : List α} {xs ys : List Value}, Els R h l xs → Els R h m ys → Els R h (l ++ m) (xs ++ ys)
  | [], m, xs, ys, r, s => by simp only [Els] at r; subst r; simpa using s
  | d :: l, m, xs, ys, r, s => by
    simp only [Els, List.cons_append] at r ⊢
    obtain ⟨a, b, rfl, r1, r2⟩ := r
    exact ⟨a, b ++ ys, by simp, r1, Els.append r2 s⟩
theorem Els.one {R : Heap → α → List Value → Prop} {h : Heap} {d : α} {cs : List Value} (r : R h d cs) : Els R h [d] cs := ⟨cs, [], by simp, r, rfl⟩
theorem Els.map {R Q : Heap → α → List Value → Prop} {h h' : Heap} (f : ∀ d cs, R h d cs → Q h' d cs) : ∀ {l : List α} {xs : List Value}, Els R h l xs → Els Q h' l xs
  | [], xs, r => r
  | d :: l, xs, r => by obtain ⟨a, b, rfl, r1, r2⟩ := r; exact ⟨a, b, rfl, f _ _ r1, Els.map f r2⟩
theorem Els.map' {R Q : Heap → α → List Value → Prop} {h h' : Heap} : ∀ {l : List α} {xs : List Value} (f : ∀ d, d ∈ l → ∀ cs, R h d cs → Q h' d cs), Els R h l xs → Els Q h' l xs
  | [], xs, f, r => r
  | d :: l, xs, f, r => by obtain ⟨a, b, rfl, r1, r2⟩ := r; exact ⟨a, b, rfl, f _ (List.mem_cons_self ..) _ r1, Els.map' (fun e he => f e (List.mem_cons_of_mem _ he)) r2⟩
theorem Els.len {R : Heap → α → List Value → Prop} {h : Heap} {n : Nat} (hn : ∀ d cs, R h d cs → cs.length = n) : ∀ {l : List α} {xs : List Value}, Els R h l xs → xs.length = l.length * n
  | [], xs, r => by simp only [Els] at r; subst r; simp
  | d :: l, xs, r => by
    obtain ⟨a, b, rfl, r1, r2⟩ := r
    rw [List.length_append, hn _ _ r1, Els.len hn r2, List.length_cons, Nat.add_mul]; omega
theorem Els.get {R : Heap → α → List Value → Prop} {h : Heap} {n : Nat} (hn : ∀ d cs, R h d cs → cs.length = n) : ∀ {l : List α} {xs : List Value} (_ : Els R h l xs) (i : Nat) (hi : i < l.length), ∃ cs, R h l[i] cs ∧ ∀ j, j < n → xs[i * n + j]? = cs[j]?
  | [], _, _, i, hi => by simp at hi
  | d :: l, xs, r, i, hi => by
    obtain ⟨a, b, rfl, r1, r2⟩ := r
    cases i with
    | zero =>
      refine ⟨a, r1, fun j hj => ?_⟩
      rw [Nat.zero_mul, Nat.zero_add, List.getElem?_append_left (by rw [hn _ _ r1]; exact hj)]
    | succ i =>
      obtain ⟨cs, k1, k2⟩ := Els.get hn r2 i (by simpa using hi)
      refine ⟨cs, k1, fun j hj => ?_⟩
      rw [← k2 j hj, List.getElem?_append_right (by rw [hn _ _ r1, Nat.add_mul]; omega), hn _ _ r1]
      congr 1; rw [Nat.add_mul]; omega
theorem Els.flat {R : Heap → α → List Value → Prop} {h : Heap} : ∀ {l : List α} {xs : List Value}, Els R h l xs → ∃ ys : List (List Value), ys.length = l.length ∧ xs = ys.flatten
  | [], xs, r => ⟨[], rfl, by simpa [Els] using r⟩
  | d :: l, xs, r => by
    obtain ⟨a, b, rfl, r1, r2⟩ := r
    obtain ⟨ys, h1, h2⟩ := Els.flat r2
    exact ⟨a :: ys, by simp [h1], by simp [h2]⟩
theorem Els.one_of {R : Heap → α → List Value → Prop} {h : Heap} (ho : ∀ d cs, R h d cs → ∀ v ∈ cs, isOne v = true) : ∀ {l : List α} {xs : List Value}, Els R h l xs → ∀ v ∈ xs, isOne v = true
  | [], xs, r, v, hv => by simp only [Els] at r; subst r; cases hv
  | d :: l, xs, r, v, hv => by
    obtain ⟨a, b, rfl, r1, r2⟩ := r
    rcases List.mem_append.1 hv with hv | hv
    · exact ho _ _ r1 v hv
    · exact Els.one_of ho r2 v hv
/-- A load of one of a slice's. -/
theorem Sl.loadEl {R : Heap → α → List Value → Prop} {h : Heap} {n : Nat} (hn : ∀ d cs, R h d cs → cs.length = n) {a : Option Addr} {c : Nat} {xs : List Value} {l : List α} {p : Addr} {i : Nat} {K : Value → Prop}
    (x : Sl h n a l.length c xs) (r : Els R h l xs) (ep : a = some p) (hi : i < l.length) (k : ∀ cs, R h l[i] cs → K (.agg cs.toArray)) : HLoadN h (p.add (i * n)) n K := by
  obtain ⟨cs, r1, r2⟩ := r.get hn i hi
  refine ⟨cs, hn _ _ r1, fun j hj => ?_, k cs r1⟩
  rw [← r2 j hj, add_add, x.2.2.2 p ep (i * n + j) ?_]
  calc i * n + j < i * n + n := by omega
    _ = (i + 1) * n := by rw [Nat.add_mul]; omega
    _ ≤ l.length * n := Nat.mul_le_mul_right _ hi

/-- A slice of things that a call owns: the array lies from B on, the things elsewhere from B on. -/
def OwnL (R : Heap → α → List Value → Prop) (h : Heap) (B e size : Nat) (a : Option Addr) (n c : Nat) (l : List α) : Prop :=
  n = l.length ∧ ∃ xs, Own h B e size a n c xs ∧ Fr (fun b => B ≤ b ∧ b < h.size ∧ ∀ p, a = some p → p.block ≠ b) (fun h => Els R h l xs) h
theorem Own.lt {h : Heap} {B e size n c : Nat} {a : Option Addr} {xs : List Value} (x : Own h B e size a n c xs) : ∀ p, a = some p → B ≤ p.block ∧ p.block < h.size := by
  intro p ep
  obtain ⟨b, s, rfl, h2, _, h4⟩ := x.2.2.2 p ep
  exact ⟨h2, h4.lt⟩
theorem Own.agree {h h' : Heap} {B e size n c : Nat} {a : Option Addr} {xs : List Value} {S : Nat → Prop} (x : Own h B e size a n c xs) (o : Agree S h h') (hk : ∀ p, a = some p → S p.block) : Own h' B e size a n c xs :=
  ⟨x.1, x.2.1, x.2.2.1, fun p ep => let ⟨b, s, h1, h2, h3, h4⟩ := x.2.2.2 p ep; ⟨b, s, h1, h2, h3, h4.of (o _ (by have := hk p ep; rw [h1] at this; exact this))⟩⟩
theorem OwnL.nil (R : Heap → α → List Value → Prop) (h : Heap) (B e size : Nat) : OwnL R h B e size none 0 0 [] := ⟨rfl, [], Own.nil _ _ _ _, fun _ _ => rfl⟩
theorem OwnL.agree {R : Heap → α → List Value → Prop} {h h' : Heap} {B e size n c : Nat} {a : Option Addr} {l : List α} (x : OwnL R h B e size a n c l) (hs : h.size ≤ h'.size) (o : Agree (fun b => B ≤ b ∧ b < h.size) h h') : OwnL R h' B e size a n c l := by
  obtain ⟨hn, xs, x1, x2⟩ := x
  refine ⟨hn, xs, x1.agree o x1.lt, (x2.frame (o.mono fun b hb => ⟨hb.1, hb.2.1⟩)).mono fun b hb => ⟨hb.1, by omega, hb.2.2⟩⟩
theorem OwnL.ext {R : Heap → α → List Value → Prop} {h h' : Heap} {B e size n c : Nat} {a : Option Addr} {l : List α} (x : OwnL R h B e size a n c l) (k : Ext h h') : OwnL R h' B e size a n c l :=
  x.agree k.1 (k.agree fun b hb => hb.2)
theorem OwnL.off {R : Heap → α → List Value → Prop} {h h' : Heap} {B e size n c k : Nat} {a : Option Addr} {l : List α} (x : OwnL R h B e size a n c l) (o : Off k h h') (hk : k < B) : OwnL R h' B e size a n c l :=
  x.agree o.1 (o.agree fun b hb => ⟨hb.2, by omega⟩)
theorem OwnL.sl {R : Heap → α → List Value → Prop} {h : Heap} {B e size n c : Nat} {a : Option Addr} {l : List α} (x : OwnL R h B e size a n c l) : ∃ xs, Sl h size a n c xs ∧ Els R h l xs := by
  obtain ⟨hn, xs, x1, x2⟩ := x
  exact ⟨xs, x1.sl, x2.get⟩
theorem OwnL.fr {R : Heap → α → List Value → Prop} {h : Heap} {B e size n c : Nat} {a : Option Addr} {l : List α} (x : OwnL R h B e size a n c l) : Fr (fun b => B ≤ b ∧ b < h.size) (fun h => ∃ xs, Sl h size a n c xs ∧ Els R h l xs) h := by
  obtain ⟨hn, xs, x1, x2⟩ := x
  intro h' ag
  exact ⟨xs, (x1.agree ag x1.lt).sl, x2 h' (ag.mono fun b hb => ⟨hb.1, hb.2.1⟩)⟩
theorem OwnL.lt {R : Heap → α → List Value → Prop} {h : Heap} {B e size n c : Nat} {a : Option Addr} {l : List α} (x : OwnL R h B e size a n c l) : ∀ p, a = some p → B ≤ p.block ∧ p.block < h.size := by
  obtain ⟨hn, xs, x1, x2⟩ := x; exact x1.lt
/-- One thing more: it was made behind s, the array was there before. -/
theorem OwnL.push {R : Heap → α → List Value → Prop} {h : Heap} {B e size bytes : Nat} {zs : List Value} {a : Option Addr} {n c s : Nat} {l : List α} {d : α} {more : List Value} {K : Value → Heap → Prop} (x : OwnL R h B e size a n c l)
    (hB : B ≤ h.size) (hz : zs.length = size) (hm : more.length = size) (one : ∀ v ∈ more, isOne v = true) (room : (n + 1) * bytes ≤ 140737488355328)
    (y : Fr (fun b => s ≤ b ∧ b < h.size) (fun h => R h d more) h) (hs : B ≤ s) (hlt : ∀ p, a = some p → p.block < s)
    (k : ∀ h' a' c', OwnL R h' B e size a' (n + 1) c' (l ++ [d]) → Kept B h h' → K (.slice a' (n + 1) c') h') :
    HAppend h e size bytes zs a n c more 1 K := by
  obtain ⟨hn, xs, x1, x2⟩ := x
  refine x1.append (m := 1) hB hz (by omega) one room ?_
  intro h' a' c' o k1 k2 k3
  refine k h' a' c' ⟨by simp [hn], xs ++ more, o, ?_⟩ k1
  have hsz := k1.1
  have e1 : Fr (fun b => B ≤ b ∧ b < h'.size ∧ ∀ p, a' = some p → p.block ≠ b) (fun h => Els R h l xs) h' := by
    refine (x2.frame (h' := h') fun b hb => k2 b hb.2.1 hb.2.2).mono ?_
    intro b hb
    refine ⟨hb.1, by omega, fun p ep he => ?_⟩
    rcases k3 p ep with ⟨q, eq, hq⟩ | hq
    · exact hb.2.2 q eq (by omega)
    · omega
  have e2 : Fr (fun b => B ≤ b ∧ b < h'.size ∧ ∀ p, a' = some p → p.block ≠ b) (fun h => R h d more) h' := by
    refine (y.frame (h' := h') fun b hb => k2 b hb.2 fun p ep he => ?_).mono ?_
    · have := hlt p ep; omega
    · intro b hb
      refine ⟨by omega, by omega, fun p ep he => ?_⟩
      rcases k3 p ep with ⟨q, eq, hq⟩ | hq
      · have := hlt q eq; omega
      · omega
  exact fun h'' ag => Els.append (e1 h'' ag) (Els.one (e2 h'' ag))

/-- The same with a set of blocks in the place of a bound. -/
def OwnF (R : Heap → α → List Value → Prop) (h : Heap) (S : Nat → Prop) (e size : Nat) (a : Option Addr) (n c : Nat) (l : List α) : Prop :=
  n = l.length ∧ ∃ xs, Own h 0 e size a n c xs ∧ (∀ p, a = some p → S p.block) ∧ Fr (fun b => S b ∧ b < h.size ∧ ∀ p, a = some p → p.block ≠ b) (fun h => Els R h l xs) h
theorem OwnF.nil (R : Heap → α → List Value → Prop) (h : Heap) (S : Nat → Prop) (e size : Nat) : OwnF R h S e size none 0 0 [] := ⟨rfl, [], Own.nil _ _ _ _, fun p ep => (by cases ep), fun _ _ => rfl⟩
theorem OwnF.agree {R : Heap → α → List Value → Prop} {h h' : Heap} {S : Nat → Prop} {e size n c : Nat} {a : Option Addr} {l : List α} (x : OwnF R h S e size a n c l) (hs : h.size ≤ h'.size) (o : Agree (fun b => S b ∧ b < h.size) h h') : OwnF R h' S e size a n c l := by
  obtain ⟨hn, xs, x1, x3, x2⟩ := x
  refine ⟨hn, xs, x1.agree o fun p ep => ⟨x3 p ep, (x1.lt p ep).2⟩, x3, (x2.frame (o.mono fun b hb => ⟨hb.1, hb.2.1⟩)).mono fun b hb => ⟨hb.1, by omega, hb.2.2⟩⟩
theorem OwnF.ext {R : Heap → α → List Value → Prop} {h h' : Heap} {S : Nat → Prop} {e size n c : Nat} {a : Option Addr} {l : List α} (x : OwnF R h S e size a n c l) (k : Ext h h') : OwnF R h' S e size a n c l :=
  x.agree k.1 (k.agree fun b hb => hb.2)
theorem OwnF.off {R : Heap → α → List Value → Prop} {h h' : Heap} {S : Nat → Prop} {e size n c k : Nat} {a : Option Addr} {l : List α} (x : OwnF R h S e size a n c l) (o : Off k h h') (hk : ¬ S k) : OwnF R h' S e size a n c l :=
  x.agree o.1 (o.agree fun b hb => ⟨hb.2, fun e => hk (e ▸ hb.1)⟩)
theorem OwnF.mono {R : Heap → α → List Value → Prop} {h : Heap} {S T : Nat → Prop} {e size n c : Nat} {a : Option Addr} {l : List α} (x : OwnF R h S e size a n c l) (hs : ∀ b, S b → b < h.size → T b) : OwnF R h T e size a n c l := by
  obtain ⟨hn, xs, x1, x3, x2⟩ := x
  exact ⟨hn, xs, x1, fun p ep => hs _ (x3 p ep) (x1.lt p ep).2, x2.mono fun b hb => ⟨hs _ hb.1 hb.2.1, hb.2⟩⟩
theorem OwnF.lt {R : Heap → α → List Value → Prop} {h : Heap} {S : Nat → Prop} {e size n c : Nat} {a : Option Addr} {l : List α} (x : OwnF R h S e size a n c l) : ∀ p, a = some p → S p.block ∧ p.block < h.size := by
  obtain ⟨hn, xs, x1, x3, x2⟩ := x; exact fun p ep => ⟨x3 p ep, (x1.lt p ep).2⟩
theorem OwnF.sl {R : Heap → α → List Value → Prop} {h : Heap} {S : Nat → Prop} {e size n c : Nat} {a : Option Addr} {l : List α} (x : OwnF R h S e size a n c l) : ∃ xs, Sl h size a n c xs ∧ Els R h l xs := by
  obtain ⟨hn, xs, x1, x3, x2⟩ := x
  exact ⟨xs, x1.sl, x2.get⟩
theorem OwnF.fr {R : Heap → α → List Value → Prop} {h : Heap} {S : Nat → Prop} {e size n c : Nat} {a : Option Addr} {l : List α} (x : OwnF R h S e size a n c l) : Fr (fun b => S b ∧ b < h.size) (fun h => ∃ xs, Sl h size a n c xs ∧ Els R h l xs) h := by
  obtain ⟨hn, xs, x1, x3, x2⟩ := x
  intro h' ag
  exact ⟨xs, (x1.agree ag fun p ep => ⟨x3 p ep, (x1.lt p ep).2⟩).sl, x2 h' (ag.mono fun b hb => ⟨hb.1, hb.2.1⟩)⟩
theorem OwnF.push {R : Heap → α → List Value → Prop} {h : Heap} {S : Nat → Prop} {e size bytes : Nat} {zs : List Value} {a : Option Addr} {n c : Nat} {l : List α} {d : α} {more : List Value} {K : Value → Heap → Prop} (x : OwnF R h S e size a n c l)
    (hS : ∀ b, h.size ≤ b → S b) (hz : zs.length = size) (hm : more.length = size) (one : ∀ v ∈ more, isOne v = true) (room : (n + 1) * bytes ≤ 140737488355328)
    (y : Fr (fun b => S b ∧ b < h.size ∧ ∀ p, a = some p → p.block ≠ b) (fun h => R h d more) h)
    (k : ∀ h' a' c', OwnF R h' S e size a' (n + 1) c' (l ++ [d]) → (h.size ≤ h'.size ∧ (∀ b, b < h.size → (∀ p, a = some p → p.block ≠ b) → h'[b]? = h[b]?) ∧ (∀ p', a' = some p' → (∃ p, a = some p ∧ p'.block = p.block) ∨ h.size ≤ p'.block)) → K (.slice a' (n + 1) c') h') :
    HAppend h e size bytes zs a n c more 1 K := by
  obtain ⟨hn, xs, x1, x3, x2⟩ := x
  refine x1.append (m := 1) (Nat.zero_le _) hz (by omega) one room ?_
  intro h' a' c' o k1 k2 k3
  have hsz := k1.1
  refine k h' a' c' ⟨by simp [hn], xs ++ more, o, ?_, ?_⟩ ⟨hsz, k2, k3⟩
  · intro p ep
    rcases k3 p ep with ⟨q, eq, hq⟩ | hq
    · rw [hq]; exact x3 q eq
    · exact hS _ hq
  · have st : ∀ b, (S b ∧ b < h.size ∧ ∀ p, a = some p → p.block ≠ b) → S b ∧ b < h'.size ∧ ∀ p, a' = some p → p.block ≠ b := by
      intro b hb
      refine ⟨hb.1, by omega, fun p ep he => ?_⟩
      rcases k3 p ep with ⟨q, eq, hq⟩ | hq
      · exact hb.2.2 q eq (by omega)
      · have := hb.2.1; omega
    have e1 := (x2.frame (h' := h') fun b hb => k2 b hb.2.1 hb.2.2).mono st
    have e2 := (y.frame (h' := h') fun b hb => k2 b hb.2.1 hb.2.2).mono st
    exact fun h'' ag => Els.append (e1 h'' ag) (Els.one (e2 h'' ag))
end els

/-- The same, of a slice that was there in an elder heap. -/
theorem Sl.loadRep0 {h0 h : Heap} {a : Option Addr} {c : Nat} {xs : List Value} {l : List DT} {p : Addr} {i : Nat} {K : Value → Prop} (x : Sl h0 5 a l.length c xs) (r : Reps h0 l xs) (e : Ext h0 h) (ep : a = some p) (hi : i < l.length)
    (k : ∀ cs, Rep h0 l[i] cs → K (.agg cs.toArray)) : HLoadN h (p.add (i * 5)) 5 K := by
  obtain ⟨cs, r1, r2⟩ := r.get i hi
  refine ⟨cs, r1.len, fun j hj => ?_, k cs r1⟩
  rw [← r2 j hj, add_add, (x.ext e).2.2.2 p ep (i * 5 + j) (by omega)]
theorem splN_all {zs vs : List Value} {n : Nat} {K : List Value → Prop} (hz : zs.length = n) (hv : vs.length = n) (k : K vs) : splN zs 0 vs n K := by
  subst hv
  refine splN_of zs 0 vs K (by omega) ?_
  rw [Nat.zero_add, ← hz, List.drop_length, List.append_nil]
  exact k
theorem Reps_iff {h : Heap} : ∀ {l : List DT} {xs : List Value}, Reps h l xs ↔ Els Rep h l xs
  | [], xs => by simp only [Reps, Els]
  | d :: l, xs => by simp only [Reps, Els, Reps_iff]
theorem Rep.mk' {h : Heap} {k n : Int} {s : ByteArray} {ks : List ByteArray} {l : List DT} {ka la : Option Addr} {kc lc : Nat} {xs : List Value} (h1 : i64 k) (h2 : i64 n) (h3 : s.size ≤ 140737488351232) (h4 : ks.length ≤ 140737488351232)
    (h5 : l.length ≤ 140737488351232) (h6 : ∀ x ∈ ks, x.size ≤ 140737488351232) (s1 : Sl h 1 ka ks.length kc (ks.map .string)) (s2 : Sl h 5 la l.length lc xs) (s3 : Reps h l xs) :
    Rep h (.mk k n s ks l) [.int .i64 k, .int .i64 n, .string s, .slice ka ks.length kc, .slice la l.length lc] := by
  simp only [Rep]
  exact ⟨h1, h2, h3, h4, h5, h6, ka, kc, la, lc, xs, rfl, s1, s2, s3⟩

end Go.H
