import Derived.Test.YthagjflkdoafmaaN8
set_option linter.unusedVariables false
set_option linter.unusedSimpArgs false
namespace Go.Proofs.Ythagjflkdoafmaa.Hc
open Go Go.H Go.Proofs
set_option maxRecDepth 100000
set_option maxHeartbeats 4000000

/-! ### Reading, piece by piece -/
theorem ints_step {m i : Nat} {l0 r r' : List UInt8} {acc : List Int} {k : Nat} (h : rInts m l0 = (rInts (m - i) r).map (acc ++ ·)) (hi : i < m) (hk : rNum 2147483647 r = .ok k r') :
    rInts m l0 = (rInts (m - (i + 1)) r').map ((acc ++ [(k : Int)]) ++ ·) := by
  obtain ⟨j, hj⟩ : ∃ j, m - i = j + 1 := ⟨m - i - 1, by omega⟩
  have : m - (i + 1) = j := by omega
  rw [h, hj, this]
  simp only [rInts, hk, Rd.map_map]
  congr 1
  funext ks
  simp
theorem ints_no {m i : Nat} {l0 r : List UInt8} {acc : List Int} {e : Nat} (h : rInts m l0 = (rInts (m - i) r).map (acc ++ ·)) (hi : i < m) (hk : rNum 2147483647 r = .no e) : rInts m l0 = .no e := by
  obtain ⟨j, hj⟩ : ∃ j, m - i = j + 1 := ⟨m - i - 1, by omega⟩
  rw [h, hj]
  simp only [rInts, hk, Rd.map]
theorem ints_end {m : Nat} {l0 r : List UInt8} {acc : List Int} (h : rInts m l0 = (rInts (m - m) r).map (acc ++ ·)) : rInts m l0 = .ok acc r := by
  rw [h, Nat.sub_self]; simp [rInts, Rd.map]
theorem kv_step1 {m i : Nat} {l0 r r1 : List UInt8} {ka va : List ByteArray} {k : ByteArray} (h : rKV false m l0 = (rKV false (m - i) r).map (fun q => (ka ++ q.1, va ++ q.2))) (hi : i < m) (hk : rTxt r = .ok k r1) :
    rKV false m l0 = (rKV false (m - (i + 1)) r1).map (fun q => ((ka ++ [k]) ++ q.1, va ++ q.2)) := by
  obtain ⟨j, hj⟩ : ∃ j, m - i = j + 1 := ⟨m - i - 1, by omega⟩
  have : m - (i + 1) = j := by omega
  rw [h, hj, this]
  simp only [rKV, hk, Rd.map_map]
  congr 1
  funext ks
  simp
theorem kv_step2 {m i : Nat} {l0 r r1 r2 : List UInt8} {ka va : List ByteArray} {k v : ByteArray} (h : rKV true m l0 = (rKV true (m - i) r).map (fun q => (ka ++ q.1, va ++ q.2))) (hi : i < m) (hk : rTxt r = .ok k r1) (hv : rTxt r1 = .ok v r2) :
    rKV true m l0 = (rKV true (m - (i + 1)) r2).map (fun q => ((ka ++ [k]) ++ q.1, (va ++ [v]) ++ q.2)) := by
  obtain ⟨j, hj⟩ : ∃ j, m - i = j + 1 := ⟨m - i - 1, by omega⟩
  have : m - (i + 1) = j := by omega
  rw [h, hj, this]
  simp only [rKV, hk, hv, Rd.map_map]
  congr 1
  funext ks
  simp
theorem kv_no1 {p : Bool} {m i : Nat} {l0 r : List UInt8} {ka va : List ByteArray} {e : Nat} (h : rKV p m l0 = (rKV p (m - i) r).map (fun q => (ka ++ q.1, va ++ q.2))) (hi : i < m) (hk : rTxt r = .no e) : rKV p m l0 = .no e := by
  obtain ⟨j, hj⟩ : ∃ j, m - i = j + 1 := ⟨m - i - 1, by omega⟩
  rw [h, hj]
  simp only [rKV, hk, Rd.map]
theorem kv_no2 {m i : Nat} {l0 r r1 : List UInt8} {ka va : List ByteArray} {e : Nat} {k : ByteArray} (h : rKV true m l0 = (rKV true (m - i) r).map (fun q => (ka ++ q.1, va ++ q.2))) (hi : i < m) (hk : rTxt r = .ok k r1) (hv : rTxt r1 = .no e) : rKV true m l0 = .no e := by
  obtain ⟨j, hj⟩ : ∃ j, m - i = j + 1 := ⟨m - i - 1, by omega⟩
  rw [h, hj]
  simp only [rKV, hk, hv, Rd.map]
theorem kv_end {p : Bool} {m : Nat} {l0 r : List UInt8} {ka va : List ByteArray} (h : rKV p m l0 = (rKV p (m - m) r).map (fun q => (ka ++ q.1, va ++ q.2))) : rKV p m l0 = .ok (ka, va) r := by
  rw [h, Nat.sub_self]; simp [rKV, Rd.map]

theorem off_new {k k' : Nat} {a b c : Heap} (x : Off k a b) (y : Off k' b c) (h : a.size ≤ k') : Off k a c :=
  ⟨Nat.le_trans x.1 y.1, fun i hi hk => (y.2 i (Nat.lt_of_lt_of_le hi x.1) (by omega)).trans (x.2 i hi hk)⟩
theorem off_grow {k : Nat} {a b c : Heap} {p q : Option Addr} (x : Off k a b) (y : Grew b p c q) (h : ∀ r, p = some r → a.size ≤ r.block) : Off k a c :=
  ⟨Nat.le_trans x.1 y.1, fun i hi hk => (y.2.1 i (Nat.lt_of_lt_of_le hi x.1) (fun r e => by have := h r e; omega)).trans (x.2 i hi hk)⟩

/-- A node that a call made: its slices lie from B on. -/
def NFr (h : Heap) (B : Nat) (d : ND) (cs : List Value) : Prop := Fr (fun b => B ≤ b ∧ b < h.size) (fun h => NRep h d cs) h
/-- What is read is small. -/
def Small (d : ND) : Prop := d.keys.length ≤ 12 ∧ d.vals.length ≤ 12 ∧ d.kids.length ≤ 12 ∧ (∀ x ∈ d.keys, x.size ≤ 1024) ∧ (∀ x ∈ d.vals, x.size ≤ 1024) ∧ (∀ x ∈ d.kids, 0 ≤ x ∧ x ≤ 2147483647)
theorem nfr_of {h : Heap} {B B' : Nat} {d : ND} {ka va ia : Option Addr} {kc vc ic : Nat} {e1 e2 e3 : Nat} (hs : Small d) (hB : B ≤ B')
    (o1 : Own h B' e1 1 ka d.keys.length kc (d.keys.map .string)) (o2 : Own h B' e2 1 va d.vals.length vc (d.vals.map .string)) (o3 : Own h B' e3 1 ia d.kids.length ic (d.kids.map (.int .i64))) :
    NFr h B d [.slice ka d.keys.length kc, .slice va d.vals.length vc, .slice ia d.kids.length ic] := by
  obtain ⟨h1, h2, h3, h4, h5, h6⟩ := hs
  intro h' ag
  refine ⟨by omega, by omega, by omega, fun x hx => by have := h4 x hx; omega, fun x hx => by have := h5 x hx; omega, fun x hx => by have := h6 x hx; unfold i64; omega, ka, kc, va, vc, ia, ic, rfl, ?_, ?_, ?_⟩
  · exact (o1.sl.fr fun p ep => by have := o1.lt p ep; omega) h' ag
  · exact (o2.sl.fr fun p ep => by have := o2.lt p ep; omega) h' ag
  · exact (o3.sl.fr fun p ep => by have := o3.lt p ep; omega) h' ag

/-- Two arrays apart. -/
def Dj (a b : Option Addr) : Prop := ∀ p q, a = some p → b = some q → p.block ≠ q.block
theorem Dj.none_l (b : Option Addr) : Dj none b := fun p q e => by cases e
theorem Dj.none_r (a : Option Addr) : Dj a none := fun p q _ e => by cases e
theorem Dj.symm {a b : Option Addr} (x : Dj a b) : Dj b a := fun p q e f h => x q p f e h.symm
theorem dj_grow {h h' : Heap} {a a' b : Option Addr} (g : Grew h a h' a') (x : Dj a b) (hb : ∀ q, b = some q → q.block < h.size) : Dj a' b := by
  intro p q ep eq
  rcases g.2.2 p ep with ⟨r, er, hr⟩ | hr
  · rw [hr]; exact x r q er eq
  · have := hb q eq; omega
theorem own_grew {h h' : Heap} {a a' b : Option Addr} {B e size n c : Nat} {xs : List Value} (o : Own h B e size b n c xs) (g : Grew h a h' a') (x : Dj a b) : Own h' B e size b n c xs :=
  o.agree (S := fun k => ∃ q, b = some q ∧ q.block = k) (fun k ⟨q, eq, hq⟩ => g.2.1 k (by have := (o.lt q eq).2; omega) fun p ep => by rw [← hq]; exact x p q ep eq) fun p ep => ⟨p, ep, rfl⟩

end Go.Proofs.Ythagjflkdoafmaa.Hc
