/- Numbers' texts: the reference's digits, U, Text. -/
import Derived.Test.YtnanabjbdnbccaaDoorP3
import Derived.Test.YtnanabjbdnbccaaDoorG1
set_option linter.unusedVariables false
set_option linter.unusedSimpArgs false
namespace Go.Proofs.YtnanabjbdnbccaaDoor.Hc
open Go Go.H Go.Proofs
set_option maxRecDepth 100000
set_option maxHeartbeats 4000000

theorem byteV_ofNat (n : Nat) : byteV (UInt8.ofNat n) = .int .u8 ((n % 256 : Nat) : Int) := by simp [byteV]
theorem digits_spec (n : Nat) : ∀ (h : Heap), n < 2 ^ 64 → HCalls Tryd.prog 42 #[.int .u64 n] h fun e h' => e = .returned (.string ⟨(Lib.decDigits n).toArray⟩) ∧ Ext h h' := by
  induction n using Nat.strongRecOn with
  | ind n ih =>
  intro h hn
  have e1 : ((n : Nat) : Int).tmod 10 = ((n % 10 : Nat) : Int) := (Int.ofNat_tmod n 10).symm
  have e2 : ((n : Nat) : Int).tdiv 10 = ((n / 10 : Nat) : Int) := (Int.ofNat_tdiv n 10).symm
  refine c42 (by simp) ?_
  ((conv=>whnf);repeat((first|(with_reducible first|refine Z1 ?_|refine Z2 ?_|refine Z3 ?_|refine Z4 ?_|refine Z5 ?_|refine Z9 (by assumption) rfl ?_|refine ZA (by assumption) rfl ?_|refine ZB (by assumption) rfl ?_|refine Z6 ?_|refine Z7 ?_|refine Z8 ?_)|((with_reducible refine ZM ?_ ?_);(focus rfl)));(conv=>whnf)))
  refine new_own (e := 5) 1 1 [byteV (UInt8.ofNat (48 + n % 10))] (by rw [byteV_ofNat, Nat.mod_eq_of_lt (by omega), e1]; rfl) rfl ?_
  intro h1 b1 w1 x1 z1 hb1
  have s1 : Sl h1 1 (some ⟨b1, 0, none⟩) 1 1 ([UInt8.ofNat (48 + n % 10)].map byteV) := w1.sl
  ((conv=>whnf);repeat((first|(with_reducible first|refine Z1 ?_|refine Z2 ?_|refine Z3 ?_|refine Z4 ?_|refine Z5 ?_|refine Z9 (by assumption) rfl ?_|refine ZA (by assumption) rfl ?_|refine ZB (by assumption) rfl ?_|refine Z6 ?_|refine Z7 ?_|refine Z8 ?_)|((with_reducible refine ZM ?_ ?_);(focus rfl)));(conv=>whnf)))
  refine s1.bytes ?_
  by_cases hs : n < 10
  · have q : decide (((n : Nat) : Int) < 10) = true := decide_eq_true (by omega)
    have ed : Lib.decDigits n = [UInt8.ofNat (48 + n % 10)] := by rw [Lib.decDigits, dif_pos hs, Nat.mod_eq_of_lt hs]
    rw [ed]
    ((conv=>whnf);repeat((first|(with_reducible first|refine Z1 ?_|refine Z2 ?_|refine Z3 ?_|refine Z4 ?_|refine Z5 ?_|refine Z9 (by assumption) rfl ?_|refine ZA (by assumption) rfl ?_|refine ZB (by assumption) rfl ?_|refine Z6 ?_|refine Z7 ?_|refine Z8 ?_)|((with_reducible refine ZM ?_ ?_);(focus rfl)));(conv=>whnf)))
    exact ⟨rfl, x1⟩
  · have q : decide (((n : Nat) : Int) < 10) = false := decide_eq_false (by omega)
    have ed : Lib.decDigits n = Lib.decDigits (n / 10) ++ [UInt8.ofNat (48 + n % 10)] := by rw [Lib.decDigits, dif_neg hs]
    rw [ed]
    ((conv=>whnf);repeat((first|(with_reducible first|refine Z1 ?_|refine Z2 ?_|refine Z3 ?_|refine Z4 ?_|refine Z5 ?_|refine Z9 (by assumption) rfl ?_|refine ZA (by assumption) rfl ?_|refine ZB (by assumption) rfl ?_|refine Z6 ?_|refine Z7 ?_|refine Z8 ?_)|((with_reducible refine ZM ?_ ?_);(focus rfl)));(conv=>whnf)))
    refine HCall.to #[.int .u64 (n / 10 : Nat)] (by rw [← e2]; rfl) ((ih (n / 10) (by omega) h1 (by omega)).mono ?_)
    rintro e h2 ⟨rfl, x2⟩
    have hl := dec_len (n / 10) 19 (by have hp : (10 : Nat) ^ 20 = 100000000000000000000 := by decide
                                       rw [hp]; omega)
    ((conv=>whnf);repeat((first|(with_reducible first|refine Z1 ?_|refine Z2 ?_|refine Z3 ?_|refine Z4 ?_|refine Z5 ?_|refine Z9 (by assumption) rfl ?_|refine ZA (by assumption) rfl ?_|refine ZB (by assumption) rfl ?_|refine Z6 ?_|refine Z7 ?_|refine Z8 ?_)|((with_reducible refine ZM ?_ ?_);(focus rfl)));(conv=>whnf)))
    refine HMust.mk ?_ ?_
    · show (Lib.decDigits (n / 10)).length + 1 ≤ 9223372036854775807
      omega
    ((conv=>whnf);repeat((first|(with_reducible first|refine Z1 ?_|refine Z2 ?_|refine Z3 ?_|refine Z4 ?_|refine Z5 ?_|refine Z9 (by assumption) rfl ?_|refine ZA (by assumption) rfl ?_|refine ZB (by assumption) rfl ?_|refine Z6 ?_|refine Z7 ?_|refine Z8 ?_)|((with_reducible refine ZM ?_ ?_);(focus rfl)));(conv=>whnf)))
    refine ⟨?_, x1.trans x2⟩
    congr 2

/-- Units of numbers. -/
def makeL (l : List Nat) : List UInt8 := l.flatMap fun n => [UInt8.ofNat (n / 256), UInt8.ofNat (n % 256)]
theorem makeL_len (l : List Nat) : (makeL l).length = 2 * l.length := by
  induction l with
  | nil => rfl
  | cons c l ih => simp only [makeL, List.flatMap_cons, List.length_append, List.length_cons, List.length_nil] at ih ⊢; omega
theorem makeL_snoc (l : List Nat) (c : Nat) : makeL (l ++ [c]) = makeL l ++ [UInt8.ofNat (c / 256), UInt8.ofNat (c % 256)] := by simp [makeL]
theorem makeL_plain (l : List UInt8) (hp : plainL l) : makeL (l.map fun c => c.toNat) = unitsL l := by
  induction l with
  | nil => rfl
  | cons c l ih =>
    have hc := hp c (by simp)
    have := ih (fun x hx => hp x (by simp [hx]))
    simp only [makeL, unitsL, List.map_cons, List.flatMap_cons] at this ⊢
    rw [this]
    have e1 : c.toNat / 256 = 0 := by omega
    have e2 : c.toNat % 256 = c.toNat := by omega
    rw [e1, e2]
    simp
def natV (n : Nat) : Value := .int .i64 n
theorem make_spec {a : Option Addr} {c : Nat} {l : List Nat} {h : Heap} (x : Sl h 1 a l.length c (l.map natV)) (hl : l.length ≤ 1048576) (hn : ∀ n ∈ l, n < 65536) :
    HCalls Tryd.prog 56 #[.slice a l.length c] h fun e h' => e = .returned (.string ⟨(makeL l).toArray⟩) ∧ Ext h h' := by
  refine c56 (by simp) ?_
  ((conv=>whnf);repeat((first|(with_reducible first|refine Z1 ?_|refine Z2 ?_|refine Z3 ?_|refine Z4 ?_|refine Z5 ?_|refine Z9 (by assumption) rfl ?_|refine ZA (by assumption) rfl ?_|refine ZB (by assumption) rfl ?_|refine Z6 ?_|refine Z7 ?_|refine Z8 ?_)|((with_reducible refine ZM ?_ ?_);(focus rfl)));(conv=>whnf)))
  refine loop_rule [3, 8] (fun vs h' => ∃ (i : Nat) (a' : Option Addr) (c' : Nat) (bs : List UInt8), vs = [.slice a' bs.length c', .int .i64 i] ∧ i ≤ l.length ∧ bs = makeL (l.take i) ∧ Own h' h.size 5 1 a' bs.length c' (bs.map byteV) ∧ Ext h h')
    (fun vs _ => match vs with | [_, .int _ i] => l.length - i.toNat | _ => 0) rfl ?_ ?_
  · exact ⟨0, none, 0, [], rfl, by omega, by simp [makeL], Own.nil _ _ _ _, Ext.refl _⟩
  intro u h2 v3 v8
  rintro ⟨i, a', c', bs, e, hi, hbs, w2, x2⟩
  cases e
  ((conv=>whnf);repeat((first|(with_reducible first|refine Z1 ?_|refine Z2 ?_|refine Z3 ?_|refine Z4 ?_|refine Z5 ?_|refine Z9 (by assumption) rfl ?_|refine ZA (by assumption) rfl ?_|refine ZB (by assumption) rfl ?_|refine Z6 ?_|refine Z7 ?_|refine Z8 ?_)|((with_reducible refine ZM ?_ ?_);(focus rfl)));(conv=>whnf)))
  refine HIf.mk (fun hlt => ?_) (fun hlt => ?_)
  · have hi1 : i < l.length := by have := of_decide_eq_true hlt; omega
    have hmu : l.length - ((i : Int) + 1).toNat < l.length - ((i : Int)).toNat := by omega
    have hni := hn _ (List.getElem_mem hi1)
    have e1 : ((l[i] : Nat) : Int).tmod 256 = ((l[i] % 256 : Nat) : Int) := (Int.ofNat_tmod l[i] 256).symm
    have e2 : ((l[i] : Nat) : Int).tdiv 256 = ((l[i] / 256 : Nat) : Int) := (Int.ofNat_tdiv l[i] 256).symm
    have hbl : bs.length ≤ 2 * 1048576 := by rw [hbs, makeL_len, List.length_take]; omega
    ((conv=>whnf);repeat((first|(with_reducible first|refine Z1 ?_|refine Z2 ?_|refine Z3 ?_|refine Z4 ?_|refine Z5 ?_|refine Z9 (by assumption) rfl ?_|refine ZA (by assumption) rfl ?_|refine ZB (by assumption) rfl ?_|refine Z6 ?_|refine Z7 ?_|refine Z8 ?_)|((with_reducible refine ZM ?_ ?_);(focus rfl)));(conv=>whnf)))
    refine HIdx.mk i rfl hi1 ?_
    refine sl_some x hi1 fun p ep => ?_
    ((conv=>whnf);repeat((first|(with_reducible first|refine Z1 ?_|refine Z2 ?_|refine Z3 ?_|refine Z4 ?_|refine Z5 ?_|refine Z9 (by assumption) rfl ?_|refine ZA (by assumption) rfl ?_|refine ZB (by assumption) rfl ?_|refine Z6 ?_|refine Z7 ?_|refine Z8 ?_)|((with_reducible refine ZM ?_ ?_);(focus rfl)));(conv=>whnf)))
    refine (x.ext x2).load ep (by simpa using hi1) ?_
    rw [List.getElem_map]
    unfold natV
    ((conv=>whnf);repeat((first|(with_reducible first|refine Z1 ?_|refine Z2 ?_|refine Z3 ?_|refine Z4 ?_|refine Z5 ?_|refine Z9 (by assumption) rfl ?_|refine ZA (by assumption) rfl ?_|refine ZB (by assumption) rfl ?_|refine Z6 ?_|refine Z7 ?_|refine Z8 ?_)|((with_reducible refine ZM ?_ ?_);(focus rfl)));(conv=>whnf)))
    refine new_own (e := 5) 1 2 [byteV (UInt8.ofNat (l[i] / 256)), byteV (UInt8.ofNat (l[i] % 256))] (by rw [byteV_ofNat, byteV_ofNat, Nat.mod_eq_of_lt (by omega), Nat.mod_eq_of_lt (show l[i] % 256 < 256 by omega), ← e1, ← e2]) rfl ?_
    intro h3 b3 w3 x3 z3 hb3
    ((conv=>whnf);repeat((first|(with_reducible first|refine Z1 ?_|refine Z2 ?_|refine Z3 ?_|refine Z4 ?_|refine Z5 ?_|refine Z9 (by assumption) rfl ?_|refine ZA (by assumption) rfl ?_|refine ZB (by assumption) rfl ?_|refine Z6 ?_|refine Z7 ?_|refine Z8 ?_)|((with_reducible refine ZM ?_ ?_);(focus rfl)));(conv=>whnf)))
    refine w3.sl.cells ?_
    refine Own.bytes (more := [UInt8.ofNat (l[i] / 256), UInt8.ofNat (l[i] % 256)]) (w2.ext x3) (by have := x2.1; have := x3.1; omega) (by simp; omega) ?_
    intro h4 a4 c4 w4 g4
    ((conv=>whnf);repeat((first|(with_reducible first|refine Z1 ?_|refine Z2 ?_|refine Z3 ?_|refine Z4 ?_|refine Z5 ?_|refine Z9 (by assumption) rfl ?_|refine ZA (by assumption) rfl ?_|refine ZB (by assumption) rfl ?_|refine Z6 ?_|refine Z7 ?_|refine Z8 ?_)|((with_reducible refine ZM ?_ ?_);(focus rfl)));(conv=>whnf)))
    refine ⟨⟨i + 1, a4, c4, _, rfl, by omega, ?_, w4, (x2.trans x3).keep (g4.kept (by have := x2.1; have := x3.1; omega) fun p ep => (w2.lt p ep).1)⟩, hmu⟩
    have htk : l.take (i + 1) = l.take i ++ [l[i]] := by rw [List.take_add_one, List.getElem?_eq_getElem hi1]; rfl
    rw [hbs, htk, makeL_snoc]
  · have hge := of_decide_eq_false hlt
    obtain rfl : i = l.length := by omega
    rw [List.take_length] at hbs
    subst hbs
    have s2 := w2.sl
    ((conv=>whnf);repeat((first|(with_reducible first|refine Z1 ?_|refine Z2 ?_|refine Z3 ?_|refine Z4 ?_|refine Z5 ?_|refine Z9 (by assumption) rfl ?_|refine ZA (by assumption) rfl ?_|refine ZB (by assumption) rfl ?_|refine Z6 ?_|refine Z7 ?_|refine Z8 ?_)|((with_reducible refine ZM ?_ ?_);(focus rfl)));(conv=>whnf)))
    refine s2.bytes ?_
    ((conv=>whnf);repeat((first|(with_reducible first|refine Z1 ?_|refine Z2 ?_|refine Z3 ?_|refine Z4 ?_|refine Z5 ?_|refine Z9 (by assumption) rfl ?_|refine ZA (by assumption) rfl ?_|refine ZB (by assumption) rfl ?_|refine Z6 ?_|refine Z7 ?_|refine Z8 ?_)|((with_reducible refine ZM ?_ ?_);(focus rfl)));(conv=>whnf)))
    exact ⟨rfl, x2⟩
theorem rof_spec (l : List UInt8) (hp : plainL l) (hl : l.length ≤ 1048576) (h : Heap) : HCalls Tryd.prog 49 #[.string ⟨l.toArray⟩] h fun e h' =>
    e = .returned (.tuple #[.string ⟨(unitsL l).toArray⟩, .int .i64 0]) ∧ Ext h h' := by
  have hs : (⟨l.toArray⟩ : ByteArray).size = l.length := rfl
  refine c49 (by simp) ?_
  ((conv=>whnf);repeat((first|(with_reducible first|refine Z1 ?_|refine Z2 ?_|refine Z3 ?_|refine Z4 ?_|refine Z5 ?_|refine Z9 (by assumption) rfl ?_|refine ZA (by assumption) rfl ?_|refine ZB (by assumption) rfl ?_|refine Z6 ?_|refine Z7 ?_|refine Z8 ?_)|((with_reducible refine ZM ?_ ?_);(focus rfl)));(conv=>whnf)))
  refine loop_rule [4, 5] (fun vs h' => ∃ (i : Nat) (a' : Option Addr) (c' : Nat), vs = [.slice a' i c', .int .i64 i] ∧ i ≤ l.length ∧ Own h' h.size 3 1 a' i c' (((l.take i).map fun c => c.toNat).map natV) ∧ Ext h h')
    (fun vs _ => match vs with | [_, .int _ i] => l.length - i.toNat | _ => 0) rfl ?_ ?_
  · exact ⟨0, none, 0, rfl, by omega, Own.nil _ _ _ _, Ext.refl _⟩
  intro u h2 v4 v5
  rintro ⟨i, a', c', e, hi, w2, x2⟩
  cases e
  ((conv=>whnf);repeat((first|(with_reducible first|refine Z1 ?_|refine Z2 ?_|refine Z3 ?_|refine Z4 ?_|refine Z5 ?_|refine Z9 (by assumption) rfl ?_|refine ZA (by assumption) rfl ?_|refine ZB (by assumption) rfl ?_|refine Z6 ?_|refine Z7 ?_|refine Z8 ?_)|((with_reducible refine ZM ?_ ?_);(focus rfl)));(conv=>whnf)))
  refine HIf.mk (fun hlt => ?_) (fun hlt => ?_)
  · have hi1 : i < l.length := by have := of_decide_eq_true hlt; omega
    have hmu : l.length - ((i : Int) + 1).toNat < l.length - ((i : Int)).toNat := by omega
    have hc := hp _ (List.getElem_mem hi1)
    have q : decide ((l[i].toNat : Int) > 127) = false := decide_eq_false (by omega)
    have eget : (⟨l.toArray⟩ : ByteArray).data[i]! = l[i] := by
      show l.toArray[i]! = _
      rw [getElem!_pos l.toArray i (by simpa using hi1)]; simp
    ((conv=>whnf);repeat((first|(with_reducible first|refine Z1 ?_|refine Z2 ?_|refine Z3 ?_|refine Z4 ?_|refine Z5 ?_|refine Z9 (by assumption) rfl ?_|refine ZA (by assumption) rfl ?_|refine ZB (by assumption) rfl ?_|refine Z6 ?_|refine Z7 ?_|refine Z8 ?_)|((with_reducible refine ZM ?_ ?_);(focus rfl)));(conv=>whnf)))
    refine HIdx.mk i rfl hi1 ?_
    rw [eget]
    ((conv=>whnf);repeat((first|(with_reducible first|refine Z1 ?_|refine Z2 ?_|refine Z3 ?_|refine Z4 ?_|refine Z5 ?_|refine Z9 (by assumption) rfl ?_|refine ZA (by assumption) rfl ?_|refine ZB (by assumption) rfl ?_|refine Z6 ?_|refine Z7 ?_|refine Z8 ?_)|((with_reducible refine ZM ?_ ?_);(focus rfl)));(conv=>whnf)))
    refine HIdx.mk i rfl hi1 ?_
    rw [eget]
    ((conv=>whnf);repeat((first|(with_reducible first|refine Z1 ?_|refine Z2 ?_|refine Z3 ?_|refine Z4 ?_|refine Z5 ?_|refine Z9 (by assumption) rfl ?_|refine ZA (by assumption) rfl ?_|refine ZB (by assumption) rfl ?_|refine Z6 ?_|refine Z7 ?_|refine Z8 ?_)|((with_reducible refine ZM ?_ ?_);(focus rfl)));(conv=>whnf)))
    refine new_own (e := 3) 1 1 [natV l[i].toNat] rfl rfl ?_
    intro h3 b3 w3 x3 z3 hb3
    ((conv=>whnf);repeat((first|(with_reducible first|refine Z1 ?_|refine Z2 ?_|refine Z3 ?_|refine Z4 ?_|refine Z5 ?_|refine Z9 (by assumption) rfl ?_|refine ZA (by assumption) rfl ?_|refine ZB (by assumption) rfl ?_|refine Z6 ?_|refine Z7 ?_|refine Z8 ?_)|((with_reducible refine ZM ?_ ?_);(focus rfl)));(conv=>whnf)))
    refine w3.sl.cells ?_
    refine Own.grow (w2.ext x3) (by have := x2.1; have := x3.1; omega) rfl rfl (by intro v hv; simp only [List.mem_singleton] at hv; subst hv; rfl) (by omega) ?_
    intro h4 a4 c4 w4 g4
    have htk : l.take (i + 1) = l.take i ++ [l[i]] := by rw [List.take_add_one, List.getElem?_eq_getElem hi1]; rfl
    have ew : ((l.take i).map fun c => c.toNat).map natV ++ [natV l[i].toNat] = (((l.take (i + 1)).map fun c => c.toNat).map natV) := by rw [htk, List.map_append, List.map_append]; rfl
    rw [ew] at w4
    ((conv=>whnf);repeat((first|(with_reducible first|refine Z1 ?_|refine Z2 ?_|refine Z3 ?_|refine Z4 ?_|refine Z5 ?_|refine Z9 (by assumption) rfl ?_|refine ZA (by assumption) rfl ?_|refine ZB (by assumption) rfl ?_|refine Z6 ?_|refine Z7 ?_|refine Z8 ?_)|((with_reducible refine ZM ?_ ?_);(focus rfl)));(conv=>whnf)))
    exact ⟨⟨i + 1, a4, c4, rfl, by omega, w4, (x2.trans x3).keep (g4.kept (by have := x2.1; have := x3.1; omega) fun p ep => (w2.lt p ep).1)⟩, hmu⟩
  · have hge := of_decide_eq_false hlt
    obtain rfl : i = l.length := by omega
    rw [List.take_length] at w2
    have s2 := w2.sl
    have hml : (l.map fun c => c.toNat).length = l.length := List.length_map ..
    rw [← hml] at s2
    have key := make_spec (l := l.map fun c => c.toNat) s2 (by rw [hml]; omega) (by intro n hn; obtain ⟨c, hc, rfl⟩ := List.mem_map.1 hn; have := hp c hc; omega)
    rw [hml, makeL_plain l hp] at key
    ((conv=>whnf);repeat((first|(with_reducible first|refine Z1 ?_|refine Z2 ?_|refine Z3 ?_|refine Z4 ?_|refine Z5 ?_|refine Z9 (by assumption) rfl ?_|refine ZA (by assumption) rfl ?_|refine ZB (by assumption) rfl ?_|refine Z6 ?_|refine Z7 ?_|refine Z8 ?_)|((with_reducible refine ZM ?_ ?_);(focus rfl)));(conv=>whnf)))
    refine HCall.mk (key.mono ?_)
    rintro e h3 ⟨rfl, x3⟩
    ((conv=>whnf);repeat((first|(with_reducible first|refine Z1 ?_|refine Z2 ?_|refine Z3 ?_|refine Z4 ?_|refine Z5 ?_|refine Z9 (by assumption) rfl ?_|refine ZA (by assumption) rfl ?_|refine ZB (by assumption) rfl ?_|refine Z6 ?_|refine Z7 ?_|refine Z8 ?_)|((with_reducible refine ZM ?_ ?_);(focus rfl)));(conv=>whnf)))
    exact ⟨rfl, x2.trans x3⟩
theorem u_spec (l : List UInt8) (hp : plainL l) (hl : l.length ≤ 1048576) (h : Heap) : HCalls Tryd.prog 39 #[.string ⟨l.toArray⟩] h fun e h' =>
    e = .returned (.string ⟨(unitsL l).toArray⟩) ∧ Ext h h' := by
  refine c39 (by simp) ?_
  ((conv=>whnf);repeat((first|(with_reducible first|refine Z1 ?_|refine Z2 ?_|refine Z3 ?_|refine Z4 ?_|refine Z5 ?_|refine Z9 (by assumption) rfl ?_|refine ZA (by assumption) rfl ?_|refine ZB (by assumption) rfl ?_|refine Z6 ?_|refine Z7 ?_|refine Z8 ?_)|((with_reducible refine ZM ?_ ?_);(focus rfl)));(conv=>whnf)))
  refine HCall.mk ((rof_spec l hp hl h).mono ?_)
  rintro e h2 ⟨rfl, x2⟩
  ((conv=>whnf);repeat((first|(with_reducible first|refine Z1 ?_|refine Z2 ?_|refine Z3 ?_|refine Z4 ?_|refine Z5 ?_|refine Z9 (by assumption) rfl ?_|refine ZA (by assumption) rfl ?_|refine ZB (by assumption) rfl ?_|refine Z6 ?_|refine Z7 ?_|refine Z8 ?_)|((with_reducible refine ZM ?_ ?_);(focus rfl)));(conv=>whnf)))
  exact ⟨rfl, x2⟩
theorem rtext_spec (n : Int) (h0 : -9223372036854775808 ≤ n) (h1 : n ≤ 9223372036854775807) (h : Heap) :
    HCalls Tryd.prog 12 #[.int .i64 n] h fun e h' => e = .returned (.string (textN n)) ∧ Ext h h' := by
  have hil := itoa_len n h0 h1
  refine c12 (by simp) ?_
  by_cases hz : n < 0
  · have q := decide_eq_true hz
    have ei : Lib.itoa n = 45 :: Lib.decDigits n.natAbs := by unfold Lib.itoa; rw [if_pos hz]
    have hdl : (Lib.decDigits n.natAbs).length ≤ 20 := by rw [ei] at hil; simp at hil; omega
    ((conv=>whnf);repeat((first|(with_reducible first|refine Z1 ?_|refine Z2 ?_|refine Z3 ?_|refine Z4 ?_|refine Z5 ?_|refine Z9 (by assumption) rfl ?_|refine ZA (by assumption) rfl ?_|refine ZB (by assumption) rfl ?_|refine Z6 ?_|refine Z7 ?_|refine Z8 ?_)|((with_reducible refine ZM ?_ ?_);(focus rfl)));(conv=>whnf)))
    refine HCall.to #[.int .u64 (n.natAbs : Nat)] (by have : ((n.natAbs : Nat) : Int) = 0 - (n + 1) + 1 := by omega
                                                      rw [this]; rfl) ((digits_spec n.natAbs h (by omega)).mono ?_)
    rintro e h2 ⟨rfl, x2⟩
    ((conv=>whnf);repeat((first|(with_reducible first|refine Z1 ?_|refine Z2 ?_|refine Z3 ?_|refine Z4 ?_|refine Z5 ?_|refine Z9 (by assumption) rfl ?_|refine ZA (by assumption) rfl ?_|refine ZB (by assumption) rfl ?_|refine Z6 ?_|refine Z7 ?_|refine Z8 ?_)|((with_reducible refine ZM ?_ ?_);(focus rfl)));(conv=>whnf)))
    refine HMust.mk (by show 1 + (Lib.decDigits n.natAbs).length ≤ 9223372036854775807; omega) ?_
    ((conv=>whnf);repeat((first|(with_reducible first|refine Z1 ?_|refine Z2 ?_|refine Z3 ?_|refine Z4 ?_|refine Z5 ?_|refine Z9 (by assumption) rfl ?_|refine ZA (by assumption) rfl ?_|refine ZB (by assumption) rfl ?_|refine Z6 ?_|refine Z7 ?_|refine Z8 ?_)|((with_reducible refine ZM ?_ ?_);(focus rfl)));(conv=>whnf)))
    refine HCall.to #[.string ⟨(Lib.itoa n).toArray⟩] (by rw [ei]; rfl) ((u_spec (Lib.itoa n) (itoa_plain n) (by omega) h2).mono ?_)
    rintro e h3 ⟨rfl, x3⟩
    ((conv=>whnf);repeat((first|(with_reducible first|refine Z1 ?_|refine Z2 ?_|refine Z3 ?_|refine Z4 ?_|refine Z5 ?_|refine Z9 (by assumption) rfl ?_|refine ZA (by assumption) rfl ?_|refine ZB (by assumption) rfl ?_|refine Z6 ?_|refine Z7 ?_|refine Z8 ?_)|((with_reducible refine ZM ?_ ?_);(focus rfl)));(conv=>whnf)))
    exact ⟨rfl, x2.trans x3⟩
  · have q := decide_eq_false hz
    have ei : Lib.itoa n = Lib.decDigits n.toNat := by unfold Lib.itoa; rw [if_neg hz]
    ((conv=>whnf);repeat((first|(with_reducible first|refine Z1 ?_|refine Z2 ?_|refine Z3 ?_|refine Z4 ?_|refine Z5 ?_|refine Z9 (by assumption) rfl ?_|refine ZA (by assumption) rfl ?_|refine ZB (by assumption) rfl ?_|refine Z6 ?_|refine Z7 ?_|refine Z8 ?_)|((with_reducible refine ZM ?_ ?_);(focus rfl)));(conv=>whnf)))
    refine HCall.to #[.int .u64 (n.toNat : Nat)] (by rw [Int.toNat_of_nonneg (by omega)]; rfl) ((digits_spec n.toNat h (by omega)).mono ?_)
    rintro e h2 ⟨rfl, x2⟩
    ((conv=>whnf);repeat((first|(with_reducible first|refine Z1 ?_|refine Z2 ?_|refine Z3 ?_|refine Z4 ?_|refine Z5 ?_|refine Z9 (by assumption) rfl ?_|refine ZA (by assumption) rfl ?_|refine ZB (by assumption) rfl ?_|refine Z6 ?_|refine Z7 ?_|refine Z8 ?_)|((with_reducible refine ZM ?_ ?_);(focus rfl)));(conv=>whnf)))
    refine HCall.to #[.string ⟨(Lib.itoa n).toArray⟩] (by rw [ei]; rfl) ((u_spec (Lib.itoa n) (itoa_plain n) (by omega) h2).mono ?_)
    rintro e h3 ⟨rfl, x3⟩
    ((conv=>whnf);repeat((first|(with_reducible first|refine Z1 ?_|refine Z2 ?_|refine Z3 ?_|refine Z4 ?_|refine Z5 ?_|refine Z9 (by assumption) rfl ?_|refine ZA (by assumption) rfl ?_|refine ZB (by assumption) rfl ?_|refine Z6 ?_|refine Z7 ?_|refine Z8 ?_)|((with_reducible refine ZM ?_ ?_);(focus rfl)));(conv=>whnf)))
    exact ⟨rfl, x2.trans x3⟩

end Go.Proofs.YtnanabjbdnbccaaDoor.Hc
