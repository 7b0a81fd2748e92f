/- r09.SameNames; trees that a call makes; live. -/
import Derived.Test.YtlogpojkkbcpjaaYG
set_option linter.unusedVariables false
set_option linter.unusedSimpArgs false
namespace Go.Proofs.Ytlogpojkkbcpjaa.Hc
open Go Go.H Go.Proofs
set_option maxRecDepth 100000
set_option maxHeartbeats 8000000
theorem getElem_ne {α : Type} {l k : List α} {i : Nat} (h1 : i < l.length) (h2 : i < k.length) (hne : l[i] ≠ k[i]) : l ≠ k := by
  rintro rfl; exact hne rfl
theorem take_step {α : Type} {l k : List α} {i : Nat} (h1 : i < l.length) (h2 : i < k.length) (h : l.take i = k.take i) (he : l[i] = k[i]) : l.take (i + 1) = k.take (i + 1) := by
  rw [List.take_add_one, List.take_add_one, h, List.getElem?_eq_getElem h1, List.getElem?_eq_getElem h2, he]

theorem sameNames_spec {a b : Option Addr} {n m c e : Nat} {l k : List ByteArray} {h : Heap} (x : Sl h 1 a n c (l.map .string)) (y : Sl h 1 b m e (k.map .string)) (hn : n ≤ 4194304) :
    HCalls Try.prog 20 #[.slice a n c, .slice b m e] h fun e h' => h' = h ∧ e = .returned (.bool (decide (l = k))) := by
  have hl : l.length = n := by simpa using x.1
  have hk : k.length = m := by simpa using y.1
  refine c20 (by simp) ?_
  (conv => whnf)
  by_cases hlen : n = m
  · subst hlen
    have q0 : (((n : Nat) : Int) != ((n : Nat) : Int)) = false := by simp
    ((conv=>whnf);repeat((first|(with_reducible first|refine Z1 ?_|refine Z2 ?_|refine Z3 ?_|refine Z4 ?_|refine Z5 ?_|refine Z9 (by assumption) rfl ?_|refine ZA (by assumption) rfl ?_|refine ZB (by assumption) rfl ?_|refine Z6 ?_|refine Z7 ?_|refine Z8 ?_)|((with_reducible refine ZM ?_ ?_);(focus rfl)));(conv=>whnf)))
    refine loop_rule [13] (fun vs h' => ∃ (i : Nat), vs = [.int .i64 i] ∧ i ≤ n ∧ l.take i = k.take i ∧ h' = h)
      (fun vs _ => match vs with | [.int _ i] => n - i.toNat | _ => 0) rfl ?_ ?_
    · exact ⟨0, rfl, by omega, by simp, rfl⟩
    · intro u h1 v13
      rintro ⟨i, e, hi, hk2, rfl⟩
      cases e
      ((conv=>whnf);repeat((first|(with_reducible first|refine Z1 ?_|refine Z2 ?_|refine Z3 ?_|refine Z4 ?_|refine Z5 ?_|refine Z9 (by assumption) rfl ?_|refine ZA (by assumption) rfl ?_|refine ZB (by assumption) rfl ?_|refine Z6 ?_|refine Z7 ?_|refine Z8 ?_)|((with_reducible refine ZM ?_ ?_);(focus rfl)));(conv=>whnf)))
      refine HIf.mk (fun hlt => ?_) (fun hlt => ?_)
      · have hi1 : i < n := by have := of_decide_eq_true hlt; omega
        have hmu : n - ((i : Int) + 1).toNat < n - ((i : Int)).toNat := by omega
        have i1 : i < l.length := by omega
        have i2 : i < k.length := by omega
        ((conv=>whnf);repeat((first|(with_reducible first|refine Z1 ?_|refine Z2 ?_|refine Z3 ?_|refine Z4 ?_|refine Z5 ?_|refine Z9 (by assumption) rfl ?_|refine ZA (by assumption) rfl ?_|refine ZB (by assumption) rfl ?_|refine Z6 ?_|refine Z7 ?_|refine Z8 ?_)|((with_reducible refine ZM ?_ ?_);(focus rfl)));(conv=>whnf)))
        refine HIdx.mk i rfl hi1 ?_
        refine sl_some x hi1 fun p ep => ?_
        ((conv=>whnf);repeat((first|(with_reducible first|refine Z1 ?_|refine Z2 ?_|refine Z3 ?_|refine Z4 ?_|refine Z5 ?_|refine Z9 (by assumption) rfl ?_|refine ZA (by assumption) rfl ?_|refine ZB (by assumption) rfl ?_|refine Z6 ?_|refine Z7 ?_|refine Z8 ?_)|((with_reducible refine ZM ?_ ?_);(focus rfl)));(conv=>whnf)))
        refine x.load ep (by simpa using i1) ?_
        rw [List.getElem_map]
        ((conv=>whnf);repeat((first|(with_reducible first|refine Z1 ?_|refine Z2 ?_|refine Z3 ?_|refine Z4 ?_|refine Z5 ?_|refine Z9 (by assumption) rfl ?_|refine ZA (by assumption) rfl ?_|refine ZB (by assumption) rfl ?_|refine Z6 ?_|refine Z7 ?_|refine Z8 ?_)|((with_reducible refine ZM ?_ ?_);(focus rfl)));(conv=>whnf)))
        refine HIdx.mk i rfl hi1 ?_
        refine sl_some y hi1 fun p ep => ?_
        ((conv=>whnf);repeat((first|(with_reducible first|refine Z1 ?_|refine Z2 ?_|refine Z3 ?_|refine Z4 ?_|refine Z5 ?_|refine Z9 (by assumption) rfl ?_|refine ZA (by assumption) rfl ?_|refine ZB (by assumption) rfl ?_|refine Z6 ?_|refine Z7 ?_|refine Z8 ?_)|((with_reducible refine ZM ?_ ?_);(focus rfl)));(conv=>whnf)))
        refine y.load ep (by simpa using i2) ?_
        rw [List.getElem_map]
        by_cases he : l[i] = k[i]
        · have q1 : (!strEq l[i] k[i]) = false := by rw [(strEq_iff _ _).2 he]; rfl
          ((conv=>whnf);repeat((first|(with_reducible first|refine Z1 ?_|refine Z2 ?_|refine Z3 ?_|refine Z4 ?_|refine Z5 ?_|refine Z9 (by assumption) rfl ?_|refine ZA (by assumption) rfl ?_|refine ZB (by assumption) rfl ?_|refine Z6 ?_|refine Z7 ?_|refine Z8 ?_)|((with_reducible refine ZM ?_ ?_);(focus rfl)));(conv=>whnf)))
          exact ⟨⟨i + 1, rfl, by omega, take_step i1 i2 hk2 he, rfl⟩, hmu⟩
        · have q1 : (!strEq l[i] k[i]) = true := by rw [(strEq_no _ _).2 he]; rfl
          ((conv=>whnf);repeat((first|(with_reducible first|refine Z1 ?_|refine Z2 ?_|refine Z3 ?_|refine Z4 ?_|refine Z5 ?_|refine Z9 (by assumption) rfl ?_|refine ZA (by assumption) rfl ?_|refine ZB (by assumption) rfl ?_|refine Z6 ?_|refine Z7 ?_|refine Z8 ?_)|((with_reducible refine ZM ?_ ?_);(focus rfl)));(conv=>whnf)))
          have hv := decide_eq_false (getElem_ne i1 i2 he)
          rw [hv]
          exact ⟨rfl, rfl⟩
      · have hge := of_decide_eq_false hlt
        obtain rfl : i = n := by omega
        rw [List.take_of_length_le (by omega), List.take_of_length_le (by omega)] at hk2
        ((conv=>whnf);repeat((first|(with_reducible first|refine Z1 ?_|refine Z2 ?_|refine Z3 ?_|refine Z4 ?_|refine Z5 ?_|refine Z9 (by assumption) rfl ?_|refine ZA (by assumption) rfl ?_|refine ZB (by assumption) rfl ?_|refine Z6 ?_|refine Z7 ?_|refine Z8 ?_)|((with_reducible refine ZM ?_ ?_);(focus rfl)));(conv=>whnf)))
        have hv := decide_eq_true hk2
        rw [hv]
        exact ⟨rfl, rfl⟩
  · have q0 : (((n : Nat) : Int) != ((m : Nat) : Int)) = true := by rw [bne_iff_ne]; omega
    ((conv=>whnf);repeat((first|(with_reducible first|refine Z1 ?_|refine Z2 ?_|refine Z3 ?_|refine Z4 ?_|refine Z5 ?_|refine Z9 (by assumption) rfl ?_|refine ZA (by assumption) rfl ?_|refine ZB (by assumption) rfl ?_|refine Z6 ?_|refine Z7 ?_|refine Z8 ?_)|((with_reducible refine ZM ?_ ?_);(focus rfl)));(conv=>whnf)))
    have hv : decide (l = k) = false := decide_eq_false (by rintro rfl; omega)
    rw [hv]
    exact ⟨rfl, rfl⟩

theorem trep_mk {h : Heap} {k n : Int} {nm t : ByteArray} {l : List NT} {la : Option Addr} {lc : Nat} {xs : List Value} (hk : i64 k) (hn : i64 n) (h1 : nm.size ≤ 4194304) (h2 : t.size ≤ 4194304) (h3 : l.length ≤ 4194304) (s : Sl h 6 la l.length lc xs) (r : TReps h l xs) :
    TRep h (.mk k nm n t [] l) [.int .i64 k, .string nm, .int .i64 n, .string t, .slice none 0 0, .slice la l.length lc] := by
  simp only [TRep]
  exact ⟨hk, hn, h1, h2, by simp, h3, by simp, none, 0, la, lc, xs, rfl, Sl.nil _ _, s, r⟩
theorem trep_leaf {h : Heap} {k n : Int} {nm t : ByteArray} (hk : i64 k) (hn : i64 n) (h1 : nm.size ≤ 4194304) (h2 : t.size ≤ 4194304) : TRep h (.mk k nm n t [] []) [.int .i64 k, .string nm, .int .i64 n, .string t, .slice none 0 0, .slice none 0 0] :=
  trep_mk hk hn h1 h2 (by simp) (Sl.nil _ _) (by simp only [TReps])
theorem treps1 {h : Heap} {d : NT} {a : List Value} (r : TRep h d a) : TReps h [d] a := by
  simp only [TReps]
  exact ⟨a, [], by simp, r, rfl⟩
theorem treps2 {h : Heap} {d e : NT} {a b : List Value} (r : TRep h d a) (s : TRep h e b) : TReps h [d, e] (a ++ b) := by
  simp only [TReps]
  exact ⟨a, b, rfl, r, b, [], by simp, s, rfl⟩
abbrev emp : ByteArray := ⟨#[]⟩
abbrev leafT (k : Int) (nm : ByteArray) : NT := .mk k nm 0 emp [] []
abbrev nodeT (k : Int) (nm : ByteArray) (l : List NT) : NT := .mk k nm 0 emp [] l
abbrev progT (l : List NT) : NT := nodeT 41 emp l
def lBrk : NT := leafT 31 emp
def lLoop : NT := nodeT 27 emp [.mk 1 emp 1 emp [] [], nodeT 25 emp [lBrk]]
def lVar : NT := nodeT 22 emp [leafT 23 ⟨#[120]⟩]
theorem live1 : checkS (progT [lLoop]) = 0 := by decide +kernel
theorem live2 : checkS (progT [lBrk]) = 90 := by decide +kernel
theorem live3 : varsL [lLoop, lVar] [] = [⟨#[120]⟩] := by decide +kernel
theorem i64_small {n : Int} (h : -1000000000000 ≤ n ∧ n ≤ 1000000000000) : i64 n := ⟨by omega, by omega⟩
theorem live_spec {h : Heap} (g : Glb h) : HCalls Try.prog 8 #[] h fun e h' => e = .returned (.bool true) ∧ Ext h h' := by
  refine c8 (by simp) ?_
  ((conv=>whnf);repeat((first|(with_reducible first|refine Z1 ?_|refine Z2 ?_|refine Z3 ?_|refine Z4 ?_|refine Z5 ?_|refine Z9 (by assumption) rfl ?_|refine ZA (by assumption) rfl ?_|refine ZB (by assumption) rfl ?_|refine Z6 ?_|refine Z7 ?_|refine Z8 ?_)|((with_reducible refine ZM ?_ ?_);(focus rfl)));(conv=>whnf)))
  refine new_var (e := 26) zeroT rfl ?_
  intro h1 p1 o1 x1 z1 hp1
  ((conv=>whnf);repeat((first|(with_reducible first|refine Z1 ?_|refine Z2 ?_|refine Z3 ?_|refine Z4 ?_|refine Z5 ?_|refine Z9 (by assumption) rfl ?_|refine ZA (by assumption) rfl ?_|refine ZB (by assumption) rfl ?_|refine Z6 ?_|refine Z7 ?_|refine Z8 ?_)|((with_reducible refine ZM ?_ ?_);(focus rfl)));(conv=>whnf)))
  refine store_blk o1 (by simp) (by simp [isOne]) ?_
  intro h2 f2 z2 o2
  replace o2 : BlkW h2 p1 26 [.int .i64 31, .string emp, .int .i64 0, .string emp, .slice none 0 0, .slice none 0 0] := by simpa using o2
  have x02 : Ext h h2 := x1.offNew f2 (by omega)
  ((conv=>whnf);repeat((first|(with_reducible first|refine Z1 ?_|refine Z2 ?_|refine Z3 ?_|refine Z4 ?_|refine Z5 ?_|refine Z9 (by assumption) rfl ?_|refine ZA (by assumption) rfl ?_|refine ZB (by assumption) rfl ?_|refine Z6 ?_|refine Z7 ?_|refine Z8 ?_|refine ZB (by assumption) (by assumption) ?_)|((with_reducible refine ZM ?_ ?_);(focus rfl)));(conv=>whnf)))
  refine new_own (e := 26) 6 1 [.int .i64 31, .string emp, .int .i64 0, .string emp, .slice none 0 0, .slice none 0 0] rfl rfl ?_
  intro h3 b3 w3 x3 z3 hb3
  ((conv=>whnf);repeat((first|(with_reducible first|refine Z1 ?_|refine Z2 ?_|refine Z3 ?_|refine Z4 ?_|refine Z5 ?_|refine Z9 (by assumption) rfl ?_|refine ZA (by assumption) rfl ?_|refine ZB (by assumption) rfl ?_|refine Z6 ?_|refine Z7 ?_|refine Z8 ?_)|((with_reducible refine ZM ?_ ?_);(focus rfl)));(conv=>whnf)))
  refine new_own (e := 26) 6 2 [.int .i64 1, .string emp, .int .i64 1, .string emp, .slice none 0 0, .slice none 0 0, .int .i64 25, .string emp, .int .i64 0, .string emp, .slice none 0 0, .slice (some ⟨b3, 0, none⟩) 1 1] rfl rfl ?_
  intro h4 b4 w4 x4 z4 hb4
  ((conv=>whnf);repeat((first|(with_reducible first|refine Z1 ?_|refine Z2 ?_|refine Z3 ?_|refine Z4 ?_|refine Z5 ?_|refine Z9 (by assumption) rfl ?_|refine ZA (by assumption) rfl ?_|refine ZB (by assumption) rfl ?_|refine Z6 ?_|refine Z7 ?_|refine Z8 ?_)|((with_reducible refine ZM ?_ ?_);(focus rfl)));(conv=>whnf)))
  refine new_var (e := 26) zeroT rfl ?_
  intro h5 p2 o5 x5 z5 hp2
  ((conv=>whnf);repeat((first|(with_reducible first|refine Z1 ?_|refine Z2 ?_|refine Z3 ?_|refine Z4 ?_|refine Z5 ?_|refine Z9 (by assumption) rfl ?_|refine ZA (by assumption) rfl ?_|refine ZB (by assumption) rfl ?_|refine Z6 ?_|refine Z7 ?_|refine Z8 ?_)|((with_reducible refine ZM ?_ ?_);(focus rfl)));(conv=>whnf)))
  refine store_blk o5 (by simp) (by simp [isOne]) ?_
  intro h6 f6 z6 o6
  replace o6 : BlkW h6 p2 26 [.int .i64 27, .string emp, .int .i64 0, .string emp, .slice none 0 0, .slice (some ⟨b4, 0, none⟩) 2 2] := by simpa using o6
  have x26 : Ext h2 h6 := ((x3.trans x4).trans x5).offNew f6 (by have := x3.1; have := x4.1; omega)
  have x46 : Ext h4 h6 := x5.offNew f6 (by omega)
  have x36 : Ext h3 h6 := x4.trans x46
  have rBrk : TRep h6 lBrk [.int .i64 31, .string emp, .int .i64 0, .string emp, .slice none 0 0, .slice none 0 0] := trep_leaf (i64_small (by omega)) (i64_small (by omega)) (by decide) (by decide)
  have rLoop : TRep h6 lLoop [.int .i64 27, .string emp, .int .i64 0, .string emp, .slice none 0 0, .slice (some ⟨b4, 0, none⟩) 2 2] :=
    trep_mk (l := [.mk 1 emp 1 emp [] [], nodeT 25 emp [lBrk]]) (i64_small (by omega)) (i64_small (by omega)) (by decide) (by decide) (by simp) (w4.sl.ext x46)
      (treps2 (trep_leaf (i64_small (by omega)) (i64_small (by omega)) (by decide) (by decide)) (trep_mk (l := [lBrk]) (i64_small (by omega)) (i64_small (by omega)) (by decide) (by decide) (by simp) (w3.sl.ext x36) (treps1 rBrk)))
  ((conv=>whnf);repeat((first|(with_reducible first|refine Z1 ?_|refine Z2 ?_|refine Z3 ?_|refine Z4 ?_|refine Z5 ?_|refine Z9 (by assumption) rfl ?_|refine ZA (by assumption) rfl ?_|refine ZB (by assumption) rfl ?_|refine Z6 ?_|refine Z7 ?_|refine Z8 ?_)|((with_reducible refine ZM ?_ ?_);(focus rfl)));(conv=>whnf)))
  refine new_own (e := 26) 6 1 [.int .i64 23, .string ⟨#[120]⟩, .int .i64 0, .string emp, .slice none 0 0, .slice none 0 0] rfl rfl ?_
  intro h7 b7 w7 x7 z7 hb7
  ((conv=>whnf);repeat((first|(with_reducible first|refine Z1 ?_|refine Z2 ?_|refine Z3 ?_|refine Z4 ?_|refine Z5 ?_|refine Z9 (by assumption) rfl ?_|refine ZA (by assumption) rfl ?_|refine ZB (by assumption) rfl ?_|refine Z6 ?_|refine Z7 ?_|refine Z8 ?_)|((with_reducible refine ZM ?_ ?_);(focus rfl)));(conv=>whnf)))
  refine new_var (e := 26) zeroT rfl ?_
  intro h8 p3 o8 x8 z8 hp3
  ((conv=>whnf);repeat((first|(with_reducible first|refine Z1 ?_|refine Z2 ?_|refine Z3 ?_|refine Z4 ?_|refine Z5 ?_|refine Z9 (by assumption) rfl ?_|refine ZA (by assumption) rfl ?_|refine ZB (by assumption) rfl ?_|refine Z6 ?_|refine Z7 ?_|refine Z8 ?_)|((with_reducible refine ZM ?_ ?_);(focus rfl)));(conv=>whnf)))
  refine store_blk o8 (by simp) (by simp [isOne]) ?_
  intro h9 f9 z9 o9
  replace o9 : BlkW h9 p3 26 [.int .i64 22, .string emp, .int .i64 0, .string emp, .slice none 0 0, .slice (some ⟨b7, 0, none⟩) 1 1] := by simpa using o9
  have x79 : Ext h7 h9 := x8.offNew f9 (by omega)
  have x69 : Ext h6 h9 := x7.trans x79
  have rVar : TRep h9 lVar [.int .i64 22, .string emp, .int .i64 0, .string emp, .slice none 0 0, .slice (some ⟨b7, 0, none⟩) 1 1] :=
    trep_mk (l := [leafT 23 ⟨#[120]⟩]) (i64_small (by omega)) (i64_small (by omega)) (by decide) (by decide) (by simp) (w7.sl.ext x79) (treps1 (trep_leaf (i64_small (by omega)) (i64_small (by omega)) (by decide) (by decide)))
  have x09 := (x02.trans x26).trans x69
  have o6 := o6.ext x69
  have o2 := o2.ext (x26.trans x69)
  have rLoop := rLoop.ext x69
  have rBrk := rBrk.ext x69
  clear x79 x69 x26 x46 x36 w3 w4 w7 f2 f6 f9 x1 x3 x4 x5 x7 x8 o1 o5 o8
  ((conv=>whnf);repeat((first|(with_reducible first|refine Z1 ?_|refine Z2 ?_|refine Z3 ?_|refine Z4 ?_|refine Z5 ?_|refine Z9 (by assumption) rfl ?_|refine ZA (by assumption) rfl ?_|refine ZB (by assumption) rfl ?_|refine Z6 ?_|refine Z7 ?_|refine Z8 ?_|refine ZB (by assumption) (by assumption) ?_)|((with_reducible refine ZM ?_ ?_);(focus rfl)));(conv=>whnf)))
  refine new_own (e := 26) 6 1 [.int .i64 27, .string emp, .int .i64 0, .string emp, .slice none 0 0, .slice (some ⟨b4, 0, none⟩) 2 2] rfl rfl ?_
  intro h10 b10 w10 x10 z10 hb10
  have o6 := o6.ext x10
  have o2 := o2.ext x10
  have o9 := o9.ext x10
  ((conv=>whnf);repeat((first|(with_reducible first|refine Z1 ?_|refine Z2 ?_|refine Z3 ?_|refine Z4 ?_|refine Z5 ?_|refine Z9 (by assumption) rfl ?_|refine ZA (by assumption) rfl ?_|refine ZB (by assumption) rfl ?_|refine Z6 ?_|refine Z7 ?_|refine Z8 ?_)|((with_reducible refine ZM ?_ ?_);(focus rfl)));(conv=>whnf)))
  refine HCall.mk ((check_spec (trep_mk (l := [lLoop]) (i64_small (by omega)) (i64_small (by omega)) (by decide) (by decide) (by simp) w10.sl (treps1 (rLoop.ext x10))) ((g.ext x09).ext x10) (by decide +kernel)).mono ?_)
  rintro e h11 ⟨rfl, x11⟩
  rw [live1]
  have o6 := o6.ext x11
  have o2 := o2.ext x11
  have o9 := o9.ext x11
  have x9b := x10.trans x11
  ((conv=>whnf);repeat((first|(with_reducible first|refine Z1 ?_|refine Z2 ?_|refine Z3 ?_|refine Z4 ?_|refine Z5 ?_|refine Z9 (by assumption) rfl ?_|refine ZA (by assumption) rfl ?_|refine ZB (by assumption) rfl ?_|refine Z6 ?_|refine Z7 ?_|refine Z8 ?_|refine ZB (by assumption) (by assumption) ?_)|((with_reducible refine ZM ?_ ?_);(focus rfl)));(conv=>whnf)))
  refine new_own (e := 26) 6 1 [.int .i64 31, .string emp, .int .i64 0, .string emp, .slice none 0 0, .slice none 0 0] rfl rfl ?_
  intro h12 b12 w12 x12 z12 hb12
  have o6 := o6.ext x12
  have o9 := o9.ext x12
  have x9c := x9b.trans x12
  ((conv=>whnf);repeat((first|(with_reducible first|refine Z1 ?_|refine Z2 ?_|refine Z3 ?_|refine Z4 ?_|refine Z5 ?_|refine Z9 (by assumption) rfl ?_|refine ZA (by assumption) rfl ?_|refine ZB (by assumption) rfl ?_|refine Z6 ?_|refine Z7 ?_|refine Z8 ?_)|((with_reducible refine ZM ?_ ?_);(focus rfl)));(conv=>whnf)))
  refine HCall.mk ((check_spec (trep_mk (l := [lBrk]) (i64_small (by omega)) (i64_small (by omega)) (by decide) (by decide) (by simp) w12.sl (treps1 (rBrk.ext x9c))) ((g.ext x09).ext x9c) (by decide +kernel)).mono ?_)
  rintro e h13 ⟨rfl, x13⟩
  rw [live2]
  have o6 := o6.ext x13
  have o9 := o9.ext x13
  have x9d := x9c.trans x13
  ((conv=>whnf);repeat((first|(with_reducible first|refine Z1 ?_|refine Z2 ?_|refine Z3 ?_|refine Z4 ?_|refine Z5 ?_|refine Z9 (by assumption) rfl ?_|refine ZA (by assumption) rfl ?_|refine ZB (by assumption) rfl ?_|refine Z6 ?_|refine Z7 ?_|refine Z8 ?_|refine ZB (by assumption) (by assumption) ?_)|((with_reducible refine ZM ?_ ?_);(focus rfl)));(conv=>whnf)))
  refine new_own (e := 26) 6 2 [.int .i64 27, .string emp, .int .i64 0, .string emp, .slice none 0 0, .slice (some ⟨b4, 0, none⟩) 2 2, .int .i64 22, .string emp, .int .i64 0, .string emp, .slice none 0 0, .slice (some ⟨b7, 0, none⟩) 1 1] rfl rfl ?_
  intro h14 b14 w14 x14 z14 hb14
  have x9e := x9d.trans x14
  have cv := vars_spec _ [lLoop, lVar] rfl h14 _ _ _ w14.sl (treps2 (rLoop.ext x9e) (rVar.ext x9e)) (by decide +kernel)
  rw [live3] at cv
  ((conv=>whnf);repeat((first|(with_reducible first|refine Z1 ?_|refine Z2 ?_|refine Z3 ?_|refine Z4 ?_|refine Z5 ?_|refine Z9 (by assumption) rfl ?_|refine ZA (by assumption) rfl ?_|refine ZB (by assumption) rfl ?_|refine Z6 ?_|refine Z7 ?_|refine Z8 ?_)|((with_reducible refine ZM ?_ ?_);(focus rfl)));(conv=>whnf)))
  refine HCall.mk (cv.mono ?_)
  rintro e h15 ⟨a15, c15, rfl, w15, x15⟩
  ((conv=>whnf);repeat((first|(with_reducible first|refine Z1 ?_|refine Z2 ?_|refine Z3 ?_|refine Z4 ?_|refine Z5 ?_|refine Z9 (by assumption) rfl ?_|refine ZA (by assumption) rfl ?_|refine ZB (by assumption) rfl ?_|refine Z6 ?_|refine Z7 ?_|refine Z8 ?_)|((with_reducible refine ZM ?_ ?_);(focus rfl)));(conv=>whnf)))
  refine new_own (e := 9) 1 1 [.string ⟨#[120]⟩] rfl rfl ?_
  intro h16 b16 w16 x16 z16 hb16
  ((conv=>whnf);repeat((first|(with_reducible first|refine Z1 ?_|refine Z2 ?_|refine Z3 ?_|refine Z4 ?_|refine Z5 ?_|refine Z9 (by assumption) rfl ?_|refine ZA (by assumption) rfl ?_|refine ZB (by assumption) rfl ?_|refine Z6 ?_|refine Z7 ?_|refine Z8 ?_)|((with_reducible refine ZM ?_ ?_);(focus rfl)));(conv=>whnf)))
  refine HCall.mk ((sameNames_spec (l := [⟨#[120]⟩]) (k := [⟨#[120]⟩]) (w15.sl.ext x16) w16.sl (by simp)).mono ?_)
  rintro e h17 ⟨rfl, rfl⟩
  rw [decide_eq_true rfl]
  ((conv=>whnf);repeat((first|(with_reducible first|refine Z1 ?_|refine Z2 ?_|refine Z3 ?_|refine Z4 ?_|refine Z5 ?_|refine Z9 (by assumption) rfl ?_|refine ZA (by assumption) rfl ?_|refine ZB (by assumption) rfl ?_|refine Z6 ?_|refine Z7 ?_|refine Z8 ?_)|((with_reducible refine ZM ?_ ?_);(focus rfl)));(conv=>whnf)))
  exact ⟨rfl, x09.trans (x9e.trans (x15.trans x16))⟩
end Go.Proofs.Ytlogpojkkbcpjaa.Hc
