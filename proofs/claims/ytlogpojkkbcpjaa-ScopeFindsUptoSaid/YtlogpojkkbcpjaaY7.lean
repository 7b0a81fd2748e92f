/- slices.ContainsFunc over names; banned names; may$1. -/
import Derived.Test.YtlogpojkkbcpjaaY3
set_option linter.unusedVariables false
set_option linter.unusedSimpArgs false
namespace Go.Proofs.Ytlogpojkkbcpjaa.Hc
open Go Go.H Go.Proofs
set_option maxRecDepth 100000
set_option maxHeartbeats 4000000
theorem any_take {ks : List ByteArray} {q : ByteArray → Bool} {i : Nat} (hi : i < ks.length) : (ks.take (i + 1)).any q = ((ks.take i).any q || q ks[i]) := by
  rw [take_succ' hi, List.any_append]; simp
theorem indexFunc_spec {fn : FuncId} {q : ByteArray → Bool} {h : Heap} {a : Option Addr} {c : Nat} {ks : List ByteArray} (hgo : goesIn Try.prog fn = true) (hq : ∀ s ∈ ks, HCalls Try.prog fn #[.string s] h fun e h' => e = .returned (.bool (q s)) ∧ h' = h)
    (x : Sl h 1 a ks.length c (ks.map .string)) (hn : ks.length ≤ 4194304) :
    HCalls Try.prog 52 #[.slice a ks.length c, .func (.func fn) #[] #[]] h fun e h' => ∃ i : Int, e = .returned (.int .i64 i) ∧ (0 ≤ i ↔ ks.any q = true) ∧ h' = h := by
  refine c52 (by simp) ?_
  ((conv=>whnf);repeat((first|(with_reducible first|refine Z1 ?_|refine Z2 ?_|refine Z3 ?_|refine Z4 ?_|refine Z5 ?_|refine Z9 (by assumption) rfl ?_|refine ZA (by assumption) rfl ?_|refine ZB (by assumption) rfl ?_|refine Z6 ?_|refine Z7 ?_|refine Z8 ?_)|((with_reducible refine ZM ?_ ?_);(focus rfl)));(conv=>whnf)))
  refine loop_rule [8] (fun vs h' => ∃ (i : Nat), vs = [.int .i64 i] ∧ i ≤ ks.length ∧ (ks.take i).any q = false ∧ h' = h)
    (fun vs _ => match vs with | [.int _ i] => ks.length - i.toNat | _ => 0) rfl ?_ ?_
  · exact ⟨0, rfl, by omega, by simp, rfl⟩
  intro u h1 v8
  rintro ⟨i, e, hi, hz, rfl⟩
  cases e
  ((conv=>whnf);repeat((first|(with_reducible first|refine Z1 ?_|refine Z2 ?_|refine Z3 ?_|refine Z4 ?_|refine Z5 ?_|refine Z9 (by assumption) rfl ?_|refine ZA (by assumption) rfl ?_|refine ZB (by assumption) rfl ?_|refine Z6 ?_|refine Z7 ?_|refine Z8 ?_)|((with_reducible refine ZM ?_ ?_);(focus rfl)));(conv=>whnf)))
  refine HIf.mk (fun hlt => ?_) (fun hlt => ?_)
  · have hi1 : i < ks.length := by have := of_decide_eq_true hlt; omega
    have hmu : ks.length - ((i : Int) + 1).toNat < ks.length - ((i : Int)).toNat := by omega
    have at1 := any_take (q := q) hi1
    ((conv=>whnf);repeat((first|(with_reducible first|refine Z1 ?_|refine Z2 ?_|refine Z3 ?_|refine Z4 ?_|refine Z5 ?_|refine Z9 (by assumption) rfl ?_|refine ZA (by assumption) rfl ?_|refine ZB (by assumption) rfl ?_|refine Z6 ?_|refine Z7 ?_|refine Z8 ?_)|((with_reducible refine ZM ?_ ?_);(focus rfl)));(conv=>whnf)))
    refine HIdx.mk i rfl hi1 ?_
    refine sl_some x hi1 fun p ep => ?_
    ((conv=>whnf);repeat((first|(with_reducible first|refine Z1 ?_|refine Z2 ?_|refine Z3 ?_|refine Z4 ?_|refine Z5 ?_|refine Z9 (by assumption) rfl ?_|refine ZA (by assumption) rfl ?_|refine ZB (by assumption) rfl ?_|refine Z6 ?_|refine Z7 ?_|refine Z8 ?_)|((with_reducible refine ZM ?_ ?_);(focus rfl)));(conv=>whnf)))
    refine x.load ep (by simpa using hi1) ?_
    rw [List.getElem_map]
    ((conv=>whnf);repeat((first|(with_reducible first|refine Z1 ?_|refine Z2 ?_|refine Z3 ?_|refine Z4 ?_|refine Z5 ?_|refine Z9 (by assumption) rfl ?_|refine ZA (by assumption) rfl ?_|refine ZB (by assumption) rfl ?_|refine Z6 ?_|refine Z7 ?_|refine Z8 ?_)|((with_reducible refine ZM ?_ ?_);(focus rfl)));(conv=>whnf)))
    refine HMust.mk hgo ?_
    ((conv=>whnf);repeat((first|(with_reducible first|refine Z1 ?_|refine Z2 ?_|refine Z3 ?_|refine Z4 ?_|refine Z5 ?_|refine Z9 (by assumption) rfl ?_|refine ZA (by assumption) rfl ?_|refine ZB (by assumption) rfl ?_|refine Z6 ?_|refine Z7 ?_|refine Z8 ?_)|((with_reducible refine ZM ?_ ?_);(focus rfl)));(conv=>whnf)))
    refine HCall.mk ((hq ks[i] (List.getElem_mem hi1)).mono ?_)
    rintro e h2 ⟨rfl, rfl⟩
    cases hb : q ks[i]
    · ((conv=>whnf);repeat((first|(with_reducible first|refine Z1 ?_|refine Z2 ?_|refine Z3 ?_|refine Z4 ?_|refine Z5 ?_|refine Z9 (by assumption) rfl ?_|refine ZA (by assumption) rfl ?_|refine ZB (by assumption) rfl ?_|refine Z6 ?_|refine Z7 ?_|refine Z8 ?_)|((with_reducible refine ZM ?_ ?_);(focus rfl)));(conv=>whnf)))
      exact ⟨⟨i + 1, rfl, by omega, by rw [at1, hz, hb]; rfl, rfl⟩, hmu⟩
    · ((conv=>whnf);repeat((first|(with_reducible first|refine Z1 ?_|refine Z2 ?_|refine Z3 ?_|refine Z4 ?_|refine Z5 ?_|refine Z9 (by assumption) rfl ?_|refine ZA (by assumption) rfl ?_|refine ZB (by assumption) rfl ?_|refine Z6 ?_|refine Z7 ?_|refine Z8 ?_)|((with_reducible refine ZM ?_ ?_);(focus rfl)));(conv=>whnf)))
      refine ⟨i, rfl, ⟨fun _ => ?_, fun _ => by omega⟩, rfl⟩
      rw [List.any_eq_true]
      exact ⟨ks[i], List.getElem_mem hi1, hb⟩
  · have hge := of_decide_eq_false hlt
    rw [List.take_of_length_le (by omega)] at hz
    ((conv=>whnf);repeat((first|(with_reducible first|refine Z1 ?_|refine Z2 ?_|refine Z3 ?_|refine Z4 ?_|refine Z5 ?_|refine Z9 (by assumption) rfl ?_|refine ZA (by assumption) rfl ?_|refine ZB (by assumption) rfl ?_|refine Z6 ?_|refine Z7 ?_|refine Z8 ?_)|((with_reducible refine ZM ?_ ?_);(focus rfl)));(conv=>whnf)))
    exact ⟨-1, rfl, ⟨fun h => by omega, fun h => by rw [hz] at h; cases h⟩, rfl⟩
theorem containsFunc_spec {fn : FuncId} {q : ByteArray → Bool} {h : Heap} {a : Option Addr} {c : Nat} {ks : List ByteArray} (hgo : goesIn Try.prog fn = true) (hq : ∀ s ∈ ks, HCalls Try.prog fn #[.string s] h fun e h' => e = .returned (.bool (q s)) ∧ h' = h)
    (x : Sl h 1 a ks.length c (ks.map .string)) (hn : ks.length ≤ 4194304) :
    HCalls Try.prog 36 #[.slice a ks.length c, .func (.func fn) #[] #[]] h fun e h' => e = .returned (.bool (ks.any q)) ∧ h' = h := by
  refine c36 (by simp) ?_
  ((conv=>whnf);repeat((first|(with_reducible first|refine Z1 ?_|refine Z2 ?_|refine Z3 ?_|refine Z4 ?_|refine Z5 ?_|refine Z9 (by assumption) rfl ?_|refine ZA (by assumption) rfl ?_|refine ZB (by assumption) rfl ?_|refine Z6 ?_|refine Z7 ?_|refine Z8 ?_)|((with_reducible refine ZM ?_ ?_);(focus rfl)));(conv=>whnf)))
  refine HCall.mk ((indexFunc_spec hgo hq x hn).mono ?_)
  rintro e h1 ⟨i, rfl, hi, rfl⟩
  have hd : decide (i ≥ 0) = ks.any q := by
    cases hk : ks.any q
    · exact decide_eq_false fun hh => by have := hi.1 hh; rw [hk] at this; cases this
    · exact decide_eq_true (hi.2 hk)
  ((conv=>whnf);repeat((first|(with_reducible first|refine Z1 ?_|refine Z2 ?_|refine Z3 ?_|refine Z4 ?_|refine Z5 ?_|refine Z9 (by assumption) rfl ?_|refine ZA (by assumption) rfl ?_|refine ZB (by assumption) rfl ?_|refine Z6 ?_|refine Z7 ?_|refine Z8 ?_)|((with_reducible refine ZM ?_ ?_);(focus rfl)));(conv=>whnf)))
  exact ⟨by rw [← hd]; rfl, rfl⟩
theorem noName_spec {h : Heap} (g : Glb h) (s : ByteArray) (hs : s.size ≤ 4194304) : HCalls Try.prog 47 #[.string s] h fun e h' => e = .returned (.bool (!isNameB s)) ∧ h' = h := by
  refine c47 (by simp) ?_
  ((conv=>whnf);repeat((first|(with_reducible first|refine Z1 ?_|refine Z2 ?_|refine Z3 ?_|refine Z4 ?_|refine Z5 ?_|refine Z9 (by assumption) rfl ?_|refine ZA (by assumption) rfl ?_|refine ZB (by assumption) rfl ?_|refine Z6 ?_|refine Z7 ?_|refine Z8 ?_)|((with_reducible refine ZM ?_ ?_);(focus rfl)));(conv=>whnf)))
  refine HCall.mk ((name_spec g s hs).mono ?_)
  rintro e h3 ⟨rfl, rfl⟩
  ((conv=>whnf);repeat((first|(with_reducible first|refine Z1 ?_|refine Z2 ?_|refine Z3 ?_|refine Z4 ?_|refine Z5 ?_|refine Z9 (by assumption) rfl ?_|refine ZA (by assumption) rfl ?_|refine ZB (by assumption) rfl ?_|refine Z6 ?_|refine Z7 ?_|refine Z8 ?_)|((with_reducible refine ZM ?_ ?_);(focus rfl)));(conv=>whnf)))
  exact ⟨rfl, rfl⟩
def bannedB (s : ByteArray) : Bool := strEq s ⟨#[101, 118, 97, 108]⟩ || strEq s ⟨#[97, 114, 103, 117, 109, 101, 110, 116, 115]⟩
theorem banned_spec (s : ByteArray) (h : Heap) : HCalls Try.prog 35 #[.string s] h fun e h' => e = .returned (.bool (bannedB s)) ∧ h' = h := by
  refine c35 (by simp) ?_
  unfold bannedB
  cases q1 : strEq s ⟨#[101, 118, 97, 108]⟩
  · ((conv=>whnf);repeat((first|(with_reducible first|refine Z1 ?_|refine Z2 ?_|refine Z3 ?_|refine Z4 ?_|refine Z5 ?_|refine Z9 (by assumption) rfl ?_|refine ZA (by assumption) rfl ?_|refine ZB (by assumption) rfl ?_|refine Z6 ?_|refine Z7 ?_|refine Z8 ?_)|((with_reducible refine ZM ?_ ?_);(focus rfl)));(conv=>whnf)))
    exact ⟨rfl, rfl⟩
  · ((conv=>whnf);repeat((first|(with_reducible first|refine Z1 ?_|refine Z2 ?_|refine Z3 ?_|refine Z4 ?_|refine Z5 ?_|refine Z9 (by assumption) rfl ?_|refine ZA (by assumption) rfl ?_|refine ZB (by assumption) rfl ?_|refine Z6 ?_|refine Z7 ?_|refine Z8 ?_)|((with_reducible refine ZM ?_ ?_);(focus rfl)));(conv=>whnf)))
    exact ⟨rfl, rfl⟩
end Go.Proofs.Ytlogpojkkbcpjaa.Hc
