/- A value's text, by the program. -/
import Derived.Test.YtmibnfjjlibpgaaDoorT3
set_option linter.unusedVariables false
set_option linter.unusedSimpArgs false
namespace Go.Proofs.YtmibnfjjlibpgaaDoor.Hc
open Go Go.H Go.Proofs
set_option maxRecDepth 100000
set_option maxHeartbeats 4000000

def commas (l : List (List UInt8)) : List UInt8 := (l.flatMap fun x => 44 :: x).drop 1
def pairs (ks : List ByteArray) (ts : List (List UInt8)) : List (List UInt8) := List.zipWith (fun k t => quoteL k.data.toList ++ 58 :: t) ks ts
mutual
/-- A value's text. -/
def txt : DT → List UInt8
  | .mk k n s ks l => if k = 0 then [117, 110, 100, 101, 102, 105, 110, 101, 100] else if k = 1 then [110, 117, 108, 108] else if k = 2 then (if n = 1 then [116, 114, 117, 101] else [102, 97, 108, 115, 101])
    else if k = 3 then Lib.itoa n else if k = 4 then quoteL s.data.toList else if k = 5 then 91 :: (commas (txts l) ++ [93]) else 123 :: (commas (pairs ks (txts l)) ++ [125])
def txts : List DT → List (List UInt8)
  | [] => []
  | d :: r => txt d :: txts r
end
theorem txts_map : ∀ l, txts l = l.map txt
  | [] => rfl
  | d :: r => by simp only [txts, List.map_cons, txts_map r]
theorem txts_len : ∀ l, (txts l).length = l.length := fun l => by rw [txts_map, List.length_map]
theorem commas_nil : commas [] = [] := rfl
theorem commas_snoc (l : List (List UInt8)) (x : List UInt8) : commas (l ++ [x]) = commas l ++ ((if 0 < l.length then [44] else []) ++ x) := by
  unfold commas
  cases l with
  | nil => simp
  | cons y l => simp [List.flatMap_append]
theorem commas_take (l : List (List UInt8)) (i : Nat) (hi : i < l.length) : commas (l.take (i + 1)) = commas (l.take i) ++ ((if 0 < i then [44] else []) ++ l[i]) := by
  have htk : l.take (i + 1) = l.take i ++ [l[i]] := by rw [List.take_add_one, List.getElem?_eq_getElem hi]; rfl
  rw [htk, commas_snoc, List.length_take, Nat.min_eq_left (by omega)]
theorem flat44 : ∀ (l : List (List UInt8)), (l.flatMap fun x => 44 :: x).length = l.flatten.length + l.length
  | [] => rfl
  | x :: l => by simp only [List.flatMap_cons, List.flatten_cons, List.length_append, List.length_cons, flat44 l]; omega
theorem commas_len (l : List (List UInt8)) : (commas l).length ≤ l.flatten.length + l.length := by
  unfold commas; rw [List.length_drop, flat44]; omega
theorem commas_mono (l : List (List UInt8)) (i : Nat) : (commas (l.take i)).length ≤ (commas l).length := by
  unfold commas
  rw [List.length_drop, List.length_drop]
  have e : l = l.take i ++ l.drop i := (List.take_append_drop _ _).symm
  have := congrArg (fun l => (l.flatMap fun x : List UInt8 => 44 :: x).length) e
  simp only [List.flatMap_append, List.length_append] at this
  omega
theorem pairs_len (ks : List ByteArray) (ts : List (List UInt8)) (h : ks.length = ts.length) : (pairs ks ts).length = ts.length := by
  unfold pairs; rw [List.length_zipWith]; omega
theorem pairs_flat : ∀ (ks : List ByteArray) (ts : List (List UInt8)), (pairs ks ts).flatten.length ≤ 3 * kvol ks + ts.flatten.length
  | [], ts => by simp [pairs]
  | _ :: _, [] => by simp [pairs]
  | k :: ks, t :: ts => by
    have h1 := pairs_flat ks ts
    have h2 := quoteL_len k.data.toList
    have h3 : k.data.toList.length = k.size := rfl
    unfold pairs at h1 ⊢
    simp only [List.zipWith_cons_cons, List.flatten_cons, List.length_append, List.length_cons, kvol]
    omega
theorem pairs_get (ks : List ByteArray) (ts : List (List UInt8)) (i : Nat) (hi : i < (pairs ks ts).length) (h1 : i < ks.length) (h2 : i < ts.length) : (pairs ks ts)[i] = quoteL ks[i].data.toList ++ 58 :: ts[i] := by
  show (List.zipWith (fun k t => quoteL k.data.toList ++ 58 :: t) ks ts)[i]'(by simpa only [pairs] using hi) = _
  exact List.getElem_zipWith
mutual
theorem txt_len : ∀ d, may d → (txt d).length + 1 ≤ 40 * vol d
  | .mk k n s ks l, hm => by
    simp only [may] at hm
    have h1 := txtsl_len l hm.2
    have h2 := commas_len (txts l)
    have h3 := commas_len (pairs ks (txts l))
    have h4 := pairs_flat ks (txts l)
    have h5 : (pairs ks (txts l)).length ≤ (txts l).length := by unfold pairs; rw [List.length_zipWith]; omega
    have h6 := txts_len l
    have h7 := quoteL_len s.data.toList
    have h8 : s.data.toList.length = s.size := rfl
    have h9 : k = 3 → (Lib.itoa n).length ≤ 21 := by
      rintro rfl
      have hn : -9007199254740991 ≤ n ∧ n ≤ 9007199254740991 := by have := hm.1; unfold Own1 at this; omega
      exact itoa_len n (by omega) (by omega)
    simp only [txt, vol]
    repeat' split
    all_goals (try simp only [List.length_cons, List.length_append, List.length_nil])
    all_goals first | omega | (have := h9 (by assumption); omega)
theorem txtsl_len : ∀ l, mays l → (txts l).flatten.length + l.length ≤ 40 * vols l
  | [], _ => by simp [txts, vols]
  | d :: r, hm => by
    simp only [mays] at hm
    have h1 := txt_len d hm.1
    have h2 := txtsl_len r hm.2
    simp only [txts, vols, List.flatten_cons, List.length_append, List.length_cons]; omega
end

end Go.Proofs.YtmibnfjjlibpgaaDoor.Hc
