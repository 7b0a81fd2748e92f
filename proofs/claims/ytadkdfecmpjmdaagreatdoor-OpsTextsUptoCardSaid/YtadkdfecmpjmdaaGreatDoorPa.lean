import Derived.Test.YtadkdfecmpjmdaaGreatDoorRows
import Derived.Test.YtadkdfecmpjmdaaGreatDoorHH
import Derived.Test.YtadkdfecmpjmdaaGreatDoorHK
import Derived.ChangeArms
import Derived.Test.YtadkdfecmpjmdaaGreatDoorC0
import Derived.Test.YtadkdfecmpjmdaaGreatDoorC1
import Derived.Test.YtadkdfecmpjmdaaGreatDoorC2
import Derived.Test.YtadkdfecmpjmdaaGreatDoorHP
import Derived.Test.YtadkdfecmpjmdaaGreatDoorHU
import Derived.Test.YtadkdfecmpjmdaaGreatDoorHW
import Derived.Shelf.Strconv.Itoa4
import Derived.Ground.NamesProg
import Derived.Test.YtadkdfecmpjmdaaGreatDoorProg
import Derived.Test.YtadkdfecmpjmdaaGreatDoorHL
import Derived.KernelRfl
import Derived.Test.YtadkdfecmpjmdaaGreatDoorHT
import Derived.Test.YtadkdfecmpjmdaaGreatDoorHX
set_option linter.unusedVariables false
set_option linter.unusedSimpArgs false
namespace Go.Proofs.YtadkdfecmpjmdaaGreatDoor.RU
open Go Go.ChangeShapes Go.WideShapes Go.RowKit

theorem one_le {H : Type} (d : DataW H) : 1 ≤ Rows.uptoBulk d := by
  cases d with
  | lit l => cases l <;> simp only [Rows.uptoBulk] <;> omega
  | nil => simp only [Rows.uptoBulk]; omega
  | ptr d => simp only [Rows.uptoBulk]; omega
  | slice a b => simp only [Rows.uptoBulk]; omega
  | agg a => simp only [Rows.uptoBulk]; omega
  | iface t d => simp only [Rows.uptoBulk]; omega
  | map a => simp only [Rows.uptoBulk]; omega
  | held a => simp only [Rows.uptoBulk]; omega
theorem length_le {H : Type} : ∀ l : List (DataW H), l.length ≤ Rows.uptoBulkAll l
  | [] => by simp
  | d :: r => by
    have h1 := one_le d
    have h2 := length_le r
    simp only [Rows.uptoBulkAll, List.length_cons]
    omega
theorem string_len {H : Type} (s : ByteArray) : s.size < Rows.uptoBulk (DataW.lit (H := H) (.string s.data.toList)) := by
  simp only [Rows.uptoBulk]
  exact Nat.lt_succ_self _
end Go.Proofs.YtadkdfecmpjmdaaGreatDoor.RU
namespace Go.Proofs.YtadkdfecmpjmdaaGreatDoor.RU
open Go Go.H Go.Proofs Go.ChangeShapes Go.WideShapes Go.RowKit
set_option maxRecDepth 100000

theorem list_ex {α β : Type} : ∀ (l : List α) (R : Nat → α → β → Prop) (_ : ∀ i (hi : i < l.length), ∃ b, R i l[i] b), ∃ bs : List β, bs.length = l.length ∧ ∀ i (hi : i < l.length) (hb : i < bs.length), R i l[i] bs[i]
  | [], R, h => ⟨[], rfl, fun i hi => by simp at hi⟩
  | a :: l, R, h => by
    obtain ⟨b, hb⟩ := h 0 (by simp)
    obtain ⟨bs, h1, h2⟩ := list_ex l (fun i => R (i + 1)) fun i hi => h (i + 1) (by simpa using hi)
    refine ⟨b :: bs, by simp [h1], fun i hi hj => ?_⟩
    cases i with
    | zero => exact hb
    | succ i => exact h2 i (by simpa using hi) (by simpa using hj)
theorem bulk_mem {H : Type} : ∀ (l : List (DataW H)) (d : DataW H), d ∈ l → Rows.uptoBulk d + l.length ≤ Rows.uptoBulkAll l + 1
  | [], d, h => by cases h
  | e :: r, d, h => by
    simp only [Rows.uptoBulkAll, List.length_cons]
    have h1 := one_le e
    rcases List.mem_cons.1 h with rfl | h
    · have := length_le r; omega
    · have := bulk_mem r d h; omega
section
variable {H : Type} {enc : TypeId × Value → H} {P : Program} {W : World} {base : Nat} {spare : Nat → Bool} {held : Bool}

theorem open_strs {t e : TypeId} (hu : P.underlying t = some (.slice e)) (he : P.underlying e = some .string) (hc : P.cellsOf e = 1) {fuel : Nat} {cs : List Value} {x : DataW H × List MemPlace} (h : DataW.trod enc P W base spare held fuel t cs = some x) :
    ∃ (a : Option Addr) (ks : List ByteArray) (c : Nat), cs = [.slice a ks.length c] ∧ Sl W.heap 1 a ks.length c (ks.map .string) ∧ ks.length ≤ Rows.uptoBulk x.1 ∧ (∀ k ∈ ks, k.size ≤ Rows.uptoBulk x.1) := by
  rcases DataW.trod_slice hu h with ⟨rfl, rfl⟩ | ⟨a, len, cap, elems, rest, n, _, rfl, rfl, hb, hl, hm, hlen, hel, _, _⟩
  · exact ⟨none, [], 0, rfl, Sl.nil _ _, by simp, by simp⟩
  rw [hc] at hel
  have each : ∀ i (hi : i < elems.length), ∃ s : ByteArray, W.cell? (a.add i) = some (.string s) ∧ elems[i].1 = .lit (.string s.data.toList) ∧ s.size ≤ maxLen := by
    intro i hi
    have h1 := hel i (by omega)
    rw [List.getElem?_eq_getElem hi, Option.bind_eq_some_iff] at h1
    obtain ⟨cs, h2, h3⟩ := h1
    obtain ⟨s, rfl, h4, h5⟩ := DataW.trod_string he h3
    have := cell_of_cells?_one h2
    rw [Nat.mul_one] at this
    exact ⟨s, this, by rw [h4], h5⟩
  obtain ⟨ks, k1, k2⟩ := list_ex elems (fun i y s => W.cell? (a.add i) = some (.string s) ∧ y.1 = .lit (.string s.data.toList) ∧ s.size ≤ maxLen) each
  refine ⟨some a, ks, cap, by rw [k1, hlen], ⟨by simp, by omega, fun e => (by cases e), ?_⟩, ?_, ?_⟩
  · intro p ep i hi
    cases ep
    rw [Nat.mul_one] at hi
    have := (k2 i (by omega) hi).1
    rw [cell_eq] at this
    rw [this, List.getElem?_map, List.getElem?_eq_getElem hi]; rfl
  · have := length_le (elems.map (·.1))
    rw [List.length_map] at this
    simp only [Rows.uptoBulk]; omega
  · intro k hk
    obtain ⟨i, hi, rfl⟩ := List.getElem_of_mem hk
    have hi2 : i < elems.length := by omega
    have h1 := (k2 i hi2 hi).2.1
    have h2 := bulk_mem (elems.map (·.1)) elems[i].1 (List.mem_map.2 ⟨_, List.getElem_mem hi2, rfl⟩)
    have h3 := string_len (H := H) ks[i]
    rw [h1] at h2
    rw [List.length_map] at h2
    simp only [Rows.uptoBulk] at h2 h3 ⊢
    omega
end
end Go.Proofs.YtadkdfecmpjmdaaGreatDoor.RU
namespace Go.Proofs.YtadkdfecmpjmdaaGreatDoor.Hc
open Go Go.H Go.Proofs
set_option maxRecDepth 100000
open Go Go.H Go.Proofs
set_option maxRecDepth 100000
set_option maxHeartbeats 4000000

def sfI (n : Int) : Bool := decide (-9007199254740991 ≤ n ∧ n ≤ 9007199254740991)
theorem sf_iff {n : Int} : sfI n = true ↔ -9007199254740991 ≤ n ∧ n ≤ 9007199254740991 := by unfold sfI; rw [decide_eq_true_eq]
theorem sf_no {n : Int} : sfI n = false ↔ ¬ (-9007199254740991 ≤ n ∧ n ≤ 9007199254740991) := by unfold sfI; rw [decide_eq_false_iff_not]
def numR (o : Option Int) : Value := match o with
  | some n => .tuple #[.int .i64 n, .int .i64 0]
  | none => .tuple #[.int .i64 0, .int .i64 100]
def nTold (n : Int) (were : Bool) : Option Int := if were = true ∧ sfI n = true then some n else none
def nAdd (a b : Int) : Option Int := if sfI a = true ∧ sfI b = true ∧ sfI (a + b) = true then some (a + b) else none
def nSub (a b : Int) : Option Int := if sfI a = true ∧ sfI b = true ∧ sfI (a - b) = true then some (a - b) else none
def nMul (a b : Int) : Option Int := if sfI a = true ∧ sfI b = true ∧ sfI (a * b) = true then some (a * b) else none
def nMod (a b : Int) : Option Int := if sfI a = true ∧ sfI b = true ∧ b ≠ 0 then some (a.tmod b) else none
def nDiv (a b : Int) : Option Int := if sfI a = true ∧ sfI b = true ∧ b ≠ 0 ∧ a.tmod b = 0 then some (a.tdiv b) else none
theorem safe_spec (n : Int) (h : Heap) : HCalls Tryz.prog 109 #[.int .i64 n] h fun e h' => e = .returned (.bool (sfI n)) ∧ h' = h := by
  refine c109 (by simp) ?_
  by_cases h1 : n ≥ -9007199254740991
  · have q1 := decide_eq_true h1
    have e : sfI n = decide (n ≤ 9007199254740991) := by unfold sfI; rw [decide_eq_decide]; omega
    rw [e]
    refine gA ?_
    exact ⟨rfl, rfl⟩
  · have q1 := decide_eq_false h1
    have e : sfI n = false := by rw [sf_no]; omega
    rw [e]
    refine gA ?_
    exact ⟨rfl, rfl⟩
theorem told_spec (n : Int) (were : Bool) (h : Heap) : HCalls Tryz.prog 108 #[.int .i64 n, .bool were] h fun e h' => e = .returned (numR (nTold n were)) ∧ h' = h := by
  refine c108 (by simp) ?_
  cases were
  · refine gA ?_
    exact ⟨rfl, rfl⟩
  · refine gA ?_
    refine HCall.mk ((safe_spec n h).mono ?_)
    rintro e _ ⟨rfl, rfl⟩
    unfold nTold
    cases hs : sfI n
    · rw [if_neg (by simp)]
      refine gA ?_
      exact ⟨rfl, rfl⟩
    · rw [if_pos ⟨rfl, rfl⟩]
      refine gA ?_
      exact ⟨rfl, rfl⟩
theorem add_spec (a b : Int) (h : Heap) : HCalls Tryz.prog 91 #[.int .i64 a, .int .i64 b] h fun e h' => e = .returned (numR (nAdd a b)) ∧ h' = h := by
  refine c91 (by simp) ?_
  refine gA ?_
  refine HInt.mk (IntKind.i64.wrap (a + b)) rfl ?_
  refine gA ?_
  refine HCall.mk ((safe_spec a h).mono ?_)
  rintro e _ ⟨rfl, rfl⟩
  cases hs : sfI a
  · refine gA ?_
    refine HCall.mk ((told_spec _ false _).mono ?_)
    rintro e _ ⟨rfl, rfl⟩
    unfold nTold nAdd
    rw [if_neg (by simp), if_neg (by simp [hs])]
    unfold numR
    refine gA ?_
    exact ⟨rfl, rfl⟩
  · refine gA ?_
    refine HCall.mk ((safe_spec b _).mono ?_)
    rintro e _ ⟨rfl, rfl⟩
    cases hb : sfI b
    · refine gA ?_
      refine HCall.mk ((told_spec _ false _).mono ?_)
      rintro e _ ⟨rfl, rfl⟩
      unfold nTold nAdd
      rw [if_neg (by simp), if_neg (by simp [hb])]
      unfold numR
      refine gA ?_
      exact ⟨rfl, rfl⟩
    · have h1 := sf_iff.1 hs
      have h2 := sf_iff.1 hb
      rw [wrap_i64 (by omega)]
      refine gA ?_
      refine HCall.mk ((told_spec _ true _).mono ?_)
      rintro e _ ⟨rfl, rfl⟩
      unfold nTold nAdd
      cases hc : sfI (a + b)
      · rw [if_neg (by simp), if_neg (by simp)]
        unfold numR
        refine gA ?_
        exact ⟨rfl, rfl⟩
      · rw [if_pos ⟨rfl, rfl⟩, if_pos ⟨hs, hb, rfl⟩]
        unfold numR
        refine gA ?_
        exact ⟨rfl, rfl⟩
theorem sub_spec (a b : Int) (h : Heap) : HCalls Tryz.prog 61 #[.int .i64 a, .int .i64 b] h fun e h' => e = .returned (numR (nSub a b)) ∧ h' = h := by
  refine c61 (by simp) ?_
  refine gA ?_
  refine HInt.mk (IntKind.i64.wrap (a - b)) rfl ?_
  refine gA ?_
  refine HCall.mk ((safe_spec a h).mono ?_)
  rintro e _ ⟨rfl, rfl⟩
  cases hs : sfI a
  · refine gA ?_
    refine HCall.mk ((told_spec _ false _).mono ?_)
    rintro e _ ⟨rfl, rfl⟩
    unfold nTold nSub
    rw [if_neg (by simp), if_neg (by simp [hs])]
    unfold numR
    refine gA ?_
    exact ⟨rfl, rfl⟩
  · refine gA ?_
    refine HCall.mk ((safe_spec b _).mono ?_)
    rintro e _ ⟨rfl, rfl⟩
    cases hb : sfI b
    · refine gA ?_
      refine HCall.mk ((told_spec _ false _).mono ?_)
      rintro e _ ⟨rfl, rfl⟩
      unfold nTold nSub
      rw [if_neg (by simp), if_neg (by simp [hb])]
      unfold numR
      refine gA ?_
      exact ⟨rfl, rfl⟩
    · have h1 := sf_iff.1 hs
      have h2 := sf_iff.1 hb
      rw [wrap_i64 (by omega)]
      refine gA ?_
      refine HCall.mk ((told_spec _ true _).mono ?_)
      rintro e _ ⟨rfl, rfl⟩
      unfold nTold nSub
      cases hc : sfI (a - b)
      · rw [if_neg (by simp), if_neg (by simp)]
        unfold numR
        refine gA ?_
        exact ⟨rfl, rfl⟩
      · rw [if_pos ⟨rfl, rfl⟩, if_pos ⟨hs, hb, rfl⟩]
        unfold numR
        refine gA ?_
        exact ⟨rfl, rfl⟩
theorem tdiv_bd {a b : Int} (ha : sfI a = true) : -9223372036854775808 ≤ a.tdiv b ∧ a.tdiv b ≤ 9223372036854775807 := by
  have h1 := sf_iff.1 ha
  have l : (a.tdiv b).natAbs ≤ a.natAbs := by rw [Int.natAbs_tdiv]; exact Nat.div_le_self _ _
  omega
theorem mod_spec (a b : Int) (h : Heap) : HCalls Tryz.prog 94 #[.int .i64 a, .int .i64 b] h fun e h' => e = .returned (numR (nMod a b)) ∧ h' = h := by
  refine c94 (by simp) ?_
  refine gA ?_
  refine HCall.mk ((safe_spec a h).mono ?_)
  rintro e _ ⟨rfl, rfl⟩
  unfold nMod
  cases hs : sfI a
  · rw [if_neg (by simp)]
    refine gA ?_
    exact ⟨rfl, rfl⟩
  refine gA ?_
  refine HCall.mk ((safe_spec b _).mono ?_)
  rintro e _ ⟨rfl, rfl⟩
  cases hb : sfI b
  · rw [if_neg (by simp)]
    refine gA ?_
    exact ⟨rfl, rfl⟩
  by_cases hz : b = 0
  · have q : (b == 0) = true := by simp [hz]
    rw [if_neg (by simp [hz])]
    refine gA ?_
    exact ⟨rfl, rfl⟩
  · have q : (b == 0) = false := by simp [hz]
    rw [if_pos ⟨rfl, rfl, hz⟩]
    refine gA ?_
    refine HMust.mk hz ?_
    refine gA ?_
    exact ⟨rfl, rfl⟩
theorem div_spec (a b : Int) (h : Heap) : HCalls Tryz.prog 93 #[.int .i64 a, .int .i64 b] h fun e h' => e = .returned (numR (nDiv a b)) ∧ h' = h := by
  refine c93 (by simp) ?_
  refine gA ?_
  refine HCall.mk ((safe_spec a h).mono ?_)
  rintro e _ ⟨rfl, rfl⟩
  unfold nDiv
  cases hs : sfI a
  · rw [if_neg (by simp)]
    refine gA ?_
    exact ⟨rfl, rfl⟩
  refine gA ?_
  refine HCall.mk ((safe_spec b _).mono ?_)
  rintro e _ ⟨rfl, rfl⟩
  cases hb : sfI b
  · rw [if_neg (by simp)]
    refine gA ?_
    exact ⟨rfl, rfl⟩
  by_cases hz : b = 0
  · have q : (b == 0) = true := by simp [hz]
    rw [if_neg (by simp [hz])]
    refine gA ?_
    exact ⟨rfl, rfl⟩
  · have q : (b == 0) = false := by simp [hz]
    by_cases hm : a.tmod b = 0
    · have q2 : (a.tmod b != 0) = false := by simp [hm]
      have hd := tdiv_bd (b := b) hs
      rw [if_pos ⟨rfl, rfl, hz, hm⟩]
      refine gA ?_
      refine HMust.mk hz ?_
      refine gA ?_
      refine HMust.mk hz ?_
      refine gA ?_
      exact ⟨rfl, rfl⟩
    · have q2 : (a.tmod b != 0) = true := by simp [hm]
      rw [if_neg (by simp [hm])]
      refine gA ?_
      refine HMust.mk hz ?_
      refine gA ?_
      exact ⟨rfl, rfl⟩
/-! ### Products -/
theorem and32 (x : Nat) (hx : x < 2 ^ 64) : ibits .and .u64 (x : Int) 4294967295 = ((x % 4294967296 : Nat) : Int) := by
  unfold ibits
  have e1 : BitVec.ofInt (IntKind.bits .u64) (x : Int) = BitVec.ofNat 64 x := by rw [BitVec.ofInt_natCast]; rfl
  have e2 : BitVec.ofInt (IntKind.bits .u64) 4294967295 = BitVec.ofNat 64 4294967295 := rfl
  have e3 : ((BitVec.ofNat 64 x) &&& (BitVec.ofNat 64 4294967295)).toNat = x % 4294967296 := by
    rw [BitVec.toNat_and, BitVec.toNat_ofNat, BitVec.toNat_ofNat, Nat.mod_eq_of_lt hx]
    exact Nat.and_two_pow_sub_one_eq_mod x 32
  show IntKind.u64.wrap (((BitVec.ofInt (IntKind.bits .u64) (x : Int)) &&& (BitVec.ofInt (IntKind.bits .u64) 4294967295)).toNat : Int) = _
  rw [e1, e2]
  show IntKind.u64.wrap ((((BitVec.ofNat 64 x) &&& (BitVec.ofNat 64 4294967295)).toNat : Nat) : Int) = _
  rw [e3]
  exact wrap_u64 (by omega)
theorem shr32 (x : Nat) : ((x : Int)).fdiv (2 ^ (min (Int.toNat 32) (IntKind.bits .u64))) = ((x / 4294967296 : Nat) : Int) := by
  have e : min (Int.toNat 32) (IntKind.bits .u64) = 32 := by decide
  rw [e, Int.fdiv_eq_ediv_of_nonneg _ (by decide)]; rfl
theorem mul64_spec (x y : Nat) (hx : x < 2 ^ 64) (hy : y < 2 ^ 64) (h : Heap) : HCalls Tryz.prog 136 #[.int .u64 x, .int .u64 y] h fun e h' =>
    e = .returned (.tuple #[.int .u64 (x * y / 18446744073709551616 : Nat), .int .u64 (x * y % 18446744073709551616 : Nat)]) ∧ h' = h := by
  generalize hx0 : x % 4294967296 = x0
  generalize hx1 : x / 4294967296 = x1
  generalize hy0 : y % 4294967296 = y0
  generalize hy1 : y / 4294967296 = y1
  have ex : x = x1 * 4294967296 + x0 := by omega
  have ey : y = y1 * 4294967296 + y0 := by omega
  have b1 : x0 ≤ 4294967295 := by omega
  have b2 : x1 ≤ 4294967295 := by omega
  have b3 : y0 ≤ 4294967295 := by omega
  have b4 : y1 ≤ 4294967295 := by omega
  have ez : x * y = (x1 * y1) * 18446744073709551616 + (x1 * y0) * 4294967296 + (x0 * y1) * 4294967296 + x0 * y0 := by
    rw [ex, ey, Nat.add_mul, Nat.mul_add, Nat.mul_add]
    have i1 : x1 * 4294967296 * (y1 * 4294967296) = (x1 * y1) * 18446744073709551616 := by rw [Nat.mul_mul_mul_comm]
    have i2 : x1 * 4294967296 * y0 = (x1 * y0) * 4294967296 := by rw [Nat.mul_right_comm]
    have i3 : x0 * (y1 * 4294967296) = (x0 * y1) * 4294967296 := by rw [Nat.mul_assoc]
    rw [i1, i2, i3]
    omega
  have c1 : x0 * y0 ≤ 18446744065119617025 := Nat.mul_le_mul b1 b3
  have c2 : x1 * y0 ≤ 18446744065119617025 := Nat.mul_le_mul b2 b3
  have c3 : x0 * y1 ≤ 18446744065119617025 := Nat.mul_le_mul b1 b4
  have c4 : x1 * y1 ≤ 18446744065119617025 := Nat.mul_le_mul b2 b4
  generalize hw0 : x0 * y0 = w0 at ez c1
  generalize hp : x1 * y0 = p at ez c2
  generalize hq : x0 * y1 = q at ez c3
  generalize hr : x1 * y1 = r at ez c4
  generalize hz : x * y = z at ez ⊢
  generalize ht : p + w0 / 4294967296 = t
  have ehi : z / 18446744073709551616 = r + t / 4294967296 + (t % 4294967296 + q) / 4294967296 := by omega
  refine c136 (by simp) ?_
  have k1 := and32 x hx
  have k2 := and32 y hy
  have k3 := and32 t (by omega)
  have s1 := shr32 x
  have s2 := shr32 y
  have s3 := shr32 w0
  have s4 := shr32 t
  have s5 := shr32 (t % 4294967296 + q)
  rw [hx0] at k1
  rw [hx1] at s1
  rw [hy0] at k2
  rw [hy1] at s2
  refine gA ?_
  refine HInt.mk (w0 : Nat) (by rw [k1, k2, ← Int.natCast_mul, hw0]; exact wrap_u64 (by omega)) ?_
  refine gS ?_
  refine HInt.mk (p : Nat) (by rw [s1, k2, ← Int.natCast_mul, hp]; exact wrap_u64 (by omega)) ?_
  refine gS ?_
  refine HInt.mk (t : Nat) (by rw [s3, ← Int.natCast_add, ht]; exact wrap_u64 (by omega)) ?_
  refine gS ?_
  refine HInt.mk (q : Nat) (by rw [k1, s2, ← Int.natCast_mul, hq]; exact wrap_u64 (by omega)) ?_
  refine gS ?_
  refine HInt.mk (t % 4294967296 + q : Nat) (by rw [k3, ← Int.natCast_add]; exact wrap_u64 (by omega)) ?_
  refine gS ?_
  refine HInt.mk (r : Nat) (by rw [s1, s2, ← Int.natCast_mul, hr]; exact wrap_u64 (by omega)) ?_
  refine gS ?_
  refine HInt.mk (r + t / 4294967296 : Nat) (by rw [s4, ← Int.natCast_add]; exact wrap_u64 (by omega)) ?_
  refine gS ?_
  refine HInt.mk (z / 18446744073709551616 : Nat) (by rw [s5, ← Int.natCast_add, ← ehi]; exact wrap_u64 (by omega)) ?_
  refine gS ?_
  refine HInt.mk (z % 18446744073709551616 : Nat) (by rw [← Int.natCast_mul, hz]; exact wrap_u64') ?_
  refine gA ?_
  exact ⟨rfl, rfl⟩

theorem max_abs {a : Int} (b : Int) (hb : b = 0 - a) : (if b > a then b else a) = (a.natAbs : Int) := by split <;> omega
theorem mul_spec (a b : Int) (h : Heap) : HCalls Tryz.prog 92 #[.int .i64 a, .int .i64 b] h fun e h' => e = .returned (numR (nMul a b)) ∧ h' = h := by
  refine c92 (by simp) ?_
  refine gA ?_
  refine HCall.mk ((safe_spec a h).mono ?_)
  rintro e _ ⟨rfl, rfl⟩
  cases hs : sfI a
  · have hres : nMul a b = none := by unfold nMul; rw [if_neg (by simp [hs])]
    rw [hres]
    refine gA ?_
    exact ⟨rfl, rfl⟩
  refine gA ?_
  refine HCall.mk ((safe_spec b _).mono ?_)
  rintro e _ ⟨rfl, rfl⟩
  cases hb : sfI b
  · have hres : nMul a b = none := by unfold nMul; rw [if_neg (by simp [hb])]
    rw [hres]
    refine gA ?_
    exact ⟨rfl, rfl⟩
  have h1 := sf_iff.1 hs
  have h2 := sf_iff.1 hb
  refine gA ?_
  refine HInt.mk (a.natAbs : Int) (by show IntKind.u64.wrap (if 0 - a > a then 0 - a else a) = _; rw [max_abs _ rfl]; exact wrap_u64 (by omega)) ?_
  refine gA ?_
  refine HInt.mk (b.natAbs : Int) (by show IntKind.u64.wrap (if 0 - b > b then 0 - b else b) = _; rw [max_abs _ rfl]; exact wrap_u64 (by omega)) ?_
  refine gA ?_
  refine HCall.mk ((mul64_spec a.natAbs b.natAbs (by omega) (by omega) _).mono ?_)
  rintro e _ ⟨rfl, rfl⟩
  have hab : (a * b).natAbs = a.natAbs * b.natAbs := Int.natAbs_mul a b
  have hsf : sfI (a * b) = true ↔ a.natAbs * b.natAbs ≤ 9007199254740991 := by rw [sf_iff, ← hab]; omega
  have hmul : nMul a b = if sfI (a * b) = true then some (a * b) else none := by unfold nMul; simp only [hs, hb, true_and]
  generalize a.natAbs * b.natAbs = z at hsf hab ⊢
  generalize hc : a * b = c at hsf hab hmul ⊢
  refine gA ?_
  refine HInt.mk (IntKind.i64.wrap (a * b)) rfl ?_
  rw [hc]
  by_cases hz : z ≤ 9007199254740991
  · have e1 : z / 18446744073709551616 = 0 := by omega
    have e2 : z % 18446744073709551616 = z := by omega
    have q1 : (((z / 18446744073709551616 : Nat) : Int) == 0) = true := by rw [e1]; rfl
    have q2 : decide (((z % 18446744073709551616 : Nat) : Int) ≤ 9007199254740991) = true := by rw [e2]; exact decide_eq_true (by omega)
    have hcs := hsf.2 hz
    have hcb := sf_iff.1 hcs
    rw [if_pos hcs] at hmul
    rw [wrap_i64 (by omega), hmul]
    refine gA ?_
    refine HCall.to #[.int .i64 c, .bool true] (by show #[Value.int .i64 c, Value.bool (decide (((z % 18446744073709551616 : Nat) : Int) ≤ 9007199254740991))] = _; rw [q2]) ((told_spec c true _).mono ?_)
    rintro e _ ⟨rfl, rfl⟩
    unfold nTold
    rw [if_pos ⟨rfl, hcs⟩]
    unfold numR
    refine gA ?_
    exact ⟨rfl, rfl⟩
  · have hcs : ¬ sfI c = true := fun h => hz (hsf.1 h)
    rw [if_neg hcs] at hmul
    rw [hmul]
    have key : ∀ w : Bool, w = false → numR (nTold (IntKind.i64.wrap c) w) = numR none := by rintro w rfl; unfold nTold; rw [if_neg (by simp)]
    by_cases hh : z / 18446744073709551616 = 0
    · have q1 : (((z / 18446744073709551616 : Nat) : Int) == 0) = true := by rw [hh]; rfl
      have q2 : decide (((z % 18446744073709551616 : Nat) : Int) ≤ 9007199254740991) = false := decide_eq_false (by omega)
      refine gA ?_
      refine HCall.mk ((told_spec _ _ _).mono ?_)
      rintro e _ ⟨rfl, rfl⟩
      rw [key _ q2]
      unfold numR
      refine gA ?_
      exact ⟨rfl, rfl⟩
    · have q1 : (((z / 18446744073709551616 : Nat) : Int) == 0) = false := by rw [beq_eq_false_iff_ne]; omega
      refine gA ?_
      refine HCall.mk ((told_spec _ false _).mono ?_)
      rintro e _ ⟨rfl, rfl⟩
      rw [key _ rfl]
      unfold numR
      refine gA ?_
      exact ⟨rfl, rfl⟩

set_option maxHeartbeats 4000000

theorem Own.none_app {h : Heap} {e size bytes : Nat} {zs : List Value} {n : Nat} {more : List Value} {K : Value → Heap → Prop} (hz : zs.length = size) (hm : more.length = n * size) (one : ∀ v ∈ more, isOne v = true)
    (room : n * bytes ≤ 140737488355328) (k : ∀ h' a' c', Own h' h.size e size a' n c' more → Ext h h' → K (.slice a' n c') h') : HAppend h e size bytes zs none 0 0 more n K := by
  refine Own.append (Own.nil h h.size e size) (Nat.le_refl _) hz hm one (by rw [Nat.zero_add]; exact room) ?_
  intro h' a' c' o k1 _ _
  rw [List.nil_append, Nat.zero_add] at o
  have := k h' a' c' o k1
  rw [Nat.zero_add]
  exact this
def numA (o : Option Int) : Int × Int := match o with
  | some n => (n, 0)
  | none => (0, 100)
theorem numR_eq (o : Option Int) : numR o = .tuple #[.int .i64 (numA o).1, .int .i64 (numA o).2] := by cases o <;> rfl
end Go.Proofs.YtadkdfecmpjmdaaGreatDoor.Hc
/-
  DERIVED: THE SHELF's CONTRACTS AT THIS DUMP, IN PLAIN WORDS (tools/lay-plain.mjs out of 'YtadkdfecmpjmdaaGreatDoorS0.lean', which tools/lay-shelf.mjs wrote): THE SAME DECLARATIONS UNDER THE SAME NAMES: 'import', 'namespace', 'open', 'def', 'theorem' AND NOTHING ELSE: no command of the shelf's: FOR A HAND-IN. Each laying: the table of numbers ('.._ren') and one theorem, a field a fact of the dump's own or the kernel's comparison; each contract: ONE APPLICATION.
-/
namespace Go.Proofs
open Go.Shelf
def Tryz.lays173_ren : Go.Shelf.Ren := ⟨fun | 173 => 140 | 246 => 157 | 283 => 171 | 284 => 172 | 285 => 173 | 286 => 174 | 129 => 184 | 317 => 183 | 318 => 185 | 319 => 186 | 320 => 187 | 337 => 191 | 338 => 192 | n => n, fun | 2 => 2 | 3 => 3 | 9 => 9 | 4 => 4 | 171 => 193 | 0 => 0 | 53 => 161 | 37 => 143 | 5 => 5 | 173 => 196 | 212 => 205 | 51 => 206 | 20 => 20 | 213 => 207 | 46 => 166 | 232 => 216 | 233 => 217 | n => n, fun | 17 => 3 | 18 => 4 | 19 => 5 | n => n⟩
theorem Tryz.lays173 : Go.Proofs.LaysM.n173 Tryz.prog Tryz.lays173_ren := {
  mixed := by kernel_rfl
  f129 := Tryz.func184.trans (congrArg some (by kernel_rfl))
  f173 := Tryz.func140.trans (congrArg some (by kernel_rfl))
  f246 := Tryz.func157.trans (congrArg some (by kernel_rfl))
  f283 := Tryz.func171.trans (congrArg some (by kernel_rfl))
  f284 := Tryz.func172.trans (congrArg some (by kernel_rfl))
  f285 := Tryz.func173.trans (congrArg some (by kernel_rfl))
  f286 := Tryz.func174.trans (congrArg some (by kernel_rfl))
  f317 := Tryz.func183.trans (congrArg some (by kernel_rfl))
  f318 := Tryz.func185.trans (congrArg some (by kernel_rfl))
  f319 := Tryz.func186.trans (congrArg some (by kernel_rfl))
  f320 := Tryz.func187.trans (congrArg some (by kernel_rfl))
  f337 := Tryz.func191.trans (congrArg some (by kernel_rfl))
  f338 := Tryz.func192.trans (congrArg some (by kernel_rfl))
  t0 := Tryz.underlying0
  a0 := Tryz.isAgg0
  z0 := Tryz.sizeOf0
  v0 := Tryz.zeroValue0
  t2 := Tryz.underlying2
  a2 := Tryz.isAgg2
  z2 := Tryz.sizeOf2
  v2 := Tryz.zeroValue2
  t3 := Tryz.underlying3
  a3 := Tryz.isAgg3
  z3 := Tryz.sizeOf3
  v3 := Tryz.zeroValue3
  t4 := Tryz.underlying4
  a4 := Tryz.isAgg4
  z4 := Tryz.sizeOf4
  v4 := Tryz.zeroValue4
  t5 := Tryz.underlying5
  a5 := Tryz.isAgg5
  z5 := Tryz.sizeOf5
  v5 := Tryz.zeroValue5
  t9 := Tryz.underlying9
  a9 := Tryz.isAgg9
  z9 := Tryz.sizeOf9
  v9 := Tryz.zeroValue9
  t20 := Tryz.underlying20
  a20 := Tryz.isAgg20
  z20 := Tryz.sizeOf20
  v20 := Tryz.zeroValue20
  t37 := Tryz.underlying143
  a37 := Tryz.isAgg143
  z37 := Tryz.sizeOf143
  v37 := Tryz.zeroValue143
  t46 := Tryz.underlying166
  a46 := Tryz.isAgg166
  z46 := Tryz.sizeOf166
  v46 := Tryz.zeroValue166
  t51 := Tryz.underlying206
  a51 := Tryz.isAgg206
  z51 := Tryz.sizeOf206
  v51 := Tryz.zeroValue206
  t53 := Tryz.underlying161
  a53 := Tryz.isAgg161
  z53 := Tryz.sizeOf161
  v53 := Tryz.zeroValue161
  t171 := Tryz.underlying193
  a171 := Tryz.isAgg193
  z171 := Tryz.sizeOf193
  v171 := Tryz.zeroValue193
  t173 := Tryz.underlying196
  a173 := Tryz.isAgg196
  z173 := Tryz.sizeOf196
  v173 := Tryz.zeroValue196
  t212 := Tryz.underlying205
  a212 := Tryz.isAgg205
  z212 := Tryz.sizeOf205
  v212 := Tryz.zeroValue205
  t213 := Tryz.underlying207
  a213 := Tryz.isAgg207
  z213 := Tryz.sizeOf207
  t232 := Tryz.underlying216
  a232 := Tryz.isAgg216
  z232 := Tryz.sizeOf216
  v232 := Tryz.zeroValue216
  t233 := Tryz.underlying217
  a233 := Tryz.isAgg217
  z233 := Tryz.sizeOf217
  v233 := Tryz.zeroValue217
  g17 := by kernel_rfl
  g18 := by kernel_rfl
  g19 := by kernel_rfl
  i0 := by kernel_rfl
  i2 := by kernel_rfl
  i3 := by kernel_rfl
  i4 := by kernel_rfl
  i5 := by kernel_rfl
  i9 := by kernel_rfl
  i20 := by kernel_rfl
  i37 := by kernel_rfl
  i46 := by kernel_rfl
  i51 := by kernel_rfl
  i53 := by kernel_rfl
  i171 := by kernel_rfl
  i173 := by kernel_rfl
  i212 := by kernel_rfl
  i232 := by kernel_rfl
  i233 := by kernel_rfl
  m17 := by kernel_rfl
  m18 := by kernel_rfl
  m19 := by kernel_rfl }
end Go.Proofs
namespace Go.Proofs.YtadkdfecmpjmdaaGreatDoor.Hc
open Go Go.H Go.Proofs
set_option maxRecDepth 100000
set_option maxHeartbeats 4000000

/-! ### The table -/
def powName : String := Rows.opsTurnRow.named.getD 0 ""
def Tab (h : Heap) : Prop := ∀ w : World, w.heap = h → Lib.TabIs Tryz.prog w powName .u64 Lib.pow10Tab
theorem Tab.ext {h h' : Heap} (t : Tab h) (x : Ext h h') : Tab h' := by
  intro w hw
  have t0 := t { w with heap := h } rfl
  unfold Lib.TabIs World.var? at *
  cases hg : Tryz.prog.globalNamed powName with
  | none => simp [hg] at t0
  | some g =>
    simp only [hg, Option.bind_some] at t0 ⊢
    have hlt : g < h.size := by
      rcases Nat.lt_or_ge g h.size with h' | h'
      · exact h'
      · rw [Array.getElem?_eq_none h'] at t0; simp at t0
    rw [hw, x.2 g hlt]
    exact t0
theorem calls_grow {P : Program} {f : FuncId} {args : Array Value} {h : Heap} {v : Value} (c : ∀ w : World, w.heap = h → Calls P f args w fun e w' => e = .returned v ∧ ∃ k os, w' = Sort.grow (w.drewN k) os) :
    HCalls P f args h fun e h' => e = .returned v ∧ Ext h h' := by
  intro w hw
  refine (c w hw).mono ?_
  rintro e w' ⟨rfl, k, os, rfl⟩
  refine ⟨⟨rfl, rfl, rfl⟩, rfl, ?_⟩
  subst hw
  show Ext w.heap (w.heap ++ os)
  refine ⟨by simp, fun b hb => ?_⟩
  rw [Array.getElem?_append_left hb]
theorem fmt10_spec (n : Int) (h0 : -9223372036854775808 ≤ n) (h1 : n ≤ 9223372036854775807) (h : Heap) (t : Tab h) :
    HCalls Tryz.prog 140 #[.int .i64 n, .int .i64 10] h fun e h' => e = .returned (.string ⟨(Lib.itoa n).toArray⟩) ∧ Ext h h' :=
  calls_grow fun w hw => Any.strconv_FormatInt_10 Tryz.lays173 n h0 h1 w (t w hw)

/-! ### Units -/
def unitsL (l : List UInt8) : List UInt8 := l.flatMap fun c => [0, c]
theorem unitsL_len (l : List UInt8) : (unitsL l).length = 2 * l.length := by
  induction l with
  | nil => rfl
  | cons c l ih => simp only [unitsL, List.flatMap_cons, List.length_append, List.length_cons, List.length_nil] at ih ⊢; omega
theorem unitsL_snoc (l : List UInt8) (c : UInt8) : unitsL (l ++ [c]) = unitsL l ++ [0, c] := by simp [unitsL]
def plainL (l : List UInt8) : Prop := ∀ c ∈ l, c.toNat < 128

theorem of_spec (l : List UInt8) (hp : plainL l) (hl : l.length ≤ 1048576) (h : Heap) : HCalls Tryz.prog 110 #[.string ⟨l.toArray⟩] h fun e h' =>
    e = .returned (.tuple #[.string ⟨(unitsL l).toArray⟩, .int .i64 0]) ∧ Ext h h' := by
  have hs : (⟨l.toArray⟩ : ByteArray).size = l.length := rfl
  refine c110 (by simp) ?_
  refine gA ?_
  refine HBound.mk (2 * l.length) (by omega) (by omega) ?_
  refine HBound.mk (2 * l.length) (by omega) (by omega) ?_
  refine gA ?_
  refine HMust.mk ⟨Nat.le_refl _, by omega⟩ ?_
  refine new_own (e := 5) 1 (2 * l.length) (List.replicate (2 * l.length) (.int .u8 0)) (by rw [zeroCells_one]) (by rw [List.length_replicate, Nat.mul_one]) ?_
  intro h1 b1 w1 x1 z1 hb1
  refine gA ?_
  refine loop_rule [12] (fun vs h' => ∃ (i : Nat), vs = [.int .i64 i] ∧ i ≤ l.length ∧ Own h' h.size 5 1 (some ⟨b1, 0, none⟩) (2 * l.length) (2 * l.length) ((unitsL (l.take i) ++ List.replicate (2 * (l.length - i)) 0).map byteV) ∧ Ext h h')
    (fun vs _ => match vs with | [.int _ i] => l.length - i.toNat | _ => 0) rfl ?_ ?_
  · exact ⟨0, rfl, by omega, by simpa [unitsL, byteV] using w1, x1⟩
  intro u h2 v12
  rintro ⟨i, e, hi, w2, x2⟩
  cases e
  refine gA ?_
  refine HIf.mk (fun hlt => ?_) (fun hlt => ?_)
  · have hi1 : i < l.length := by have := of_decide_eq_true hlt; omega
    have hmu : l.length - ((i : Int) + 1).toNat < l.length - ((i : Int)).toNat := by omega
    have hc := hp _ (List.getElem_mem hi1)
    have q : decide ((l[i].toNat : Int) ≥ 128) = false := decide_eq_false (by omega)
    have eget : (⟨l.toArray⟩ : ByteArray).data[i]! = l[i] := by
      show l.toArray[i]! = _
      rw [getElem!_pos l.toArray i (by simpa using hi1)]; simp
    refine gA ?_
    refine HIdx.mk i rfl hi1 ?_
    rw [eget]
    refine gA ?_
    refine HIdx.mk i rfl hi1 ?_
    rw [eget]
    refine gA ?_
    refine HIdx.mk (2 * i + 1) (by omega) (by omega) ?_
    refine sl_some w2.sl (i := 2 * i + 1) (by omega) fun p ep => ?_
    refine gA ?_
    refine Own.store w2 ep (by omega) rfl ?_
    intro h3 f3 hge z3 w3
    have e3 : ((unitsL (l.take i) ++ List.replicate (2 * (l.length - i)) 0).map byteV).set (2 * i + 1) (.int .u8 (l[i].toNat : Nat)) = ((unitsL (l.take (i + 1)) ++ List.replicate (2 * (l.length - (i + 1))) 0).map byteV) := by
      have h1 : Value.int .u8 (l[i].toNat : Nat) = byteV l[i] := rfl
      have h2 : 2 * (l.length - i) = 2 * (l.length - (i + 1)) + 1 + 1 := by omega
      have h3 : (unitsL (l.take i)).length = 2 * i := by rw [unitsL_len, List.length_take]; omega
      have htk : l.take (i + 1) = l.take i ++ [l[i]] := by rw [List.take_add_one, List.getElem?_eq_getElem hi1]; rfl
      rw [h1, ← List.map_set, htk, unitsL_snoc, h2, List.replicate_succ, List.replicate_succ, List.set_append_right _ _ (by omega), h3]
      have h4 : 2 * i + 1 - 2 * i = 1 := by omega
      rw [h4]
      simp
    replace w3 : Own h3 h.size 5 1 (some ⟨b1, 0, none⟩) (2 * l.length) (2 * l.length) (((unitsL (l.take i) ++ List.replicate (2 * (l.length - i)) 0).map byteV).set (2 * i + 1) (.int .u8 (l[i].toNat : Nat))) := w3
    rw [e3] at w3
    refine gA ?_
    exact ⟨⟨i + 1, rfl, by omega, w3, x2.offNew f3 hge⟩, hmu⟩
  · have hge := of_decide_eq_false hlt
    obtain rfl : i = l.length := by omega
    rw [List.take_length, Nat.sub_self] at w2
    simp only [Nat.mul_zero, List.replicate_zero, List.append_nil] at w2
    have s2 := w2.sl
    refine gA ?_
    refine s2.bytes ?_
    refine gA ?_
    exact ⟨rfl, x2⟩

/-! ### Numerals -/
theorem dec_plain (u : Nat) : plainL (Lib.decDigits u) := by
  induction u using Nat.strongRecOn with
  | ind u ih =>
    rw [Lib.decDigits]
    split
    · intro c hc; simp only [List.mem_singleton] at hc; subst hc; simp; omega
    · intro c hc
      rcases List.mem_append.1 hc with hc | hc
      · exact ih (u / 10) (by omega) c hc
      · simp only [List.mem_singleton] at hc; subst hc; simp; omega
theorem itoa_plain (n : Int) : plainL (Lib.itoa n) := by
  unfold Lib.itoa
  split
  · intro c hc
    rcases List.mem_cons.1 hc with rfl | hc
    · decide
    · exact dec_plain _ c hc
  · exact dec_plain _
theorem dec_len (u : Nat) : ∀ k, u < 10 ^ (k + 1) → (Lib.decDigits u).length ≤ k + 1 := by
  induction u using Nat.strongRecOn with
  | ind u ih =>
    intro k hk
    rw [Lib.decDigits]
    split
    · simp
    · rename_i h
      cases k with
      | zero => simp at hk; omega
      | succ k =>
        rw [List.length_append]
        have := ih (u / 10) (by omega) k (by rw [Nat.div_lt_iff_lt_mul (by omega)]; rw [Nat.pow_succ] at hk; exact hk)
        simp; omega
theorem itoa_len (n : Int) (h0 : -9223372036854775808 ≤ n) (h1 : n ≤ 9223372036854775807) : (Lib.itoa n).length ≤ 21 := by
  have hp : (10 : Nat) ^ 20 = 100000000000000000000 := by decide
  unfold Lib.itoa
  split
  · have := dec_len n.natAbs 19 (by rw [hp]; omega)
    simp; omega
  · have := dec_len n.toNat 19 (by rw [hp]; omega)
    omega
def textN (n : Int) : ByteArray := ⟨(unitsL (Lib.itoa n)).toArray⟩
theorem text_spec (n : Int) (h0 : -9223372036854775808 ≤ n) (h1 : n ≤ 9223372036854775807) (h : Heap) (t : Tab h) :
    HCalls Tryz.prog 98 #[.int .i64 n] h fun e h' => e = .returned (.string (textN n)) ∧ Ext h h' := by
  refine c98 (by simp) ?_
  refine gA ?_
  refine HCall.mk ((fmt10_spec n h0 h1 h t).mono ?_)
  rintro e h2 ⟨rfl, x2⟩
  refine gA ?_
  refine HCall.mk ((of_spec (Lib.itoa n) (itoa_plain n) (by have := itoa_len n h0 h1; omega) h2).mono ?_)
  rintro e h3 ⟨rfl, x3⟩
  refine gA ?_
  exact ⟨rfl, x2.trans x3⟩


def Grew (h : Heap) (a : Option Addr) (h' : Heap) (a' : Option Addr) : Prop :=
  h.size ≤ h'.size ∧ (∀ b, b < h.size → (∀ p, a = some p → p.block ≠ b) → h'[b]? = h[b]?) ∧ (∀ p', a' = some p' → (∃ p, a = some p ∧ p'.block = p.block) ∨ h.size ≤ p'.block)
theorem Grew.kept {h h1 : Heap} {a a1 : Option Addr} {B : Nat} (x : Grew h a h1 a1) (hB : B ≤ h.size) (ha : ∀ p, a = some p → B ≤ p.block) : Kept B h h1 :=
  ⟨x.1, fun b hb => x.2.1 b (by omega) fun p ep => by have := ha p ep; omega⟩
theorem Grew.blk {h h1 : Heap} {a a1 : Option Addr} {b e : Nat} {cs : List Value} (x : Grew h a h1 a1) (o : BlkW h b e cs) (hne : ∀ p, a = some p → p.block ≠ b) : BlkW h1 b e cs := o.of (x.2.1 b o.lt hne)
theorem Own.grow {h : Heap} {B e size bytes : Nat} {zs : List Value} {a : Option Addr} {n c m : Nat} {xs more : List Value} {K : Value → Heap → Prop} (x : Own h B e size a n c xs)
    (hB : B ≤ h.size) (hz : zs.length = size) (hm : more.length = m * size) (one : ∀ v ∈ more, isOne v = true) (room : (n + m) * bytes ≤ 140737488355328)
    (k : ∀ h' a' c', Own h' B e size a' (n + m) c' (xs ++ more) → Grew h a h' a' → K (.slice a' (n + m) c') h') :
    HAppend h e size bytes zs a n c more m K :=
  x.append hB hz hm one room fun h' a' c' o k1 k2 k3 => k h' a' c' o ⟨k1.1, k2, k3⟩

theorem Own.bytes {h : Heap} {B : Nat} {a : Option Addr} {c : Nat} {l0 more : List UInt8} {K : Value → Heap → Prop} (x : Own h B 5 1 a l0.length c (l0.map byteV)) (hB : B ≤ h.size)
    (room : l0.length + more.length ≤ 140737488355328)
    (k : ∀ h' a' c', Own h' B 5 1 a' (l0 ++ more).length c' ((l0 ++ more).map byteV) → Grew h a h' a' → K (.slice a' (l0 ++ more).length c') h') :
    HAppend h 5 1 1 [.int .u8 0] a l0.length c (more.map byteV) more.length K := by
  refine Own.grow x hB rfl (by simp) bytesV_one (by omega) fun h' a' c' o g => ?_
  have := k h' a' c' (by rw [List.length_append, List.map_append]; exact o) g
  rw [List.length_append] at this
  exact this

set_option maxHeartbeats 4000000

theorem byteV_ofNat (n : Nat) : byteV (UInt8.ofNat n) = .int .u8 ((n % 256 : Nat) : Int) := by simp [byteV]
def makeL (l : List Nat) : List UInt8 := l.flatMap fun n => [UInt8.ofNat (n / 256), UInt8.ofNat (n % 256)]
theorem makeL_len (l : List Nat) : (makeL l).length = 2 * l.length := by
  induction l with
  | nil => rfl
  | cons c l ih => simp only [makeL, List.flatMap_cons, List.length_append, List.length_cons, List.length_nil] at ih ⊢; omega
theorem makeL_snoc (l : List Nat) (c : Nat) : makeL (l ++ [c]) = makeL l ++ [UInt8.ofNat (c / 256), UInt8.ofNat (c % 256)] := by simp [makeL]
theorem makeL_plain (l : List UInt8) (hp : plainL l) : makeL (l.map fun c => c.toNat) = unitsL l := by
  induction l with
  | nil => rfl
  | cons c l ih =>
    have hc := hp c (by simp)
    have := ih (fun x hx => hp x (by simp [hx]))
    simp only [makeL, unitsL, List.map_cons, List.flatMap_cons] at this ⊢
    rw [this]
    have e1 : c.toNat / 256 = 0 := by omega
    have e2 : c.toNat % 256 = c.toNat := by omega
    rw [e1, e2]
    simp
def natV (n : Nat) : Value := .int .i64 n
theorem make_spec {a : Option Addr} {c : Nat} {l : List Nat} {h : Heap} (x : Sl h 1 a l.length c (l.map natV)) (hl : l.length ≤ 1048576) (hn : ∀ n ∈ l, n < 65536) :
    HCalls Tryz.prog 151 #[.slice a l.length c] h fun e h' => e = .returned (.string ⟨(makeL l).toArray⟩) ∧ Ext h h' := by
  refine c151 (by simp) ?_
  refine gA ?_
  refine loop_rule [3, 8] (fun vs h' => ∃ (i : Nat) (a' : Option Addr) (c' : Nat) (bs : List UInt8), vs = [.slice a' bs.length c', .int .i64 i] ∧ i ≤ l.length ∧ bs = makeL (l.take i) ∧ Own h' h.size 5 1 a' bs.length c' (bs.map byteV) ∧ Ext h h')
    (fun vs _ => match vs with | [_, .int _ i] => l.length - i.toNat | _ => 0) rfl ?_ ?_
  · exact ⟨0, none, 0, [], rfl, by omega, by simp [makeL], Own.nil _ _ _ _, Ext.refl _⟩
  intro u h2 v3 v8
  rintro ⟨i, a', c', bs, e, hi, hbs, w2, x2⟩
  cases e
  refine gA ?_
  refine HIf.mk (fun hlt => ?_) (fun hlt => ?_)
  · have hi1 : i < l.length := by have := of_decide_eq_true hlt; omega
    have hmu : l.length - ((i : Int) + 1).toNat < l.length - ((i : Int)).toNat := by omega
    have hni := hn _ (List.getElem_mem hi1)
    have e1 : ((l[i] : Nat) : Int).tmod 256 = ((l[i] % 256 : Nat) : Int) := (Int.ofNat_tmod l[i] 256).symm
    have e2 : ((l[i] : Nat) : Int).tdiv 256 = ((l[i] / 256 : Nat) : Int) := (Int.ofNat_tdiv l[i] 256).symm
    have hbl : bs.length ≤ 2 * 1048576 := by rw [hbs, makeL_len, List.length_take]; omega
    refine gA ?_
    refine HIdx.mk i rfl hi1 ?_
    refine sl_some x hi1 fun p ep => ?_
    refine gA ?_
    refine (x.ext x2).load ep (by simpa using hi1) ?_
    rw [List.getElem_map]
    unfold natV
    refine gA ?_
    refine new_own (e := 5) 1 2 [byteV (UInt8.ofNat (l[i] / 256)), byteV (UInt8.ofNat (l[i] % 256))] (by rw [byteV_ofNat, byteV_ofNat, Nat.mod_eq_of_lt (by omega), Nat.mod_eq_of_lt (show l[i] % 256 < 256 by omega), ← e1, ← e2]) rfl ?_
    intro h3 b3 w3 x3 z3 hb3
    refine gA ?_
    refine w3.sl.cells ?_
    refine Own.bytes (more := [UInt8.ofNat (l[i] / 256), UInt8.ofNat (l[i] % 256)]) (w2.ext x3) (by have := x2.1; have := x3.1; omega) (by simp; omega) ?_
    intro h4 a4 c4 w4 g4
    refine gA ?_
    refine ⟨⟨i + 1, a4, c4, _, rfl, by omega, ?_, w4, (x2.trans x3).keep (g4.kept (by have := x2.1; have := x3.1; omega) fun p ep => (w2.lt p ep).1)⟩, hmu⟩
    have htk : l.take (i + 1) = l.take i ++ [l[i]] := by rw [List.take_add_one, List.getElem?_eq_getElem hi1]; rfl
    rw [hbs, htk, makeL_snoc]
  · have hge := of_decide_eq_false hlt
    obtain rfl : i = l.length := by omega
    rw [List.take_length] at hbs
    subst hbs
    have s2 := w2.sl
    refine gA ?_
    refine s2.bytes ?_
    refine gA ?_
    exact ⟨rfl, x2⟩
theorem rof_spec (l : List UInt8) (hp : plainL l) (hl : l.length ≤ 1048576) (h : Heap) : HCalls Tryz.prog 128 #[.string ⟨l.toArray⟩] h fun e h' =>
    e = .returned (.tuple #[.string ⟨(unitsL l).toArray⟩, .int .i64 0]) ∧ Ext h h' := by
  have hs : (⟨l.toArray⟩ : ByteArray).size = l.length := rfl
  refine c128 (by simp) ?_
  refine gA ?_
  refine loop_rule [4, 5] (fun vs h' => ∃ (i : Nat) (a' : Option Addr) (c' : Nat), vs = [.slice a' i c', .int .i64 i] ∧ i ≤ l.length ∧ Own h' h.size 3 1 a' i c' (((l.take i).map fun c => c.toNat).map natV) ∧ Ext h h')
    (fun vs _ => match vs with | [_, .int _ i] => l.length - i.toNat | _ => 0) rfl ?_ ?_
  · exact ⟨0, none, 0, rfl, by omega, Own.nil _ _ _ _, Ext.refl _⟩
  intro u h2 v4 v5
  rintro ⟨i, a', c', e, hi, w2, x2⟩
  cases e
  refine gA ?_
  refine HIf.mk (fun hlt => ?_) (fun hlt => ?_)
  · have hi1 : i < l.length := by have := of_decide_eq_true hlt; omega
    have hmu : l.length - ((i : Int) + 1).toNat < l.length - ((i : Int)).toNat := by omega
    have hc := hp _ (List.getElem_mem hi1)
    have q : decide ((l[i].toNat : Int) > 127) = false := decide_eq_false (by omega)
    have eget : (⟨l.toArray⟩ : ByteArray).data[i]! = l[i] := by
      show l.toArray[i]! = _
      rw [getElem!_pos l.toArray i (by simpa using hi1)]; simp
    refine gA ?_
    refine HIdx.mk i rfl hi1 ?_
    rw [eget]
    refine gA ?_
    refine HIdx.mk i rfl hi1 ?_
    rw [eget]
    refine gA ?_
    refine new_own (e := 3) 1 1 [natV l[i].toNat] rfl rfl ?_
    intro h3 b3 w3 x3 z3 hb3
    refine gA ?_
    refine w3.sl.cells ?_
    refine Own.grow (w2.ext x3) (by have := x2.1; have := x3.1; omega) rfl rfl (by intro v hv; simp only [List.mem_singleton] at hv; subst hv; rfl) (by omega) ?_
    intro h4 a4 c4 w4 g4
    have htk : l.take (i + 1) = l.take i ++ [l[i]] := by rw [List.take_add_one, List.getElem?_eq_getElem hi1]; rfl
    have ew : ((l.take i).map fun c => c.toNat).map natV ++ [natV l[i].toNat] = (((l.take (i + 1)).map fun c => c.toNat).map natV) := by rw [htk, List.map_append, List.map_append]; rfl
    rw [ew] at w4
    refine gA ?_
    exact ⟨⟨i + 1, a4, c4, rfl, by omega, w4, (x2.trans x3).keep (g4.kept (by have := x2.1; have := x3.1; omega) fun p ep => (w2.lt p ep).1)⟩, hmu⟩
  · have hge := of_decide_eq_false hlt
    obtain rfl : i = l.length := by omega
    rw [List.take_length] at w2
    have s2 := w2.sl
    have hml : (l.map fun c => c.toNat).length = l.length := List.length_map ..
    rw [← hml] at s2
    have key := make_spec (l := l.map fun c => c.toNat) s2 (by rw [hml]; omega) (by intro n hn; obtain ⟨c, hc, rfl⟩ := List.mem_map.1 hn; have := hp c hc; omega)
    rw [hml, makeL_plain l hp] at key
    refine gA ?_
    refine HCall.mk (key.mono ?_)
    rintro e h3 ⟨rfl, x3⟩
    refine gA ?_
    exact ⟨rfl, x2.trans x3⟩
theorem u_spec (l : List UInt8) (hp : plainL l) (hl : l.length ≤ 1048576) (h : Heap) : HCalls Tryz.prog 77 #[.string ⟨l.toArray⟩] h fun e h' =>
    e = .returned (.string ⟨(unitsL l).toArray⟩) ∧ Ext h h' := by
  refine c77 (by simp) ?_
  refine gA ?_
  refine HCall.mk ((rof_spec l hp hl h).mono ?_)
  rintro e h2 ⟨rfl, x2⟩
  refine gA ?_
  exact ⟨rfl, x2⟩
set_option maxHeartbeats 4000000

def dv (c : UInt8) : Nat := if 48 ≤ c.toNat ∧ c.toNat ≤ 57 then c.toNat - 48 else if 97 ≤ (c ||| 32).toNat ∧ (c ||| 32).toNat ≤ 122 then (c ||| 32).toNat - 87 else 99
def pdig (base : Nat) : List UInt8 → Nat → Option Nat
  | [], acc => some acc
  | c :: r, acc => if dv c < base ∧ acc * base + dv c < 18446744073709551616 then pdig base r (acc * base + dv c) else none
theorem or8 (a b : UInt8) : ibits .or .u8 (a.toNat : Int) (b.toNat : Int) = ((a ||| b).toNat : Nat) := by
  unfold ibits
  have e1 : BitVec.ofInt 8 (a.toNat : Int) = a.toBitVec := by rw [BitVec.ofInt_natCast]; exact BitVec.eq_of_toNat_eq (by simp)
  have e2 : BitVec.ofInt 8 (b.toNat : Int) = b.toBitVec := by rw [BitVec.ofInt_natCast]; exact BitVec.eq_of_toNat_eq (by simp)
  show IntKind.u8.wrap (((BitVec.ofInt 8 (a.toNat : Int)) ||| (BitVec.ofInt 8 (b.toNat : Int))).toNat : Int) = _
  rw [e1, e2, ← UInt8.toBitVec_or]
  have := (a ||| b).toNat_lt
  exact wrap_u8 (by show (0 : Int) ≤ ((a ||| b).toNat : Int) ∧ ((a ||| b).toNat : Int) ≤ 255; omega)
theorem lower_spec (c : UInt8) (h : Heap) : HCalls Tryz.prog 177 #[.int .u8 (c.toNat : Nat)] h fun e h' => e = .returned (.int .u8 ((c ||| 32).toNat : Nat)) ∧ h' = h := by
  refine c177 (by simp) ?_
  refine gA ?_
  refine ⟨?_, rfl⟩
  rw [← or8 c 32]
  rfl
theorem new_bytes {h : Heap} {s : ByteArray} {e c : Nat} {fz : Nat × Nat} {K : Nat → Heap → Prop} (hc : s.size ≤ c)
    (k : ∀ h' b, Sl h' 1 (some ⟨b, 0, none⟩) s.size c (s.data.toList.map byteV) → Ext h h' → K b h') :
    HNew h (.cells ((s.data.map fun b => Value.int .u8 b.toNat) ++ Array.replicate (c - s.size) (.int .u8 0)) e fz) K := by
  refine ⟨k _ _ ⟨by simp, hc, fun e => (by cases e), ?_⟩ (Ext.push _ _)⟩
  intro p ep i hi
  cases ep
  rw [Nat.mul_one] at hi
  have hi' : i < s.data.size := hi
  have ea : ((⟨h.size, 0, none⟩ : Addr).add i) = ⟨h.size, i, none⟩ := by rw [add_mk, Nat.zero_add]
  rw [ea]
  unfold hcell
  simp only [Array.getElem?_push_size, Option.isSome_none, Bool.false_eq_true, if_false]
  rw [Array.getElem?_append_left (by simpa using hi')]
  simp only [Array.getElem?_map, List.getElem?_map, Array.getElem?_toList]
  cases s.data[i]? <;> rfl
theorem idx_txt (l : List UInt8) {i : Nat} (hi : i < l.length) : (⟨l.toArray⟩ : ByteArray).data[i]! = l[i] := by
  show l.toArray[i]! = _
  rw [getElem!_pos l.toArray i (by simpa using hi)]; simp

def PU (base : Nat) (l : List UInt8) (v : Nat) (er : Value) : Prop :=
  (l ≠ [] ∧ pdig base l 0 = some v ∧ er = .nilIface) ∨ ((l = [] ∨ pdig base l 0 = none) ∧ (er = .iface 186 (.int .i64 2) ∨ (er = .iface 186 (.int .i64 1) ∧ v = 18446744073709551615)))

theorem puint10_spec (l : List UInt8) (hl : l.length ≤ 1048576) (h : Heap) : HCalls Tryz.prog 164 #[.string ⟨l.toArray⟩, .int .i64 10, .int .i64 64] h fun e h' =>
    ∃ (v : Nat) (er : Value), e = .returned (.tuple #[.int .u64 v, er]) ∧ PU 10 l v er ∧ v < 18446744073709551616 ∧ Ext h h' := by
  have hs : (⟨l.toArray⟩ : ByteArray).size = l.length := rfl
  refine c164 (by simp) ?_
  by_cases hz : l = []
  · subst hz
    have q0 : strEq (⟨([] : List UInt8).toArray⟩ : ByteArray) ⟨#[]⟩ = true := by rw [strEq_nil]; exact decide_eq_true rfl
    refine gA ?_
    exact ⟨0, _, rfl, .inr ⟨.inl rfl, .inl rfl⟩, by omega, Ext.refl _⟩
  have hne : strEq (⟨l.toArray⟩ : ByteArray) ⟨#[]⟩ = false := by
    rw [strEq_nil]
    refine decide_eq_false fun e => hz ?_
    have := congrArg ByteArray.size e
    exact List.length_eq_zero_iff.1 (by rw [hs] at this; exact this)
  refine gA ?_
  refine HInt.mk 0 (by decide) ?_
  refine gA ?_
  refine HInt.mk 18446744073709551615 (by decide) ?_
  refine gA ?_
  refine HMust.mk (by omega) ?_
  intro cp hcp
  refine new_bytes hcp ?_
  intro h1 b1 s1 x1
  refine gA ?_
  refine loop_rule [12, 13, 101] (fun vs h' => ∃ (i n : Nat), vs = [.bool false, .int .u64 n, .int .i64 i] ∧ i ≤ l.length ∧ n < 18446744073709551616 ∧ pdig 10 l 0 = pdig 10 (l.drop i) n ∧ h' = h1)
    (fun vs _ => match vs with | [_, _, .int _ i] => l.length - i.toNat | _ => 0) rfl ?_ ?_
  · exact ⟨0, 0, rfl, by omega, by omega, rfl, rfl⟩
  intro u h1 v12 v13 v101
  rintro ⟨i, n, e, hi, hn, hp, rfl⟩
  cases e
  refine gA ?_
  refine HIf.mk (fun hlt => ?_) (fun hlt => ?_)
  · have hi1 : i < l.length := by have := of_decide_eq_true hlt; omega
    have hmu : l.length - ((i : Int) + 1).toNat < l.length - ((i : Int)).toNat := by omega
    have hdrop : l.drop i = l[i] :: l.drop (i + 1) := List.drop_eq_getElem_cons hi1
    rw [hdrop] at hp
    simp only [pdig] at hp
    have hlt8 := l[i].toNat_lt
    have hlt32 := (l[i] ||| 32).toNat_lt
    have bad : ∀ er : Value, (er = .iface 186 (.int .i64 2)) → ¬ (dv l[i] < 10 ∧ n * 10 + dv l[i] < 18446744073709551616) → PU 10 l 0 er := fun er he hc => .inr ⟨.inr (by rw [hp, if_neg hc]), .inl he⟩
    have badr : ∀ er : Value, (er = .iface 186 (.int .i64 1)) → ¬ (dv l[i] < 10 ∧ n * 10 + dv l[i] < 18446744073709551616) → PU 10 l 18446744073709551615 er := fun er he hc => .inr ⟨.inr (by rw [hp, if_neg hc]), .inr ⟨he, rfl⟩⟩
    refine gA ?_
    refine HIdx.mk i rfl hi1 ?_
    refine sl_some s1 hi1 fun p ep => ?_
    refine gA ?_
    refine sl_get s1 ep hi1 ?_
    have fin : ∀ d : Nat, dv l[i] = d → d < 10 → n < 1844674407370955162 → ¬ (n * 10 + d > 18446744073709551615) → pdig 10 l 0 = pdig 10 (l.drop (i + 1)) (n * 10 + d) := by
      intro d hd h1 h2 h3
      rw [hp, hd, if_pos ⟨h1, by omega⟩]
    generalize hcn : l[i].toNat = c at *
    have hdvc : dv l[i] = if 48 ≤ c ∧ c ≤ 57 then c - 48 else if 97 ≤ (l[i] ||| 32).toNat ∧ (l[i] ||| 32).toNat ≤ 122 then (l[i] ||| 32).toNat - 87 else 99 := by unfold dv; rw [hcn]
    have lows := fun h => lower_spec l[i] h
    rw [hcn] at lows
    generalize (l[i] ||| 32).toNat = w at hdvc hlt32 lows
    generalize dv l[i] = d at hdvc hp bad badr fin
    clear hdrop hcn
    cases hq : ((c : Int) == 95)
    all_goals
      by_cases hd1 : 48 ≤ c
      · have q1 : decide ((48 : Int) ≤ (c : Int)) = true := decide_eq_true (by omega)
        by_cases hd2 : c ≤ 57
        · have q2 : decide ((c : Int) ≤ 57) = true := decide_eq_true (by omega)
          rw [if_pos ⟨hd1, hd2⟩] at hdvc
          by_cases hdb : d < 10
          · have q3 : decide ((((c : Int) - 48 : Int)) ≥ 10) = false := decide_eq_false (by omega)
            by_cases hcut : n < 1844674407370955162
            · have q4 : decide ((n : Int) ≥ 1844674407370955162) = false := decide_eq_false (by omega)
              have q5 : decide ((n : Int) * 10 + ((c : Int) - 48) < (n : Int) * 10) = false := decide_eq_false (by omega)
              by_cases hov : n * 10 + d > 18446744073709551615
              · first
                  | (exfalso; omega)
                  | (refine gA ?_
                     refine HInt.mk ((n : Int) * 10 + ((c : Int) - 48) - 18446744073709551616) (by rw [wrap_u64']; omega) ?_
                     have q7 : decide ((n : Int) * 10 + ((c : Int) - 48) - 18446744073709551616 < (n : Int) * 10) = true := decide_eq_true (by omega)
                     refine gA ?_
                     exact ⟨18446744073709551615, _, rfl, badr _ rfl (by omega), by omega, x1⟩)
              · have q6 : decide ((n : Int) * 10 + ((c : Int) - 48) > 18446744073709551615) = false := decide_eq_false (by omega)
                refine gA ?_
                refine ⟨⟨i + 1, n * 10 + d, ?_, by omega, by omega, fin d rfl hdb hcut hov, rfl⟩, hmu⟩
                have e1 : ((n * 10 + d : Nat) : Int) = (n : Int) * 10 + ((c : Int) - 48) := by omega
                rw [e1]; rfl
            · have q4 : decide ((n : Int) ≥ 1844674407370955162) = true := decide_eq_true (by omega)
              refine gA ?_
              exact ⟨18446744073709551615, _, rfl, badr _ rfl (by omega), by omega, x1⟩
          · have q3 : decide ((((c : Int) - 48 : Int)) ≥ 10) = true := decide_eq_true (by omega)
            refine gA ?_
            exact ⟨0, _, rfl, bad _ rfl (by omega), by omega, x1⟩
        · have q2 : decide ((c : Int) ≤ 57) = false := decide_eq_false (by omega)
          rw [if_neg (by omega)] at hdvc
          refine gA ?_
          refine HCall.mk ((lows _).mono ?_)
          rintro e _ ⟨rfl, rfl⟩
          by_cases hw1 : 97 ≤ w
          · have q7 : decide ((97 : Int) ≤ (w : Int)) = true := decide_eq_true (by omega)
            refine gA ?_
            refine HCall.mk ((lows _).mono ?_)
            rintro e _ ⟨rfl, rfl⟩
            by_cases hw2 : w ≤ 122
            · have q8 : decide ((w : Int) ≤ 122) = true := decide_eq_true (by omega)
              rw [if_pos ⟨hw1, hw2⟩] at hdvc
              refine gA ?_
              refine HCall.mk ((lows _).mono ?_)
              rintro e _ ⟨rfl, rfl⟩
              by_cases hdb : d < 10
              · have q3 : decide ((((w : Int) - 97 + 10 : Int)) ≥ 10) = false := decide_eq_false (by omega)
                by_cases hcut : n < 1844674407370955162
                · have q4 : decide ((n : Int) ≥ 1844674407370955162) = false := decide_eq_false (by omega)
                  have q5 : decide ((n : Int) * 10 + ((w : Int) - 97 + 10) < (n : Int) * 10) = false := decide_eq_false (by omega)
                  by_cases hov : n * 10 + d > 18446744073709551615
                  · first
                      | (exfalso; omega)
                      | (refine gA ?_
                         refine HInt.mk ((n : Int) * 10 + ((w : Int) - 97 + 10) - 18446744073709551616) (by rw [wrap_u64']; omega) ?_
                         have q7 : decide ((n : Int) * 10 + ((w : Int) - 97 + 10) - 18446744073709551616 < (n : Int) * 10) = true := decide_eq_true (by omega)
                         refine gA ?_
                         exact ⟨18446744073709551615, _, rfl, badr _ rfl (by omega), by omega, x1⟩)
                  · have q6 : decide ((n : Int) * 10 + ((w : Int) - 97 + 10) > 18446744073709551615) = false := decide_eq_false (by omega)
                    refine gA ?_
                    refine ⟨⟨i + 1, n * 10 + d, ?_, by omega, by omega, fin d rfl hdb hcut hov, rfl⟩, hmu⟩
                    have e1 : ((n * 10 + d : Nat) : Int) = (n : Int) * 10 + ((w : Int) - 97 + 10) := by omega
                    rw [e1]; rfl
                · have q4 : decide ((n : Int) ≥ 1844674407370955162) = true := decide_eq_true (by omega)
                  refine gA ?_
                  exact ⟨18446744073709551615, _, rfl, badr _ rfl (by omega), by omega, x1⟩
              · have q3 : decide ((((w : Int) - 97 + 10 : Int)) ≥ 10) = true := decide_eq_true (by omega)
                refine gA ?_
                exact ⟨0, _, rfl, bad _ rfl (by omega), by omega, x1⟩
            · have q8 : decide ((w : Int) ≤ 122) = false := decide_eq_false (by omega)
              rw [if_neg (by omega)] at hdvc
              refine gA ?_
              exact ⟨0, _, rfl, bad _ rfl (by omega), by omega, x1⟩
          · have q7 : decide ((97 : Int) ≤ (w : Int)) = false := decide_eq_false (by omega)
            rw [if_neg (by omega)] at hdvc
            refine gA ?_
            exact ⟨0, _, rfl, bad _ rfl (by omega), by omega, x1⟩
      · have q1 : decide ((48 : Int) ≤ (c : Int)) = false := decide_eq_false (by omega)
        rw [if_neg (by omega)] at hdvc
        refine gA ?_
        refine HCall.mk ((lows _).mono ?_)
        rintro e _ ⟨rfl, rfl⟩
        by_cases hw1 : 97 ≤ w
        · have q7 : decide ((97 : Int) ≤ (w : Int)) = true := decide_eq_true (by omega)
          refine gA ?_
          refine HCall.mk ((lows _).mono ?_)
          rintro e _ ⟨rfl, rfl⟩
          by_cases hw2 : w ≤ 122
          · have q8 : decide ((w : Int) ≤ 122) = true := decide_eq_true (by omega)
            rw [if_pos ⟨hw1, hw2⟩] at hdvc
            refine gA ?_
            refine HCall.mk ((lows _).mono ?_)
            rintro e _ ⟨rfl, rfl⟩
            by_cases hdb : d < 10
            · have q3 : decide ((((w : Int) - 97 + 10 : Int)) ≥ 10) = false := decide_eq_false (by omega)
              by_cases hcut : n < 1844674407370955162
              · have q4 : decide ((n : Int) ≥ 1844674407370955162) = false := decide_eq_false (by omega)
                have q5 : decide ((n : Int) * 10 + ((w : Int) - 97 + 10) < (n : Int) * 10) = false := decide_eq_false (by omega)
                by_cases hov : n * 10 + d > 18446744073709551615
                · first
                    | (exfalso; omega)
                    | (refine gA ?_
                       refine HInt.mk ((n : Int) * 10 + ((w : Int) - 97 + 10) - 18446744073709551616) (by rw [wrap_u64']; omega) ?_
                       have q7 : decide ((n : Int) * 10 + ((w : Int) - 97 + 10) - 18446744073709551616 < (n : Int) * 10) = true := decide_eq_true (by omega)
                       refine gA ?_
                       exact ⟨18446744073709551615, _, rfl, badr _ rfl (by omega), by omega, x1⟩)
                · have q6 : decide ((n : Int) * 10 + ((w : Int) - 97 + 10) > 18446744073709551615) = false := decide_eq_false (by omega)
                  refine gA ?_
                  refine ⟨⟨i + 1, n * 10 + d, ?_, by omega, by omega, fin d rfl hdb hcut hov, rfl⟩, hmu⟩
                  have e1 : ((n * 10 + d : Nat) : Int) = (n : Int) * 10 + ((w : Int) - 97 + 10) := by omega
                  rw [e1]; rfl
              · have q4 : decide ((n : Int) ≥ 1844674407370955162) = true := decide_eq_true (by omega)
                refine gA ?_
                exact ⟨18446744073709551615, _, rfl, badr _ rfl (by omega), by omega, x1⟩
            · have q3 : decide ((((w : Int) - 97 + 10 : Int)) ≥ 10) = true := decide_eq_true (by omega)
              refine gA ?_
              exact ⟨0, _, rfl, bad _ rfl (by omega), by omega, x1⟩
          · have q8 : decide ((w : Int) ≤ 122) = false := decide_eq_false (by omega)
            rw [if_neg (by omega)] at hdvc
            refine gA ?_
            exact ⟨0, _, rfl, bad _ rfl (by omega), by omega, x1⟩
        · have q7 : decide ((97 : Int) ≤ (w : Int)) = false := decide_eq_false (by omega)
          rw [if_neg (by omega)] at hdvc
          refine gA ?_
          exact ⟨0, _, rfl, bad _ rfl (by omega), by omega, x1⟩
  · have hge := of_decide_eq_false hlt
    obtain rfl : i = l.length := by omega
    rw [List.drop_length] at hp
    refine gA ?_
    exact ⟨n, .nilIface, rfl, .inl ⟨hz, hp, rfl⟩, hn, x1⟩

theorem puint16_spec (l : List UInt8) (hl : l.length ≤ 1048576) (h : Heap) : HCalls Tryz.prog 164 #[.string ⟨l.toArray⟩, .int .i64 16, .int .i64 64] h fun e h' =>
    ∃ (v : Nat) (er : Value), e = .returned (.tuple #[.int .u64 v, er]) ∧ PU 16 l v er ∧ v < 18446744073709551616 ∧ Ext h h' := by
  have hs : (⟨l.toArray⟩ : ByteArray).size = l.length := rfl
  refine c164 (by simp) ?_
  by_cases hz : l = []
  · subst hz
    have q0 : strEq (⟨([] : List UInt8).toArray⟩ : ByteArray) ⟨#[]⟩ = true := by rw [strEq_nil]; exact decide_eq_true rfl
    refine gA ?_
    exact ⟨0, _, rfl, .inr ⟨.inl rfl, .inl rfl⟩, by omega, Ext.refl _⟩
  have hne : strEq (⟨l.toArray⟩ : ByteArray) ⟨#[]⟩ = false := by
    rw [strEq_nil]
    refine decide_eq_false fun e => hz ?_
    have := congrArg ByteArray.size e
    exact List.length_eq_zero_iff.1 (by rw [hs] at this; exact this)
  refine gA ?_
  refine HInt.mk 0 (by decide) ?_
  refine gA ?_
  refine HInt.mk 18446744073709551615 (by decide) ?_
  refine gA ?_
  refine HMust.mk (by omega) ?_
  intro cp hcp
  refine new_bytes hcp ?_
  intro h1 b1 s1 x1
  refine gA ?_
  refine loop_rule [12, 13, 101] (fun vs h' => ∃ (i n : Nat), vs = [.bool false, .int .u64 n, .int .i64 i] ∧ i ≤ l.length ∧ n < 18446744073709551616 ∧ pdig 16 l 0 = pdig 16 (l.drop i) n ∧ h' = h1)
    (fun vs _ => match vs with | [_, _, .int _ i] => l.length - i.toNat | _ => 0) rfl ?_ ?_
  · exact ⟨0, 0, rfl, by omega, by omega, rfl, rfl⟩
  intro u h1 v12 v13 v101
  rintro ⟨i, n, e, hi, hn, hp, rfl⟩
  cases e
  refine gA ?_
  refine HIf.mk (fun hlt => ?_) (fun hlt => ?_)
  · have hi1 : i < l.length := by have := of_decide_eq_true hlt; omega
    have hmu : l.length - ((i : Int) + 1).toNat < l.length - ((i : Int)).toNat := by omega
    have hdrop : l.drop i = l[i] :: l.drop (i + 1) := List.drop_eq_getElem_cons hi1
    rw [hdrop] at hp
    simp only [pdig] at hp
    have hlt8 := l[i].toNat_lt
    have hlt32 := (l[i] ||| 32).toNat_lt
    have bad : ∀ er : Value, (er = .iface 186 (.int .i64 2)) → ¬ (dv l[i] < 16 ∧ n * 16 + dv l[i] < 18446744073709551616) → PU 16 l 0 er := fun er he hc => .inr ⟨.inr (by rw [hp, if_neg hc]), .inl he⟩
    have badr : ∀ er : Value, (er = .iface 186 (.int .i64 1)) → ¬ (dv l[i] < 16 ∧ n * 16 + dv l[i] < 18446744073709551616) → PU 16 l 18446744073709551615 er := fun er he hc => .inr ⟨.inr (by rw [hp, if_neg hc]), .inr ⟨he, rfl⟩⟩
    refine gA ?_
    refine HIdx.mk i rfl hi1 ?_
    refine sl_some s1 hi1 fun p ep => ?_
    refine gA ?_
    refine sl_get s1 ep hi1 ?_
    have fin : ∀ d : Nat, dv l[i] = d → d < 16 → n < 1152921504606846976 → ¬ (n * 16 + d > 18446744073709551615) → pdig 16 l 0 = pdig 16 (l.drop (i + 1)) (n * 16 + d) := by
      intro d hd h1 h2 h3
      rw [hp, hd, if_pos ⟨h1, by omega⟩]
    generalize hcn : l[i].toNat = c at *
    have hdvc : dv l[i] = if 48 ≤ c ∧ c ≤ 57 then c - 48 else if 97 ≤ (l[i] ||| 32).toNat ∧ (l[i] ||| 32).toNat ≤ 122 then (l[i] ||| 32).toNat - 87 else 99 := by unfold dv; rw [hcn]
    have lows := fun h => lower_spec l[i] h
    rw [hcn] at lows
    generalize (l[i] ||| 32).toNat = w at hdvc hlt32 lows
    generalize dv l[i] = d at hdvc hp bad badr fin
    clear hdrop hcn
    cases hq : ((c : Int) == 95)
    all_goals
      by_cases hd1 : 48 ≤ c
      · have q1 : decide ((48 : Int) ≤ (c : Int)) = true := decide_eq_true (by omega)
        by_cases hd2 : c ≤ 57
        · have q2 : decide ((c : Int) ≤ 57) = true := decide_eq_true (by omega)
          rw [if_pos ⟨hd1, hd2⟩] at hdvc
          by_cases hdb : d < 16
          · have q3 : decide ((((c : Int) - 48 : Int)) ≥ 16) = false := decide_eq_false (by omega)
            by_cases hcut : n < 1152921504606846976
            · have q4 : decide ((n : Int) ≥ 1152921504606846976) = false := decide_eq_false (by omega)
              have q5 : decide ((n : Int) * 16 + ((c : Int) - 48) < (n : Int) * 16) = false := decide_eq_false (by omega)
              by_cases hov : n * 16 + d > 18446744073709551615
              · first
                  | (exfalso; omega)
                  | (refine gA ?_
                     refine HInt.mk ((n : Int) * 16 + ((c : Int) - 48) - 18446744073709551616) (by rw [wrap_u64']; omega) ?_
                     have q7 : decide ((n : Int) * 16 + ((c : Int) - 48) - 18446744073709551616 < (n : Int) * 16) = true := decide_eq_true (by omega)
                     refine gA ?_
                     exact ⟨18446744073709551615, _, rfl, badr _ rfl (by omega), by omega, x1⟩)
              · have q6 : decide ((n : Int) * 16 + ((c : Int) - 48) > 18446744073709551615) = false := decide_eq_false (by omega)
                refine gA ?_
                refine ⟨⟨i + 1, n * 16 + d, ?_, by omega, by omega, fin d rfl hdb hcut hov, rfl⟩, hmu⟩
                have e1 : ((n * 16 + d : Nat) : Int) = (n : Int) * 16 + ((c : Int) - 48) := by omega
                rw [e1]; rfl
            · have q4 : decide ((n : Int) ≥ 1152921504606846976) = true := decide_eq_true (by omega)
              refine gA ?_
              exact ⟨18446744073709551615, _, rfl, badr _ rfl (by omega), by omega, x1⟩
          · have q3 : decide ((((c : Int) - 48 : Int)) ≥ 16) = true := decide_eq_true (by omega)
            refine gA ?_
            exact ⟨0, _, rfl, bad _ rfl (by omega), by omega, x1⟩
        · have q2 : decide ((c : Int) ≤ 57) = false := decide_eq_false (by omega)
          rw [if_neg (by omega)] at hdvc
          refine gA ?_
          refine HCall.mk ((lows _).mono ?_)
          rintro e _ ⟨rfl, rfl⟩
          by_cases hw1 : 97 ≤ w
          · have q7 : decide ((97 : Int) ≤ (w : Int)) = true := decide_eq_true (by omega)
            refine gA ?_
            refine HCall.mk ((lows _).mono ?_)
            rintro e _ ⟨rfl, rfl⟩
            by_cases hw2 : w ≤ 122
            · have q8 : decide ((w : Int) ≤ 122) = true := decide_eq_true (by omega)
              rw [if_pos ⟨hw1, hw2⟩] at hdvc
              refine gA ?_
              refine HCall.mk ((lows _).mono ?_)
              rintro e _ ⟨rfl, rfl⟩
              by_cases hdb : d < 16
              · have q3 : decide ((((w : Int) - 97 + 10 : Int)) ≥ 16) = false := decide_eq_false (by omega)
                by_cases hcut : n < 1152921504606846976
                · have q4 : decide ((n : Int) ≥ 1152921504606846976) = false := decide_eq_false (by omega)
                  have q5 : decide ((n : Int) * 16 + ((w : Int) - 97 + 10) < (n : Int) * 16) = false := decide_eq_false (by omega)
                  by_cases hov : n * 16 + d > 18446744073709551615
                  · first
                      | (exfalso; omega)
                      | (refine gA ?_
                         refine HInt.mk ((n : Int) * 16 + ((w : Int) - 97 + 10) - 18446744073709551616) (by rw [wrap_u64']; omega) ?_
                         have q7 : decide ((n : Int) * 16 + ((w : Int) - 97 + 10) - 18446744073709551616 < (n : Int) * 16) = true := decide_eq_true (by omega)
                         refine gA ?_
                         exact ⟨18446744073709551615, _, rfl, badr _ rfl (by omega), by omega, x1⟩)
                  · have q6 : decide ((n : Int) * 16 + ((w : Int) - 97 + 10) > 18446744073709551615) = false := decide_eq_false (by omega)
                    refine gA ?_
                    refine ⟨⟨i + 1, n * 16 + d, ?_, by omega, by omega, fin d rfl hdb hcut hov, rfl⟩, hmu⟩
                    have e1 : ((n * 16 + d : Nat) : Int) = (n : Int) * 16 + ((w : Int) - 97 + 10) := by omega
                    rw [e1]; rfl
                · have q4 : decide ((n : Int) ≥ 1152921504606846976) = true := decide_eq_true (by omega)
                  refine gA ?_
                  exact ⟨18446744073709551615, _, rfl, badr _ rfl (by omega), by omega, x1⟩
              · have q3 : decide ((((w : Int) - 97 + 10 : Int)) ≥ 16) = true := decide_eq_true (by omega)
                refine gA ?_
                exact ⟨0, _, rfl, bad _ rfl (by omega), by omega, x1⟩
            · have q8 : decide ((w : Int) ≤ 122) = false := decide_eq_false (by omega)
              rw [if_neg (by omega)] at hdvc
              refine gA ?_
              exact ⟨0, _, rfl, bad _ rfl (by omega), by omega, x1⟩
          · have q7 : decide ((97 : Int) ≤ (w : Int)) = false := decide_eq_false (by omega)
            rw [if_neg (by omega)] at hdvc
            refine gA ?_
            exact ⟨0, _, rfl, bad _ rfl (by omega), by omega, x1⟩
      · have q1 : decide ((48 : Int) ≤ (c : Int)) = false := decide_eq_false (by omega)
        rw [if_neg (by omega)] at hdvc
        refine gA ?_
        refine HCall.mk ((lows _).mono ?_)
        rintro e _ ⟨rfl, rfl⟩
        by_cases hw1 : 97 ≤ w
        · have q7 : decide ((97 : Int) ≤ (w : Int)) = true := decide_eq_true (by omega)
          refine gA ?_
          refine HCall.mk ((lows _).mono ?_)
          rintro e _ ⟨rfl, rfl⟩
          by_cases hw2 : w ≤ 122
          · have q8 : decide ((w : Int) ≤ 122) = true := decide_eq_true (by omega)
            rw [if_pos ⟨hw1, hw2⟩] at hdvc
            refine gA ?_
            refine HCall.mk ((lows _).mono ?_)
            rintro e _ ⟨rfl, rfl⟩
            by_cases hdb : d < 16
            · have q3 : decide ((((w : Int) - 97 + 10 : Int)) ≥ 16) = false := decide_eq_false (by omega)
              by_cases hcut : n < 1152921504606846976
              · have q4 : decide ((n : Int) ≥ 1152921504606846976) = false := decide_eq_false (by omega)
                have q5 : decide ((n : Int) * 16 + ((w : Int) - 97 + 10) < (n : Int) * 16) = false := decide_eq_false (by omega)
                by_cases hov : n * 16 + d > 18446744073709551615
                · first
                    | (exfalso; omega)
                    | (refine gA ?_
                       refine HInt.mk ((n : Int) * 16 + ((w : Int) - 97 + 10) - 18446744073709551616) (by rw [wrap_u64']; omega) ?_
                       have q7 : decide ((n : Int) * 16 + ((w : Int) - 97 + 10) - 18446744073709551616 < (n : Int) * 16) = true := decide_eq_true (by omega)
                       refine gA ?_
                       exact ⟨18446744073709551615, _, rfl, badr _ rfl (by omega), by omega, x1⟩)
                · have q6 : decide ((n : Int) * 16 + ((w : Int) - 97 + 10) > 18446744073709551615) = false := decide_eq_false (by omega)
                  refine gA ?_
                  refine ⟨⟨i + 1, n * 16 + d, ?_, by omega, by omega, fin d rfl hdb hcut hov, rfl⟩, hmu⟩
                  have e1 : ((n * 16 + d : Nat) : Int) = (n : Int) * 16 + ((w : Int) - 97 + 10) := by omega
                  rw [e1]; rfl
              · have q4 : decide ((n : Int) ≥ 1152921504606846976) = true := decide_eq_true (by omega)
                refine gA ?_
                exact ⟨18446744073709551615, _, rfl, badr _ rfl (by omega), by omega, x1⟩
            · have q3 : decide ((((w : Int) - 97 + 10 : Int)) ≥ 16) = true := decide_eq_true (by omega)
              refine gA ?_
              exact ⟨0, _, rfl, bad _ rfl (by omega), by omega, x1⟩
          · have q8 : decide ((w : Int) ≤ 122) = false := decide_eq_false (by omega)
            rw [if_neg (by omega)] at hdvc
            refine gA ?_
            exact ⟨0, _, rfl, bad _ rfl (by omega), by omega, x1⟩
        · have q7 : decide ((97 : Int) ≤ (w : Int)) = false := decide_eq_false (by omega)
          rw [if_neg (by omega)] at hdvc
          refine gA ?_
          exact ⟨0, _, rfl, bad _ rfl (by omega), by omega, x1⟩
  · have hge := of_decide_eq_false hlt
    obtain rfl : i = l.length := by omega
    rw [List.drop_length] at hp
    refine gA ?_
    exact ⟨n, .nilIface, rfl, .inl ⟨hz, hp, rfl⟩, hn, x1⟩

set_option maxHeartbeats 4000000

def pmag (base : Nat) (l : List UInt8) : Option Nat := if l = [] then none else pdig base l 0
def posI (o : Option Nat) : Option Int := match o with
  | some u => if u < 9223372036854775808 then some u else none
  | none => none
def negI (o : Option Nat) : Option Int := match o with
  | some u => if u ≤ 9223372036854775808 then some (-(u : Int)) else none
  | none => none
def pint (base : Nat) : List UInt8 → Option Int
  | [] => none
  | c :: r => if c.toNat = 43 then posI (pmag base r) else if c.toNat = 45 then negI (pmag base r) else posI (pmag base (c :: r))
theorem errT : Tryz.prog.info? 186 = some Tryz.t186 := by kernel_rfl
theorem errC : Tryz.t186.comparable = true := by kernel_rfl
theorem eqErr {a b : Int} {K : Bool → Prop} (k : K (a == b)) : HEqI Tryz.prog 186 (.int .i64 a) 186 (.int .i64 b) K :=
  .int _ .i64 .i64 a b rfl rfl rfl errT errC Tryz.underlying186 k
theorem extract_one (c : UInt8) (l : List UInt8) : (⟨(c :: l).toArray⟩ : ByteArray).extract 1 (⟨(c :: l).toArray⟩ : ByteArray).size = ⟨l.toArray⟩ := by
  apply ByteArray.ext
  rw [ByteArray.data_extract]
  show ((c :: l).toArray).extract 1 (c :: l).toArray.size = l.toArray
  simp

def PI (base : Nat) (l : List UInt8) (e : Ending) : Prop :=
  (∃ v, pint base l = some v ∧ e = .returned (.tuple #[.int .i64 v, .nilIface])) ∨ (pint base l = none ∧ ∃ (v k : Int), e = .returned (.tuple #[.int .i64 v, .iface 186 (.int .i64 k)]) ∧ (k = 1 ∨ k = 2))
theorem puint_spec (base : Nat) (hb : base = 10 ∨ base = 16) (l : List UInt8) (hl : l.length ≤ 1048576) (h : Heap) : HCalls Tryz.prog 164 #[.string ⟨l.toArray⟩, .int .i64 base, .int .i64 64] h fun e h' =>
    ∃ (v : Nat) (er : Value), e = .returned (.tuple #[.int .u64 v, er]) ∧ PU base l v er ∧ v < 18446744073709551616 ∧ Ext h h' := by
  rcases hb with rfl | rfl
  · exact puint10_spec l hl h
  · exact puint16_spec l hl h

theorem parseIntI_spec (base : Nat) (hb : base = 10 ∨ base = 16) (l : List UInt8) (hl : l.length ≤ 1048576) (h : Heap) : HCalls Tryz.prog 144 #[.string ⟨l.toArray⟩, .int .i64 base, .int .i64 64] h fun e h' => PI base l e ∧ Ext h h' := by
  have hs : (⟨l.toArray⟩ : ByteArray).size = l.length := rfl
  refine c144 (by simp) ?_
  cases l with
  | nil =>
    have q0 : strEq (⟨([] : List UInt8).toArray⟩ : ByteArray) ⟨#[]⟩ = true := by rw [strEq_nil]; exact decide_eq_true rfl
    refine gA ?_
    exact ⟨.inr ⟨rfl, 0, 2, rfl, .inr rfl⟩, Ext.refl _⟩
  | cons c r =>
  have hne : strEq (⟨(c :: r).toArray⟩ : ByteArray) ⟨#[]⟩ = false := by
    rw [strEq_nil]
    refine decide_eq_false fun e => ?_
    have := congrArg ByteArray.size e
    exact absurd this (by show (c :: r).length ≠ 0; simp)
  have hx := idx_txt (c :: r) (i := 0) (by simp)
  have hrl : r.length ≤ 1048576 := by simp only [List.length_cons] at hl; omega
  have hsz : 1 ≤ (⟨(c :: r).toArray⟩ : ByteArray).size := by rw [hs]; simp
  rw [List.getElem_cons_zero] at hx
  -- what is told of the number, at last
  have tailPos : ∀ (m : List UInt8), pint base (c :: r) = posI (pmag base m) → ∀ (v : Nat) (er : Value), PU base m v er → (er = .nilIface ∧ pmag base m = some v) ∨ (pint base (c :: r) = none ∧ (er = .iface 186 (.int .i64 2) ∨ (er = .iface 186 (.int .i64 1) ∧ v = 18446744073709551615))) := by
    intro m hm v er hpu
    rcases hpu with ⟨h1, h2, h3⟩ | ⟨h1, h2⟩
    · exact .inl ⟨h3, by unfold pmag; rw [if_neg h1, h2]⟩
    · refine .inr ⟨?_, h2⟩
      rw [hm]
      unfold pmag
      rcases h1 with h1 | h1
      · rw [if_pos h1]; rfl
      · rw [h1]; split <;> rfl
  have tailNeg : ∀ (m : List UInt8), pint base (c :: r) = negI (pmag base m) → ∀ (v : Nat) (er : Value), PU base m v er → (er = .nilIface ∧ pmag base m = some v) ∨ (pint base (c :: r) = none ∧ (er = .iface 186 (.int .i64 2) ∨ (er = .iface 186 (.int .i64 1) ∧ v = 18446744073709551615))) := by
    intro m hm v er hpu
    rcases hpu with ⟨h1, h2, h3⟩ | ⟨h1, h2⟩
    · exact .inl ⟨h3, by unfold pmag; rw [if_neg h1, h2]⟩
    · refine .inr ⟨?_, h2⟩
      rw [hm]
      unfold pmag
      rcases h1 with h1 | h1
      · rw [if_pos h1]; rfl
      · rw [h1]; split <;> rfl
  have hcb := c.toNat_lt
  have eext := extract_one c r
  refine gB ?_
  (refine HSeq.go ?_; conv => whnf)
  refine gB ?_
  refine cut_rule [0, 8] (fun vs h' => ∃ (m : List UInt8) (neg : Bool), vs = [.string ⟨m.toArray⟩, .bool neg] ∧ m.length ≤ 1048576 ∧ pint base (c :: r) = (match neg with | true => negI (pmag base m) | false => posI (pmag base m)) ∧ h' = h) rfl ?_ ?_
  · refine gA ?_
    refine HIdx.mk 0 rfl (by rw [hs]; simp) ?_
    rw [hx]
    by_cases h43 : c.toNat = 43
    · have q1 : ((c.toNat : Int) == 43) = true := by rw [h43]; rfl
      refine gA ?_
      refine HBound.mk 1 rfl hsz ?_
      rw [eext]
      refine gA ?_
      exact ⟨r, false, rfl, hrl, by simp only [pint]; rw [if_pos h43], rfl⟩
    · have q1 : ((c.toNat : Int) == 43) = false := by rw [beq_eq_false_iff_ne]; omega
      by_cases h45 : c.toNat = 45
      · have q2 : ((c.toNat : Int) == 45) = true := by rw [h45]; rfl
        refine gA ?_
        refine HBound.mk 1 rfl hsz ?_
        rw [eext]
        refine gA ?_
        exact ⟨r, true, rfl, hrl, by simp only [pint]; rw [if_neg h43, if_pos h45], rfl⟩
      · have q2 : ((c.toNat : Int) == 45) = false := by rw [beq_eq_false_iff_ne]; omega
        refine gA ?_
        exact ⟨c :: r, false, rfl, hl, by simp only [pint]; rw [if_neg h43, if_neg h45], rfl⟩
  intro u h1 v0 v8
  rintro ⟨m, neg, e, hml, hp, rfl⟩
  cases e
  refine gA ?_
  refine HCall.mk ((puint_spec base hb m hml _).mono ?_)
  rintro e h2 ⟨v, er, rfl, hpu, hv, x2⟩
  have bad : pint base (c :: r) = none → ∀ (a k : Int), (k = 1 ∨ k = 2) → PI base (c :: r) (.returned (.tuple #[.int .i64 a, .iface 186 (.int .i64 k)])) := fun hn a k hk => .inr ⟨hn, a, k, rfl, hk⟩
  cases neg with
  | false =>
    simp only at hp
    rcases tailPos m hp v er hpu with ⟨rfl, hm⟩ | ⟨hn, he⟩
    · rw [hm] at hp
      simp only [posI] at hp
      refine gA ?_
      refine HInt.mk 9223372036854775808 (by decide) ?_
      by_cases hb63 : v < 9223372036854775808
      · have q3 : decide ((v : Int) ≥ 9223372036854775808) = false := decide_eq_false (by omega)
        rw [if_pos hb63] at hp
        refine gA ?_
        exact ⟨.inl ⟨v, hp, rfl⟩, x2⟩
      · have q3 : decide ((v : Int) ≥ 9223372036854775808) = true := decide_eq_true (by omega)
        rw [if_neg hb63] at hp
        refine gA ?_
        exact ⟨bad hp _ 1 (.inl rfl), x2⟩
    · rcases he with rfl | ⟨rfl, rfl⟩
      · refine gA ?_
        refine eqErr ?_
        refine gA ?_
        exact ⟨bad hn 0 2 (.inr rfl), x2⟩
      · refine gA ?_
        refine eqErr ?_
        refine gA ?_
        refine HInt.mk 9223372036854775808 (by decide) ?_
        refine gA ?_
        exact ⟨bad hn _ 1 (.inl rfl), x2⟩
  | true =>
    simp only at hp
    rcases tailNeg m hp v er hpu with ⟨rfl, hm⟩ | ⟨hn, he⟩
    · rw [hm] at hp
      simp only [negI] at hp
      refine gA ?_
      refine HInt.mk 9223372036854775808 (by decide) ?_
      by_cases hb63 : v ≤ 9223372036854775808
      · have q3 : decide ((v : Int) > 9223372036854775808) = false := decide_eq_false (by omega)
        rw [if_pos hb63] at hp
        by_cases hlt : v < 9223372036854775808
        · refine gA ?_
          refine ⟨.inl ⟨-(v : Int), hp, ?_⟩, x2⟩
          have : (0 : Int) - v = -(v : Int) := by omega
          rw [← this]; rfl
        · obtain rfl : v = 9223372036854775808 := by omega
          refine gA ?_
          refine HInt.mk (-9223372036854775808) (by decide) ?_
          refine gA ?_
          refine HInt.mk (-9223372036854775808) (by decide) ?_
          refine gA ?_
          exact ⟨.inl ⟨-9223372036854775808, hp, rfl⟩, x2⟩
      · have q3 : decide ((v : Int) > 9223372036854775808) = true := decide_eq_true (by omega)
        rw [if_neg hb63] at hp
        refine gA ?_
        refine HInt.mk (-9223372036854775808) (by decide) ?_
        refine gA ?_
        refine HInt.mk (-9223372036854775808) (by decide) ?_
        refine gA ?_
        exact ⟨bad hp _ 1 (.inl rfl), x2⟩
    · rcases he with rfl | ⟨rfl, rfl⟩
      · refine gA ?_
        refine eqErr ?_
        refine gA ?_
        exact ⟨bad hn 0 2 (.inr rfl), x2⟩
      · refine gA ?_
        refine eqErr ?_
        refine gA ?_
        refine HInt.mk 9223372036854775808 (by decide) ?_
        refine gA ?_
        refine HInt.mk (-9223372036854775808) (by decide) ?_
        refine gA ?_
        refine HInt.mk (-9223372036854775808) (by decide) ?_
        refine gA ?_
        exact ⟨bad hn _ 1 (.inl rfl), x2⟩

set_option maxHeartbeats 4000000

def IfV (v : Value) : Prop := v = .nilIface ∨ ∃ t x, v = .iface t x
def Glob (h : Heap) : Prop := Tab h ∧ (∃ v, hcell h ⟨1, 0, none⟩ = some v ∧ IfV v) ∧ (∃ v, hcell h ⟨2, 0, none⟩ = some v ∧ IfV v)
theorem Glob.ext {h h' : Heap} (g : Glob h) (x : Ext h h') : Glob h' := by
  obtain ⟨t, ⟨v, e, i⟩, ⟨w, f, j⟩⟩ := g
  refine ⟨t.ext x, ⟨v, ?_, i⟩, ⟨w, ?_, j⟩⟩
  · rw [hcell_of (x.2 _ (lt_of_hcell e))]; exact e
  · rw [hcell_of (x.2 _ (lt_of_hcell f))]; exact f
theorem hfreeze_off (h : Heap) (a : Addr) (n : Nat) : Off a.block h (hfreeze h a n) := by
  unfold hfreeze
  split
  · exact ⟨Nat.le_refl _, fun _ _ _ => rfl⟩
  · refine ⟨by simp, fun b hb hne => ?_⟩
    rw [Array.getElem?_modify, if_neg (by intro e; exact hne e.symm)]
theorem cellsU8 : Tryz.prog.cellsOf 5 = 1 := by kernel_rfl
theorem blk_shape {h : Heap} {b e : Nat} {cs : List Value} (x : BlkW h b e cs) : hshape h b = some (e, cs.length) := by
  obtain ⟨fz, y, _⟩ := x
  unfold hshape
  rw [y]; simp

theorem clone_spec (l : List UInt8) (hl : l.length ≤ 1048576) (h : Heap) : HCalls Tryz.prog 179 #[.string ⟨l.toArray⟩] h fun e h' => e = .returned (.string ⟨l.toArray⟩) ∧ Ext h h' := by
  have hs : (⟨l.toArray⟩ : ByteArray).size = l.length := rfl
  refine c179 (by simp) ?_
  by_cases hz : l = []
  · subst hz
    refine gA ?_
    exact ⟨rfl, Ext.refl _⟩
  have hpos : 0 < l.length := List.length_pos_iff.2 hz
  have q : (((⟨l.toArray⟩ : ByteArray).size : Int) == 0) = false := by rw [hs, beq_eq_false_iff_ne]; omega
  refine gA ?_
  refine HBound.mk l.length rfl (by omega) ?_
  refine HBound.mk l.length rfl (by omega) ?_
  refine gA ?_
  refine HMust.mk ⟨Nat.le_refl _, by omega⟩ ?_
  refine new_var (e := 5) (List.replicate l.length (.int .u8 0)) (by rw [zeroCells_one]) ?_
  intro h1 b1 o1 x1 z1 hb1
  refine gA ?_
  refine HStoreO.mk _ rfl ?_
  have em : Nat.min (⟨l.toArray⟩ : ByteArray).size l.length = l.length := by rw [hs]; exact Nat.min_self _
  have ebytes : (((⟨l.toArray⟩ : ByteArray).data.toList.take (Nat.min (⟨l.toArray⟩ : ByteArray).size l.length)).map fun b => Value.int .u8 b.toNat) = l.map byteV := by
    rw [em]
    show ((l.toArray.toList.take l.length).map fun b => Value.int .u8 b.toNat) = _
    simp [byteV]
  rw [ebytes]
  refine store_blk (o := 0) o1 (by simp) bytesV_one ?_
  intro h2 f2 z2 o2
  rw [List.take_zero, List.nil_append, List.length_map, Nat.zero_add, List.drop_of_length_le (by simp), List.append_nil] at o2
  refine gA ?_
  refine HIdx.mk 0 rfl hpos ?_
  refine HSome.mk _ rfl ?_
  refine gA ?_
  have ea : ((⟨b1, 0, none⟩ : Addr).add (0 * 1)) = ⟨b1, 0, none⟩ := rfl
  refine HUStr.mk ⟨l.toArray⟩ l.length rfl hpos (by show l.length ≤ _; omega) rfl (by have := blk_shape o2; rw [List.length_map] at this; exact this) (Nat.le_refl _) cellsU8 ?_ ?_
  · intro i hi
    have hi' : i < l.length := hi
    rw [ea, add_mk, Nat.zero_add, o2.blk.cell, List.getElem?_map, List.getElem?_eq_getElem hi', idx_txt l hi']
    rfl
  refine gA ?_
  exact ⟨rfl, (x1.offNew f2 (by omega)).offNew (hfreeze_off h2 _ _) (by show h.size ≤ b1; omega)⟩

theorem syntaxError_spec (f : ByteArray) (l : List UInt8) (hl : l.length ≤ 1048576) (h : Heap) (g : Glob h) : HCalls Tryz.prog 165 #[.string f, .string ⟨l.toArray⟩] h fun e h' => ∃ p, e = .returned (.pointer (some p)) ∧ Ext h h' := by
  have g0 := g
  obtain ⟨_, ⟨v, hv, iv⟩, _⟩ := g
  refine c165 (by simp) ?_
  refine gA ?_
  refine HAlt.mk ?_ ?_
  · refine gA ?_
    refine HCall.mk ((clone_spec l hl h).mono ?_)
    rintro e h2 ⟨rfl, x2⟩
    obtain ⟨_, ⟨v, hv, iv⟩, _⟩ := g0.ext x2
    refine gA ?_
    refine HLoad.mk v hv ?_
    rcases iv with rfl | ⟨t, y, rfl⟩
    all_goals
      refine gA ?_
      refine HNew.mk ?_
      refine gA ?_
      exact ⟨_, rfl, x2.trans (Ext.push _ _)⟩
  · refine gA ?_
    refine HLoad.mk v hv ?_
    rcases iv with rfl | ⟨t, y, rfl⟩
    all_goals
      refine gA ?_
      refine HCall.mk ((clone_spec l hl h).mono ?_)
      rintro e h2 ⟨rfl, x2⟩
      refine gA ?_
      refine HNew.mk ?_
      refine gA ?_
      exact ⟨_, rfl, x2.trans (Ext.push _ _)⟩
theorem rangeError_spec (f : ByteArray) (l : List UInt8) (hl : l.length ≤ 1048576) (h : Heap) (g : Glob h) : HCalls Tryz.prog 166 #[.string f, .string ⟨l.toArray⟩] h fun e h' => ∃ p, e = .returned (.pointer (some p)) ∧ Ext h h' := by
  have g0 := g
  obtain ⟨_, _, ⟨v, hv, iv⟩⟩ := g
  refine c166 (by simp) ?_
  refine gA ?_
  refine HAlt.mk ?_ ?_
  · refine gA ?_
    refine HCall.mk ((clone_spec l hl h).mono ?_)
    rintro e h2 ⟨rfl, x2⟩
    obtain ⟨_, _, ⟨v, hv, iv⟩⟩ := g0.ext x2
    refine gA ?_
    refine HLoad.mk v hv ?_
    rcases iv with rfl | ⟨t, y, rfl⟩
    all_goals
      refine gA ?_
      refine HNew.mk ?_
      refine gA ?_
      exact ⟨_, rfl, x2.trans (Ext.push _ _)⟩
  · refine gA ?_
    refine HLoad.mk v hv ?_
    rcases iv with rfl | ⟨t, y, rfl⟩
    all_goals
      refine gA ?_
      refine HCall.mk ((clone_spec l hl h).mono ?_)
      rintro e h2 ⟨rfl, x2⟩
      refine gA ?_
      refine HNew.mk ?_
      refine gA ?_
      exact ⟨_, rfl, x2.trans (Ext.push _ _)⟩
theorem toError_spec (f : ByteArray) (l : List UInt8) (hl : l.length ≤ 1048576) (b s k : Int) (hk : k = 1 ∨ k = 2) (h : Heap) (g : Glob h) : HCalls Tryz.prog 145 #[.string f, .string ⟨l.toArray⟩, .int .i64 b, .int .i64 s, .iface 186 (.int .i64 k)] h fun e h' => ∃ t x, e = .returned (.iface t x) ∧ Ext h h' := by
  refine c145 (by simp) ?_
  rcases hk with rfl | rfl
  · refine gA ?_
    refine eqErr ?_
    refine gA ?_
    refine eqErr ?_
    refine gA ?_
    refine HCall.mk ((rangeError_spec f l hl h g).mono ?_)
    rintro e h2 ⟨p, rfl, x2⟩
    refine gA ?_
    exact ⟨_, _, rfl, x2⟩
  · refine gA ?_
    refine eqErr ?_
    refine gA ?_
    refine HCall.mk ((syntaxError_spec f l hl h g).mono ?_)
    rintro e h2 ⟨p, rfl, x2⟩
    refine gA ?_
    exact ⟨_, _, rfl, x2⟩
def PP (base : Nat) (l : List UInt8) (e : Ending) : Prop :=
  (∃ v, pint base l = some v ∧ e = .returned (.tuple #[.int .i64 v, .nilIface])) ∨ (pint base l = none ∧ ∃ (v : Int) (t : Nat) (x : Value), e = .returned (.tuple #[.int .i64 v, .iface t x]))
theorem parseInt_spec (base : Nat) (hb : base = 10 ∨ base = 16) (l : List UInt8) (hl : l.length ≤ 1048576) (h : Heap) (g : Glob h) : HCalls Tryz.prog 117 #[.string ⟨l.toArray⟩, .int .i64 base, .int .i64 64] h fun e h' => PP base l e ∧ Ext h h' := by
  refine c117 (by simp) ?_
  refine gA ?_
  refine HCall.mk ((parseIntI_spec base hb l hl h).mono ?_)
  rintro e h2 ⟨hpi, x2⟩
  rcases hpi with ⟨v, hv, rfl⟩ | ⟨hn, v, k, rfl, hk⟩
  · refine gA ?_
    exact ⟨.inl ⟨v, hv, rfl⟩, x2⟩
  · refine gA ?_
    refine HCall.mk ((toError_spec _ l hl base 64 k hk h2 (g.ext x2)).mono ?_)
    rintro e h3 ⟨t, x, rfl, x3⟩
    refine gA ?_
    exact ⟨.inr ⟨hn, v, t, x, rfl⟩, x2.trans x3⟩

set_option maxHeartbeats 4000000

def ulist : List UInt8 → List Nat
  | a :: b :: r => (a.toNat * 256 + b.toNat) :: ulist r
  | _ => []
theorem ulist_len : ∀ (l : List UInt8), (ulist l).length = l.length / 2
  | [] => rfl
  | [_] => by simp [ulist]
  | a :: b :: r => by simp only [ulist, List.length_cons, ulist_len r]; omega
theorem ulist_get : ∀ (l : List UInt8) (i : Nat) (h : i < (ulist l).length) (h1 : 2 * i + 1 < l.length), (ulist l)[i] = (l[2 * i]'(by omega)).toNat * 256 + (l[2 * i + 1]).toNat
  | [], i, h, h1 => by simp at h1
  | [_], i, h, h1 => by simp at h1
  | a :: b :: r, 0, h, h1 => by simp [ulist]
  | a :: b :: r, i + 1, h, h1 => by
    have ih := ulist_get r i (by simpa [ulist] using h) (by simp only [List.length_cons] at h1; omega)
    simp only [ulist, List.getElem_cons_succ]
    rw [ih]
    congr 2
theorem ulist_lt (l : List UInt8) : ∀ n ∈ ulist l, n < 65536 := by
  intro n hn
  obtain ⟨i, hi, rfl⟩ := List.getElem_of_mem hn
  have hl := ulist_len l
  rw [ulist_get l i hi (by omega)]
  have h1 := (l[2 * i]'(by omega)).toNat_lt
  have h2 := (l[2 * i + 1]'(by omega)).toNat_lt
  omega
def blankN (n : Nat) : Bool := decide (n = 32 ∨ n = 160 ∨ n = 8232 ∨ n = 8233 ∨ n = 65279 ∨ (9 ≤ n ∧ n ≤ 13))
theorem blankN_iff (n : Nat) : blankN n = true ↔ (n = 32 ∨ n = 160 ∨ n = 8232 ∨ n = 8233 ∨ n = 65279 ∨ (9 ≤ n ∧ n ≤ 13)) := by unfold blankN; rw [decide_eq_true_eq]

theorem and1_i64 (n : Nat) (hn : n < 9223372036854775808) : ibits .and .i64 (n : Int) 1 = ((n % 2 : Nat) : Int) := by
  unfold ibits
  have e1 : BitVec.ofInt (IntKind.bits .i64) (n : Int) = BitVec.ofNat 64 n := by rw [BitVec.ofInt_natCast]; rfl
  have e3 : ((BitVec.ofNat 64 n) &&& (BitVec.ofNat 64 1)).toNat = n % 2 := by
    rw [BitVec.toNat_and, BitVec.toNat_ofNat, BitVec.toNat_ofNat, Nat.mod_eq_of_lt (by omega)]
    exact Nat.and_two_pow_sub_one_eq_mod n 1
  show IntKind.i64.wrap (((BitVec.ofInt (IntKind.bits .i64) (n : Int)) &&& (BitVec.ofInt (IntKind.bits .i64) 1)).toNat : Int) = _
  rw [e1]
  show IntKind.i64.wrap ((((BitVec.ofNat 64 n) &&& (BitVec.ofNat 64 1)).toNat : Nat) : Int) = _
  rw [e3]
  exact wrap_i64 (by omega)
theorem or_i64 (a b : Nat) (ha : a < 256) (hb : b < 256) : ibits .or .i64 ((a * 256 : Nat) : Int) (b : Int) = ((a * 256 + b : Nat) : Int) := by
  unfold ibits
  have e1 : BitVec.ofInt (IntKind.bits .i64) ((a * 256 : Nat) : Int) = BitVec.ofNat 64 (a * 256) := by rw [BitVec.ofInt_natCast]; rfl
  have e2 : BitVec.ofInt (IntKind.bits .i64) (b : Int) = BitVec.ofNat 64 b := by rw [BitVec.ofInt_natCast]; rfl
  have e3 : ((BitVec.ofNat 64 (a * 256)) ||| (BitVec.ofNat 64 b)).toNat = a * 256 + b := by
    rw [BitVec.toNat_or, BitVec.toNat_ofNat, BitVec.toNat_ofNat, Nat.mod_eq_of_lt (by omega), Nat.mod_eq_of_lt (by omega)]
    have := Nat.shiftLeft_add_eq_or_of_lt (i := 8) (b := b) (by omega) a
    rw [Nat.shiftLeft_eq] at this
    have e : a * 2 ^ 8 = a * 256 := rfl
    rw [e] at this
    exact this.symm
  show IntKind.i64.wrap (((BitVec.ofInt (IntKind.bits .i64) ((a * 256 : Nat) : Int)) ||| (BitVec.ofInt (IntKind.bits .i64) (b : Int))).toNat : Int) = _
  rw [e1, e2]
  show IntKind.i64.wrap ((((BitVec.ofNat 64 (a * 256)) ||| (BitVec.ofNat 64 b)).toNat : Nat) : Int) = _
  rw [e3]
  exact wrap_i64 (by omega)

theorem ucheck_spec (l : List UInt8) (hl : l.length ≤ 2097152) (h : Heap) : HCalls Tryz.prog 111 #[.string ⟨l.toArray⟩] h fun e h' => e = .returned (.bool (decide (l.length % 2 = 0))) ∧ h' = h := by
  refine c111 (by simp) ?_
  refine gA ?_
  refine ⟨?_, rfl⟩
  have e1 := and1_i64 l.length (by omega)
  show Ending.returned (.bool (ibits .and .i64 (l.length : Int) 1 == 0)) = _
  rw [e1]
  by_cases h : l.length % 2 = 0
  · rw [h]; rfl
  · rw [decide_eq_false h]
    congr 2
    rw [beq_eq_false_iff_ne]; omega
theorem ulen_spec (l : List UInt8) (hl : l.length ≤ 2097152) (h : Heap) : HCalls Tryz.prog 112 #[.string ⟨l.toArray⟩] h fun e h' => e = .returned (.int .i64 (l.length / 2 : Nat)) ∧ h' = h := by
  have hs : (⟨l.toArray⟩ : ByteArray).size = l.length := rfl
  have e2 : ((l.length : Nat) : Int).tdiv 2 = ((l.length / 2 : Nat) : Int) := (Int.ofNat_tdiv l.length 2).symm
  refine c112 (by simp) ?_
  refine gA ?_
  refine HInt.mk (l.length / 2 : Nat) (by rw [hs, e2]; exact wrap_i64 (by omega)) ?_
  refine gA ?_
  exact ⟨rfl, rfl⟩
theorem at_spec (l : List UInt8) (hl : l.length ≤ 2097152) (i : Nat) (hi : i < (ulist l).length) (h : Heap) : HCalls Tryz.prog 113 #[.string ⟨l.toArray⟩, .int .i64 i] h fun e h' => e = .returned (.int .i64 ((ulist l)[i] : Nat)) ∧ h' = h := by
  have hs : (⟨l.toArray⟩ : ByteArray).size = l.length := rfl
  have hll := ulist_len l
  have h1 : 2 * i + 1 < l.length := by omega
  have h0 : 2 * i < l.length := by omega
  have eg := ulist_get l i hi h1
  have x0 := idx_txt l h0
  have x1 := idx_txt l h1
  have b0 := (l[2 * i]).toNat_lt
  have b1 := (l[2 * i + 1]).toNat_lt
  refine c113 (by simp) ?_
  have q1 : decide ((i : Int) < 0) = false := decide_eq_false (by omega)
  have q2 : decide ((i : Int) ≥ ((l.length / 2 : Nat) : Int)) = false := decide_eq_false (by omega)
  refine gA ?_
  refine HCall.mk ((ulen_spec l hl _).mono ?_)
  rintro e _ ⟨rfl, rfl⟩
  refine gA ?_
  refine HIdx.mk (2 * i) (by omega) h0 ?_
  rw [x0]
  refine gA ?_
  refine HInt.mk ((l[2 * i].toNat * 256 : Nat) : Int) ?_ ?_
  · have e : (2 : Int) ^ (min (Int.toNat 8) (IntKind.bits .i64)) = 256 := by decide
    rw [e, show ((l[2 * i].toNat : Nat) : Int) * 256 = ((l[2 * i].toNat * 256 : Nat) : Int) by omega]
    exact wrap_i64 (by omega)
  refine gA ?_
  refine HIdx.mk (2 * i + 1) (by omega) h1 ?_
  rw [x1]
  refine gA ?_
  refine ⟨?_, rfl⟩
  rw [eg, ← or_i64 _ _ (by omega) (by omega)]
  rfl
theorem blank_spec (n : Nat) (h : Heap) : HCalls Tryz.prog 115 #[.int .i64 n] h fun e h' => e = .returned (.bool (blankN n)) ∧ h' = h := by
  refine c115 (by simp) ?_
  have fin : ∀ b : Bool, (b = true ↔ (n = 32 ∨ n = 160 ∨ n = 8232 ∨ n = 8233 ∨ n = 65279 ∨ (9 ≤ n ∧ n ≤ 13))) → b = blankN n := by
    intro b hb; rw [Bool.eq_iff_iff, hb, blankN_iff]
  ((conv=>whnf);repeat'(first|((with_reducible refine ZM ?_ ?_);(focus rfl);(conv=>whnf))|((with_reducible first|refine Z1 ?_|refine Z2 ?_|refine Z3 ?_|refine Z4 ?_|refine Z9 (by assumption) rfl ?_|refine Z5 ?_);(conv=>whnf))|((with_reducible refine HIf.mk (fun q=> ?_) (fun q=> ?_))<;>(conv=>whnf))))
  all_goals
    refine ⟨?_, rfl⟩
    refine congrArg (fun b => Ending.returned (.bool b)) (fin _ ?_)
    simp only [decide_eq_true_eq, decide_eq_false_iff_not, beq_iff_eq, beq_eq_false_iff_ne, Bool.false_eq_true, ne_eq, true_iff, false_iff] at *
    omega
theorem solid_spec (n : Nat) (h : Heap) : HCalls Tryz.prog 114 #[.int .i64 n] h fun e h' => e = .returned (.bool (!blankN n)) ∧ h' = h := by
  refine c114 (by simp) ?_
  refine gA ?_
  refine HCall.mk ((blank_spec n h).mono ?_)
  rintro e _ ⟨rfl, rfl⟩
  refine gA ?_
  exact ⟨rfl, rfl⟩
theorem ixFunc_spec {a : Option Addr} {c : Nat} {l : List Nat} {h : Heap} (x : Sl h 1 a l.length c (l.map natV)) (hn : l.length ≤ 2097152) :
    HCalls Tryz.prog 116 #[.slice a l.length c, .func (.func 114) #[] #[]] h fun e h' => h' = h ∧ ((l.dropWhile blankN = [] ∧ e = .returned (.int .i64 (-1))) ∨ (∃ i : Nat, i < l.length ∧ e = .returned (.int .i64 i) ∧ l.dropWhile blankN = l.drop i ∧ ∃ hi : i < l.length, blankN l[i] = false)) := by
  refine c116 (by simp) ?_
  refine gA ?_
  refine loop_rule [8] (fun vs h' => ∃ (i : Nat), vs = [.int .i64 i] ∧ i ≤ l.length ∧ l.dropWhile blankN = (l.drop i).dropWhile blankN ∧ h' = h)
    (fun vs _ => match vs with | [.int _ i] => l.length - i.toNat | _ => 0) rfl ?_ ?_
  · exact ⟨0, rfl, by omega, rfl, rfl⟩
  intro u h1 v8
  rintro ⟨i, e, hi, hz, rfl⟩
  cases e
  refine gA ?_
  refine HIf.mk (fun hlt => ?_) (fun hlt => ?_)
  · have hi1 : i < l.length := by have := of_decide_eq_true hlt; omega
    have hmu : l.length - ((i : Int) + 1).toNat < l.length - ((i : Int)).toNat := by omega
    have hdrop : l.drop i = l[i] :: l.drop (i + 1) := List.drop_eq_getElem_cons hi1
    refine gA ?_
    refine HIdx.mk i rfl hi1 ?_
    refine sl_some x hi1 fun p ep => ?_
    refine gA ?_
    refine x.load ep (by simpa using hi1) ?_
    rw [List.getElem_map]
    unfold natV
    refine gA ?_
    refine HCall.mk ((solid_spec l[i] _).mono ?_)
    rintro e _ ⟨rfl, rfl⟩
    cases hb : blankN l[i]
    · refine gA ?_
      refine ⟨rfl, .inr ⟨i, hi1, rfl, ?_, hi1, hb⟩⟩
      rw [hz, hdrop, List.dropWhile_cons, hb]; simp
    · refine gA ?_
      refine ⟨⟨i + 1, rfl, by omega, ?_, rfl⟩, hmu⟩
      rw [hz, hdrop, List.dropWhile_cons, hb]; simp
  · have hge := of_decide_eq_false hlt
    obtain rfl : i = l.length := by omega
    rw [List.drop_length] at hz
    refine gA ?_
    exact ⟨rfl, .inl ⟨hz, rfl⟩⟩

set_option maxHeartbeats 4000000

def trimE (l : List Nat) : List Nat := (l.reverse.dropWhile blankN).reverse
theorem trimE_blank {m : List Nat} {b : Nat} (h : blankN b = true) : trimE (m ++ [b]) = trimE m := by unfold trimE; rw [List.reverse_append]; simp [h]
theorem trimE_solid {m : List Nat} {b : Nat} (h : blankN b = false) : trimE (m ++ [b]) = m ++ [b] := by unfold trimE; rw [List.reverse_append]; simp [h]
def badN (n : Nat) : Bool := decide (127 < n ∨ n = 95)
def hexR : List UInt8 → Option (List UInt8)
  | a :: b :: c :: r => if a.toNat = 48 ∧ (b.toNat = 120 ∨ b.toNat = 88) then some (c :: r) else none
  | _ => none
def readT (tx : List UInt8) : Option Int := match hexR tx with
  | some [] => none
  | some (c :: r) => if c.toNat = 45 ∨ c.toNat = 43 then none else pint 16 (c :: r)
  | none => pint 10 tx
def okS (o : Option Int) : Option Int := match o with
  | some v => if sfI v = true then some v else none
  | none => none
def readU (t : List Nat) : Option Int := if t = [] then some 0 else if t.any badN = true then none else okS (readT (t.map UInt8.ofNat))
def readN (l : List UInt8) : Option Int := if l.length % 2 = 0 then readU (trimE ((ulist l).dropWhile blankN)) else none
theorem take_drop_sl {h : Heap} {a : Option Addr} {c i j : Nat} {l : List Nat} (x : Sl h 1 a l.length c (l.map natV)) (hij : i ≤ j) (hj : j ≤ l.length) :
    Sl h 1 (a.map fun p => movedTo p c i 1) ((l.take j).drop i).length (c - i) (((l.take j).drop i).map natV) := by
  have := x.slice (i := i) (j := j) hij hj
  rw [Nat.mul_one, Nat.mul_one, ← List.map_take, ← List.map_drop] at this
  have e : ((l.take j).drop i).length = j - i := by rw [List.length_drop, List.length_take]; omega
  rw [e]; exact this
theorem extract_take (l : List UInt8) (k : Nat) : (⟨l.toArray⟩ : ByteArray).extract 0 k = ⟨(l.take k).toArray⟩ := by
  apply ByteArray.ext
  rw [ByteArray.data_extract]
  show (l.toArray).extract 0 k = (l.take k).toArray
  simp
theorem extract_drop (l : List UInt8) (k : Nat) : (⟨l.toArray⟩ : ByteArray).extract k (⟨l.toArray⟩ : ByteArray).size = ⟨(l.drop k).toArray⟩ := by
  apply ByteArray.ext
  rw [ByteArray.data_extract]
  show (l.toArray).extract k l.toArray.size = (l.drop k).toArray
  simp
  rw [List.take_of_length_le (by rw [List.length_drop]; omega)]

theorem strEq2 (a b c : UInt8) (r : List UInt8) (x y : UInt8) : strEq ((⟨(a :: b :: c :: r).toArray⟩ : ByteArray).extract 0 2) ⟨#[x, y]⟩ = decide (a.toNat = x.toNat ∧ b.toNat = y.toNat) := by
  rw [extract_take, Bool.eq_iff_iff, strEq_iff, decide_eq_true_eq]
  constructor
  · intro h
    have h1 : [a, b].toArray = #[x, y] := congrArg ByteArray.data h
    have h2 : [a, b] = [x, y] := congrArg Array.toList h1
    simp only [List.cons.injEq, and_true] at h2
    rw [h2.1, h2.2]; exact ⟨rfl, rfl⟩
  · rintro ⟨h1, h2⟩
    rw [UInt8.toNat.inj h1, UInt8.toNat.inj h2]
    rfl
theorem told_okS (v : Int) : nTold v true = okS (some v) := by unfold nTold okS; simp

theorem read_spec (l : List UInt8) (hl : l.length ≤ 2097152) (h : Heap) (g : Glob h) : HCalls Tryz.prog 64 #[.string ⟨l.toArray⟩] h fun e h' => e = .returned (numR (readN l)) ∧ Ext h h' := by
  have hs : (⟨l.toArray⟩ : ByteArray).size = l.length := rfl
  have hul := ulist_len l
  have g0 := g
  refine c64 (by simp) ?_
  refine gA ?_
  refine HCall.mk ((ucheck_spec l hl h).mono ?_)
  rintro e h ⟨rfl, rfl⟩
  by_cases hodd : ¬ l.length % 2 = 0
  · rw [decide_eq_false hodd]
    have er : readN l = none := by unfold readN; rw [if_neg hodd]
    rw [er]
    refine gA ?_
    exact ⟨rfl, Ext.refl _⟩
  have hodd := Decidable.not_not.1 hodd
  rw [decide_eq_true hodd]
  have er : readN l = readU (trimE ((ulist l).dropWhile blankN)) := by unfold readN; rw [if_pos hodd]
  rw [er]
  clear er
  refine gA ?_
  refine HCall.mk ((ulen_spec l hl _).mono ?_)
  rintro e h ⟨rfl, rfl⟩
  rw [← hul]
  refine gA ?_
  refine loop_rule [4, 20] (fun vs h' => ∃ (i : Nat) (a : Option Addr) (c : Nat), vs = [.slice a i c, .int .i64 i] ∧ i ≤ (ulist l).length ∧ Own h' h.size 3 1 a i c (((ulist l).take i).map natV) ∧ Ext h h')
    (fun vs _ => match vs with | [_, .int _ i] => (ulist l).length - i.toNat | _ => 0) rfl ?_ ?_
  · exact ⟨0, none, 0, rfl, by omega, Own.nil _ _ _ _, Ext.refl _⟩
  intro u h2 v4 v20
  rintro ⟨i, a, c, e, hi, w2, x2⟩
  cases e
  refine gA ?_
  refine HIf.mk (fun hlt => ?_) (fun hlt => ?_)
  · have hi1 : i < (ulist l).length := by have := of_decide_eq_true hlt; omega
    have hmu : (ulist l).length - ((i : Int) + 1).toNat < (ulist l).length - ((i : Int)).toNat := by omega
    refine gA ?_
    refine HCall.mk ((at_spec l hl i hi1 _).mono ?_)
    rintro e _ ⟨rfl, rfl⟩
    refine gA ?_
    refine new_own (e := 3) 1 1 [natV (ulist l)[i]] rfl rfl ?_
    intro h3 b3 w3 x3 z3 hb3
    refine gA ?_
    refine w3.sl.cells ?_
    refine Own.grow (w2.ext x3) (by have := x2.1; have := x3.1; omega) rfl rfl (by intro v hv; simp only [List.mem_singleton] at hv; subst hv; rfl) (by omega) ?_
    intro h4 a4 c4 w4 g4
    have htk : (ulist l).take (i + 1) = (ulist l).take i ++ [(ulist l)[i]] := by rw [List.take_add_one, List.getElem?_eq_getElem hi1]; rfl
    have ew : ((ulist l).take i).map natV ++ [natV (ulist l)[i]] = ((ulist l).take (i + 1)).map natV := by rw [htk, List.map_append]; rfl
    rw [ew] at w4
    refine gA ?_
    exact ⟨⟨i + 1, a4, c4, rfl, by omega, w4, (x2.trans x3).keep (g4.kept (by have := x2.1; have := x3.1; omega) fun p ep => (w2.lt p ep).1)⟩, hmu⟩
  have hge := of_decide_eq_false hlt
  obtain rfl : i = (ulist l).length := by omega
  rw [List.take_length] at w2
  have s2 := w2.sl
  have hlt16 := ulist_lt l
  have hll : (ulist l).length ≤ 1048576 := by omega
  generalize ulist l = ul at *
  clear w2
  refine gA ?_
  refine HCall.mk ((ixFunc_spec s2 (by omega)).mono ?_)
  rintro e h2 ⟨rfl, hix⟩
  rcases hix with ⟨hd, rfl⟩ | ⟨fr, hfr, rfl, hd, _, hsol⟩
  · have er : readU (trimE (ul.dropWhile blankN)) = some 0 := by rw [hd]; rfl
    rw [er]
    refine gA ?_
    exact ⟨rfl, x2⟩
  rw [hd]
  have s3 := take_drop_sl s2 (i := fr) (j := ul.length) (by omega) (Nat.le_refl _)
  rw [List.take_length] at s3
  have hc2 := s2.2.1
  have q0 : decide ((fr : Int) < 0) = false := decide_eq_false (by omega)
  have hdn : (ul.drop fr).length = ul.length - fr := List.length_drop
  have hd0 : ∃ h : 0 < (ul.drop fr).length, blankN (ul.drop fr)[0] = false := ⟨by omega, by simpa using hsol⟩
  have hd16 : ∀ n ∈ ul.drop fr, n < 65536 := fun n hn => hlt16 n (List.mem_of_mem_drop hn)
  rw [hdn] at s3
  refine gA ?_
  refine HBound.mk fr rfl (by omega) ?_
  refine gB ?_
  rw [← hdn] at s3 ⊢
  generalize ul.drop fr = d at *
  have hdl : d.length ≤ 1048576 := by omega
  generalize a.map (fun p => movedTo p c fr 1) = a3 at s3 ⊢
  generalize c - fr = c3 at s3 ⊢
  clear hfr hc2 q0 hsol hd hdn s2 hlt16 hll hge hlt hul g
  refine cut_rule [4] (fun vs h' => ∃ (m : List Nat) (a4 : Option Addr) (c4 : Nat), vs = [.slice a4 m.length c4] ∧ m ≠ [] ∧ m.length ≤ 1048576 ∧ (∀ n ∈ m, n < 65536) ∧ Sl h' 1 a4 m.length c4 (m.map natV) ∧ trimE d = m ∧ h' = h2) rfl ?_ ?_
  · refine gA ?_
    refine loop_rule [4] (fun vs h' => ∃ (m : List Nat) (a4 : Option Addr) (c4 : Nat), vs = [.slice a4 m.length c4] ∧ (∃ h : 0 < m.length, blankN m[0] = false) ∧ m.length ≤ 1048576 ∧ (∀ n ∈ m, n < 65536) ∧ Sl h' 1 a4 m.length c4 (m.map natV) ∧ trimE d = trimE m ∧ h' = h2)
      (fun vs _ => match vs with | [.slice _ n _] => n | _ => 0) rfl ?_ ?_
    · exact ⟨d, a3, c3, rfl, hd0, hdl, hd16, s3, rfl, rfl⟩
    intro u h2 v4
    rintro ⟨m, a4, c4, e, ⟨hm0, hms⟩, hml, hm16, s4, htr, rfl⟩
    cases e
    have hc4 := s4.2.1
    have hi1 : m.length - 1 < m.length := by omega
    have hsplit : m = m.take (m.length - 1) ++ [m[m.length - 1]] := by
      have := List.take_append_drop (m.length - 1) m
      have hd : m.drop (m.length - 1) = [m[m.length - 1]] := by rw [List.drop_eq_getElem_cons hi1, List.drop_of_length_le (by omega)]
      rw [hd] at this
      exact this.symm
    refine gA ?_
    refine HIdx.mk (m.length - 1) (by omega) hi1 ?_
    refine sl_some s4 hi1 fun p ep => ?_
    refine gA ?_
    refine s4.load ep (by simpa using hi1) ?_
    rw [List.getElem_map]
    unfold natV
    refine gA ?_
    refine HCall.mk ((blank_spec m[m.length - 1] _).mono ?_)
    rintro e h2 ⟨rfl, rfl⟩
    cases hb : blankN m[m.length - 1]
    · refine gA ?_
      refine ⟨m, a4, c4, rfl, by intro e; rw [e] at hm0; simp at hm0, hml, hm16, s4, ?_, rfl⟩
      rw [htr]
      conv => lhs; rw [hsplit]
      rw [trimE_solid hb]
      exact hsplit.symm
    · have hne : m.length - 1 ≠ 0 := by
        intro e
        have : m[m.length - 1] = m[0] := by congr 1
        rw [this, hms] at hb; cases hb
      refine gA ?_
      refine HBound.mk (m.length - 1) (by omega) (by omega) ?_
      refine gA ?_
      have s5 := take_drop_sl s4 (i := 0) (j := m.length - 1) (by omega) (by omega)
      rw [List.drop_zero] at s5
      have hlt' : (m.take (m.length - 1)).length = m.length - 1 := by rw [List.length_take]; omega
      refine ⟨⟨m.take (m.length - 1), _, _, by rw [hlt']; rfl, ⟨by omega, ?_⟩, by omega, fun n hn => hm16 n (List.mem_of_mem_take hn), s5, ?_, rfl⟩, ?_⟩
      · rw [List.getElem_take]; exact hms
      · rw [htr]
        conv => lhs; rw [hsplit]
        rw [trimE_blank hb]
      · show m.length - 1 - 0 < m.length
        omega
  intro u h2 v4
  rintro ⟨t, a4, c4, e, hne, htl, ht16, s4, htr, rfl⟩
  cases e
  rw [htr]
  have hpos : 0 < t.length := List.length_pos_iff.2 hne
  clear htr hd0 hd16 s3 hdl
  refine gA ?_
  refine HBound.mk t.length rfl (by omega) ?_
  refine HBound.mk t.length rfl (by omega) ?_
  refine gA ?_
  refine HMust.mk ⟨Nat.le_refl _, by omega⟩ ?_
  refine new_own (e := 5) 1 t.length (List.replicate t.length (.int .u8 0)) (by rw [zeroCells_one]) (by rw [List.length_replicate, Nat.mul_one]) ?_
  intro h5 b5 w5 x5 z5 hb5
  refine gB ?_
  refine cut_rule [8] (fun vs h' => ∃ (tx : List UInt8), vs = [.slice (some ⟨b5, 0, none⟩) tx.length tx.length] ∧ tx = t.map UInt8.ofNat ∧ t.any badN = false ∧ Sl h' 1 (some ⟨b5, 0, none⟩) tx.length tx.length (tx.map byteV) ∧ Ext h2 h') rfl ?_ ?_
  · refine gA ?_
    refine loop_rule [55] (fun vs h' => ∃ (i : Nat), vs = [.int .i64 i] ∧ i ≤ t.length ∧ (t.take i).any badN = false ∧ Own h' h2.size 5 1 (some ⟨b5, 0, none⟩) t.length t.length ((((t.take i).map UInt8.ofNat) ++ List.replicate (t.length - i) 0).map byteV) ∧ Ext h2 h')
      (fun vs _ => match vs with | [.int _ i] => t.length - i.toNat | _ => 0) rfl ?_ ?_
    · exact ⟨0, rfl, by omega, by simp, by simpa [byteV] using w5, x5⟩
    intro u h6 v55
    rintro ⟨i, e, hi, hbad, w6, x6⟩
    cases e
    refine gA ?_
    refine HIf.mk (fun hlt => ?_) (fun hlt => ?_)
    · have hi1 : i < t.length := by have := of_decide_eq_true hlt; omega
      have hmu : t.length - ((i : Int) + 1).toNat < t.length - ((i : Int)).toNat := by omega
      have hti := ht16 _ (List.getElem_mem hi1)
      have htk : t.take (i + 1) = t.take i ++ [t[i]] := by rw [List.take_add_one, List.getElem?_eq_getElem hi1]; rfl
      refine gA ?_
      refine HIdx.mk i rfl hi1 ?_
      refine sl_some s4 hi1 fun p ep => ?_
      refine gA ?_
      refine (s4.ext x6).load ep (by simpa using hi1) ?_
      rw [List.getElem_map]
      unfold natV
      by_cases hb1 : badN t[i] = true
      · have er : readU t = none := by
          unfold readU
          rw [if_neg hne, if_pos]
          rw [List.any_eq_true]
          exact ⟨t[i], List.getElem_mem hi1, hb1⟩
        rw [er]
        unfold badN at hb1
        rw [decide_eq_true_eq] at hb1
        by_cases h127 : 127 < t[i]
        · have q1 : decide ((t[i] : Int) > 127) = true := decide_eq_true (by omega)
          refine gA ?_
          exact ⟨rfl, x2.trans x6⟩
        · have q1 : decide ((t[i] : Int) > 127) = false := decide_eq_false (by omega)
          have q2 : ((t[i] : Int) == 95) = true := by rw [beq_iff_eq]; omega
          refine gA ?_
          exact ⟨rfl, x2.trans x6⟩
      · have hb0 : badN t[i] = false := by simpa using hb1
        unfold badN at hb1
        rw [decide_eq_true_eq] at hb1
        have q1 : decide ((t[i] : Int) > 127) = false := decide_eq_false (by omega)
        have q2 : ((t[i] : Int) == 95) = false := by rw [beq_eq_false_iff_ne]; omega
        refine gA ?_
        refine HIdx.mk i rfl hi1 ?_
        refine sl_some w6.sl hi1 fun p' ep' => ?_
        refine gA ?_
        refine Own.store w6 ep' hi1 rfl ?_
        intro h7 f7 hge z7 w7
        have e7 : ((((t.take i).map UInt8.ofNat) ++ List.replicate (t.length - i) 0).map byteV).set i (.int .u8 (t[i] : Nat)) = ((((t.take (i + 1)).map UInt8.ofNat) ++ List.replicate (t.length - (i + 1)) 0).map byteV) := by
          have h1 : Value.int .u8 (t[i] : Nat) = byteV (UInt8.ofNat t[i]) := by rw [byteV_ofNat, Nat.mod_eq_of_lt (by omega)]
          have h2 : t.length - i = t.length - (i + 1) + 1 := by omega
          have h3 : ((t.take i).map UInt8.ofNat).length = i := by rw [List.length_map, List.length_take]; omega
          rw [h1, ← List.map_set, htk, h2, List.replicate_succ, List.set_append_right _ _ (by omega), h3, Nat.sub_self, List.set_cons_zero, List.map_append (f := UInt8.ofNat), List.append_assoc]
          rfl
        replace w7 : Own h7 h2.size 5 1 (some ⟨b5, 0, none⟩) t.length t.length (((((t.take i).map UInt8.ofNat) ++ List.replicate (t.length - i) 0).map byteV).set i (.int .u8 (t[i] : Nat))) := w7
        rw [e7] at w7
        refine gA ?_
        refine ⟨⟨i + 1, rfl, by omega, ?_, w7, x6.offNew f7 hge⟩, hmu⟩
        rw [htk, List.any_append, hbad]; simp [hb0]
    · have hge := of_decide_eq_false hlt
      obtain rfl : i = t.length := by omega
      rw [List.take_length] at hbad w6
      rw [Nat.sub_self, List.replicate_zero, List.append_nil] at w6
      have el : (t.map UInt8.ofNat).length = t.length := List.length_map ..
      refine gA ?_
      exact ⟨t.map UInt8.ofNat, by rw [el]; rfl, rfl, hbad, by rw [el]; exact w6.sl, x6⟩
  intro u h6 v8
  rintro ⟨tx, e, htx, hbad, s6, x6⟩
  cases e
  have er : readU t = okS (readT tx) := by unfold readU; rw [if_neg hne, if_neg (by rw [hbad]; simp), htx]
  have htxl : tx.length ≤ 1048576 := by rw [htx, List.length_map]; omega
  have htx0 : 0 < tx.length := by rw [htx, List.length_map]; omega
  rw [er]
  have x06 := x2.trans x6
  have g6 : Glob h6 := g0.ext x06
  rw [show tx.length = t.length by rw [htx, List.length_map]] at s6
  clear s4 w5 hbad er
  refine gA ?_
  refine s6.bytes ?_
  clear htx
  have hts : (⟨tx.toArray⟩ : ByteArray).size = tx.length := rfl
  by_cases hlong : tx.length > 2
  · have q1 : decide (((⟨tx.toArray⟩ : ByteArray).size : Int) > 2) = true := decide_eq_true (by omega)
    obtain ⟨a, b, c, r, rfl⟩ : ∃ a b c r, tx = a :: b :: c :: r := by
      match tx, hlong with
      | a :: b :: c :: r, _ => exact ⟨a, b, c, r, rfl⟩
    have sA := strEq2 a b c r 48 120
    have sB := strEq2 a b c r 48 88
    rw [show ((48 : UInt8).toNat) = 48 from rfl, show ((120 : UInt8).toNat) = 120 from rfl] at sA
    rw [show ((48 : UInt8).toNat) = 48 from rfl, show ((88 : UInt8).toNat) = 88 from rfl] at sB
    have hsz : 2 ≤ (⟨(a :: b :: c :: r).toArray⟩ : ByteArray).size := by rw [hts]; omega
    have ed : (⟨(a :: b :: c :: r).toArray⟩ : ByteArray).extract 2 (⟨(a :: b :: c :: r).toArray⟩ : ByteArray).size = ⟨(c :: r).toArray⟩ := extract_drop _ 2
    have ec : (⟨(c :: r).toArray⟩ : ByteArray).data[0]! = c := by simp
    refine gA ?_
    refine HBound.mk 2 rfl hsz ?_
    rcases (by omega : (a.toNat = 48 ∧ b.toNat = 120) ∨ (a.toNat = 48 ∧ b.toNat = 88) ∨ ¬(a.toNat = 48 ∧ (b.toNat = 120 ∨ b.toNat = 88))) with ⟨ha, hb⟩ | ⟨ha, hb⟩ | hno
    · have qa : strEq ((⟨(a :: b :: c :: r).toArray⟩ : ByteArray).extract 0 2) ⟨#[48, 120]⟩ = true := by rw [sA]; exact decide_eq_true ⟨ha, hb⟩
      have er : readT (a :: b :: c :: r) = if c.toNat = 45 ∨ c.toNat = 43 then none else pint 16 (c :: r) := by
        have hh : hexR (a :: b :: c :: r) = some (c :: r) := if_pos ⟨ha, by omega⟩
        unfold readT; rw [hh]
      rw [er]
      refine gA ?_
      refine HBound.mk 2 rfl hsz ?_
      rw [ed]
      by_cases h45 : c.toNat = 45
      · have q45 : (((⟨(c :: r).toArray⟩ : ByteArray).data[0]!.toNat : Int) == 45) = true := by rw [ec, beq_iff_eq]; omega
        rw [if_pos (Or.inl h45)]
        refine gA ?_
        refine HIdx.mk 0 rfl (by show 0 < (c :: r).length; simp) ?_
        refine gA ?_
        exact ⟨rfl, x06⟩
      have q45 : (((⟨(c :: r).toArray⟩ : ByteArray).data[0]!.toNat : Int) == 45) = false := by rw [ec, beq_eq_false_iff_ne]; omega
      by_cases h43 : c.toNat = 43
      · have q43 : (((⟨(c :: r).toArray⟩ : ByteArray).data[0]!.toNat : Int) == 43) = true := by rw [ec, beq_iff_eq]; omega
        rw [if_pos (Or.inr h43)]
        refine gA ?_
        refine HIdx.mk 0 rfl (by show 0 < (c :: r).length; simp) ?_
        refine gA ?_
        refine HIdx.mk 0 rfl (by show 0 < (c :: r).length; simp) ?_
        refine gA ?_
        exact ⟨rfl, x06⟩
      have q43 : (((⟨(c :: r).toArray⟩ : ByteArray).data[0]!.toNat : Int) == 43) = false := by rw [ec, beq_eq_false_iff_ne]; omega
      rw [if_neg (by omega)]
      refine gA ?_
      refine HIdx.mk 0 rfl (by show 0 < (c :: r).length; simp) ?_
      refine gA ?_
      refine HIdx.mk 0 rfl (by show 0 < (c :: r).length; simp) ?_
      refine gA ?_
      refine HCall.mk ((parseInt_spec 16 (Or.inr rfl) (c :: r) (by simp only [List.length_cons] at htxl ⊢; omega) _ g6).mono ?_)
      rintro e h7 ⟨hp, x7⟩
      rcases hp with ⟨v, hv, rfl⟩ | ⟨hn, v, t', x, rfl⟩
      · rw [hv]
        refine gA ?_
        refine HCall.mk ((told_spec v true _).mono ?_)
        rintro e h8 ⟨rfl, rfl⟩
        rw [told_okS]
        cases okS (some v)
        · refine gA ?_
          exact ⟨rfl, x06.trans x7⟩
        · refine gA ?_
          exact ⟨rfl, x06.trans x7⟩
      · rw [hn]
        refine gA ?_
        refine HCall.mk ((told_spec v false _).mono ?_)
        rintro e h8 ⟨rfl, rfl⟩
        refine gA ?_
        exact ⟨rfl, x06.trans x7⟩
    · have qa : strEq ((⟨(a :: b :: c :: r).toArray⟩ : ByteArray).extract 0 2) ⟨#[48, 120]⟩ = false := by rw [sA]; exact decide_eq_false (by omega)
      have qb : strEq ((⟨(a :: b :: c :: r).toArray⟩ : ByteArray).extract 0 2) ⟨#[48, 88]⟩ = true := by rw [sB]; exact decide_eq_true ⟨ha, hb⟩
      have er : readT (a :: b :: c :: r) = if c.toNat = 45 ∨ c.toNat = 43 then none else pint 16 (c :: r) := by
        have hh : hexR (a :: b :: c :: r) = some (c :: r) := if_pos ⟨ha, by omega⟩
        unfold readT; rw [hh]
      rw [er]
      refine gA ?_
      refine HBound.mk 2 rfl hsz ?_
      refine gA ?_
      refine HBound.mk 2 rfl hsz ?_
      rw [ed]
      by_cases h45 : c.toNat = 45
      · have q45 : (((⟨(c :: r).toArray⟩ : ByteArray).data[0]!.toNat : Int) == 45) = true := by rw [ec, beq_iff_eq]; omega
        rw [if_pos (Or.inl h45)]
        refine gA ?_
        refine HIdx.mk 0 rfl (by show 0 < (c :: r).length; simp) ?_
        refine gA ?_
        exact ⟨rfl, x06⟩
      have q45 : (((⟨(c :: r).toArray⟩ : ByteArray).data[0]!.toNat : Int) == 45) = false := by rw [ec, beq_eq_false_iff_ne]; omega
      by_cases h43 : c.toNat = 43
      · have q43 : (((⟨(c :: r).toArray⟩ : ByteArray).data[0]!.toNat : Int) == 43) = true := by rw [ec, beq_iff_eq]; omega
        rw [if_pos (Or.inr h43)]
        refine gA ?_
        refine HIdx.mk 0 rfl (by show 0 < (c :: r).length; simp) ?_
        refine gA ?_
        refine HIdx.mk 0 rfl (by show 0 < (c :: r).length; simp) ?_
        refine gA ?_
        exact ⟨rfl, x06⟩
      have q43 : (((⟨(c :: r).toArray⟩ : ByteArray).data[0]!.toNat : Int) == 43) = false := by rw [ec, beq_eq_false_iff_ne]; omega
      rw [if_neg (by omega)]
      refine gA ?_
      refine HIdx.mk 0 rfl (by show 0 < (c :: r).length; simp) ?_
      refine gA ?_
      refine HIdx.mk 0 rfl (by show 0 < (c :: r).length; simp) ?_
      refine gA ?_
      refine HCall.mk ((parseInt_spec 16 (Or.inr rfl) (c :: r) (by simp only [List.length_cons] at htxl ⊢; omega) _ g6).mono ?_)
      rintro e h7 ⟨hp, x7⟩
      rcases hp with ⟨v, hv, rfl⟩ | ⟨hn, v, t', x, rfl⟩
      · rw [hv]
        refine gA ?_
        refine HCall.mk ((told_spec v true _).mono ?_)
        rintro e h8 ⟨rfl, rfl⟩
        rw [told_okS]
        cases okS (some v)
        · refine gA ?_
          exact ⟨rfl, x06.trans x7⟩
        · refine gA ?_
          exact ⟨rfl, x06.trans x7⟩
      · rw [hn]
        refine gA ?_
        refine HCall.mk ((told_spec v false _).mono ?_)
        rintro e h8 ⟨rfl, rfl⟩
        refine gA ?_
        exact ⟨rfl, x06.trans x7⟩
    · have qa : strEq ((⟨(a :: b :: c :: r).toArray⟩ : ByteArray).extract 0 2) ⟨#[48, 120]⟩ = false := by rw [sA]; exact decide_eq_false (by omega)
      have qb : strEq ((⟨(a :: b :: c :: r).toArray⟩ : ByteArray).extract 0 2) ⟨#[48, 88]⟩ = false := by rw [sB]; exact decide_eq_false (by omega)
      have er : readT (a :: b :: c :: r) = pint 10 (a :: b :: c :: r) := by
        have hh : hexR (a :: b :: c :: r) = none := if_neg hno
        unfold readT; rw [hh]
      rw [er]
      refine gA ?_
      refine HBound.mk 2 rfl hsz ?_
      refine gA ?_
      refine HCall.mk ((parseInt_spec 10 (Or.inl rfl) _ htxl _ g6).mono ?_)
      rintro e h7 ⟨hp, x7⟩
      rcases hp with ⟨v, hv, rfl⟩ | ⟨hn, v, t', x, rfl⟩
      · rw [hv]
        refine gA ?_
        refine HCall.mk ((told_spec v true _).mono ?_)
        rintro e h8 ⟨rfl, rfl⟩
        rw [told_okS]
        cases okS (some v)
        · refine gA ?_
          exact ⟨rfl, x06.trans x7⟩
        · refine gA ?_
          exact ⟨rfl, x06.trans x7⟩
      · rw [hn]
        refine gA ?_
        refine HCall.mk ((told_spec v false _).mono ?_)
        rintro e h8 ⟨rfl, rfl⟩
        refine gA ?_
        exact ⟨rfl, x06.trans x7⟩
  · have q1 : decide (((⟨tx.toArray⟩ : ByteArray).size : Int) > 2) = false := decide_eq_false (by omega)
    have ehx : readT tx = pint 10 tx := by
      unfold readT
      have : hexR tx = none := by
        match tx, hlong with
        | [], _ => rfl
        | [_], _ => rfl
        | [_, _], _ => rfl
        | _ :: _ :: _ :: _, h => exact absurd (by simp) h
      rw [this]
    rw [ehx]
    refine gA ?_
    refine HCall.mk ((parseInt_spec 10 (Or.inl rfl) tx htxl _ g6).mono ?_)
    rintro e h7 ⟨hp, x7⟩
    rcases hp with ⟨v, hv, rfl⟩ | ⟨hn, v, t', x, rfl⟩
    · rw [hv]
      refine gA ?_
      refine HCall.mk ((told_spec v true _).mono ?_)
      rintro e h8 ⟨rfl, rfl⟩
      rw [told_okS]
      cases okS (some v)
      · refine gA ?_
        exact ⟨rfl, x06.trans x7⟩
      · refine gA ?_
        exact ⟨rfl, x06.trans x7⟩
    · rw [hn]
      refine gA ?_
      refine HCall.mk ((told_spec v false _).mono ?_)
      rintro e h8 ⟨rfl, rfl⟩
      refine gA ?_
      exact ⟨rfl, x06.trans x7⟩

structure VV where
  k : Int
  n : Int
  s : ByteArray
abbrev noS : ByteArray := ⟨#[]⟩
abbrev undefV : VV := ⟨0, 0, noS⟩
abbrev nullV : VV := ⟨1, 0, noS⟩
abbrev cellsV (v : VV) : List Value := [.int .i64 v.k, .int .i64 v.n, .string v.s]
abbrev KV := ByteArray × VV
structure PO where
  cls : ByteArray
  proto : VV
  props : List KV
  long : Nat
structure PH where
  objs : List PO
  most : Int
  used : Int
def isDig (n : Nat) : Bool := decide (48 ≤ n ∧ n ≤ 57)
def digV (l : List Nat) : Nat := l.foldl (fun a c => 10 * a + (c - 48)) 0
def idxL (l : List Nat) : Option Nat :=
  if l = [] ∨ 9 < l.length ∨ (l.head? = some 48 ∧ 1 < l.length) then none else if l.all isDig = true then some (digV l) else none
def idxK (u : ByteArray) : Option Nat := idxL (ulist u.data.toList)
abbrev arrS : ByteArray := ⟨#[65, 114, 114, 97, 121]⟩
abbrev lenK : ByteArray := ⟨#[0, 108, 0, 101, 0, 110, 0, 103, 0, 116, 0, 104]⟩
def isArr (o : PO) : Bool := strEq o.cls arrS
def isLenP (o : PO) (key : ByteArray) : Bool := isArr o && strEq key lenK
def lookP (key : ByteArray) : List KV → Option VV
  | [] => none
  | p :: r => if p.1 = key then some p.2 else lookP key r
def setP (key : ByteArray) (x : VV) : List KV → List KV
  | [] => []
  | p :: r => if p.1 = key then (key, x) :: r else p :: setP key x r
def atP (H : PH) (v : VV) : Option Nat := if v.k = 7 ∧ v.s = noS ∧ 1 ≤ v.n ∧ v.n ≤ (H.objs.length : Int) then some (v.n.toNat - 1) else none
def findP (H : PH) (v : VV) : Option PO := (atP H v).bind fun i => H.objs[i]?
def ownP (o : PO) (key : ByteArray) : Option VV := if isLenP o key = true then some ⟨3, o.long, noS⟩ else lookP key o.props
def chI (H : PH) : Nat → Nat → List Nat
  | 0, i => [i]
  | f + 1, i => i :: match (H.objs[i]?).bind fun o => atP H o.proto with
    | none => []
    | some j => chI H f j
def chainX (H : PH) (v : VV) : List Nat := match atP H v with
  | none => []
  | some i => chI H i i
def chainP (H : PH) (v : VV) : List PO := (chainX H v).filterMap fun i => H.objs[i]?
def seekL (key : ByteArray) : List PO → Option VV
  | [] => none
  | o :: r => match ownP o key with
    | some x => some x
    | none => seekL key r
def getP (H : PH) (v : VV) (key : ByteArray) : VV := (seekL key (chainP H v)).getD undefV
def clsP (H : PH) (v : VV) : ByteArray := match findP H v with
  | some o => o.cls
  | none => noS
def makeP (H : PH) (cls : ByteArray) (proto : VV) : PH :=
  if H.most - H.used < 1 then H else ⟨H.objs ++ [⟨cls, if findP H proto = none then nullV else proto, [], 0⟩], H.most, H.used + 1⟩
def updP (H : PH) (i : Nat) (o : PO) : PH := ⟨H.objs.set i o, H.most, H.used⟩
def sizeP (o : PO) (n : Nat) : PO := ⟨o.cls, o.proto, o.props.filter (fun p => match idxK p.1 with | some j => decide (j < n) | none => true), n⟩
def arrIx (o : PO) (key : ByteArray) : Option Nat := if isArr o = true then idxK key else none
def farP (o : PO) (key : ByteArray) : Bool := match arrIx o key with
  | some j => decide (1000 ≤ j)
  | none => false
def longP (o : PO) (key : ByteArray) : Nat := match arrIx o key with
  | some j => max o.long (j + 1)
  | none => o.long
def putO (H : PH) (i : Nat) (o : PO) (key : ByteArray) (x : VV) : PH :=
  if isLenP o key = true then
    if x.k = 3 ∧ 0 ≤ x.n ∧ x.n ≤ 1000 then updP H i (sizeP o x.n.toNat) else H
  else match lookP key o.props with
    | some _ => updP H i ⟨o.cls, o.proto, setP key x o.props, o.long⟩
    | none =>
      if farP o key = true then H
      else if H.most - H.used < 1 then H
      else ⟨H.objs.set i ⟨o.cls, o.proto, o.props ++ [(key, x)], longP o key⟩, H.most, H.used + 1⟩
def putP (H : PH) (v : VV) (key : ByteArray) (x : VV) : PH := match atP H v with
  | none => H
  | some i => match H.objs[i]? with
    | none => H
    | some o => putO H i o key x
structure Wf (H : PH) : Prop where
  pro : ∀ (i : Nat) (hi : i < H.objs.length) (j : Nat), atP H H.objs[i].proto = some j → j < i
  num : ∀ (i : Nat) (hi : i < H.objs.length), i64 H.objs[i].proto.n
theorem atP_lt {H : PH} {v : VV} {i : Nat} (h : atP H v = some i) : i < H.objs.length := by
  unfold atP at h
  split at h
  · rename_i h1; cases h; omega
  · cases h
theorem chI_step {H : PH} (w : Wf H) : ∀ (f i : Nat) (hi : i < H.objs.length), i ≤ f → chI H f i = i :: chainX H H.objs[i].proto
  | 0, i, hi, hf => by
    obtain rfl : i = 0 := by omega
    have : chainX H H.objs[0].proto = [] := by
      unfold chainX
      cases ha : atP H H.objs[0].proto with
      | none => rfl
      | some j => have := w.pro 0 hi j ha; omega
    rw [this]; rfl
  | f + 1, i, hi, hf => by
    unfold chI chainX
    rw [List.getElem?_eq_getElem hi, Option.bind_some]
    cases ha : atP H H.objs[i].proto with
    | none => rfl
    | some j =>
      have hj := w.pro i hi j ha
      have hjl := atP_lt ha
      show i :: chI H f j = i :: chI H j j
      rw [chI_step w f j hjl (by omega), chI_step w j j hjl (Nat.le_refl _)]
theorem chainX_some {H : PH} (w : Wf H) {v : VV} {i : Nat} (h : atP H v = some i) : chainX H v = i :: chainX H (H.objs[i]'(atP_lt h)).proto := by
  have e : chainX H v = chI H i i := by unfold chainX; rw [h]
  rw [e, chI_step w i i (atP_lt h) (Nat.le_refl _)]
theorem chainX_none {H : PH} {v : VV} (h : atP H v = none) : chainX H v = [] := by unfold chainX; rw [h]
def uS (l : List UInt8) : ByteArray := ⟨(unitsL l).toArray⟩
abbrev wNull : List UInt8 := [110, 117, 108, 108]
abbrev wTrue : List UInt8 := [116, 114, 117, 101]
abbrev wFalse : List UInt8 := [102, 97, 108, 115, 101]
abbrev wUndef : List UInt8 := [117, 110, 100, 101, 102, 105, 110, 101, 100]
abbrev wFunction : List UInt8 := [102, 117, 110, 99, 116, 105, 111, 110]
abbrev wObj : List UInt8 := [91, 111, 98, 106, 101, 99, 116, 32]
abbrev wError : List UInt8 := [69, 114, 114, 111, 114]
abbrev wName : List UInt8 := [110, 97, 109, 101]
abbrev wMessage : List UInt8 := [109, 101, 115, 115, 97, 103, 101]
abbrev wColon : List UInt8 := [58, 32]
abbrev funcS : ByteArray := ⟨#[70, 117, 110, 99, 116, 105, 111, 110]⟩
abbrev errS : ByteArray := ⟨#[69, 114, 114, 111, 114]⟩
def limP (u : ByteArray) : Option ByteArray := if 8192 < u.size then none else some u
def elemP (i : Nat) : List PO → VV
  | [] => undefV
  | o :: r => match o.props.find? (fun p => decide (idxK p.1 = some i)) with
    | some p => p.2
    | none => elemP i r
def elemsP (H : PH) (v : VV) : List VV := match findP H v with
  | none => []
  | some o => if isArr o = true then (List.range o.long).map fun i => elemP i (chainP H v) else []
def joinP : List ByteArray → ByteArray
  | [] => noS
  | [u] => u
  | u :: r => u ++ uS [44] ++ joinP r
def mapO {α β : Type} (f : α → Option β) : List α → Option (List β)
  | [] => some []
  | a :: r => match f a with
    | none => none
    | some b => (mapO f r).map (b :: ·)
def textP (H : PH) : Nat → VV → Option ByteArray
  | f, v =>
    if v.k = 1 then some (uS wNull)
    else if v.k = 2 then some (if v.n = 0 then uS wFalse else uS wTrue)
    else if v.k = 3 then some (textN v.n)
    else if v.k = 4 then limP v.s
    else if v.k = 7 then match f with
      | 0 => none
      | f + 1 =>
        if clsP H v = funcS then some (uS wFunction)
        else if clsP H v = arrS then
          match mapO (fun x => if x.k = 0 ∨ x.k = 1 then some noS else textP H f x) (elemsP H v) with
          | none => none
          | some l => limP (joinP l)
        else if clsP H v = errS then
          match (if (getP H v (uS wName)).k = 0 then some (uS wError) else textP H f (getP H v (uS wName))) with
          | none => none
          | some a => match (if (getP H v (uS wMessage)).k = 0 then some noS else textP H f (getP H v (uS wMessage))) with
            | none => none
            | some b => if a = noS then some b else if b = noS then some a else limP (a ++ uS wColon ++ b)
        else some (uS (wObj ++ (clsP H v).data.toList ++ [93]))
    else some (uS wUndef)
  termination_by f _ => f
def textT (H : PH) (v : VV) : Option ByteArray := textP H 20 v
def numP (H : PH) (v : VV) : Option Int :=
  if v.k = 1 ∨ v.k = 2 ∨ v.k = 3 then some v.n
  else if v.k = 4 ∨ v.k = 7 then match textT H v with
    | none => none
    | some u => readN u.data.toList
  else none
def plainP (H : PH) (v : VV) : Option VV := if v.k = 7 then (textT H v).map fun u => ⟨4, 0, u⟩ else some v
def vEq (a b : VV) : Bool := decide (a.k = b.k ∧ a.n = b.n ∧ a.s = b.s)
def looseQ (H : PH) (a b : VV) : Option Bool :=
  if a.k = b.k then some (vEq a b)
  else if a.k ≤ 1 ∨ b.k ≤ 1 then some (decide (a.k ≤ 1 ∧ b.k ≤ 1))
  else some (match numP H a, numP H b with
    | some n, some m => decide (n = m)
    | _, _ => false)
def looseP (H : PH) (a b : VV) : Option Bool :=
  if a.k = b.k then some (vEq a b)
  else if a.k ≤ 1 ∨ b.k ≤ 1 then some (decide (a.k ≤ 1 ∧ b.k ≤ 1))
  else match plainP H a, plainP H b with
    | some x, some y => looseQ H x y
    | _, _ => none
set_option maxHeartbeats 8000000
def cellsK (p : KV) : List Value := [.string p.1, .int .i64 p.2.k, .int .i64 p.2.n, .string p.2.s, .bool true, .bool true, .bool true]
def cellsKs (l : List KV) : List Value := l.flatMap cellsK
theorem cellsKs_len (l : List KV) : (cellsKs l).length = l.length * 7 := by
  unfold cellsKs
  induction l with
  | nil => rfl
  | cons p r ih => rw [List.flatMap_cons, List.length_append, ih, List.length_cons]; show 7 + _ = _; omega
theorem cellsKs_append (a b : List KV) : cellsKs (a ++ b) = cellsKs a ++ cellsKs b := by unfold cellsKs; rw [List.flatMap_append]
theorem cellsKs_one (l : List KV) : ∀ v ∈ cellsKs l, isOne v = true := by
  intro v hv
  unfold cellsKs at hv
  obtain ⟨p, _, hv⟩ := List.mem_flatMap.1 hv
  simp only [cellsK, List.mem_cons, List.not_mem_nil, or_false] at hv
  rcases hv with rfl | rfl | rfl | rfl | rfl | rfl | rfl <;> rfl
def blk (a : Option Addr) : List Nat := (a.map (·.block)).toList
theorem blk_mem {a : Option Addr} {p : Addr} (e : a = some p) : p.block ∈ blk a := by subst e; simp [blk]
theorem blk_of {a : Option Addr} {b : Nat} (h : b ∈ blk a) : ∃ p, a = some p ∧ p.block = b := by
  unfold blk at h
  cases a with
  | none => simp at h
  | some p => simp only [Option.map_some, Option.toList_some, List.mem_singleton] at h; exact ⟨p, rfl, h.symm⟩
structure OZ where
  bi : Nat
  mi : Nat
  pa : Option Addr
  pc : Nat
structure HZ where
  oa : Option Addr
  oc : Nat
  os : List OZ
def OZ.bs (z : OZ) : List Nat := z.bi :: z.mi :: blk z.pa
def HZ.bs (bh : Nat) (Z : HZ) : List Nat := bh :: (blk Z.oa ++ Z.os.flatMap OZ.bs)
def findI (key : ByteArray) : List KV → Option Nat
  | [] => none
  | p :: r => if p.1 = key then some 0 else (findI key r).map (· + 1)
def PlaceOf (L : List (ByteArray × Int)) (props : List KV) : Prop := ∀ key, getA key L = (findI key props).map (fun i : Nat => (i : Int))
structure ObjR (h : Heap) (o : PO) (z : OZ) : Prop where
  b : BlkW h z.bi 102 [.string o.cls, .int .i64 o.proto.k, .int .i64 o.proto.n, .string o.proto.s, .slice z.pa o.props.length z.pc, .map (some z.mi), .bool false, .int .i64 o.long, .bool false]
  p : Own h 0 53 7 z.pa o.props.length z.pc (cellsKs o.props)
  m : ∃ L, MapR h z.mi Value.string (Value.int .i64) L ∧ PlaceOf L o.props
structure HeapR (h : Heap) (bh : Nat) (H : PH) (Z : HZ) : Prop where
  b : BlkW h bh 114 [.slice Z.oa H.objs.length Z.oc, .int .i64 H.most, .int .i64 H.used]
  o : Own h 0 97 1 Z.oa H.objs.length Z.oc (Z.os.map fun z => .pointer (some ⟨z.bi, 0, none⟩))
  len : Z.os.length = H.objs.length
  all : ∀ (i : Nat) (hi : i < H.objs.length) (hz : i < Z.os.length), ObjR h H.objs[i] Z.os[i]
  nd : (Z.bs bh).Nodup
theorem ObjR.ext {h h' : Heap} {o : PO} {z : OZ} (x : ObjR h o z) (k : Ext h h') : ObjR h' o z := ⟨x.b.ext k, x.p.ext k, let ⟨L, m, p⟩ := x.m; ⟨L, m.ext k, p⟩⟩
theorem HeapR.ext {h h' : Heap} {bh : Nat} {H : PH} {Z : HZ} (x : HeapR h bh H Z) (k : Ext h h') : HeapR h' bh H Z := ⟨x.b.ext k, x.o.ext k, x.len, fun i hi hz => (x.all i hi hz).ext k, x.nd⟩
theorem ObjR.same {h h' : Heap} {o : PO} {z : OZ} (x : ObjR h o z) (k : ∀ b ∈ z.bs, h'[b]? = h[b]?) : ObjR h' o z :=
  ⟨x.b.of (k _ (by simp [OZ.bs])), ⟨x.p.1, x.p.2.1, x.p.2.2.1, fun p ep => let ⟨b, s, h1, h2, h3, h4⟩ := x.p.2.2.2 p ep; ⟨b, s, h1, h2, h3, h4.of (k _ (by
    have := blk_mem ep
    rw [h1] at this
    simp [OZ.bs, this]))⟩⟩, let ⟨L, m, p⟩ := x.m; ⟨L, m.of (k _ (by simp [OZ.bs])), p⟩⟩
theorem Own.same {h h' : Heap} {B e size n c : Nat} {a : Option Addr} {xs : List Value} (x : Own h B e size a n c xs) (k : ∀ b ∈ blk a, h'[b]? = h[b]?) : Own h' B e size a n c xs :=
  ⟨x.1, x.2.1, x.2.2.1, fun p ep => let ⟨b, s, h1, h2, h3, h4⟩ := x.2.2.2 p ep; ⟨b, s, h1, h2, h3, h4.of (k _ (by
    have := blk_mem ep
    rw [h1] at this
    exact this))⟩⟩
theorem HeapR.same {h h' : Heap} {bh : Nat} {H : PH} {Z : HZ} (x : HeapR h bh H Z) (k : ∀ b ∈ Z.bs bh, h'[b]? = h[b]?) : HeapR h' bh H Z :=
  ⟨x.b.of (k _ (by simp [HZ.bs])), Own.same x.o fun b hb => k b (by simp [HZ.bs, hb]), x.len, fun i hi hz => (x.all i hi hz).same fun b hb => k b (by
    simp only [HZ.bs, List.mem_cons, List.mem_append, List.mem_flatMap]
    exact .inr (.inr ⟨_, List.getElem_mem hz, hb⟩)), x.nd⟩
theorem ObjR.lt {h : Heap} {o : PO} {z : OZ} (x : ObjR h o z) : ∀ b ∈ z.bs, b < h.size := by
  intro b hb
  simp only [OZ.bs, List.mem_cons] at hb
  rcases hb with rfl | rfl | hb
  · exact x.b.lt
  · obtain ⟨L, m, _⟩ := x.m; exact m.lt
  · obtain ⟨p, ep, rfl⟩ := blk_of hb
    exact (x.p.lt p ep).2
theorem HeapR.lt {h : Heap} {bh : Nat} {H : PH} {Z : HZ} (x : HeapR h bh H Z) : ∀ b ∈ Z.bs bh, b < h.size := by
  intro b hb
  simp only [HZ.bs, List.mem_cons, List.mem_append, List.mem_flatMap] at hb
  rcases hb with rfl | hb | ⟨z, hz, hb⟩
  · exact x.b.lt
  · obtain ⟨p, ep, rfl⟩ := blk_of hb
    exact (x.o.lt p ep).2
  · obtain ⟨i, hi, rfl⟩ := List.getElem_of_mem hz
    exact (x.all i (by have := x.len; omega) hi).lt b hb
theorem new_spec (h : Heap) (most : Int) (h0 : 0 ≤ most) (h1 : most ≤ 100000) : HCalls Tryz.prog 35 #[.int .i64 most] h fun e h' => ∃ bh, e = .returned (.pointer (some ⟨bh, 0, none⟩)) ∧ HeapR h' bh ⟨[], most, 0⟩ ⟨none, 0, []⟩ ∧ h.size ≤ bh ∧ Ext h h' := by
  refine c35 (by simp) ?_
  refine gA ?_
  refine new_var (e := 114) [.slice none 0 0, .int .i64 (if (if (100000 : Int) < most then 100000 else most) > 0 then (if (100000 : Int) < most then 100000 else most) else 0), .int .i64 0] rfl ?_
  intro h1 bh o1 x1 z1 hb
  have e : (if (if (100000 : Int) < most then 100000 else most) > 0 then (if (100000 : Int) < most then 100000 else most) else 0) = most := by split <;> split at * <;> omega
  rw [e] at o1
  refine gA ?_
  exact ⟨bh, rfl, ⟨o1, Own.nil _ _ _ _, rfl, fun i hi => by simp at hi, by simp [HZ.bs, blk]⟩, by omega, x1⟩
theorem take_spec {h : Heap} {bh : Nat} {H : PH} {Z : HZ} (x : HeapR h bh H Z) (hm : i64 H.most) (hu : 0 ≤ H.used) (hmu : H.used ≤ 1000000) (hmm : H.most ≤ 1000000) (hm0 : 0 ≤ H.most) :
    HCalls Tryz.prog 78 #[.pointer (some ⟨bh, 0, none⟩), .int .i64 1] h fun e h' => (H.most - H.used < 1 ∧ e = .returned (.bool false) ∧ h' = h) ∨ (¬ H.most - H.used < 1 ∧ e = .returned (.bool true) ∧ HeapR h' bh ⟨H.objs, H.most, H.used + 1⟩ Z ∧ Off bh h h') := by
  have o := x.b
  refine c78 (by simp) ?_
  refine gA ?_
  refine HIf.mk (fun hc => ?_) (fun hc => ?_)
  · have hc' := of_decide_eq_true hc
    refine gA ?_
    exact .inl ⟨hc', rfl, rfl⟩
  · have hc' := of_decide_eq_false hc
    refine gA ?_
    refine blk_st (o := 2) (v := .int .i64 (H.used + 1)) o (by simp) rfl ?_
    intro h1 f1 z1 o1
    refine gA ?_
    have nd := x.nd
    rw [HZ.bs, List.nodup_cons] at nd
    have k : ∀ b ∈ (blk Z.oa ++ Z.os.flatMap OZ.bs), h1[b]? = h[b]? := fun b hb => f1.2 b (x.lt b (by rw [HZ.bs]; exact List.mem_cons_of_mem _ hb)) (by rintro rfl; exact nd.1 hb)
    exact .inr ⟨hc', rfl, ⟨o1, Own.same x.o fun b hb => k b (List.mem_append_left _ hb), x.len, fun i hi hz => (x.all i hi hz).same fun b hb => k b (List.mem_append_right _ (List.mem_flatMap.2 ⟨_, List.getElem_mem hz, hb⟩)), x.nd⟩, f1⟩
def ptrP (Z : HZ) (o : Option Nat) : Value := match o.bind fun i => Z.os[i]? with
  | some z => .pointer (some ⟨z.bi, 0, none⟩)
  | none => .pointer none
theorem find_spec {h : Heap} {bh : Nat} {H : PH} {Z : HZ} (x : HeapR h bh H Z) (v : VV) (hn : i64 v.n) (hl : H.objs.length ≤ 1000000) :
    HCalls Tryz.prog 65 #[.pointer (some ⟨bh, 0, none⟩), .agg (cellsV v).toArray] h fun e h' => e = .returned (ptrP Z (atP H v)) ∧ Ext h h' := by
  refine c65 (by simp) ?_
  refine gA ?_
  refine new_var (e := 24) (cellsV v) rfl ?_
  intro h1 b1 o1 x1 z1 hb1
  have x' := x.ext x1
  have o := x'.b
  have hlen := x.len
  refine gA ?_
  by_cases hk : v.k = 7
  · have q1 : (v.k != 7) = false := by rw [hk]; rfl
    refine gA ?_
    by_cases hs : v.s = noS
    · have q2 : (!strEq v.s ⟨#[]⟩) = false := by rw [(strEq_iff _ _).2 hs]; rfl
      refine gA ?_
      by_cases h2 : v.n < 1
      · have q3 : decide (v.n < 1) = true := decide_eq_true h2
        have e : atP H v = none := by unfold atP; rw [if_neg]; omega
        rw [e]
        refine gA ?_
        exact ⟨rfl, x1⟩
      · have q3 : decide (v.n < 1) = false := decide_eq_false h2
        refine gA ?_
        by_cases h3 : v.n > (H.objs.length : Int)
        · have q4 : decide (v.n > (H.objs.length : Int)) = true := decide_eq_true h3
          have e : atP H v = none := by unfold atP; rw [if_neg]; omega
          rw [e]
          refine gA ?_
          exact ⟨rfl, x1⟩
        · have q4 : decide (v.n > (H.objs.length : Int)) = false := decide_eq_false h3
          have e : atP H v = some (v.n.toNat - 1) := by unfold atP; rw [if_pos ⟨hk, hs, by omega, by omega⟩]
          rw [e]
          have hi : v.n.toNat - 1 < H.objs.length := by omega
          refine gA ?_
          refine HIdx.mk (v.n.toNat - 1) (by omega) hi ?_
          refine sl_some x'.o.sl hi fun p ep => ?_
          refine gA ?_
          refine Sl.load x'.o.sl ep (by simp; omega) ?_
          rw [List.getElem_map]
          refine gA ?_
          refine ⟨?_, x1⟩
          have e2 : ptrP Z (some (v.n.toNat - 1)) = .pointer (some ⟨(Z.os[v.n.toNat - 1]'(by omega)).bi, 0, none⟩) := by
            unfold ptrP
            rw [Option.bind_some, List.getElem?_eq_getElem (by omega)]
          rw [e2]
          rfl
    · have q2 : (!strEq v.s ⟨#[]⟩) = true := by rw [(strEq_no _ _).2 hs]; rfl
      have e : atP H v = none := by unfold atP; rw [if_neg]; rintro ⟨_, h2, _⟩; exact hs h2
      rw [e]
      refine gA ?_
      exact ⟨rfl, x1⟩
  · have q1 : (v.k != 7) = true := by simp [hk]
    have e : atP H v = none := by unfold atP; rw [if_neg]; rintro ⟨h2, _⟩; exact hk h2
    rw [e]
    refine gA ?_
    exact ⟨rfl, x1⟩
set_option maxHeartbeats 8000000
def PassF (F F' : List Nat) (h h' : Heap) : Prop := h.size ≤ h'.size ∧ (∀ b, b < h.size → b ∉ F → h'[b]? = h[b]?) ∧ ∀ b ∈ F', b ∈ F ∨ h.size ≤ b
theorem PassF.refl (F : List Nat) (h : Heap) : PassF F F h h := ⟨Nat.le_refl _, fun _ _ _ => rfl, fun b hb => .inl hb⟩
theorem PassF.of_ext {F : List Nat} {h h' : Heap} (x : Ext h h') : PassF F F h h' := ⟨x.1, fun b hb _ => x.2 b hb, fun b hb => .inl hb⟩
theorem PassF.of_off {F : List Nat} {k : Nat} {h h' : Heap} (x : Off k h h') (hk : k ∈ F ∨ h.size ≤ k) : PassF F F h h' := ⟨x.1, fun b hb hc => x.2 b hb (fun e => hk.elim (fun hm => hc (e ▸ hm)) fun hm => by omega), fun b hb => .inl hb⟩
theorem PassF.trans {F G K : List Nat} {a b c : Heap} (x : PassF F G a b) (y : PassF G K b c) : PassF F K a c :=
  ⟨Nat.le_trans x.1 y.1, fun k hk hn => by rw [y.2.1 k (Nat.lt_of_lt_of_le hk x.1) (fun hm => (x.2.2 k hm).elim hn fun h => by omega), x.2.1 k hk hn],
   fun k hk => (y.2.2 k hk).elim (fun h => x.2.2 k h) fun h => .inr (Nat.le_trans x.1 h)⟩
theorem PassF.offNew {F G : List Nat} {k : Nat} {a b c : Heap} (x : PassF F G a b) (f : Off k b c) (hk : a.size ≤ k) : PassF F G a c :=
  ⟨Nat.le_trans x.1 f.1, fun i hi hn => by rw [f.2 i (Nat.lt_of_lt_of_le hi x.1) (by omega), x.2.1 i hi hn], x.2.2⟩
theorem nodup_hz {bh : Nat} {a : Option Addr} {R : List Nat} (h1 : ∀ p, a = some p → p.block ≠ bh ∧ p.block ∉ R) (h2 : bh ∉ R) (h3 : R.Nodup) : (bh :: (blk a ++ R)).Nodup := by
  cases a with
  | none => simp only [blk, Option.map_none, Option.toList_none, List.nil_append, List.nodup_cons]; exact ⟨h2, h3⟩
  | some p =>
    simp only [blk, Option.map_some, Option.toList_some, List.singleton_append, List.nodup_cons, List.mem_cons, not_or]
    exact ⟨⟨fun e => (h1 p rfl).1 e.symm, h2⟩, (h1 p rfl).2, h3⟩
theorem HeapR.nds {h : Heap} {bh : Nat} {H : PH} {Z : HZ} (x : HeapR h bh H Z) : (∀ p, Z.oa = some p → p.block ≠ bh ∧ p.block ∉ Z.os.flatMap OZ.bs) ∧ bh ∉ Z.os.flatMap OZ.bs ∧ (Z.os.flatMap OZ.bs).Nodup := by
  have nd := x.nd
  rw [HZ.bs, List.nodup_cons, List.nodup_append] at nd
  refine ⟨fun p ep => ⟨fun e => nd.1 (List.mem_append_left _ (e ▸ blk_mem ep)), fun hm => nd.2.2.2 _ (blk_mem ep) _ hm rfl⟩, fun hm => nd.1 (List.mem_append_right _ hm), nd.2.2.1⟩
def refV (n : Nat) : VV := ⟨7, n, noS⟩
theorem hmake_spec {h : Heap} {bh : Nat} {H : PH} {Z : HZ} (x : HeapR h bh H Z) (cls : ByteArray) (v : VV) (hn : i64 v.n) (hl : H.objs.length ≤ 1000000) :
    HCalls Tryz.prog 79 #[.pointer (some ⟨bh, 0, none⟩), .string cls, .agg (cellsV v).toArray] h fun e h' => ∃ (p : Option Addr) (Z' : HZ), e = .returned (.tuple #[.agg (cellsV (refV (H.objs.length + 1))).toArray, .pointer p]) ∧
      HeapR h' bh ⟨H.objs ++ [⟨cls, if findP H v = none then nullV else v, [], 0⟩], H.most, H.used⟩ Z' ∧ PassF (Z.bs bh) (Z'.bs bh) h h' := by
  refine c79 (by simp) ?_
  refine gA ?_
  refine new_var (e := 24) (cellsV v) rfl ?_
  intro h1 b5 o5 x1 z1 hb5
  refine gA ?_
  refine new_var (e := 24) [.int .i64 0, .int .i64 0, .string ⟨#[]⟩] rfl ?_
  intro h2 b6 o6 x2 z2 hb6
  have o5 := o5.ext x2
  have x02 := x1.trans x2
  have hx1 := x1.1
  have hx2 := x2.1
  generalize hw : (if findP H v = none then nullV else v) = w
  refine gM ?_
  refine cut_rule [] (fun us h' => BlkW h' b5 24 (cellsV w) ∧ BlkW h' b6 24 [.int .i64 0, .int .i64 0, .string ⟨#[]⟩] ∧ Ext h h') rfl ?_ ?_
  · refine gN ?_
    refine HCall.mk ((find_spec (x.ext x02) v hn hl).mono ?_)
    rintro e h3 ⟨rfl, x3⟩
    have o5 := o5.ext x3
    have o6 := o6.ext x3
    have x03 := x02.trans x3
    have hx3 := x3.1
    have hlen := x.len
    cases ha : atP H v with
    | none =>
      have e1 : findP H v = none := by unfold findP; rw [ha]; rfl
      rw [if_pos e1] at hw
      subst hw
      have e2 : ptrP Z none = .pointer none := rfl
      rw [e2]
      have q : (bif false then !(none : Option Addr).isNone else (none : Option Addr).isNone) = true := rfl
      refine gA ?_
      refine store_blk o5 (by simp) (by simp [isOne]) ?_
      intro h4 f4 z4 o4
      refine gA ?_
      exact ⟨by simpa using o4, o6.offk f4 (by omega), x03.offNew f4 (by omega)⟩
    | some i =>
      have hi : i < H.objs.length := by
        unfold atP at ha
        split at ha
        · rename_i h1; cases ha; omega
        · cases ha
      have e1 : ¬ findP H v = none := by unfold findP; rw [ha, Option.bind_some, List.getElem?_eq_getElem hi]; simp
      rw [if_neg e1] at hw
      subst hw
      have e2 : ptrP Z (some i) = .pointer (some ⟨(Z.os[i]'(by omega)).bi, 0, none⟩) := by unfold ptrP; rw [Option.bind_some, List.getElem?_eq_getElem (by omega)]
      rw [e2]
      have q : (bif false then !(some (⟨(Z.os[i]'(by omega)).bi, 0, none⟩ : Addr)).isNone else (some (⟨(Z.os[i]'(by omega)).bi, 0, none⟩ : Addr)).isNone) = false := rfl
      refine gA ?_
      exact ⟨o5, o6, x03⟩
  intro u h4
  rintro ⟨o5, o6, x04⟩
  have hx4 := x04.1
  have b6l := o6.lt
  refine gN ?_
  refine HNew.mk ?_
  have x5 := Ext.push h4 (.map #[] 0)
  have m5 := MapR.new h4 (Value.string : ByteArray → Value) (Value.int .i64 : Int → Value)
  have z5 : (h4.push (.map #[] 0)).size = h4.size + 1 := by simp
  generalize h4.push (.map #[] 0) = h5 at x5 m5 z5
  have o6 := o6.ext x5
  refine gN ?_
  refine new_var (e := 102) [.string cls, .int .i64 w.k, .int .i64 w.n, .string w.s, .slice none 0 0, .map (some h4.size), .bool false, .int .i64 0, .bool false] rfl ?_
  intro h6 bi oi x6 z6 hbi
  have o6 := o6.ext x6
  have m6 := m5.ext x6
  have X6 := (x04.trans x5).trans x6
  have xh := x.ext X6
  have ob := xh.b
  refine gN ?_
  refine new_own (e := 97) 1 1 [.pointer (some ⟨bi, 0, none⟩)] rfl rfl ?_
  intro h7 b7 w7 x7 z7 hb7
  have o6 := o6.ext x7
  have m7 := m6.ext x7
  have oi := oi.ext x7
  have X7 := X6.trans x7
  have xh := x.ext X7
  have ob := xh.b
  have hX7 := X7.1
  have hx7 := x7.1
  have hlt := x.lt
  refine gN ?_
  refine w7.sl.cells ?_
  refine Own.append xh.o (m := 1) (Nat.zero_le _) rfl rfl (by intro y hy; simp only [List.mem_singleton] at hy; subst hy; rfl) (by omega) ?_
  intro h8 a8 c8 w8 k8 ot8 ad8
  have nds := x.nds
  have hbh : bh < h.size := x.b.lt
  have hlen := x.len
  have naw : ∀ b, (∀ p, Z.oa = some p → p.block ≠ b) ↔ b ∉ blk Z.oa := fun b => ⟨fun k hm => by obtain ⟨p, ep, e⟩ := blk_of hm; exact k p ep e, fun k p ep e => k (e ▸ blk_mem ep)⟩
  have ob8 : BlkW h8 bh 114 [.slice Z.oa H.objs.length Z.oc, .int .i64 H.most, .int .i64 H.used] := ob.of (ot8 bh (by omega) fun p ep => (nds.1 p ep).1)
  have hs8 := k8.1
  refine blk_st (o := 0) (v := .slice a8 (H.objs.length + 1) c8) ob8 (by simp) rfl ?_
  intro h9 f9 z9 o9
  have hoa : ∀ p, Z.oa = some p → p.block < h.size := fun p ep => (x.o.lt p ep).2
  have na8 : ∀ p, a8 = some p → p.block ≠ bh ∧ p.block ≠ b6 ∧ p.block ∉ (Z.os.flatMap OZ.bs) ∧ p.block ≠ bi ∧ p.block ≠ h4.size := by
    intro p ep
    rcases ad8 p ep with ⟨q, eq, e⟩ | hq
    · have h1 := nds.1 q eq
      have h2 := hoa q eq
      rw [e]
      exact ⟨h1.1, by omega, h1.2, by omega, by omega⟩
    · refine ⟨by omega, by omega, fun hm => ?_, by omega, by omega⟩
      have := hlt p.block (by simp [HZ.bs]; exact .inr (.inr (by simpa [List.mem_flatMap] using hm)))
      omega
  have o6 : BlkW h9 b6 24 [.int .i64 0, .int .i64 0, .string ⟨#[]⟩] := (o6.of (ot8 b6 (by omega) fun p ep => by have := hoa p ep; omega)).offk f9 (by omega)
  have w9 := w8.off f9 fun p ep => (na8 p ep).1
  refine gN ?_
  refine store_blk o6 (by simp) (by simp [isOne]) ?_
  intro h10 f10 z10 o10
  replace o10 : BlkW h10 b6 24 (cellsV (refV (H.objs.length + 1))) := by simpa [refV] using o10
  have w10 := w9.off f10 fun p ep => (na8 p ep).2.1
  have o9' := o9.offk f10 (by omega)
  have K : ∀ b, b < h7.size → b ∉ blk Z.oa → b ≠ bh → b ≠ b6 → h10[b]? = h7[b]? := fun b hb h1 h2 h3 => by
    rw [f10.2 b (by have := f9.1; omega) h3, f9.2 b (by omega) h2, ot8 b hb ((naw b).2 h1)]
  refine gN ?_
  have hzs : (Z.os ++ [(⟨bi, h4.size, none, 0⟩ : OZ)]).length = (H.objs ++ [(⟨cls, w, [], 0⟩ : PO)]).length := by simp; omega
  have hfl : (Z.os ++ [(⟨bi, h4.size, none, 0⟩ : OZ)]).flatMap OZ.bs = Z.os.flatMap OZ.bs ++ [bi, h4.size] := by simp [OZ.bs, blk]
  have hbl : ∀ b ∈ Z.os.flatMap OZ.bs, b < h.size := fun b hb => hlt b (by simp only [HZ.bs, List.mem_cons, List.mem_append]; exact .inr (.inr hb))
  refine ⟨_, ⟨a8, c8, Z.os ++ [⟨bi, h4.size, none, 0⟩]⟩, rfl, ⟨by simpa using o9', by simpa using w10, hzs, ?_, ?_⟩, ?_, ?_, ?_⟩
  · intro i hi hz
    by_cases hlt' : i < H.objs.length
    · rw [List.getElem_append_left hlt', List.getElem_append_left (by omega)]
      refine ((x.all i hlt' (by omega)).ext X7).same fun b hb => ?_
      have hm : b ∈ Z.os.flatMap OZ.bs := List.mem_flatMap.2 ⟨_, List.getElem_mem _, hb⟩
      have := hbl b hm
      exact K b (by omega) (fun hm2 => by obtain ⟨p, ep, e⟩ := blk_of hm2; exact (nds.1 p ep).2 (e ▸ hm)) (fun e => nds.2.1 (e ▸ hm)) (by omega)
    · have hi2 : i = H.objs.length := by simp at hi; omega
      subst hi2
      rw [List.getElem_append_right (Nat.le_refl _), List.getElem_append_right (by omega)]
      simp only [Nat.sub_self, hlen, List.getElem_cons_zero]
      refine ⟨?_, Own.nil _ _ _ _, [], ?_, fun key => rfl⟩
      · exact oi.of (K bi (by omega) (fun hm => by obtain ⟨p, ep, e⟩ := blk_of hm; have := hoa p ep; omega) (by omega) (by omega))
      · exact m7.of (K h4.size (by omega) (fun hm => by obtain ⟨p, ep, e⟩ := blk_of hm; have := hoa p ep; omega) (by omega) (by omega))
  · show (bh :: (blk a8 ++ (Z.os ++ [(⟨bi, h4.size, none, 0⟩ : OZ)]).flatMap OZ.bs)).Nodup
    rw [hfl]
    refine nodup_hz (fun p ep => ⟨(na8 p ep).1, fun hm => ?_⟩) (fun hm => ?_) ?_
    · simp only [List.mem_append, List.mem_cons, List.not_mem_nil, or_false] at hm
      rcases hm with hm | hm | hm
      · exact (na8 p ep).2.2.1 hm
      · exact (na8 p ep).2.2.2.1 hm
      · exact (na8 p ep).2.2.2.2 hm
    · simp only [List.mem_append, List.mem_cons, List.not_mem_nil, or_false] at hm
      rcases hm with hm | hm | hm
      · exact nds.2.1 hm
      · omega
      · omega
    · rw [List.nodup_append]
      refine ⟨nds.2.2, by simp; omega, fun a ha b hb e => ?_⟩
      have := hbl a ha
      simp only [List.mem_cons, List.not_mem_nil, or_false] at hb
      rcases hb with rfl | rfl <;> omega
  · have := f9.1; have := f10.1; omega
  · intro b hb hn
    rw [K b (by omega) (fun hm => hn (by simp [HZ.bs, hm])) (fun e => hn (by simp [HZ.bs, e])) (by omega), X7.2 b hb]
  · intro b hb
    have hb' : b ∈ bh :: (blk a8 ++ (Z.os ++ [(⟨bi, h4.size, none, 0⟩ : OZ)]).flatMap OZ.bs) := hb
    rw [hfl] at hb'
    simp only [List.mem_cons, List.mem_append, List.not_mem_nil, or_false] at hb'
    rcases hb' with rfl | hb' | hb' | rfl | rfl
    · exact .inl (by simp [HZ.bs])
    · obtain ⟨p, ep, rfl⟩ := blk_of hb'
      rcases ad8 p ep with ⟨q, eq, e⟩ | hq
      · exact .inl (by rw [e]; simp [HZ.bs, blk_mem eq])
      · exact .inr (by omega)
    · exact .inl (by simp only [HZ.bs, List.mem_cons, List.mem_append]; exact .inr (.inr hb'))
    · exact .inr (by omega)
    · exact .inr (by omega)
theorem hMake_spec {h : Heap} {bh : Nat} {H : PH} {Z : HZ} (x : HeapR h bh H Z) (cls : ByteArray) (v : VV) (hn : i64 v.n) (hl : H.objs.length ≤ 1000000) (hm : i64 H.most) (hu : 0 ≤ H.used) (hmu : H.used ≤ 1000000) (hmm : H.most ≤ 1000000) (hm0 : 0 ≤ H.most) :
    HCalls Tryz.prog 40 #[.pointer (some ⟨bh, 0, none⟩), .string cls, .agg (cellsV v).toArray] h fun e h' => ∃ y b Z', e = .returned (.tuple #[y, .bool b]) ∧
      HeapR h' bh (makeP H cls v) Z' ∧ PassF (Z.bs bh) (Z'.bs bh) h h' := by
  refine c40 (by simp) ?_
  refine gA ?_
  refine new_var (e := 24) (cellsV v) rfl ?_
  intro h1 b5 o5 x1 z1 hb5
  refine gA ?_
  refine new_var (e := 24) [.int .i64 0, .int .i64 0, .string ⟨#[]⟩] rfl ?_
  intro h2 b6 o6 x2 z2 hb6
  have o5 := o5.ext x2
  have x02 := x1.trans x2
  have hbh := x.b.lt
  have hx1 := x1.1
  have hlt := x.lt
  refine gN ?_
  refine HCall.mk ((take_spec (x.ext x02) hm hu hmu hmm hm0).mono ?_)
  rintro e h3 (⟨hc, rfl, rfl⟩ | ⟨hc, rfl, x3, f3⟩)
  · have q : (!false) = true := rfl
    refine gN ?_
    refine store_blk o6 (by simp) (by simp [isOne]) ?_
    intro h4 f4 z4 o4
    replace o4 : BlkW h4 b6 24 [.int .i64 0, .int .i64 0, .string ⟨#[]⟩] := by simpa using o4
    refine gN ?_
    have e1 : makeP H cls v = H := by unfold makeP; rw [if_pos hc]
    rw [e1]
    have X4 : Ext h h4 := x02.offNew f4 (by omega)
    exact ⟨_, _, Z, rfl, x.ext X4, .of_ext X4⟩
  · have q : (!true) = false := rfl
    have o5 := o5.offk f3 (by omega)
    have o6 := o6.offk f3 (by omega)
    have e1 : makeP H cls v = ⟨H.objs ++ [⟨cls, if findP H v = none then nullV else v, [], 0⟩], H.most, H.used + 1⟩ := by unfold makeP; rw [if_neg hc]
    have hff : findP ⟨H.objs, H.most, H.used + 1⟩ v = findP H v := rfl
    have hf3 := f3.1
    rw [e1]
    refine gN ?_
    refine HCall.mk ((hmake_spec x3 cls v hn hl).mono ?_)
    rintro e h4 ⟨p, Z', rfl, x4, y4⟩
    have y3 : PassF (Z.bs bh) (Z'.bs bh) h h4 := ((PassF.of_ext x02).trans (.of_off f3 (.inl (by simp [HZ.bs])))).trans y4
    have nb6 : ∀ b ∈ Z.bs bh, b ≠ b6 := fun b hb e => by have := hlt b hb; omega
    have hy4 := y4.1
    have b6l := o6.lt
    have o6 : BlkW h4 b6 24 [.int .i64 0, .int .i64 0, .string ⟨#[]⟩] := o6.of (y4.2.1 b6 b6l fun hm => nb6 _ hm rfl)
    refine gN ?_
    refine new_var (e := 24) [.int .i64 0, .int .i64 0, .string ⟨#[]⟩] rfl ?_
    intro h5 b8 o8 x5 z5 hb8
    have o6 := o6.ext x5
    refine gN ?_
    refine store_blk o8 (by simp) (by simp [isOne]) ?_
    intro h6 f6 z6 o8
    replace o8 : BlkW h6 b8 24 (cellsV (refV (H.objs.length + 1))) := by simpa [refV] using o8
    have o6 := o6.offk f6 (by omega)
    have X6 : Ext h4 h6 := x5.offNew f6 (by omega)
    refine gN ?_
    refine store_blk o6 (by simp) (by simp [isOne]) ?_
    intro h7 f7 z7 o6
    replace o6 : BlkW h7 b6 24 (cellsV (refV (H.objs.length + 1))) := by simpa [refV] using o6
    refine gN ?_
    have x7 : HeapR h7 bh _ Z' := (x4.ext X6).same fun b hb => f7.2 b (by have := (x4.ext X6).lt b hb; omega) (by
      rcases y3.2.2 b hb with hm | hm
      · exact nb6 b hm
      · rintro rfl
        rcases y4.2.2 _ hb with hm | hm
        · exact nb6 _ hm rfl
        · omega)
    exact ⟨_, _, Z', rfl, x7, (y3.trans (PassF.of_ext X6)).offNew f7 (by omega)⟩
set_option maxHeartbeats 8000000
def idxR (o : Option Nat) : Value := .tuple #[.int .i64 (o.getD 0 : Nat), .bool o.isSome]
theorem digV_snoc (l : List Nat) (c : Nat) : digV (l ++ [c]) = 10 * digV l + (c - 48) := by unfold digV; rw [List.foldl_append]; rfl
theorem take_snoc {l : List Nat} {i : Nat} (hi : i < l.length) : l.take (i + 1) = l.take i ++ [l[i]] := by
  rw [List.take_add_one, List.getElem?_eq_getElem hi]; rfl
theorem uindex_spec (l : List UInt8) (hl : l.length ≤ 2097152) (h : Heap) : HCalls Tryz.prog 155 #[.string ⟨l.toArray⟩] h fun e h' => e = .returned (idxR (idxL (ulist l))) ∧ h' = h := by
  have hul := ulist_len l
  have hlt := ulist_lt l
  refine c155 (by simp) ?_
  refine gA ?_
  refine HCall.mk ((ulen_spec l hl h).mono ?_)
  rintro e h1 ⟨rfl, rfl⟩
  rw [← hul]
  generalize hm : ulist l = m at hlt ⊢
  have hml : m.length = l.length / 2 := by rw [← hm]; exact hul
  have hat : ∀ (i : Nat) (hi : i < m.length) (h : Heap), HCalls Tryz.prog 113 #[.string ⟨l.toArray⟩, .int .i64 i] h fun e h' => e = .returned (.int .i64 (m[i] : Nat)) ∧ h' = h := by
    intro i hi h
    have := at_spec l hl i (by rw [hm]; exact hi) h
    simp only [hm] at this
    exact this
  have hmx : ∀ i (hi : i < m.length), m[i] < 65536 := fun i hi => hlt _ (List.getElem_mem hi)
  refine gB ?_
  refine cut_rule [] (fun _ h' => h' = h1 ∧ 0 < m.length ∧ m.length ≤ 9 ∧ ¬ (m.head? = some 48 ∧ 1 < m.length)) rfl ?_ ?_
  · by_cases h0 : m.length = 0
    · have q1 : ((m.length : Int) == 0) = true := by rw [h0]; rfl
      have e : idxL m = none := by unfold idxL; rw [if_pos (.inl (List.length_eq_zero_iff.1 h0))]
      rw [e]
      refine gA ?_
      exact ⟨rfl, rfl⟩
    have q1 : ((m.length : Int) == 0) = false := beq_eq_false_iff_ne.2 (by omega)
    by_cases h9 : 9 < m.length
    · have q2 : decide ((m.length : Int) > 9) = true := decide_eq_true (by omega)
      have e : idxL m = none := by unfold idxL; rw [if_pos (.inr (.inl h9))]
      rw [e]
      refine gA ?_
      exact ⟨rfl, rfl⟩
    have q2 : decide ((m.length : Int) > 9) = false := decide_eq_false (by omega)
    have hm0 : 0 < m.length := by omega
    have hh0 : m.head? = some m[0] := by cases m with | nil => simp at hm0 | cons a b => rfl
    have h65 := hmx 0 hm0
    refine gA ?_
    refine HCall.mk ((hat 0 hm0 h1).mono ?_)
    rintro e h2 ⟨rfl, rfl⟩
    by_cases h48 : m[0] = 48
    · have q3 : ((m[0] : Int) == 48) = true := by rw [h48]; rfl
      by_cases h1l : 1 < m.length
      · have q4 : decide ((m.length : Int) > 1) = true := decide_eq_true (by omega)
        have e : idxL m = none := by unfold idxL; rw [if_pos (.inr (.inr ⟨by rw [hh0, h48], h1l⟩))]
        rw [e]
        refine gA ?_
        exact ⟨rfl, rfl⟩
      · have q4 : decide ((m.length : Int) > 1) = false := decide_eq_false (by omega)
        refine gA ?_
        exact ⟨rfl, hm0, by omega, fun c => h1l c.2⟩
    · have q3 : ((m[0] : Int) == 48) = false := beq_eq_false_iff_ne.2 (by omega)
      refine gA ?_
      exact ⟨rfl, hm0, by omega, by rw [hh0]; exact fun c => h48 (Option.some.inj c.1)⟩
  intro u h2
  rintro ⟨rfl, hm0, h9, hh⟩
  have er : idxL m = if m.all isDig = true then some (digV m) else none := by
    unfold idxL
    rw [if_neg]
    rintro (c | c | c)
    · rw [c] at hm0; simp at hm0
    · omega
    · exact hh c
  rw [er]
  refine gA ?_
  refine loop_rule [26, 5] (fun us h' => ∃ i : Nat, us = [.int .i64 i, .int .i64 (digV (m.take i) : Nat)] ∧ i ≤ m.length ∧ (m.take i).all isDig = true ∧ digV (m.take i) < 10 ^ i ∧ h' = h2) (fun us _ => match us with | [.int _ i, _] => m.length - i.toNat | _ => 0) rfl ?_ ?_
  · exact ⟨0, by rw [List.take_zero]; rfl, by omega, by simp, by simp [digV], rfl⟩
  intro u h3 v26 v5
  rintro ⟨i, e, hi, hall, hdv, rfl⟩
  cases e
  refine gA ?_
  refine HIf.mk (fun hlt2 => ?_) (fun hlt2 => ?_)
  · have hi1 : i < m.length := by have := of_decide_eq_true hlt2; omega
    have hmu : m.length - ((i : Int) + 1).toNat < m.length - ((i : Int)).toNat := by omega
    have h65 := hmx i hi1
    have hp9 : 10 ^ i ≤ 10 ^ 8 := Nat.pow_le_pow_right (by omega) (by omega)
    have ht := take_snoc hi1
    refine gA ?_
    refine HCall.mk ((hat i hi1 h3).mono ?_)
    rintro e h4 ⟨rfl, rfl⟩
    by_cases hlo : m[i] < 48
    · have q5 : decide ((m[i] : Int) < 48) = true := decide_eq_true (by omega)
      have e2 : ¬ m.all isDig = true := fun c => by
        have := of_decide_eq_true (List.all_eq_true.1 c _ (List.getElem_mem hi1)); omega
      rw [if_neg e2]
      refine gA ?_
      exact ⟨rfl, rfl⟩
    · have q5 : decide ((m[i] : Int) < 48) = false := decide_eq_false (by omega)
      by_cases hhi : 57 < m[i]
      · have q6 : decide ((m[i] : Int) > 57) = true := decide_eq_true (by omega)
        have e2 : ¬ m.all isDig = true := fun c => by
          have := of_decide_eq_true (List.all_eq_true.1 c _ (List.getElem_mem hi1)); omega
        rw [if_neg e2]
        refine gA ?_
        exact ⟨rfl, rfl⟩
      · have q6 : decide ((m[i] : Int) > 57) = false := decide_eq_false (by omega)
        have hdig : isDig m[i] = true := decide_eq_true (by omega)
        have ed : digV (m.take (i + 1)) = 10 * digV (m.take i) + (m[i] - 48) := by rw [ht, digV_snoc]
        refine gA ?_
        refine ⟨⟨i + 1, ?_, by omega, by rw [ht, List.all_append, hall]; simp [hdig], by rw [ed, Nat.pow_succ]; omega, rfl⟩, hmu⟩
        have ei : (10 : Int) * (digV (m.take i) : Nat) + (m[i] : Nat) - 48 = ((digV (m.take (i + 1)) : Nat) : Int) := by rw [ed]; omega
        rw [← ei]
        rfl
  · have hge := of_decide_eq_false hlt2
    obtain rfl : i = m.length := by omega
    rw [List.take_length] at hall
    rw [if_pos hall, List.take_length]
    refine gA ?_
    exact ⟨rfl, rfl⟩
set_option maxHeartbeats 8000000
theorem isLen_spec {h : Heap} {o : PO} {z : OZ} (x : ObjR h o z) (key : ByteArray) : HCalls Tryz.prog 83 #[.pointer (some ⟨z.bi, 0, none⟩), .string key] h fun e h' => e = .returned (.bool (isLenP o key)) ∧ h' = h := by
  have ob := x.b
  refine c83 (by simp) ?_
  unfold isLenP isArr
  cases h1 : strEq o.cls arrS
  · have q1 : strEq o.cls ⟨#[65, 114, 114, 97, 121]⟩ = false := h1
    refine gA ?_
    exact ⟨rfl, rfl⟩
  · have q1 : strEq o.cls ⟨#[65, 114, 114, 97, 121]⟩ = true := h1
    refine gA ?_
    exact ⟨rfl, rfl⟩
theorem index_spec {h : Heap} {o : PO} {z : OZ} (x : ObjR h o z) (key : ByteArray) (hk : key.size ≤ 2097152) : HCalls Tryz.prog 132 #[.pointer (some ⟨z.bi, 0, none⟩), .string key] h fun e h' =>
    ∃ i : Int, e = .returned (.tuple #[.int .i64 i, .bool (arrIx o key).isSome]) ∧ (∀ j, arrIx o key = some j → i = (j : Int)) ∧ h' = h := by
  have ob := x.b
  obtain ⟨⟨l⟩⟩ := key
  refine c132 (by simp) ?_
  refine gA ?_
  refine HCall.mk ((uindex_spec l hk h).mono ?_)
  rintro e h1 ⟨rfl, rfl⟩
  have ei : idxK ⟨⟨l⟩⟩ = idxL (ulist l) := rfl
  unfold arrIx
  rw [ei]
  cases hx : idxL (ulist l) with
  | none =>
    have q : (none : Option Nat).isSome = false := rfl
    unfold idxR
    refine gA ?_
    refine ⟨0, ?_, (fun j hj => by split at hj <;> cases hj), rfl⟩
    have e2 : (if isArr o = true then (none : Option Nat) else none).isSome = false := by split <;> rfl
    rw [e2]
    rfl
  | some j =>
    have q : (some j).isSome = true := rfl
    unfold idxR
    refine gA ?_
    cases h1 : strEq o.cls arrS
    · have e2 : ¬ isArr o = true := by unfold isArr; rw [h1]; simp
      rw [if_neg e2]
      refine ⟨j, ?_, (fun k hk => by cases hk), rfl⟩
      rfl
    · have e2 : isArr o = true := h1
      rw [if_pos e2]
      refine ⟨j, ?_, (fun k hk => by cases hk; rfl), rfl⟩
      rfl
theorem findI_some {key : ByteArray} : ∀ {l : List KV} {i : Nat}, findI key l = some i → ∃ hi : i < l.length, l[i].1 = key ∧ lookP key l = some l[i].2
  | [], i, h => by cases h
  | p :: r, i, h => by
    simp only [findI] at h
    by_cases e : p.1 = key
    · rw [if_pos e] at h; cases h
      exact ⟨by simp, e, by simp only [lookP]; rw [if_pos e]; rfl⟩
    · rw [if_neg e] at h
      cases hf : findI key r with
      | none => rw [hf] at h; cases h
      | some j =>
        rw [hf] at h; cases h
        obtain ⟨h1, h2, h3⟩ := findI_some hf
        exact ⟨by simpa using h1, by simpa using h2, by simp only [lookP]; rw [if_neg e, h3]; rfl⟩
theorem findI_none {key : ByteArray} : ∀ {l : List KV}, findI key l = none → lookP key l = none ∧ ∀ p ∈ l, p.1 ≠ key
  | [], h => ⟨rfl, by simp⟩
  | p :: r, h => by
    simp only [findI] at h
    by_cases e : p.1 = key
    · rw [if_pos e] at h; cases h
    · rw [if_neg e, Option.map_eq_none_iff] at h
      obtain ⟨h1, h2⟩ := findI_none h
      exact ⟨by simp only [lookP]; rw [if_neg e]; exact h1, fun q hq => by
        rcases List.mem_cons.1 hq with rfl | hq
        · exact e
        · exact h2 q hq⟩
theorem elsK (h : Heap) : ∀ l : List KV, Els (fun _ (p : KV) cs => cs = cellsK p) h l (cellsKs l)
  | [] => rfl
  | p :: r => ⟨cellsK p, cellsKs r, rfl, rfl, elsK h r⟩
theorem Sl.loadK {h : Heap} {a : Option Addr} {c : Nat} {l : List KV} {p : Addr} {i : Nat} {K : Value → Prop} (x : Sl h 7 a l.length c (cellsKs l)) (ep : a = some p) (hi : i < l.length)
    (k : K (.agg (cellsK l[i]).toArray)) : HLoadN h (p.add (i * 7)) 7 K :=
  Sl.loadEl (R := fun _ (p : KV) cs => cs = cellsK p) (by rintro d cs rfl; rfl) x (elsK h l) ep hi (by rintro cs rfl; exact k)
abbrev zeroK : List Value := [.string ⟨#[]⟩, .int .i64 0, .int .i64 0, .string ⟨#[]⟩, .bool false, .bool false, .bool false]
def propC (key : ByteArray) (e f : Bool) : Option VV → List Value
  | none => zeroK
  | some v => [.string key, .int .i64 v.k, .int .i64 v.n, .string v.s, .bool true, .bool e, .bool f]
theorem own_spec {h : Heap} {o : PO} {z : OZ} (x : ObjR h o z) (key : ByteArray) (hl : o.props.length ≤ 1000000) : HCalls Tryz.prog 67 #[.pointer (some ⟨z.bi, 0, none⟩), .string key] h fun e h' =>
    ∃ e1 e2, e = .returned (.tuple #[.agg (propC key e1 e2 (ownP o key)).toArray, .bool (ownP o key).isSome]) ∧ Ext h h' := by
  refine c67 (by simp) ?_
  refine gA ?_
  refine new_var (e := 53) zeroK rfl ?_
  intro h1 b4 o4 x1 z1 hb4
  have x' := x.ext x1
  have ob := x'.b
  refine gA ?_
  refine HCall.mk ((isLen_spec x' key).mono ?_)
  rintro e h2 ⟨rfl, rfl⟩
  unfold ownP
  by_cases hlen : isLenP o key = true
  · rw [if_pos hlen]
    refine gA ?_
    refine store_blk o4 (by simp) (by simp [isOne]) ?_
    intro h3 f3 z3 o3
    replace o3 : BlkW h3 b4 53 (propC key false false (some ⟨3, o.long, noS⟩)) := by simpa [propC] using o3
    refine gN ?_
    exact ⟨false, false, rfl, x1.offNew f3 (by omega)⟩
  · have hlen' : isLenP o key = false := by simpa using hlen
    rw [if_neg hlen]
    obtain ⟨L, m, pl⟩ := x'.m
    have hpl := pl key
    refine gA ?_
    refine m.look keyOk_string key (fun hn es clock => ?_) (fun v hv es clock j => ?_)
    · have hf : findI key o.props = none := by
        rw [hn] at hpl
        exact Option.map_eq_none_iff.1 hpl.symm
      rw [(findI_none hf).1]
      refine gA ?_
      refine store_blk o4 (by simp) (by simp [isOne]) ?_
      intro h3 f3 z3 o3
      replace o3 : BlkW h3 b4 53 zeroK := by simpa using o3
      refine gN ?_
      exact ⟨false, false, rfl, x1.offNew f3 (by omega)⟩
    · have hf : ∃ i, findI key o.props = some i ∧ v = (i : Int) := by
        rw [hv] at hpl
        cases hfi : findI key o.props with
        | none => rw [hfi] at hpl; cases hpl
        | some i => rw [hfi] at hpl; exact ⟨i, rfl, by simpa using hpl⟩
      obtain ⟨i, hf, rfl⟩ := hf
      obtain ⟨hi, hk, hlk⟩ := findI_some hf
      rw [hlk]
      refine gA ?_
      refine HIdx.mk i rfl hi ?_
      refine sl_some x'.p.sl hi fun p ep => ?_
      refine gA ?_
      refine Sl.loadK x'.p.sl ep hi ?_
      refine gA ?_
      refine store_blk o4 (by simp [cellsK]) (by intro v hv; exact cellsKs_one [o.props[i]] v (by simpa [cellsKs] using hv)) ?_
      intro h3 f3 z3 o3
      replace o3 : BlkW h3 b4 53 (propC key true true (some o.props[i].2)) := by rw [← hk]; simpa [propC, cellsK] using o3
      refine gN ?_
      exact ⟨true, true, rfl, x1.offNew f3 (by omega)⟩
set_option maxHeartbeats 16000000
theorem up_spec {bh : Nat} {v : VV} {h : Heap} : HCalls Tryz.prog 129 #[.pointer (some ⟨bh, 0, none⟩), .agg (cellsV v).toArray] h fun e h' =>
    ∃ b2 b3, e = .returned (.func (.func 152) #[] #[.pointer (some ⟨b2, 0, none⟩), .pointer (some ⟨b3, 0, none⟩)]) ∧ BlkW h' b2 26 [.pointer (some ⟨bh, 0, none⟩)] ∧ BlkW h' b3 24 (cellsV v) ∧ h.size ≤ b2 ∧ h.size ≤ b3 ∧ Ext h h' := by
  refine c129 (by simp) ?_
  refine gA ?_
  refine new_var (e := 26) [.pointer (some ⟨bh, 0, none⟩)] rfl ?_
  intro h1 b2 o2 x1 z1 hb2
  refine gA ?_
  refine new_var (e := 24) (cellsV v) rfl ?_
  intro h2 b3 o3 x2 z2 hb3
  refine gA ?_
  exact ⟨b2, b3, rfl, o2.ext x2, o3, by omega, by have := x1.1; omega, x1.trans x2⟩
theorem ptr_some {Z : HZ} {i : Nat} (hi : i < Z.os.length) : ptrP Z (some i) = .pointer (some ⟨Z.os[i].bi, 0, none⟩) := by unfold ptrP; rw [Option.bind_some, List.getElem?_eq_getElem hi]
theorem ptr_none {Z : HZ} : ptrP Z none = .pointer none := rfl
theorem ptr_ex (Z : HZ) (o : Option Nat) : ∃ a, ptrP Z o = .pointer a := by
  unfold ptrP; split
  · exact ⟨_, rfl⟩
  · exact ⟨_, rfl⟩
theorem blk_ldSub {h : Heap} {b e o n : Nat} {cs : List Value} {K : Value → Prop} (x : BlkW h b e cs) (hl : o + n ≤ cs.length) (k : K (.agg ((cs.drop o).take n).toArray)) : HLoadN h ((⟨b, 0, none⟩ : Addr).add o) n K := by
  refine ⟨(cs.drop o).take n, by rw [List.length_take, List.length_drop]; omega, fun j hj => ?_, k⟩
  rw [add_add, add_mk, Nat.zero_add, x.blk.cell, List.getElem?_take_of_lt hj, List.getElem?_drop]
def restX (H : PH) : Option Nat → List Nat
  | none => []
  | some i => i :: match H.objs[i]? with
    | none => []
    | some o => chainX H o.proto
theorem restX_at {H : PH} (w : Wf H) (v : VV) : restX H (atP H v) = chainX H v := by
  cases ha : atP H v with
  | none => rw [chainX_none ha]; rfl
  | some i =>
    rw [chainX_some w ha]
    show (i :: match H.objs[i]? with | none => [] | some o => chainX H o.proto) = _
    rw [List.getElem?_eq_getElem (atP_lt ha)]
theorem up1_spec {bh : Nat} {H : PH} {Z : HZ} {P : List Nat → Heap → Prop} {Fin : Heap → Prop} {l b2 b3 : Nat} {v : VV} {h : Heap} (w : Wf H) (hn : i64 v.n) (hl : H.objs.length ≤ 1000000)
    (stay : ∀ r h h', P r h → Ext h h' → P r h') (hr : ∀ r h, P r h → HeapR h bh H Z) (o2 : ∀ r h, P r h → BlkW h b2 26 [.pointer (some ⟨bh, 0, none⟩)]) (o3 : BlkW h b3 24 (cellsV v))
    (hy : ∀ (i : Nat) (hi : i < Z.os.length) r h', P (i :: r) h' → HYield Tryz.prog l #[.pointer (some ⟨Z.os[i].bi, 0, none⟩)] h' fun e h'' => (e = .returned (.bool true) ∧ P r h'') ∨ (e = .returned (.bool false) ∧ Fin h''))
    (start : P (chainX H v) h) :
    HCalls Tryz.prog 152 #[.func (.yield l) #[] #[], .pointer (some ⟨b2, 0, none⟩), .pointer (some ⟨b3, 0, none⟩)] h fun e h' => e = .returned (.tuple #[]) ∧ (P [] h' ∨ Fin h') := by
  refine c152 (by simp) ?_
  have q2 := o2 _ _ start
  refine gN ?_
  refine HCall.mk ((find_spec (hr _ _ start) v hn hl).mono ?_)
  rintro e h1 ⟨rfl, x1⟩
  have p1 := stay _ _ _ start x1
  rw [← restX_at w v] at p1
  obtain ⟨pa, epa⟩ := ptr_ex Z (atP H v)
  rw [epa]
  refine gN ?_
  refine loop_ghost [4] (fun (ox : Option Nat) us h' => us = [ptrP Z ox] ∧ (∀ i, ox = some i → i < H.objs.length) ∧ P (restX H ox) h') (fun ox => match ox with | none => 0 | some i => i + 1) rfl ?_ ?_
  · exact ⟨atP H v, by rw [epa]; rfl, fun i hi => atP_lt hi, p1⟩
  intro ox u h2 v4
  rintro ⟨e, hox, p2⟩
  cases e
  cases ox with
  | none =>
    rw [ptr_none]
    have q : (bif true then !(none : Option Addr).isNone else (none : Option Addr).isNone) = false := rfl
    refine gA ?_
    exact ⟨rfl, .inl p2⟩
  | some i =>
    have hi := hox i rfl
    have hr2 := hr _ _ p2
    have hz : i < Z.os.length := by have := hr2.len; omega
    have er : restX H (some i) = i :: chainX H H.objs[i].proto := by
      show (i :: match H.objs[i]? with | none => [] | some o => chainX H o.proto) = _
      rw [List.getElem?_eq_getElem hi]
    rw [er] at p2
    rw [ptr_some hz]
    have q : (bif true then !(some (⟨Z.os[i].bi, 0, none⟩ : Addr)).isNone else (some (⟨Z.os[i].bi, 0, none⟩ : Addr)).isNone) = true := rfl
    refine gA ?_
    refine yield_call (hy i hz _ h2 p2) ?_
    rintro e h3 (⟨rfl, p3⟩ | ⟨rfl, p3⟩)
    · have hr3 := hr _ _ p3
      have ob := (hr3.all i hi hz).b
      have q2 := o2 _ _ p3
      refine gN ?_
      refine blk_ldSub ob (by simp) ?_
      refine gN ?_
      refine HCall.mk ((find_spec hr3 H.objs[i].proto (w.num i hi) hl).mono ?_)
      rintro e h4 ⟨rfl, x4⟩
      have p4 := stay _ _ _ p3 x4
      rw [← restX_at w] at p4
      obtain ⟨pa, epa⟩ := ptr_ex Z (atP H H.objs[i].proto)
      rw [epa]
      refine gN ?_
      refine ⟨atP H H.objs[i].proto, ⟨by rw [epa]; rfl, fun j hj => atP_lt hj, p4⟩, ?_⟩
      cases ha : atP H H.objs[i].proto with
      | none => exact Nat.succ_pos i
      | some j => have := w.pro i hi j ha; show j + 1 < i + 1; omega
    · refine gA ?_
      exact ⟨rfl, .inr p3⟩
set_option maxHeartbeats 16000000
theorem off_set (h : Heap) (k : Nat) (o : Obj) : Off k h (h.setIfInBounds k o) := ⟨by simp, fun b hb hne => by rw [Array.getElem?_setIfInBounds, if_neg (Ne.symm hne)]⟩
theorem set_same {h : Heap} {k : Nat} {o o' : Obj} (x : h[k]? = some o') : (h.setIfInBounds k o)[k]? = some o := by
  rcases Nat.lt_or_ge k h.size with hl | hl
  · rw [Array.getElem?_setIfInBounds, if_pos rfl, if_pos hl]
  · rw [Array.getElem?_eq_none hl] at x; cases x
theorem lt_of_at {h : Heap} {k : Nat} {o : Obj} (x : h[k]? = some o) : k < h.size := (Array.getElem?_eq_some_iff.1 x).1
def OffS3 (S : List Nat) (h h' : Heap) : Prop := h.size ≤ h'.size ∧ ∀ b, b < h.size → b ∉ S → h'[b]? = h[b]?
def objsX (H : PH) (r : List Nat) : List PO := r.filterMap fun i => H.objs[i]?
structure Few (H : PH) : Prop where
  len : H.objs.length ≤ 1000000
  props : ∀ o ∈ H.objs, o.props.length ≤ 1000000
theorem propC_len (key : ByteArray) (e f : Bool) (v : Option VV) : (propC key e f v).length = 7 := by cases v <;> rfl
theorem propC_one (key : ByteArray) (e f : Bool) (v : Option VV) : ∀ y ∈ propC key e f v, isOne y = true := by
  intro y hy
  cases v with
  | none => simp only [propC, List.mem_cons, List.not_mem_nil, or_false] at hy; rcases hy with rfl | rfl | rfl | rfl | rfl | rfl | rfl <;> rfl
  | some v => simp only [propC, List.mem_cons, List.not_mem_nil, or_false] at hy; rcases hy with rfl | rfl | rfl | rfl | rfl | rfl | rfl <;> rfl
theorem seek_spec {h : Heap} {bh : Nat} {H : PH} {Z : HZ} (x : HeapR h bh H Z) (w : Wf H) (fw : Few H) (v : VV) (hn : i64 v.n) (key : ByteArray) :
    HCalls Tryz.prog 82 #[.pointer (some ⟨bh, 0, none⟩), .agg (cellsV v).toArray, .string key] h fun e h' =>
      ∃ e1 e2, e = .returned (.tuple #[.agg (propC key e1 e2 (seekL key (chainP H v))).toArray, .bool (seekL key (chainP H v)).isSome]) ∧ Ext h h' := by
  refine c82 (by simp) ?_
  refine gA ?_
  refine new_var (e := 24) (cellsV v) rfl ?_
  intro h1 b4 o4 x1 z1 hb4
  refine gA ?_
  refine new_var (e := 9) [.string key] rfl ?_
  intro h2 b5 o5 x2 z2 hb5
  have o4 := o4.ext x2
  refine gA ?_
  refine new_var (e := 53) zeroK rfl ?_
  intro h3 b6 o6 x3 z3 hb6
  have o4 := o4.ext x3
  have o5 := o5.ext x3
  refine gA ?_
  refine new_var (e := 4) [.bool false] rfl ?_
  intro h4 b7 o7 x4 z4 hb7
  have o4 := o4.ext x4
  have o5 := o5.ext x4
  have o6 := o6.ext x4
  have X4 : Ext h h4 := ((x1.trans x2).trans x3).trans x4
  refine gN ?_
  refine HCall.mk (up_spec.mono ?_)
  rintro e h5 ⟨b2, b3, rfl, p2, p3, _, _, x5⟩
  have o5 := o5.ext x5
  have o6 := o6.ext x5
  have o7 := o7.ext x5
  have X5 := X4.trans x5
  have hx5 := x5.1
  refine gA ?_
  refine HRange.mk 152 #[.pointer (some ⟨b2, 0, none⟩), .pointer (some ⟨b3, 0, none⟩)] rfl (by kernel_rfl) fun rec yl => ?_
  show HCalls Tryz.prog 152 #[.func (.yield (h5.size + 1)) #[] #[], .pointer (some ⟨b2, 0, none⟩), .pointer (some ⟨b3, 0, none⟩)] ((h5.push (.deferred (some []))).push (.loop (rec .ready none))) _
  have eX : Ext h5 ((h5.push (.deferred (some []))).push (.loop (rec .ready none))) := (Ext.push h5 (.deferred (some []))).trans (Ext.push _ (.loop (rec .ready none)))
  have dX : ((h5.push (.deferred (some []))).push (.loop (rec .ready none)))[h5.size]? = some (.deferred (some [])) := by
    rw [Array.getElem?_push, if_neg (by simp), Array.getElem?_push, if_pos rfl]
  have rX : ((h5.push (.deferred (some []))).push (.loop (rec .ready none)))[h5.size + 1]? = some (.loop (rec .ready none)) := by
    rw [Array.getElem?_push, if_pos (by simp)]
  generalize ((h5.push (.deferred (some []))).push (.loop (rec .ready none))) = hX at eX dX rX ⊢
  have XX := X5.trans eX
  have o5 := o5.ext eX
  have o6 := o6.ext eX
  have o7 := o7.ext eX
  have p2 := p2.ext eX
  have p3 := p3.ext eX
  have hzX := eX.1
  have hlX := lt_of_at rX
  have l6 := o6.lt
  have l7 := o7.lt
  have l5 := o5.lt
  have hlen := x.len
  have hX5 := X5.1
  refine (up1_spec (bh := bh) (H := H) (Z := Z) (P := fun r h' => Ext hX h' ∧ seekL key (chainP H v) = seekL key (objsX H r))
    (Fin := fun h' => ∃ (sv : VV) (e1 e2 : Bool), seekL key (chainP H v) = some sv ∧ OffS3 [h5.size + 1, b6, b7] hX h' ∧ BlkW h' b6 53 (propC key e1 e2 (some sv)) ∧ BlkW h' b7 4 [.bool true] ∧ h'[h5.size + 1]? = some (.loop (rec .done (some .ret))))
    w hn fw.len (fun r h h' p k => ⟨p.1.trans k, p.2⟩) (fun r h' p => x.ext (XX.trans p.1)) (fun r h' p => p2.ext p.1) p3 ?_ ⟨Ext.refl hX, rfl⟩).mono ?_
  · rintro i hz r h6 ⟨X6, hs6⟩
    have hi : i < H.objs.length := by omega
    have r6 : h6[h5.size + 1]? = some (.loop (rec .ready none)) := by rw [X6.2 _ hlX]; exact rX
    refine yl [.pointer (some ⟨Z.os[i].bi, 0, none⟩)] h6 _ rfl r6 ?_
    have f7 := off_set h6 (h5.size + 1) (.loop (rec .busy none))
    have r7 := set_same (o := .loop (rec .busy none)) r6
    have X7 : Ext h (h6.setIfInBounds (h5.size + 1) (.loop (rec .busy none))) := (XX.trans X6).offNew f7 (by omega)
    have q5 := (o5.ext X6).offk f7 (by omega)
    have q6 := (o6.ext X6).offk f7 (by omega)
    have q7 := (o7.ext X6).offk f7 (by omega)
    have hX6 := X6.1
    refine gA ?_
    refine ⟨r6, ?_⟩
    generalize h6.setIfInBounds (h5.size + 1) (.loop (rec .busy none)) = h7 at f7 r7 X7 q5 q6 q7
    have hf7 := f7.1
    refine gA ?_
    refine HCall.mk ((own_spec ((x.ext X7).all i hi hz) key (fw.props _ (List.getElem_mem hi))).mono ?_)
    rintro e h8 ⟨e1, e2, rfl, x8⟩
    have q6 := q6.ext x8
    have q7 := q7.ext x8
    have r8 : h8[h5.size + 1]? = some (.loop (rec .busy none)) := by rw [x8.2 _ (lt_of_at r7)]; exact r7
    have hx8 := x8.1
    refine gA ?_
    refine new_var (e := 53) zeroK rfl ?_
    intro h9 b9 o9 x9 z9 hb9
    refine gA ?_
    refine HMust.mk (by simp [propC_len]) ?_
    refine store_blk o9 (by simp [propC_len]) (by simpa using propC_one key e1 e2 (ownP H.objs[i] key)) ?_
    intro h10 f10 z10 o10
    replace o10 : BlkW h10 b9 53 (propC key e1 e2 (ownP H.objs[i] key)) := by simpa [propC_len] using o10
    have X10 : Ext h8 h10 := x9.offNew f10 (by omega)
    have q6 := q6.ext X10
    have q7 := q7.ext X10
    have r10 : h10[h5.size + 1]? = some (.loop (rec .busy none)) := by rw [X10.2 _ (lt_of_at r8)]; exact r8
    have hX10 := X10.1
    have es : seekL key (objsX H (i :: r)) = match ownP H.objs[i] key with | some v => some v | none => seekL key (objsX H r) := by
      unfold objsX
      rw [List.filterMap_cons, List.getElem?_eq_getElem hi]
      rfl
    rw [es] at hs6
    cases ho : ownP H.objs[i] key with
    | none =>
      rw [ho] at hs6
      have q : (none : Option VV).isSome = false := rfl
      refine gA ?_
      have f11 := off_set h10 (h5.size + 1) (.loop (rec .ready none))
      refine ⟨⟨_, _, r10⟩, .inl ⟨rfl, ⟨by have := f11.1; omega, fun b hb => ?_⟩, hs6⟩⟩
      by_cases hb5 : b = h5.size + 1
      · subst hb5; rw [set_same r10]; exact rX.symm
      · rw [f11.2 b (by omega) hb5, X10.2 b (by omega), x8.2 b (by omega), f7.2 b (by omega) hb5, X6.2 b hb]
    | some sv =>
      rw [ho] at hs6 o10
      have q : (some sv).isSome = true := rfl
      have hl10 := propC_len key e1 e2 (some sv)
      refine gN ?_
      refine store_blk q6 (by simp [propC]) (by simpa using propC_one key e1 e2 (some sv)) ?_
      intro h11 f11 z11 q6
      replace q6 : BlkW h11 b6 53 (propC key e1 e2 (some sv)) := by simpa [propC_len] using q6
      have q7 := q7.offk f11 (by omega)
      have r11 : h11[h5.size + 1]? = some (.loop (rec .busy none)) := by rw [f11.2 _ (lt_of_at r10) (by omega)]; exact r10
      refine gN ?_
      refine store1_blk q7 (by simp) rfl ?_
      intro h12 f12 z12 q7
      have q7 : BlkW h12 b7 4 [.bool true] := q7
      have q6 := q6.offk f12 (by omega)
      have r12 : h12[h5.size + 1]? = some (.loop (rec .busy none)) := by rw [f12.2 _ (lt_of_at r11) (by omega)]; exact r11
      refine gN ?_
      have f13 := off_set h12 (h5.size + 1) (.loop (rec .done (some .ret)))
      have hf11 := f11.1
      have hf12 := f12.1
      refine ⟨⟨_, _, r12⟩, .inr ⟨rfl, sv, e1, e2, hs6, ⟨by have := f13.1; omega, fun b hb hn => ?_⟩, q6.offk f13 (by omega), q7.offk f13 (by omega), set_same r12⟩⟩
      simp only [List.mem_cons, List.not_mem_nil, or_false, not_or] at hn
      rw [f13.2 b (by omega) hn.1, f12.2 b (by omega) hn.2.2, f11.2 b (by omega) hn.2.1, X10.2 b (by omega), x8.2 b (by omega), f7.2 b (by omega) hn.1, X6.2 b hb]
  rintro e h6 ⟨rfl, ⟨X6, hs6⟩ | ⟨sv, e1, e2, hs6, O6, q6, q7, r6⟩⟩
  · have r6 : h6[h5.size + 1]? = some (.loop (rec .ready none)) := by rw [X6.2 _ hlX]; exact rX
    refine ⟨.ready, none, r6, ⟨(fun e => LoopState.noConfusion e), ?_⟩⟩
    have f7 := off_set h6 (h5.size + 1) (.loop (rec .exhausted none))
    have q6 := (o6.ext X6).offk f7 (by omega)
    have q7 := (o7.ext X6).offk f7 (by omega)
    have d7 : (h6.setIfInBounds (h5.size + 1) (.loop (rec .exhausted none)))[h5.size]? = some (.deferred (some [])) := by rw [f7.2 _ (by have := X6.1; omega) (by omega), X6.2 _ (by omega)]; exact dX
    have X7 : Ext h (h6.setIfInBounds (h5.size + 1) (.loop (rec .exhausted none))) := (XX.trans X6).offNew f7 (by omega)
    generalize h6.setIfInBounds (h5.size + 1) (.loop (rec .exhausted none)) = h7 at f7 q6 q7 d7 X7
    have hs : seekL key (chainP H v) = none := hs6
    rw [hs]
    refine gA ?_
    refine store_blk q6 (by simp) (by simp [isOne]) ?_
    intro h8 f8 z8 q6
    replace q6 : BlkW h8 b6 53 zeroK := by simpa using q6
    have q7 := q7.offk f8 (by omega)
    have d8 : h8[h5.size]? = some (.deferred (some [])) := by rw [f8.2 _ (lt_of_at d7) (by omega)]; exact d7
    refine gA ?_
    refine store1_blk q7 (by simp) rfl ?_
    intro h9 f9 z9 q7
    have q7 : BlkW h9 b7 4 [.bool false] := q7
    have q6 := q6.offk f9 (by omega)
    have d9 : h9[h5.size]? = some (.deferred (some [])) := by rw [f9.2 _ (lt_of_at d8) (by omega)]; exact d8
    refine gA ?_
    refine HMark.mk d9 ?_
    have f10 := off_set h9 h5.size (.deferred none)
    have q6 := q6.offk f10 (by omega)
    have q7 := q7.offk f10 (by omega)
    have X10 : Ext h (h9.setIfInBounds h5.size (.deferred none)) := ((X7.offNew f8 (by omega)).offNew f9 (by omega)).offNew f10 (by omega)
    generalize h9.setIfInBounds h5.size (.deferred none) = h10 at f10 q6 q7 X10
    refine gN ?_
    exact ⟨false, false, rfl, X10⟩
  · refine ⟨.done, some .ret, r6, ⟨(fun e => LoopState.noConfusion e), ?_⟩⟩
    have f7 := off_set h6 (h5.size + 1) (.loop (rec .exhausted (some .ret)))
    have q6 := q6.offk f7 (by omega)
    have q7 := q7.offk f7 (by omega)
    have hO := O6.1
    have d7 : (h6.setIfInBounds (h5.size + 1) (.loop (rec .exhausted (some .ret))))[h5.size]? = some (.deferred (some [])) := by rw [f7.2 _ (by omega) (by omega), O6.2 _ (by omega) (by simp; omega)]; exact dX
    have X7 : Ext h (h6.setIfInBounds (h5.size + 1) (.loop (rec .exhausted (some .ret)))) := ⟨by have := f7.1; omega, fun b hb => by rw [f7.2 b (by omega) (by omega), O6.2 b (by omega) (by simp; omega), XX.2 b hb]⟩
    generalize h6.setIfInBounds (h5.size + 1) (.loop (rec .exhausted (some .ret))) = h7 at f7 q6 q7 d7 X7
    rw [hs6]
    have hl10 := propC_len key e1 e2 (some sv)
    refine gA ?_
    refine HMark.mk d7 ?_
    have f8 := off_set h7 h5.size (.deferred none)
    have q6 := q6.offk f8 (by omega)
    have q7 := q7.offk f8 (by omega)
    have X8 := X7.offNew f8 (by omega)
    generalize h7.setIfInBounds h5.size (.deferred none) = h8 at f8 q6 q7 X8
    refine gN ?_
    exact ⟨e1, e2, rfl, X8⟩
set_option maxHeartbeats 16000000
theorem findP_none {H : PH} {v : VV} (h : atP H v = none) : findP H v = none := by unfold findP; rw [h]; rfl
theorem findP_some {H : PH} {v : VV} {i : Nat} (h : atP H v = some i) : findP H v = some (H.objs[i]'(atP_lt h)) := by unfold findP; rw [h, Option.bind_some, List.getElem?_eq_getElem (atP_lt h)]
theorem hget_spec {h : Heap} {bh : Nat} {H : PH} {Z : HZ} (x : HeapR h bh H Z) (w : Wf H) (fw : Few H) (v : VV) (hn : i64 v.n) (key : ByteArray) :
    HCalls Tryz.prog 163 #[.pointer (some ⟨bh, 0, none⟩), .agg (cellsV v).toArray, .string key] h fun e h' =>
      e = .returned (.tuple #[.agg (cellsV (getP H v key)).toArray, .bool (seekL key (chainP H v)).isSome]) ∧ Ext h h' := by
  refine c163 (by simp) ?_
  refine gA ?_
  refine new_var (e := 24) (cellsV v) rfl ?_
  intro h1 b4 o4 x1 z1 hb4
  refine gA ?_
  refine new_var (e := 24) [.int .i64 0, .int .i64 0, .string ⟨#[]⟩] rfl ?_
  intro h2 b6 o6 x2 z2 hb6
  have o4 := o4.ext x2
  have x02 := x1.trans x2
  have hx1 := x1.1
  have hx2 := x2.1
  refine gN ?_
  refine HCall.mk ((seek_spec (x.ext x02) w fw v hn key).mono ?_)
  rintro e h3 ⟨e1, e2, rfl, x3⟩
  have o6 := o6.ext x3
  have hx3 := x3.1
  have hl := propC_len key e1 e2 (seekL key (chainP H v))
  refine gA ?_
  refine new_var (e := 53) zeroK rfl ?_
  intro h4 b8 o8 x4 z4 hb8
  have o6 := o6.ext x4
  refine gA ?_
  refine HMust.mk (by simp [propC_len]) ?_
  refine store_blk o8 (by simp [propC_len]) (by simpa using propC_one key e1 e2 (seekL key (chainP H v))) ?_
  intro h5 f5 z5 o5
  replace o5 : BlkW h5 b8 53 (propC key e1 e2 (seekL key (chainP H v))) := by simpa [propC_len] using o5
  have o6 := o6.offk f5 (by omega)
  refine gA ?_
  refine blk_ldSub o5 (by rw [hl]; omega) ?_
  have ev : ((propC key e1 e2 (seekL key (chainP H v))).drop 1).take 3 = cellsV (getP H v key) := by
    unfold getP
    cases seekL key (chainP H v) <;> rfl
  rw [ev]
  refine gA ?_
  refine store_blk o6 (by simp) (by simp [isOne]) ?_
  intro h6 f6 z6 o6
  replace o6 : BlkW h6 b6 24 (cellsV (getP H v key)) := by simpa using o6
  refine gN ?_
  have X : Ext h h6 := ((((x02.trans x3).trans x4).offNew f5 (by omega)).offNew f6 (by omega))
  exact ⟨rfl, X⟩
theorem hclass_spec {h : Heap} {bh : Nat} {H : PH} {Z : HZ} (x : HeapR h bh H Z) (v : VV) (hn : i64 v.n) (hl : H.objs.length ≤ 1000000) :
    HCalls Tryz.prog 72 #[.pointer (some ⟨bh, 0, none⟩), .agg (cellsV v).toArray] h fun e h' => e = .returned (.string (clsP H v)) ∧ Ext h h' := by
  refine c72 (by simp) ?_
  refine gA ?_
  refine new_var (e := 24) (cellsV v) rfl ?_
  intro h1 b3 o3 x1 z1 hb3
  refine gN ?_
  refine HCall.mk ((find_spec (x.ext x1) v hn hl).mono ?_)
  rintro e h2 ⟨rfl, x2⟩
  have xh := x.ext (x1.trans x2)
  cases ha : atP H v with
  | none =>
    rw [ptr_none]
    have e1 : clsP H v = noS := by unfold clsP; rw [findP_none ha]
    rw [e1]
    have q : (bif true then !(none : Option Addr).isNone else (none : Option Addr).isNone) = false := rfl
    refine gA ?_
    exact ⟨rfl, x1.trans x2⟩
  | some i =>
    have hi := atP_lt ha
    have hz : i < Z.os.length := by have := x.len; omega
    rw [ptr_some hz]
    have e1 : clsP H v = H.objs[i].cls := by unfold clsP; rw [findP_some ha]
    rw [e1]
    have ob := (xh.all i hi hz).b
    have q : (bif true then !(some (⟨Z.os[i].bi, 0, none⟩ : Addr)).isNone else (some (⟨Z.os[i].bi, 0, none⟩ : Addr)).isNone) = true := rfl
    refine gA ?_
    exact ⟨rfl, x1.trans x2⟩
def hlenP (H : PH) (v : VV) : Nat := match findP H v with
  | none => 0
  | some o => if isArr o = true then o.long else 0
theorem hlen_spec {h : Heap} {bh : Nat} {H : PH} {Z : HZ} (x : HeapR h bh H Z) (v : VV) (hn : i64 v.n) (hl : H.objs.length ≤ 1000000) :
    HCalls Tryz.prog 176 #[.pointer (some ⟨bh, 0, none⟩), .agg (cellsV v).toArray] h fun e h' => ∃ b, e = .returned (.tuple #[.int .i64 (hlenP H v : Nat), .bool b]) ∧ Ext h h' := by
  refine c176 (by simp) ?_
  refine gA ?_
  refine new_var (e := 24) (cellsV v) rfl ?_
  intro h1 b3 o3 x1 z1 hb3
  refine gN ?_
  refine HCall.mk ((find_spec (x.ext x1) v hn hl).mono ?_)
  rintro e h2 ⟨rfl, x2⟩
  have xh := x.ext (x1.trans x2)
  cases ha : atP H v with
  | none =>
    rw [ptr_none]
    have e1 : hlenP H v = 0 := by unfold hlenP; rw [findP_none ha]
    rw [e1]
    have q : (bif true then !(none : Option Addr).isNone else (none : Option Addr).isNone) = false := rfl
    refine gA ?_
    exact ⟨false, rfl, x1.trans x2⟩
  | some i =>
    have hi := atP_lt ha
    have hz : i < Z.os.length := by have := x.len; omega
    rw [ptr_some hz]
    have e1 : hlenP H v = if isArr H.objs[i] = true then H.objs[i].long else 0 := by unfold hlenP; rw [findP_some ha]
    rw [e1]
    have ob := (xh.all i hi hz).b
    have q : (bif true then !(some (⟨Z.os[i].bi, 0, none⟩ : Addr)).isNone else (some (⟨Z.os[i].bi, 0, none⟩ : Addr)).isNone) = true := rfl
    cases hc : strEq H.objs[i].cls arrS
    · have e2 : ¬ isArr H.objs[i] = true := by unfold isArr; rw [hc]; simp
      have q2 : strEq H.objs[i].cls ⟨#[65, 114, 114, 97, 121]⟩ = false := hc
      rw [if_neg e2]
      refine gA ?_
      exact ⟨false, rfl, x1.trans x2⟩
    · have e2 : isArr H.objs[i] = true := hc
      have q2 : strEq H.objs[i].cls ⟨#[65, 114, 114, 97, 121]⟩ = true := hc
      rw [if_pos e2]
      refine gA ?_
      exact ⟨true, rfl, x1.trans x2⟩
set_option maxHeartbeats 16000000
section
variable {α : Type} {f : α → List Nat}
theorem fm_mem {l : List α} {j : Nat} (hj : j < l.length) {b : Nat} (h : b ∈ f l[j]) : b ∈ l.flatMap f := List.mem_flatMap.2 ⟨_, List.getElem_mem hj, h⟩
theorem fm_disj : ∀ {l : List α}, (l.flatMap f).Nodup → ∀ {i j : Nat} (hi : i < l.length) (hj : j < l.length), i ≠ j → ∀ {b : Nat}, b ∈ f l[i] → b ∈ f l[j] → False
  | [], _, i, j, hi, _, _, _, _, _ => by simp at hi
  | a :: r, nd, 0, 0, _, _, hn, _, _, _ => hn rfl
  | a :: r, nd, 0, j + 1, hi, hj, _, b, h1, h2 => by
    rw [List.flatMap_cons, List.nodup_append] at nd
    exact nd.2.2 b h1 b (fm_mem (l := r) (by simpa using hj) h2) rfl
  | a :: r, nd, i + 1, 0, hi, hj, _, b, h1, h2 => by
    rw [List.flatMap_cons, List.nodup_append] at nd
    exact nd.2.2 b h2 b (fm_mem (l := r) (by simpa using hi) h1) rfl
  | a :: r, nd, i + 1, j + 1, hi, hj, hn, b, h1, h2 => by
    rw [List.flatMap_cons, List.nodup_append] at nd
    exact fm_disj nd.2.1 (i := i) (j := j) (by simpa using hi) (by simpa using hj) (by omega) h1 h2
theorem fm_set_mem : ∀ {l : List α} {i : Nat} {z : α} {b : Nat}, b ∈ (l.set i z).flatMap f → b ∈ f z ∨ b ∈ l.flatMap f
  | [], i, z, b, h => by simp at h
  | a :: r, 0, z, b, h => by
    rw [List.set_cons_zero, List.flatMap_cons, List.mem_append] at h
    rcases h with h | h
    · exact .inl h
    · exact .inr (by rw [List.flatMap_cons]; exact List.mem_append_right _ h)
  | a :: r, i + 1, z, b, h => by
    rw [List.set_cons_succ, List.flatMap_cons, List.mem_append] at h
    rcases h with h | h
    · exact .inr (by rw [List.flatMap_cons]; exact List.mem_append_left _ h)
    · rcases fm_set_mem h with h | h
      · exact .inl h
      · exact .inr (by rw [List.flatMap_cons]; exact List.mem_append_right _ h)
theorem fm_set_nodup : ∀ {l : List α} {i : Nat} {z : α} (hi : i < l.length), (l.flatMap f).Nodup → (f z).Nodup → (∀ b ∈ f z, b ∈ f l[i] ∨ b ∉ l.flatMap f) → ((l.set i z).flatMap f).Nodup
  | [], i, z, hi, _, _, _ => by simp at hi
  | a :: r, 0, z, hi, nd, nz, k => by
    rw [List.flatMap_cons, List.nodup_append] at nd
    rw [List.set_cons_zero, List.flatMap_cons, List.nodup_append]
    refine ⟨nz, nd.2.1, fun b hb c hc e => ?_⟩
    subst e
    rcases k b hb with h | h
    · exact nd.2.2 b h b hc rfl
    · exact h (by rw [List.flatMap_cons]; exact List.mem_append_right _ hc)
  | a :: r, i + 1, z, hi, nd, nz, k => by
    have hi' : i < r.length := by simpa using hi
    have nd0 := nd
    rw [List.flatMap_cons, List.nodup_append] at nd
    rw [List.set_cons_succ, List.flatMap_cons, List.nodup_append]
    refine ⟨nd.1, fm_set_nodup hi' nd.2.1 nz fun b hb => ?_, fun b hb c hc e => ?_⟩
    · rcases k b hb with h | h
      · exact .inl h
      · exact .inr fun hm => h (by rw [List.flatMap_cons]; exact List.mem_append_right _ hm)
    · subst e
      rcases fm_set_mem hc with h | h
      · rcases k b h with h2 | h2
        · exact nd.2.2 b hb b (fm_mem hi' h2) rfl
        · exact h2 (by rw [List.flatMap_cons]; exact List.mem_append_left _ hb)
      · exact nd.2.2 b hb b h rfl
end
theorem HeapR.upd {h h' : Heap} {bh : Nat} {H : PH} {Z : HZ} (x : HeapR h bh H Z) {i : Nat} (hi : i < H.objs.length) (hz : i < Z.os.length) {o' : PO} {z' : OZ} (hb : z'.bi = Z.os[i].bi) (K : PassF Z.os[i].bs z'.bs h h') (r : ObjR h' o' z') (nz : z'.bs.Nodup) :
    HeapR h' bh (updP H i o') ⟨Z.oa, Z.oc, Z.os.set i z'⟩ ∧ PassF (Z.bs bh) (HZ.bs bh ⟨Z.oa, Z.oc, Z.os.set i z'⟩) h h' := by
  have nds := x.nds
  have hlt := x.lt
  have hfl : ∀ b ∈ Z.os.flatMap OZ.bs, b < h.size := fun b hm => hlt b (by simp only [HZ.bs, List.mem_cons, List.mem_append]; exact .inr (.inr hm))
  have hin : ∀ b, b ∈ Z.os[i].bs → b ∈ Z.os.flatMap OZ.bs := fun b hm => fm_mem hz hm
  have hoff : ∀ b, b < h.size → b ∉ Z.os[i].bs → h'[b]? = h[b]? := K.2.1
  have hz' : ∀ b ∈ z'.bs, b ∈ Z.os[i].bs ∨ b ∉ Z.os.flatMap OZ.bs := fun b hm => (K.2.2 b hm).imp id fun hl hm2 => by have := hfl b hm2; omega
  refine ⟨⟨?_, ?_, ?_, ?_, ?_⟩, K.1, fun b hb hn => ?_, fun b hm => ?_⟩
  · have hbl := x.b.lt
    have := x.b.of (hoff bh hbl fun hm => nds.2.1 (hin _ hm))
    simpa [updP] using this
  · have e1 : (Z.os.set i z').map (fun z => Value.pointer (some ⟨z.bi, 0, none⟩)) = Z.os.map (fun z => Value.pointer (some ⟨z.bi, 0, none⟩)) := by
      rw [List.map_set, hb]
      apply List.ext_getElem
      · simp
      · intro j h1 h2
        rw [List.getElem_set]
        split
        · rename_i e; subst e; rw [List.getElem_map]
        · rfl
    show Own h' 0 97 1 Z.oa (H.objs.set i o').length Z.oc ((Z.os.set i z').map fun z => .pointer (some ⟨z.bi, 0, none⟩))
    rw [e1, List.length_set]
    exact Own.same x.o fun b hm => by
      obtain ⟨p, ep, rfl⟩ := blk_of hm
      exact hoff _ (x.o.lt p ep).2 fun hm2 => (nds.1 p ep).2 (hin _ hm2)
  · show (Z.os.set i z').length = (H.objs.set i o').length
    rw [List.length_set, List.length_set]; exact x.len
  · intro j hj hjz
    have hj' : j < H.objs.length := by simpa [updP] using hj
    have hjz' : j < Z.os.length := by simpa using hjz
    by_cases e : i = j
    · subst e
      have e1 : (updP H i o').objs[i] = o' := by simp [updP]
      have e2 : ((⟨Z.oa, Z.oc, Z.os.set i z'⟩ : HZ).os[i]) = z' := by simp
      rw [e1, e2]; exact r
    · have e1 : (updP H i o').objs[j] = H.objs[j] := by simp [updP, List.getElem_set, e]
      have e2 : ((⟨Z.oa, Z.oc, Z.os.set i z'⟩ : HZ).os[j]) = Z.os[j] := by simp [List.getElem_set, e]
      rw [e1, e2]
      refine (x.all j hj' hjz').same fun b hm => hoff b (hfl b (fm_mem hjz' hm)) fun hm2 => fm_disj nds.2.2 hz hjz' e hm2 hm
  · refine nodup_hz (fun p ep => ⟨(nds.1 p ep).1, fun hm => ?_⟩) (fun hm => ?_) (fm_set_nodup hz nds.2.2 nz hz')
    · rcases fm_set_mem hm with hm | hm
      · rcases K.2.2 _ hm with h1 | h1
        · exact (nds.1 p ep).2 (hin _ h1)
        · have := (x.o.lt p ep).2; omega
      · exact (nds.1 p ep).2 hm
    · rcases fm_set_mem hm with hm | hm
      · rcases K.2.2 _ hm with h1 | h1
        · exact nds.2.1 (hin _ h1)
        · have := x.b.lt; omega
      · exact nds.2.1 hm
  · exact hoff b hb fun hm => hn (by simp only [HZ.bs, List.mem_cons, List.mem_append]; exact .inr (.inr (hin b hm)))
  · simp only [HZ.bs, List.mem_cons, List.mem_append] at hm ⊢
    rcases hm with rfl | hm | hm
    · exact .inl (.inl rfl)
    · exact .inl (.inr (.inl hm))
    · rcases fm_set_mem hm with hm | hm
      · rcases K.2.2 b hm with h1 | h1
        · exact .inl (.inr (.inr (hin b h1)))
        · exact .inr h1
      · exact .inl (.inr (.inr hm))
set_option maxHeartbeats 16000000
theorem findI_snoc {key k : ByteArray} {v : VV} : ∀ {l : List KV}, findI k l = none → findI key (l ++ [(k, v)]) = if k = key then some l.length else findI key l
  | [], h => by simp only [List.nil_append, findI]; split <;> rfl
  | p :: r, h => by
    simp only [findI] at h
    by_cases e : p.1 = k
    · rw [if_pos e] at h; cases h
    · rw [if_neg e, Option.map_eq_none_iff] at h
      simp only [List.cons_append, findI]
      rw [findI_snoc h]
      by_cases e1 : p.1 = key
      · rw [if_pos e1, if_pos e1, if_neg]
        rintro rfl; exact e e1
      · rw [if_neg e1, if_neg e1]
        by_cases e2 : k = key
        · rw [if_pos e2, if_pos e2]; rfl
        · rw [if_neg e2, if_neg e2]
theorem OZ.nds {z : OZ} (nd : z.bs.Nodup) : z.bi ≠ z.mi ∧ ∀ p, z.pa = some p → p.block ≠ z.bi ∧ p.block ≠ z.mi := by
  rw [OZ.bs, List.nodup_cons, List.nodup_cons] at nd
  refine ⟨fun e => nd.1 (by rw [e]; exact List.mem_cons_self), fun p ep => ⟨fun e => nd.1 (List.mem_cons_of_mem _ (e ▸ blk_mem ep)), fun e => nd.2.1 (e ▸ blk_mem ep)⟩⟩
theorem OZ.mk_nd {z : OZ} (h1 : z.bi ≠ z.mi) (h2 : ∀ p, z.pa = some p → p.block ≠ z.bi ∧ p.block ≠ z.mi) : z.bs.Nodup := by
  rw [OZ.bs, List.nodup_cons, List.nodup_cons]
  refine ⟨fun hm => ?_, fun hm => ?_, ?_⟩
  · rcases List.mem_cons.1 hm with hm | hm
    · exact h1 hm
    · obtain ⟨p, ep, e⟩ := blk_of hm; exact (h2 p ep).1 e
  · obtain ⟨p, ep, e⟩ := blk_of hm; exact (h2 p ep).2 e
  · cases z.pa <;> simp [blk]
theorem lay_spec {h : Heap} {o : PO} {z : OZ} (x : ObjR h o z) (nd : z.bs.Nodup) (key : ByteArray) (v : VV) (hk : findI key o.props = none) (hl : o.props.length ≤ 1000000) :
    HCalls Tryz.prog 133 #[.pointer (some ⟨z.bi, 0, none⟩), .agg (cellsK (key, v)).toArray] h fun e h' =>
      ∃ z', e = .returned (.tuple #[]) ∧ z'.bi = z.bi ∧ ObjR h' ⟨o.cls, o.proto, o.props ++ [(key, v)], o.long⟩ z' ∧ z'.bs.Nodup ∧ PassF z.bs z'.bs h h' := by
  refine c133 (by simp) ?_
  have nds := OZ.nds nd
  have hlt := x.lt
  have hbl := x.b.lt
  refine gA ?_
  refine new_var (e := 53) (cellsK (key, v)) rfl ?_
  intro h1 b3 o3 x1 z1 hb3
  have x' := x.ext x1
  have ob := x'.b
  obtain ⟨L, m, pl⟩ := x'.m
  have hml : z.mi < h.size := hlt _ (by simp [OZ.bs])
  have hx1 := x1.1
  replace o3 : BlkW h1 b3 53 [.string key, .int .i64 v.k, .int .i64 v.n, .string v.s, .bool true, .bool true, .bool true] := o3
  refine gA ?_
  refine m.set keyOk_string key ((o.props.length : Nat) : Int) fun h2 f2 z2 m2 => ?_
  have ob2 := ob.offk f2 nds.1
  have o3 := o3.offk f2 (by omega)
  have hpl : ∀ p, z.pa = some p → p.block < h.size := fun p ep => (x.p.lt p ep).2
  have w2 := x'.p.off f2 fun p ep => (nds.2 p ep).2
  have hf2 := f2.1
  refine gN ?_
  refine new_own (e := 53) 7 1 [.string key, .int .i64 v.k, .int .i64 v.n, .string v.s, .bool true, .bool true, .bool true] rfl rfl ?_
  intro h3 b4 w3 x3 z3 hb4
  have ob3 := ob2.ext x3
  have w2 := w2.ext x3
  have m3 := m2.ext x3
  refine gA ?_
  refine w3.sl.cells ?_
  refine Own.append w2 (m := 1) (Nat.zero_le _) rfl rfl (cellsKs_one [(key, v)]) (by omega) ?_
  intro h4 a4 c4 w4 k4 ot4 ad4
  have hk4 := k4.1
  have hx3 := x3.1
  have na4 : ∀ p, a4 = some p → p.block ≠ z.bi ∧ p.block ≠ z.mi := by
    intro p ep
    rcases ad4 p ep with ⟨q, eq, e⟩ | hq
    · rw [e]; exact nds.2 q eq
    · exact ⟨by omega, by omega⟩
  have ob4 := ob3.of (ot4 z.bi (by omega) fun p ep => (nds.2 p ep).1)
  have m4 := m3.of (ot4 z.mi (by omega) fun p ep => (nds.2 p ep).2)
  refine gA ?_
  refine blk_st (o := 4) (v := .slice a4 (o.props.length + 1) c4) ob4 (by simp) rfl ?_
  intro h5 f5 z5 ob5
  have w5 := w4.off f5 fun p ep => (na4 p ep).1
  have m5 := m4.offk f5 (Ne.symm nds.1)
  have hf5 := f5.1
  refine gA ?_
  have ek : cellsKs o.props ++ [.string key, .int .i64 v.k, .int .i64 v.n, .string v.s, .bool true, .bool true, .bool true] = cellsKs (o.props ++ [(key, v)]) := by rw [cellsKs_append]; rfl
  have el : (o.props ++ [(key, v)]).length = o.props.length + 1 := by simp
  rw [ek] at w5
  refine ⟨⟨z.bi, z.mi, a4, c4⟩, rfl, rfl, ⟨?_, ?_, putA key ((o.props.length : Nat) : Int) L, m5, fun k => ?_⟩, OZ.mk_nd nds.1 na4, ?_, ?_, ?_⟩
  · show BlkW h5 z.bi 102 [.string o.cls, .int .i64 o.proto.k, .int .i64 o.proto.n, .string o.proto.s, .slice a4 (o.props ++ [(key, v)]).length c4, .map (some z.mi), .bool false, .int .i64 o.long, .bool false]
    rw [el]; exact ob5
  · show Own h5 0 53 7 a4 (o.props ++ [(key, v)]).length c4 _
    rw [el]; exact w5
  · show getA k (putA key ((o.props.length : Nat) : Int) L) = (findI k (o.props ++ [(key, v)])).map (fun i : Nat => (i : Int))
    rw [getA_put, findI_snoc hk]
    split
    · rfl
    · exact pl k
  · omega
  · intro b hb hn
    simp only [OZ.bs, List.mem_cons, not_or] at hn
    rw [f5.2 b (by omega) hn.1, ot4 b (by omega) (fun p ep e => hn.2.2 (e ▸ blk_mem ep)), x3.2 b (by omega), f2.2 b (by omega) hn.2.1, x1.2 b hb]
  · intro b hb
    simp only [OZ.bs, List.mem_cons] at hb ⊢
    rcases hb with rfl | rfl | hb
    · exact .inl (.inl rfl)
    · exact .inl (.inr (.inl rfl))
    · obtain ⟨p, ep, rfl⟩ := blk_of hb
      rcases ad4 p ep with ⟨q, eq, e⟩ | hq
      · exact .inl (.inr (.inr (by rw [e]; exact blk_mem eq)))
      · exact .inr (by omega)
set_option maxHeartbeats 16000000
abbrev zeroKs : List Value := [.string ⟨#[]⟩, .int .i64 0, .int .i64 0, .string ⟨#[]⟩, .bool false, .bool false, .bool false]
theorem erase_split {α : Type} (l : List α) (i : Nat) : l.eraseIdx i = l.take i ++ l.drop (i + 1) := List.eraseIdx_eq_take_drop_succ l i
theorem cellsKs_take (l : List KV) (i : Nat) (hi : i ≤ l.length) : (cellsKs l).take (i * 7) = cellsKs (l.take i) := by
  have e : cellsKs l = cellsKs (l.take i) ++ cellsKs (l.drop i) := by rw [← cellsKs_append, List.take_append_drop]
  rw [e, List.take_left' (by rw [cellsKs_len, List.length_take, Nat.min_eq_left hi])]
theorem cellsKs_drop (l : List KV) (i : Nat) (hi : i ≤ l.length) : (cellsKs l).drop (i * 7) = cellsKs (l.drop i) := by
  have e : cellsKs l = cellsKs (l.take i) ++ cellsKs (l.drop i) := by rw [← cellsKs_append, List.take_append_drop]
  rw [e, List.drop_left' (by rw [cellsKs_len, List.length_take, Nat.min_eq_left hi])]
theorem delete_spec {h : Heap} {a : Option Addr} {c i : Nat} {l : List KV} (w : Own h 0 53 7 a l.length c (cellsKs l)) (hi : i < l.length) (hl : l.length ≤ 1000000) :
    HCalls Tryz.prog 154 #[.slice a l.length c, .int .i64 i, .int .i64 ((i : Int) + 1)] h fun e h' =>
      ∃ b, a = some ⟨b, 0, none⟩ ∧ e = .returned (.slice a (l.length - 1) c) ∧ Own h' 0 53 7 a (l.length - 1) c (cellsKs (l.eraseIdx i)) ∧ Off b h h' := by
  have hnc := w.2.1
  obtain ⟨p, rfl⟩ : ∃ p, a = some p := by
    cases a with
    | none => have := w.2.2.1 rfl; omega
    | some p => exact ⟨p, rfl⟩
  obtain ⟨b, spare, rfl, _, hsp, o⟩ := w.2.2.2 _ rfl
  have mvn : ∀ k, k < c → movedTo ⟨b, 0, none⟩ c k 7 = ⟨b, k * 7, none⟩ := fun k hk => by unfold movedTo; rw [if_neg (by omega), add_mk, Nat.zero_add]
  have q1 : ((i : Int) == (i : Int) + 1) = false := beq_eq_false_iff_ne.2 (by omega)
  refine c154 (by simp) ?_
  refine gA ?_
  refine HBound.mk l.length rfl (by omega) ?_
  refine gA ?_
  refine HBound.mk (i + 1) (by omega) (by omega) ?_
  refine gA ?_
  refine HBound.mk i rfl (by omega) ?_
  refine gA ?_
  refine HBound.mk i rfl (by omega) ?_
  refine gA ?_
  refine HBound.mk (i + 1) (by omega) (by omega) ?_
  refine gA ?_
  have hkl := cellsKs_len l
  have sd := w.sl.slice (i := i + 1) (j := l.length) (by omega) (Nat.le_refl _)
  rw [← hkl, List.take_length, cellsKs_drop l (i + 1) (by omega)] at sd
  refine sd.cells ?_
  have mv0 : movedTo ⟨b, 0, none⟩ c 0 7 = ⟨b, 0, none⟩ := by rw [mvn 0 (by omega)]
  have ld : (l.drop (i + 1)).length = l.length - (i + 1) := List.length_drop
  have hcl : (cellsKs l ++ spare).length = c * 7 := by rw [List.length_append, hkl, hsp, ← Nat.add_mul]; congr 1; omega
  have at' : (movedTo ⟨b, 0, none⟩ c 0 7).add ((i - 0) * 7) = ⟨b, i * 7, none⟩ := by rw [mv0, Nat.sub_zero, add_mk, Nat.zero_add]
  have key : ∀ K : Heap → Prop, (∀ h', Off b h h' → h'.size = h.size → BlkW h' b 53 (cellsKs (l.eraseIdx i) ++ ((cellsKs l ++ spare).drop ((l.length - 1) * 7))) → K h') → HStore h ((movedTo ⟨b, 0, none⟩ c 0 7).add ((i - 0) * 7)) (cellsKs (l.drop (i + 1))) K := by
    intro K k
    rw [at']
    refine store_blk o (by rw [hcl, cellsKs_len, ld]; omega) (cellsKs_one _) fun h' f z o' => k h' f z ?_
    have e1 : (cellsKs l ++ spare).take (i * 7) = cellsKs (l.take i) := by rw [List.take_append_of_le_length (by rw [hkl]; omega), cellsKs_take l i (by omega)]
    have e2 : i * 7 + (cellsKs (l.drop (i + 1))).length = (l.length - 1) * 7 := by rw [cellsKs_len, ld]; omega
    rw [e1, e2, ← List.append_assoc, ← cellsKs_append, ← erase_split] at o'
    exact o'
  have fits : ∀ K : Value → Heap → Prop, (∀ h', Off b h h' → h'.size = h.size → BlkW h' b 53 (cellsKs (l.eraseIdx i) ++ ((cellsKs l ++ spare).drop ((l.length - 1) * 7))) → K (.slice (some (movedTo ⟨b, 0, none⟩ c 0 7)) (i - 0 + (l.length - (i + 1))) (c - 0)) h') →
      H.HAppend h 53 7 56 [.string ⟨#[]⟩, .int .i64 0, .int .i64 0, .string ⟨#[]⟩, .bool false, .bool false, .bool false] (some (movedTo ⟨b, 0, none⟩ c 0 7)) (i - 0) (c - 0) (cellsKs (l.drop (i + 1))) (l.length - (i + 1)) K := by
    intro K k
    obtain ⟨one, there, kk⟩ := key (fun h' => K (.slice (some (movedTo ⟨b, 0, none⟩ c 0 7)) (i - 0 + (l.length - (i + 1))) (c - 0)) h') k
    exact .fits (by omega) _ rfl one there kk
  refine fits _ fun h1 f1 z1 o1 => ?_
  have en : i - 0 + (l.length - (i + 1)) = l.length - 1 := by omega
  rw [mv0, en, Nat.sub_zero]
  refine gA ?_
  refine HBound.mk l.length rfl (by omega) ?_
  refine gA ?_
  refine HBound.mk (l.length - 1) rfl (by omega) ?_
  refine gA ?_
  refine raw_clearN (n := 0) (a := ⟨b, (l.length - 1) * 7, none⟩) (c := c - (l.length - 1)) (e := 53) (z := .agg #[.string ⟨#[]⟩, .int .i64 0, .int .i64 0, .string ⟨#[]⟩, .bool false, .bool false, .bool false]) rfl (by
    show Value.slice (some (movedTo ⟨b, 0, none⟩ c (l.length - 1) 7)) (l.length - (l.length - 1)) (c - (l.length - 1)) = _
    rw [mvn _ (by omega), show l.length - (l.length - 1) = 0 + 1 by omega]) rfl Tryz.underlying99 (by kernel_rfl) ?_
  have hel : (cellsKs (l.eraseIdx i)).length = (l.length - 1) * 7 := by rw [cellsKs_len, List.length_eraseIdx_of_lt hi]
  have hdl : ((cellsKs l ++ spare).drop ((l.length - 1) * 7)).length = (c - (l.length - 1)) * 7 := by rw [List.length_drop, hcl, ← Nat.sub_mul]
  have hzc : (Builtin.zeroCells (Value.agg #[.string ⟨#[]⟩, .int .i64 0, .int .i64 0, .string ⟨#[]⟩, .bool false, .bool false, .bool false]).cells (0 + 1)).toList = zeroKs := by kernel_rfl
  rw [hzc]
  refine store_blk o1 (by rw [List.length_append, hel, hdl]; show _ + 7 ≤ _; omega) (by intro v hv; simp only [zeroKs, List.mem_cons, List.not_mem_nil, or_false] at hv; rcases hv with rfl | rfl | rfl | rfl | rfl | rfl | rfl <;> rfl) ?_
  intro h2 f2 z2 o2
  rw [List.take_left' hel] at o2
  refine gA ?_
  refine ⟨b, rfl, rfl, ⟨?_, by omega, fun e => (nomatch e), fun p ep => ?_⟩, f1.trans f2⟩
  · exact hel
  · cases ep
    refine ⟨b, zeroKs ++ (cellsKs (l.eraseIdx i) ++ (cellsKs l ++ spare).drop ((l.length - 1) * 7)).drop ((l.length - 1) * 7 + zeroKs.length), rfl, Nat.zero_le _, ?_, o2⟩
    rw [List.length_append, List.length_drop, List.length_append, hel, hdl]
    show 7 + _ = _
    show 7 + ((l.length - 1) * 7 + (c - (l.length - 1)) * 7 - ((l.length - 1) * 7 + 7)) = (c - (l.length - 1)) * 7
    omega
set_option maxHeartbeats 16000000
abbrev KNd (l : List KV) : Prop := (l.map (·.1)).Nodup
def upI (i j : Nat) : Nat := if j < i then j else j + 1
theorem findI_no {key : ByteArray} : ∀ {l : List KV}, key ∉ l.map (·.1) → findI key l = none
  | [], _ => rfl
  | p :: r, h => by
    simp only [List.map_cons, List.mem_cons, not_or] at h
    simp only [findI]
    rw [if_neg (Ne.symm h.1), findI_no h.2]; rfl
theorem findI_at : ∀ {l : List KV} {j : Nat}, KNd l → ∀ hj : j < l.length, findI l[j].1 l = some j
  | [], j, _, hj => by simp at hj
  | p :: r, 0, _, hj => by simp [findI]
  | p :: r, j + 1, nd, hj => by
    rw [KNd, List.map_cons, List.nodup_cons] at nd
    have hj' : j < r.length := by simpa using hj
    simp only [List.getElem_cons_succ, findI]
    rw [if_neg, findI_at nd.2 hj']
    · rfl
    · intro e
      exact nd.1 (List.mem_map.2 ⟨r[j], List.getElem_mem hj', e.symm⟩)
theorem findI_erase (key : ByteArray) : ∀ {l : List KV} {i : Nat}, KNd l → ∀ hi : i < l.length, (if l[i].1 = key then none else findI key l) = (findI key (l.eraseIdx i)).map (upI i)
  | [], i, _, hi => by simp at hi
  | p :: r, 0, nd, hi => by
    rw [KNd, List.map_cons, List.nodup_cons] at nd
    simp only [List.getElem_cons_zero, List.eraseIdx_cons_zero]
    by_cases e : p.1 = key
    · rw [if_pos e, findI_no (e ▸ nd.1)]; rfl
    · rw [if_neg e]
      simp only [findI]
      rw [if_neg e]
      congr 1
  | p :: r, i + 1, nd, hi => by
    rw [KNd, List.map_cons, List.nodup_cons] at nd
    have hi' : i < r.length := by simpa using hi
    have ih := findI_erase key nd.2 hi'
    simp only [List.getElem_cons_succ, List.eraseIdx_cons_succ, findI]
    by_cases e : p.1 = key
    · rw [if_pos e, if_pos e, if_neg]
      · simp [upI]
      · intro e2
        exact nd.1 (List.mem_map.2 ⟨r[i], List.getElem_mem hi', e2.trans e.symm⟩)
    · rw [if_neg e, if_neg e]
      have e3 : (if r[i].1 = key then none else (findI key r).map (· + 1)) = (if r[i].1 = key then none else findI key r).map (· + 1) := by split <;> rfl
      rw [e3, ih, Option.map_map, Option.map_map]
      congr 1
      funext j
      simp only [Function.comp, upI]
      split <;> split <;> omega
theorem findI_step (key : ByteArray) {l : List KV} {m : Nat} (nd : KNd l) (hm : m < l.length) : (if l[m].1 = key then some m else (findI key l).map (upI m)) = (findI key l).map (upI (m + 1)) := by
  by_cases e : l[m].1 = key
  · rw [if_pos e, ← e, findI_at nd hm]
    simp [upI]
  · rw [if_neg e]
    cases hf : findI key l with
    | none => rfl
    | some j =>
      obtain ⟨hj, hk, _⟩ := findI_some hf
      have : j ≠ m := by rintro rfl; exact e hk
      simp only [Option.map_some, upI]
      congr 1
      split <;> split <;> omega
theorem findI_end (key : ByteArray) {l : List KV} : (findI key l).map (upI l.length) = findI key l := by
  cases hf : findI key l with
  | none => rfl
  | some j =>
    obtain ⟨hj, _⟩ := findI_some hf
    simp [upI, hj]
theorem knd_erase {l : List KV} (nd : KNd l) (i : Nat) : KNd (l.eraseIdx i) := by
  unfold KNd; rw [map_erase]; exact nd.sublist (List.eraseIdx_sublist _ _)
theorem Sl.loadF {h : Heap} {a : Option Addr} {c : Nat} {l : List KV} {p : Addr} {i f : Nat} {v : Value} {K : Value → Prop} (x : Sl h 7 a l.length c (cellsKs l)) (ep : a = some p) (hi : i < l.length) (hf : f < 7) (hv : (cellsK l[i])[f]? = some v) (k : K v) : HLoad h ((p.add (i * 7)).add f) K := by
  obtain ⟨cs, rfl, r2⟩ := (elsK h l).get (n := 7) (by rintro d cs rfl; rfl) i hi
  refine ⟨v, ?_, k⟩
  rw [add_add, x.2.2.2 p ep (i * 7 + f) (by omega), r2 f hf, hv]
theorem drop_spec {h : Heap} {o : PO} {z : OZ} (x : ObjR h o z) (nd : z.bs.Nodup) (kn : KNd o.props) {i : Nat} (hi : i < o.props.length) (hl : o.props.length ≤ 1000000) :
    HCalls Tryz.prog 131 #[.pointer (some ⟨z.bi, 0, none⟩), .int .i64 i] h fun e h' => e = .returned (.tuple #[]) ∧ ObjR h' ⟨o.cls, o.proto, o.props.eraseIdx i, o.long⟩ z ∧ PassF z.bs z.bs h h' := by
  refine c131 (by simp) ?_
  have nds := OZ.nds nd
  have ob := x.b
  have hlt := x.lt
  have hbl := ob.lt
  obtain ⟨L, m, pl⟩ := x.m
  have hml := m.lt
  have hpl : ∀ p, z.pa = some p → p.block < h.size := fun p ep => (x.p.lt p ep).2
  refine gA ?_
  refine HIdx.mk i rfl hi ?_
  refine sl_some x.p.sl hi fun p ep => ?_
  refine gA ?_
  refine Sl.loadF x.p.sl ep hi (by omega) (v := .string o.props[i].1) rfl ?_
  refine gA ?_
  refine raw_delete (k := .string o.props[i].1) (d := .string) rfl rfl rfl Tryz.underlying100 Tryz.underlying9 (.inl rfl) ?_
  refine m.del keyOk_string o.props[i].1 fun h1 L1 f1 z1 m1 g1 => ?_
  have ob1 := ob.offk f1 nds.1
  have w1 := x.p.off f1 fun p ep => (nds.2 p ep).2
  have hf1 := f1.1
  refine gA ?_
  refine HCall.mk ((delete_spec w1 hi hl).mono ?_)
  rintro e h2 ⟨b, eb, rfl, w2, f2⟩
  have hbb := nds.2 _ eb
  have hbs := hpl _ eb
  have ob2 := ob1.offk f2 (Ne.symm hbb.1)
  have m2 := m1.offk f2 (Ne.symm hbb.2)
  have hf2 := f2.1
  refine gA ?_
  refine blk_st (o := 4) (v := .slice z.pa (o.props.length - 1) z.pc) ob2 (by simp) rfl ?_
  intro h3 f3 z3 ob3
  have w3 := w2.off f3 fun p ep => (nds.2 p ep).1
  have m3 := m2.offk f3 (Ne.symm nds.1)
  have hf3 := f3.1
  replace ob3 : BlkW h3 z.bi 102 [.string o.cls, .int .i64 o.proto.k, .int .i64 o.proto.n, .string o.proto.s, .slice z.pa (o.props.length - 1) z.pc, .map (some z.mi), .bool false, .int .i64 o.long, .bool false] := ob3
  have hel : (o.props.eraseIdx i).length = o.props.length - 1 := List.length_eraseIdx_of_lt hi
  have kne := knd_erase kn i
  have g3 : ∀ key, getA key L1 = (((findI key (o.props.eraseIdx i)).map (upI i)).map (fun j : Nat => (j : Int))) := by
    intro key
    rw [g1 key, pl key, ← findI_erase key kn hi]
    split <;> rfl
  generalize o.props.eraseIdx i = l at hel w3 kne g3 ⊢
  rw [← hel] at w3 ob3
  refine gA ?_
  refine HBound.mk i rfl (by omega) ?_
  have K3 : h.size ≤ h3.size ∧ ∀ b', b' < h.size → b' ∉ z.bs → h3[b']? = h[b']? := ⟨by omega, fun b' hb hn => by
    simp only [OZ.bs, List.mem_cons, not_or] at hn
    rw [f3.2 b' (by omega) hn.1, f2.2 b' (by omega) (fun e => hn.2.2 (by have := blk_mem eb; rw [e]; exact this)), f1.2 b' hb hn.2.1]⟩
  refine gA ?_
  have hdl : (l.drop i).length = l.length - i := List.length_drop
  refine loop_rule [36] (fun us h' => ∃ (k : Nat) (L' : List (ByteArray × Int)), us = [.int .i64 k] ∧ k ≤ l.length - i ∧ MapR h' z.mi Value.string (Value.int .i64) L' ∧ (∀ key, getA key L' = (((findI key l).map (upI (i + k))).map (fun j : Nat => (j : Int)))) ∧
      BlkW h' z.bi 102 [.string o.cls, .int .i64 o.proto.k, .int .i64 o.proto.n, .string o.proto.s, .slice z.pa l.length z.pc, .map (some z.mi), .bool false, .int .i64 o.long, .bool false] ∧ Own h' 0 53 7 z.pa l.length z.pc (cellsKs l) ∧ (h.size ≤ h'.size ∧ ∀ b', b' < h.size → b' ∉ z.bs → h'[b']? = h[b']?))
      (fun us _ => match us with | [.int _ k] => (l.length - i) - k.toNat | _ => 0) rfl ?_ ?_
  · exact ⟨0, L1, rfl, by omega, m3, g3, ob3, w3, K3⟩
  intro u h4 v36
  rintro ⟨k, L', e, hk, m4, g4, ob4, w4, K4⟩
  cases e
  refine gA ?_
  refine HIf.mk (fun hlt2 => ?_) (fun hlt2 => ?_)
  · have hk1 : k < l.length - i := by have := of_decide_eq_true hlt2; omega
    have hmu : (l.length - i) - ((k : Int) + 1).toNat < (l.length - i) - ((k : Int)).toNat := by omega
    have hkl := cellsKs_len l
    have sd := w4.sl.slice (i := i) (j := l.length) (by omega) (Nat.le_refl _)
    rw [← hkl, List.take_length, cellsKs_drop l i (by omega), ← hdl] at sd
    have hik : i + k < l.length := by omega
    have egk : (l.drop i)[k]'(by omega) = l[i + k] := List.getElem_drop
    have hb4 := K4.1
    refine gA ?_
    refine HIdx.mk k rfl hk1 ?_
    refine sl_some sd (show k < (l.drop i).length by omega) fun p4 ep4 => ?_
    refine gA ?_
    refine Sl.loadK sd ep4 (by omega) ?_
    rw [egk]
    refine gA ?_
    refine new_var (e := 53) zeroKs rfl ?_
    intro h5 b5 o5 x5 z5 hb5
    have ob5 := ob4.ext x5
    refine gA ?_
    refine store_blk o5 (by simp [cellsK]) (by intro v hv; exact cellsKs_one [l[i + k]] v (by simpa [cellsKs] using hv)) ?_
    intro h6 f6 z6 o6
    replace o6 : BlkW h6 b5 53 [.string l[i + k].1, .int .i64 l[i + k].2.k, .int .i64 l[i + k].2.n, .string l[i + k].2.s, .bool true, .bool true, .bool true] := by simpa [cellsK] using o6
    have ob6 := ob5.offk f6 (by omega)
    have m6 := (m4.ext x5).offk f6 (by omega)
    have hpl4 : ∀ p, z.pa = some p → p.block < h4.size := fun p ep => (w4.lt p ep).2
    have w6 := (w4.ext x5).off f6 fun p ep => by have := hpl4 p ep; omega
    have hx5 := x5.1
    refine gA ?_
    refine m6.set keyOk_string l[i + k].1 (((i + k : Nat)) : Int) fun h7 f7 z7 m7 => ?_
    have ob7 := ob6.offk f7 nds.1
    have w7 := w6.off f7 fun p ep => (nds.2 p ep).2
    refine gA ?_
    refine ⟨⟨k + 1, _, rfl, by omega, m7, fun key => ?_, ob7, w7, by have := f7.1; have := f6.1; omega, fun b' hb hn => ?_⟩, hmu⟩
    · rw [getA_put, g4 key, show i + (k + 1) = (i + k) + 1 by omega, ← findI_step key kne hik]
      split <;> rfl
    · have hn' := hn
      simp only [OZ.bs, List.mem_cons, not_or] at hn'
      rw [f7.2 b' (by have := f6.1; omega) hn'.2.1, f6.2 b' (by omega) (by omega), x5.2 b' (by omega), K4.2 b' hb hn]
  · have hge := of_decide_eq_false hlt2
    have hik : i + k = l.length := by omega
    refine gA ?_
    refine ⟨rfl, ⟨ob4, w4, L', m4, fun key => ?_⟩, K4.1, K4.2, fun b' hb => .inl hb⟩
    rw [g4 key, hik, findI_end]
set_option maxHeartbeats 16000000
def Rev {α : Type} (l w : List α) (i : Nat) : Prop := w.length = l.length ∧ ∀ m (hm : m < l.length) (hw : m < w.length), w[m] = if m < i ∨ l.length - i ≤ m then l[l.length - 1 - m]'(by omega) else l[m]
theorem rev_end {α : Type} {l w : List α} {i : Nat} (r : Rev l w i) (hi : l.length ≤ 2 * i + 1) : w = l.reverse := by
  apply List.ext_getElem
  · rw [List.length_reverse]; exact r.1
  · intro m h1 h2
    have hm : m < l.length := by rw [← r.1]; exact h1
    rw [r.2 m hm h1, List.getElem_reverse]
    split
    · rfl
    · congr 1; omega
theorem rev_step {α : Type} {l w : List α} {i : Nat} (r : Rev l w i) (h2 : 2 * i + 1 < l.length) : Rev l ((w.set i (w[l.length - 1 - i]'(by have := r.1; omega))).set (l.length - 1 - i) (w[i]'(by have := r.1; omega))) (i + 1) := by
  have hl := r.1
  refine ⟨by simp [hl], fun m hm hw => ?_⟩
  have e1 := r.2 i (by omega) (by omega)
  have e2 := r.2 (l.length - 1 - i) (by omega) (by omega)
  rw [if_neg (by omega)] at e1 e2
  have e3 := r.2 m hm (by omega)
  rw [List.getElem_set, List.getElem_set]
  by_cases c1 : l.length - 1 - i = m
  · rw [if_pos c1, if_pos (by omega)]
    refine e1.trans ?_
    congr 1; omega
  · rw [if_neg c1]
    by_cases c2 : i = m
    · rw [if_pos c2, if_pos (by omega)]
      refine e2.trans ?_
      congr 1; omega
    · rw [if_neg c2]
      refine e3.trans ?_
      by_cases c3 : m < i ∨ l.length - i ≤ m
      · rw [if_pos c3, if_pos (by omega)]
      · rw [if_neg c3, if_neg (by omega)]
theorem reverse_spec {h : Heap} {B n c : Nat} {a : Option Addr} {l : List UInt8} (w : Own h B 5 1 a n c (l.map byteV)) (hn : l.length = n) (hl : n ≤ 1000000) :
    HCalls Tryz.prog 153 #[.slice a n c] h fun e h' => e = .returned (.tuple #[]) ∧ Own h' B 5 1 a n c (l.reverse.map byteV) ∧ (h.size ≤ h'.size ∧ ∀ b, b < h.size → (∀ p, a = some p → p.block ≠ b) → h'[b]? = h[b]?) := by
  subst hn
  refine c153 (by simp) ?_
  refine gA ?_
  refine loop_rule [2, 3] (fun us h' => ∃ (i : Nat) (v : List UInt8), us = [.int .i64 i, .int .i64 ((l.length : Int) - 1 - i)] ∧ 2 * i ≤ l.length ∧ Rev l v i ∧ Own h' B 5 1 a l.length c (v.map byteV) ∧ (h.size ≤ h'.size ∧ ∀ b, b < h.size → (∀ p, a = some p → p.block ≠ b) → h'[b]? = h[b]?)) (fun us _ => match us with | [.int _ i, _] => l.length - i.toNat | _ => 0) rfl ?_ ?_
  · exact ⟨0, l, by rw [show ((l.length : Int) - 1 - ((0 : Nat) : Int)) = (l.length : Int) - 1 by omega]; rfl, by omega, ⟨rfl, fun m hm hw => by rw [if_neg (by omega)]⟩, w, Nat.le_refl _, fun _ _ _ => rfl⟩
  intro u h1 v2 v3
  rintro ⟨i, v, e, hi, r, w1, K1⟩
  cases e
  have hvl := r.1
  refine gA ?_
  refine HIf.mk (fun hlt => ?_) (fun hlt => ?_)
  · have hlt' := of_decide_eq_true hlt
    have h2 : 2 * i + 1 < l.length := by omega
    have hmu : l.length - ((i : Int) + 1).toNat < l.length - ((i : Int)).toNat := by omega
    have ej : (l.length : Int) - 1 - i = ((l.length - 1 - i : Nat) : Int) := by omega
    refine gA ?_
    refine HIdx.mk (l.length - 1 - i) ej (by omega) ?_
    refine sl_some w1.sl (i := l.length - 1 - i) (by omega) fun p ep => ?_
    refine gA ?_
    refine Sl.load (i := l.length - 1 - i) w1.sl ep (by simp; omega) ?_
    rw [List.getElem_map]
    refine gA ?_
    refine HIdx.mk i rfl (by omega) ?_
    refine sl_some w1.sl (i := i) (by omega) fun p2 ep2 => ?_
    refine gA ?_
    refine Sl.load (i := i) w1.sl ep2 (by simp; omega) ?_
    rw [List.getElem_map]
    refine gA ?_
    refine HIdx.mk i rfl (by omega) ?_
    refine sl_some w1.sl (i := i) (by omega) fun p3 ep3 => ?_
    refine gA ?_
    refine Own.store (v := byteV v[l.length - 1 - i]) w1 ep3 (by omega) rfl fun h3 f3 _ z3 w3 => ?_
    refine gA ?_
    refine HIdx.mk (l.length - 1 - i) ej (by omega) ?_
    refine sl_some w3.sl (i := l.length - 1 - i) (by omega) fun p4 ep4 => ?_
    refine gA ?_
    refine Own.store (v := byteV v[i]) w3 ep4 (by omega) rfl fun h4 f4 _ z4 w4 => ?_
    refine gA ?_
    have ew2 : ((List.map byteV v).set i (byteV v[l.length - 1 - i])).set (l.length - 1 - i) (byteV v[i]) = ((v.set i v[l.length - 1 - i]).set (l.length - 1 - i) v[i]).map byteV := by rw [List.map_set, List.map_set]
    rw [ew2] at w4
    refine ⟨⟨i + 1, _, ?_, by omega, rev_step r h2, w4, by have := K1.1; have := f3.1; have := f4.1; omega, fun b hb hn => ?_⟩, hmu⟩
    · have e1 : (l.length : Int) - 1 - i - 1 = (l.length : Int) - 1 - ((i + 1 : Nat) : Int) := by omega
      rw [← e1]; rfl
    · rw [f4.2 b (by have := K1.1; have := f3.1; omega) (Ne.symm (hn p4 ep4)), f3.2 b (by have := K1.1; omega) (Ne.symm (hn p3 ep3)), K1.2 b hb hn]
  · have hge := of_decide_eq_false hlt
    refine gA ?_
    rw [rev_end r (by omega)] at w1
    exact ⟨rfl, w1, K1⟩
def keyL (i : Nat) : List UInt8 := if h : i < 10 then [0, UInt8.ofNat (48 + i)] else keyL (i / 10) ++ [0, UInt8.ofNat (48 + i % 10)]
termination_by i
decreasing_by omega
theorem key_spec (h : Heap) (i : Nat) (hi : i ≤ 100000) : HCalls Tryz.prog 130 #[.int .i64 i] h fun e h' => e = .returned (.string ⟨(keyL i).toArray⟩) ∧ Ext h h' := by
  refine c130 (by simp) ?_
  refine gB ?_
  refine cut_rule [0, 3] (fun us h' => ∃ (x : Nat) (a : Option Addr) (c : Nat) (b : List UInt8), us = [.int .i64 x, .slice a b.length c] ∧ x < 10 ∧ b.length ≤ 100000 ∧ keyL i = keyL x ++ b.reverse ∧ Own h' h.size 5 1 a b.length c (b.map byteV) ∧ Ext h h') rfl ?_ ?_
  · refine gA ?_
    refine loop_rule [0, 3] (fun us h' => ∃ (x : Nat) (a : Option Addr) (c : Nat) (b : List UInt8), us = [.int .i64 x, .slice a b.length c] ∧ x + b.length ≤ 100000 ∧ keyL i = keyL x ++ b.reverse ∧ Own h' h.size 5 1 a b.length c (b.map byteV) ∧ Ext h h') (fun us _ => match us with | [.int _ x, _] => x.toNat | _ => 0) rfl ?_ ?_
    · exact ⟨i, none, 0, [], rfl, by simp; omega, by simp, Own.nil _ _ _ _, Ext.refl h⟩
    intro u h1 v0 v3
    rintro ⟨x, a, c, b, e, hx, hk, w1, X1⟩
    cases e
    refine gA ?_
    refine HIf.mk (fun hlt => ?_) (fun hlt => ?_)
    · have hlt' := of_decide_eq_true hlt
      have e1 : ((x : Nat) : Int).tmod 10 = ((x % 10 : Nat) : Int) := (Int.ofNat_tmod x 10).symm
      have e2 : ((x : Nat) : Int).tdiv 10 = ((x / 10 : Nat) : Int) := (Int.ofNat_tdiv x 10).symm
      have hmu : (((x : Nat) : Int).tdiv 10).toNat < ((x : Int)).toNat := by rw [e2]; omega
      have hX1 := X1.1
      refine gA ?_
      refine new_own (e := 5) 1 2 [byteV (UInt8.ofNat (48 + x % 10)), byteV (UInt8.ofNat 0)] (by rw [byteV_ofNat, byteV_ofNat, Nat.mod_eq_of_lt (show 48 + x % 10 < 256 by omega), Int.natCast_add, ← e1]; rfl) rfl ?_
      intro h2 b2 w2 x2 z2 hb2
      refine gA ?_
      refine w2.sl.cells ?_
      refine Own.bytes (more := [UInt8.ofNat (48 + x % 10), UInt8.ofNat 0]) (w1.ext x2) (by omega) (by simp; omega) ?_
      intro h3 a3 c3 w3 g3
      refine gA ?_
      have hkx : keyL x = keyL (x / 10) ++ [0, UInt8.ofNat (48 + x % 10)] := by conv => lhs; unfold keyL; rw [dif_neg (by omega)]
      refine ⟨⟨x / 10, a3, c3, _, by rw [← e2]; rfl, by simp; omega, ?_, w3, (X1.trans x2).keep (g3.kept (by omega) fun p ep => (w1.lt p ep).1)⟩, hmu⟩
      rw [hk, hkx]
      simp
    · have hge := of_decide_eq_false hlt
      refine gA ?_
      exact ⟨x, a, c, b, rfl, by omega, by omega, hk, w1, X1⟩
  intro u h1 v0 v3
  rintro ⟨x, a, c, b, e, hx, hb, hk, w1, X1⟩
  cases e
  have hX1 := X1.1
  refine gA ?_
  refine new_own (e := 5) 1 2 [byteV (UInt8.ofNat (48 + x)), byteV (UInt8.ofNat 0)] (by rw [byteV_ofNat, byteV_ofNat, Nat.mod_eq_of_lt (show 48 + x < 256 by omega)]; rfl) rfl ?_
  intro h2 b2 w2 x2 z2 hb2
  refine gA ?_
  refine w2.sl.cells ?_
  refine Own.bytes (more := [UInt8.ofNat (48 + x), UInt8.ofNat 0]) (w1.ext x2) (by omega) (by simp; omega) ?_
  intro h3 a3 c3 w3 g3
  have X3 := (X1.trans x2).keep (g3.kept (by omega) fun p ep => (w1.lt p ep).1)
  have hkx : keyL x = [0, UInt8.ofNat (48 + x)] := by unfold keyL; rw [dif_pos hx]
  have hfin : keyL i = (b ++ [UInt8.ofNat (48 + x), UInt8.ofNat 0]).reverse := by rw [hk, hkx]; simp
  have hfl : (b ++ [UInt8.ofNat (48 + x), UInt8.ofNat 0]).length = b.length + 2 := by simp
  generalize b ++ [UInt8.ofNat (48 + x), UInt8.ofNat 0] = B at w3 hfin hfl ⊢
  refine gA ?_
  refine HCall.mk ((reverse_spec w3 rfl (by omega)).mono ?_)
  rintro e h4 ⟨rfl, w4, K4⟩
  rw [← hfin] at w4
  have hkl : B.length = (keyL i).length := by rw [hfin, List.length_reverse]
  rw [hkl] at w4 ⊢
  have s4 := w4.sl
  refine gA ?_
  refine s4.bytes ?_
  refine gA ?_
  exact ⟨rfl, ⟨by have := X3.1; have := K4.1; omega, fun k hk => by
    rw [K4.2 k (by have := X3.1; omega) (fun p ep e => by have := (w3.lt p ep).1; omega), X3.2 k hk]⟩⟩
set_option maxHeartbeats 4000000
theorem head_append {α : Type} {l m : List α} (h : l ≠ []) : (l ++ m).head? = l.head? := by
  cases l with
  | nil => exact absurd rfl h
  | cons a r => rfl
theorem snoc_of {α : Type} : ∀ {l : List α}, l ≠ [] → ∃ m c, l = m ++ [c]
  | [a], _ => ⟨[], a, rfl⟩
  | a :: b :: r, _ => by
    obtain ⟨m, c, e⟩ := snoc_of (l := b :: r) (by simp)
    exact ⟨a :: m, c, by rw [e]; rfl⟩
def digL (i : Nat) : List Nat := if h : i < 10 then [48 + i] else digL (i / 10) ++ [48 + i % 10]
termination_by i
decreasing_by omega
def pairU (m : List Nat) : List UInt8 := m.flatMap fun c => [0, UInt8.ofNat c]
theorem digL_lt {i : Nat} (h : i < 10) : digL i = [48 + i] := by unfold digL; rw [dif_pos h]
theorem digL_ge {i : Nat} (h : ¬ i < 10) : digL i = digL (i / 10) ++ [48 + i % 10] := by conv => lhs; unfold digL; rw [dif_neg h]
theorem keyL_dig (i : Nat) : keyL i = pairU (digL i) := by
  induction i using Nat.strongRecOn with
  | ind i ih =>
    by_cases h : i < 10
    · unfold keyL; rw [dif_pos h, digL_lt h]; rfl
    · have : keyL i = keyL (i / 10) ++ [0, UInt8.ofNat (48 + i % 10)] := by conv => lhs; unfold keyL; rw [dif_neg h]
      rw [this, digL_ge h, ih (i / 10) (by omega)]
      simp [pairU]
theorem digL_facts (i : Nat) : digL i ≠ [] ∧ (digL i).all isDig = true ∧ digV (digL i) = i ∧ ((digL i).head? = some 48 → i = 0) ∧ ∀ k, i < 10 ^ (k + 1) → (digL i).length ≤ k + 1 := by
  induction i using Nat.strongRecOn with
  | ind i ih =>
    by_cases h : i < 10
    · rw [digL_lt h]
      refine ⟨by simp, by simp [isDig]; omega, by simp [digV], fun e => by simp at e; omega, fun k _ => by simp⟩
    · obtain ⟨h1, h2, h3, h4, h5⟩ := ih (i / 10) (by omega)
      rw [digL_ge h]
      refine ⟨by simp, by rw [List.all_append, h2]; simp [isDig]; omega, by rw [digV_snoc, h3]; omega, fun e => ?_, fun k hk => ?_⟩
      · rw [head_append h1] at e
        have := h4 e; omega
      · cases k with
        | zero => simp at hk; omega
        | succ k =>
          have := h5 k (by rw [Nat.pow_succ] at hk; omega)
          simp; omega
theorem ulist_pair : ∀ (m : List Nat), (∀ c ∈ m, c < 256) → ulist (pairU m) = m
  | [], _ => rfl
  | c :: m, h => by
    have hc := h c (by simp)
    have ih := ulist_pair m fun x hx => h x (by simp [hx])
    show ulist (0 :: UInt8.ofNat c :: pairU m) = c :: m
    rw [ulist, ih]
    congr 1
    show (0 : UInt8).toNat * 256 + (UInt8.ofNat c).toNat = c
    simp [UInt8.toNat_ofNat', Nat.mod_eq_of_lt hc]
theorem isDig_lt {m : List Nat} (h : m.all isDig = true) : ∀ c ∈ m, c < 256 := fun c hc => by
  have := of_decide_eq_true (List.all_eq_true.1 h c hc); omega
theorem idx_key {i : Nat} (hi : i < 1000000000) : idxL (ulist (keyL i)) = some i := by
  obtain ⟨h1, h2, h3, h4, h5⟩ := digL_facts i
  rw [keyL_dig, ulist_pair _ (isDig_lt h2)]
  unfold idxL
  rw [if_neg, if_pos h2, h3]
  rintro (c | c | ⟨c1, c2⟩)
  · exact h1 c
  · have := h5 8 hi; omega
  · have := h4 c1
    subst this
    rw [digL_lt (by omega)] at c2; simp at c2
theorem digK_of : ∀ (n : Nat) (m : List Nat), m.length = n → m ≠ [] → m.all isDig = true → ¬ (m.head? = some 48 ∧ 1 < m.length) → m = digL (digV m) ∧ (1 < m.length → 1 ≤ digV m) ∧ (m.head? ≠ some 48 → 1 ≤ digV m)
  | 0, m, hn, hne, _, _ => absurd (List.length_eq_zero_iff.1 hn) hne
  | n + 1, m, hn, hne, hall, hz => by
    obtain ⟨m', c, rfl⟩ := snoc_of hne
    rw [List.all_append, Bool.and_eq_true] at hall
    have hc : isDig c = true := by simpa using hall.2
    have hc' := of_decide_eq_true hc
    rw [digV_snoc]
    by_cases hm : m' = []
    · subst hm
      simp only [List.nil_append, digV, List.foldl_nil, Nat.mul_zero, Nat.zero_add]
      refine ⟨by rw [digL_lt (by omega)]; congr 1; omega, fun h => by simp at h, fun h => ?_⟩
      simp at h; omega
    · have hml : m'.length = n := by simpa using hn
      have hpos : 0 < m'.length := List.length_pos_iff.2 hm
      have hh : (m' ++ [c]).head? = m'.head? := head_append hm
      have hz' : m'.head? ≠ some 48 := fun e => hz ⟨by rw [hh]; exact e, by simp; omega⟩
      obtain ⟨i1, i2, i3⟩ := digK_of n m' hml hm hall.1 fun e => hz' e.1
      have ha := i3 hz'
      refine ⟨?_, fun _ => by omega, fun _ => by omega⟩
      rw [digL_ge (by omega)]
      have e1 : (10 * digV m' + (c - 48)) / 10 = digV m' := by omega
      have e2 : 48 + (10 * digV m' + (c - 48)) % 10 = c := by omega
      rw [e1, e2, ← i1]
theorem pair_of : ∀ (l : List UInt8), l.length % 2 = 0 → (∀ c ∈ ulist l, c < 256) → l = pairU (ulist l)
  | [], _, _ => rfl
  | [a], h, _ => by simp at h
  | a :: b :: r, h, hc => by
    have h0 := hc (a.toNat * 256 + b.toNat) (by simp [ulist])
    have ha : a = 0 := by
      have : a.toNat = 0 := by omega
      exact UInt8.toNat_inj.1 this
    subst ha
    have ih := pair_of r (by simp only [List.length_cons] at h; omega) fun c hm => hc c (by simp [ulist, hm])
    show _ = 0 :: UInt8.ofNat ((0 : UInt8).toNat * 256 + b.toNat) :: pairU (ulist r)
    rw [← ih]
    simp
theorem key_idx {l : List UInt8} {j : Nat} (he : l.length % 2 = 0) (h : idxL (ulist l) = some j) : l = keyL j := by
  unfold idxL at h
  split at h
  · cases h
  · rename_i hn
    simp only [not_or] at hn
    split at h
    · rename_i hall
      cases h
      have := (digK_of _ (ulist l) rfl hn.1 hall hn.2.2).1
      rw [keyL_dig, ← this]
      exact pair_of l he (isDig_lt hall)
    · cases h
set_option maxHeartbeats 16000000
def keyK (j : Nat) : ByteArray := ⟨(keyL j).toArray⟩
def keepK (m long : Nat) (p : KV) : Bool := (List.range long).all fun j => decide (j < m) || !strEq p.1 (keyK j)
theorem idxK_key {j : Nat} (h : j < 1000000000) : idxK (keyK j) = some j := idx_key h
theorem keyK_idx {u : ByteArray} {j : Nat} (he : u.size % 2 = 0) (h : idxK u = some j) : u = keyK j := by
  obtain ⟨⟨l⟩⟩ := u
  have := key_idx (l := l) he h
  unfold keyK
  rw [← this]
theorem keep_none {m long : Nat} {p : KV} (hl : long ≤ 1000000) (h : idxK p.1 = none) : keepK m long p = true := by
  unfold keepK
  rw [List.all_eq_true]
  intro j hj
  rw [List.mem_range] at hj
  have : strEq p.1 (keyK j) = false := (strEq_no _ _).2 fun e => by rw [e, idxK_key (by omega)] at h; cases h
  rw [this]; simp
theorem keep_some {m long j : Nat} {p : KV} (hl : long ≤ 1000000) (he : p.1.size % 2 = 0) (h : idxK p.1 = some j) (hj : j < long) : keepK m long p = decide (j < m) := by
  have ek := keyK_idx he h
  by_cases hm : j < m
  · rw [decide_eq_true hm]
    unfold keepK
    rw [List.all_eq_true]
    intro i hi
    rw [List.mem_range] at hi
    by_cases hij : i = j
    · subst hij; rw [decide_eq_true hm]; rfl
    · have : strEq p.1 (keyK i) = false := (strEq_no _ _).2 fun e => by
        rw [e, idxK_key (by omega)] at h
        exact hij (Option.some.inj h)
      rw [this]; simp
  · rw [decide_eq_false hm]
    unfold keepK
    rw [List.all_eq_false]
    refine ⟨j, List.mem_range.2 hj, ?_⟩
    rw [decide_eq_false hm, (strEq_iff _ _).2 ek]
    simp
theorem keep_step {m long : Nat} (hm : m < long) (p : KV) : keepK m long p = (keepK (m + 1) long p && !strEq p.1 (keyK m)) := by
  unfold keepK
  rw [Bool.eq_iff_iff, Bool.and_eq_true, List.all_eq_true, List.all_eq_true]
  constructor
  · intro h
    refine ⟨fun j hj => ?_, ?_⟩
    · have := h j hj
      simp only [Bool.or_eq_true, decide_eq_true_eq] at this ⊢
      rcases this with h1 | h1
      · exact .inl (by omega)
      · exact .inr h1
    · have := h m (List.mem_range.2 hm)
      simpa using this
  · rintro ⟨h1, h2⟩ j hj
    have := h1 j hj
    simp only [Bool.or_eq_true, decide_eq_true_eq] at this ⊢
    rcases this with h3 | h3
    · by_cases e : j = m
      · subst e; exact .inr h2
      · exact .inl (by omega)
    · exact .inr h3
theorem keep_all (long : Nat) (p : KV) : keepK long long p = true := by
  unfold keepK
  rw [List.all_eq_true]
  intro j hj
  rw [List.mem_range] at hj
  rw [decide_eq_true hj]; rfl
theorem erase_filter {key : ByteArray} : ∀ {l : List KV} {i : Nat}, KNd l → findI key l = some i → l.eraseIdx i = l.filter fun p => !strEq p.1 key
  | [], i, _, h => by cases h
  | p :: r, i, nd, h => by
    rw [KNd, List.map_cons, List.nodup_cons] at nd
    simp only [findI] at h
    by_cases e : p.1 = key
    · rw [if_pos e] at h; cases h
      have : r.filter (fun q => !strEq q.1 key) = r := List.filter_eq_self.2 fun q hq => by
        have : strEq q.1 key = false := (strEq_no _ _).2 fun e2 => nd.1 (List.mem_map.2 ⟨q, hq, e2.trans e.symm⟩)
        rw [this]; rfl
      rw [List.eraseIdx_cons_zero, List.filter_cons_of_neg (by rw [(strEq_iff _ _).2 e]; simp), this]
    · rw [if_neg e] at h
      cases hf : findI key r with
      | none => rw [hf] at h; cases h
      | some j =>
        rw [hf] at h; cases h
        rw [List.eraseIdx_cons_succ, List.filter_cons_of_pos (by rw [(strEq_no _ _).2 e]; rfl), erase_filter nd.2 hf]
theorem knd_filter {l : List KV} (nd : KNd l) (q : KV → Bool) : KNd (l.filter q) := nd.sublist ((List.filter_sublist (p := q)).map _)
structure KeysOk (o : PO) : Prop where
  nd : KNd o.props
  even : ∀ p ∈ o.props, p.1.size % 2 = 0
  low : isArr o = true → ∀ p ∈ o.props, ∀ j, idxK p.1 = some j → j < o.long
  few : o.props.length ≤ 1000000
  long : o.long ≤ 1000
def sizeV (o : PO) (v : VV) : PO := if v.k = 3 ∧ 0 ≤ v.n ∧ v.n ≤ 1000 then sizeP o v.n.toNat else o
theorem resize_spec {h : Heap} {o : PO} {z : OZ} (x : ObjR h o z) (nd : z.bs.Nodup) (ok : KeysOk o) (har : isArr o = true) (v : VV) (hn : i64 v.n) :
    HCalls Tryz.prog 84 #[.pointer (some ⟨z.bi, 0, none⟩), .agg (cellsV v).toArray] h fun e h' => ∃ n : Int, e = .returned (.int .i64 n) ∧ ObjR h' (sizeV o v) z ∧ PassF z.bs z.bs h h' := by
  refine c84 (by simp) ?_
  have hlt := x.lt
  have hbl := x.b.lt
  refine gA ?_
  refine new_var (e := 24) (cellsV v) rfl ?_
  intro h1 b3 o3 x1 z1 hb3
  have x' := x.ext x1
  have ob := x'.b
  have hln := ok.long
  unfold sizeV
  refine gA ?_
  by_cases hk : v.k = 3
  · have q1 : (v.k != 3) = false := by rw [hk]; rfl
    by_cases h0 : v.n < 0
    · have q2 : decide (v.n < 0) = true := decide_eq_true h0
      rw [if_neg (by omega)]
      refine gA ?_
      exact ⟨_, rfl, x', .of_ext x1⟩
    · have q2 : decide (v.n < 0) = false := decide_eq_false h0
      by_cases h9 : v.n > 1000
      · have q3 : decide (v.n > 1000) = true := decide_eq_true h9
        rw [if_neg (by omega)]
        refine gA ?_
        exact ⟨_, rfl, x', .of_ext x1⟩
      · have q3 : decide (v.n > 1000) = false := decide_eq_false h9
        rw [if_pos ⟨hk, by omega, by omega⟩]
        obtain ⟨n, hnn⟩ : ∃ n : Nat, v.n = (n : Int) := ⟨v.n.toNat, by omega⟩
        rw [hnn] at q2 q3 h0 h9 ⊢
        rw [Int.toNat_natCast]
        have o3 : BlkW h1 b3 24 [.int .i64 v.k, .int .i64 (n : Int), .string v.s] := by rw [← hnn]; exact o3
        have nds := OZ.nds nd
        have hx1 := x1.1
        refine gA ?_
        refine loop_rule [6] (fun us h' => ∃ m : Nat, us = [.int .i64 ((m : Int) - 1)] ∧ m ≤ o.long ∧ (m = o.long ∨ n ≤ m) ∧ ObjR h' ⟨o.cls, o.proto, o.props.filter (keepK m o.long), o.long⟩ z ∧ PassF z.bs z.bs h h') (fun us _ => match us with | [.int _ k] => (k + 1).toNat | _ => 0) rfl ?_ ?_
        · refine ⟨o.long, rfl, Nat.le_refl _, .inl rfl, ?_, .of_ext x1⟩
          have e1 : o.props.filter (keepK o.long o.long) = o.props := List.filter_eq_self.2 fun p _ => keep_all _ p
          rw [e1]; exact x'
        intro u h2 v6
        rintro ⟨m, e, hm, hmn, x2, K2⟩
        cases e
        have ob2 := x2.b
        refine gA ?_
        refine HIf.mk (fun hlt2 => ?_) (fun hlt2 => ?_)
        · have hge := of_decide_eq_true hlt2
          obtain ⟨m, rfl⟩ : ∃ m', m = m' + 1 := ⟨m - 1, by omega⟩
          have hmi : ((m + 1 : Nat) : Int) - 1 = (m : Int) := by omega
          have hmu : ((m : Int) - 1 + 1).toNat < ((m : Int) + 1).toNat := by omega
          rw [hmi]
          refine gB ?_
          refine Z1 ?_
          refine gB ?_
          refine cut_rule [7, 8] (fun us h' => ∃ w : Int, us = [.int .i64 w, .bool (findI (keyK m) (o.props.filter (keepK (m + 1) o.long))).isSome] ∧ (∀ i, findI (keyK m) (o.props.filter (keepK (m + 1) o.long)) = some i → w = (i : Int)) ∧ Ext h2 h') rfl ?_ ?_
          · obtain ⟨L, mm, pl⟩ := x2.m
            refine gA ?_
            have hpl := pl (keyK m)
            have hkey := key_spec h2 m (by omega)
            refine HAlt.mk ?_ ?_
            all_goals
              refine gA ?_
              refine HCall.mk (hkey.mono ?_)
              rintro e h3 ⟨rfl, x3⟩
              have ob2 := ob2.ext x3
              have mm := mm.ext x3
              refine gA ?_
              refine mm.look keyOk_string (keyK m) (fun hn es clock => ?_) (fun v hv es clock j => ?_)
              · have hf : findI (keyK m) (o.props.filter (keepK (m + 1) o.long)) = none := by
                  rw [hn] at hpl
                  exact Option.map_eq_none_iff.1 hpl.symm
                refine gA ?_
                exact ⟨_, by rw [hf]; rfl, (fun i hi => by rw [hf] at hi; cases hi), x3⟩
              · have hf : ∃ i, findI (keyK m) (o.props.filter (keepK (m + 1) o.long)) = some i ∧ v = (i : Int) := by
                  rw [hv] at hpl
                  cases hfi : findI (keyK m) (o.props.filter (keepK (m + 1) o.long)) with
                  | none => rw [hfi] at hpl; cases hpl
                  | some i => rw [hfi] at hpl; exact ⟨i, rfl, by simpa using hpl⟩
                obtain ⟨i, hf, rfl⟩ := hf
                refine gA ?_
                exact ⟨_, by rw [hf]; rfl, (fun j hj => by rw [hf] at hj; cases hj; rfl), x3⟩
          intro u h3 v7 v8
          rintro ⟨w, e, hw, x3⟩
          cases e
          have x3r := x2.ext x3
          have ob3 := x3r.b
          have K3 := K2.trans (.of_ext x3)
          have kn := knd_filter ok.nd (keepK (m + 1) o.long)
          have hfl : (o.props.filter (keepK (m + 1) o.long)).length ≤ 1000000 := Nat.le_trans (List.length_filter_le _ _) ok.few
          have estep : o.props.filter (keepK m o.long) = (o.props.filter (keepK (m + 1) o.long)).filter (fun p => !strEq p.1 (keyK m)) := by
            rw [List.filter_filter]
            refine List.filter_congr fun p _ => ?_
            rw [keep_step (by omega), Bool.and_comm]
          generalize o.props.filter (keepK (m + 1) o.long) = l at hw x3r ob3 kn hfl estep
          cases hf : findI (keyK m) l with
          | none =>
            have q : (!(none : Option Nat).isSome) = true := rfl
            have e1 : l.filter (fun p => !strEq p.1 (keyK m)) = l := List.filter_eq_self.2 fun p hp => by
              rw [(strEq_no _ _).2 ((findI_none hf).2 p hp)]; rfl
            rw [e1] at estep
            refine gA ?_
            exact ⟨⟨m, rfl, by omega, .inr (by omega), by rw [estep]; exact x3r, K3⟩, hmu⟩
          | some i =>
            have q : (!(some i).isSome) = false := rfl
            obtain ⟨hi, hk, hlk⟩ := findI_some hf
            have hwi := hw i hf
            rw [← erase_filter kn hf] at estep
            refine gA ?_
            refine HIdx.mk i hwi hi ?_
            refine sl_some x3r.p.sl hi fun p ep => ?_
            refine gA ?_
            refine Sl.loadF x3r.p.sl ep hi (by omega) (v := .bool true) rfl ?_
            refine gA ?_
            rw [hwi]
            refine HCall.mk ((drop_spec x3r nd kn hi hfl).mono ?_)
            rintro e h4 ⟨rfl, x4, K4⟩
            refine gA ?_
            exact ⟨⟨m, rfl, by omega, .inr (by omega), by rw [estep]; exact x4, K3.trans K4⟩, hmu⟩
        · have hge := of_decide_eq_false hlt2
          refine gA ?_
          refine blk_st (o := 7) (v := .int .i64 n) ob2 (by simp) rfl ?_
          intro h3 f3 z3 ob3
          refine gA ?_
          have e1 : o.props.filter (keepK m o.long) = (sizeP o n).props := by
            unfold sizeP
            refine List.filter_congr fun p hp => ?_
            cases hi : idxK p.1 with
            | none => exact keep_none (by omega) hi
            | some j =>
              rw [keep_some (by omega) (ok.even p hp) hi (ok.low har p hp j hi)]
              have := ok.low har p hp j hi
              exact decide_eq_decide.2 (by omega)
          refine ⟨0, rfl, ?_, K2.trans (.of_off f3 (.inl (by simp [OZ.bs])))⟩
          show ObjR h3 ⟨o.cls, o.proto, (sizeP o n).props, n⟩ z
          rw [← e1]
          exact ⟨ob3, x2.p.off f3 fun p ep => (nds.2 p ep).1, let ⟨L, mm, pl⟩ := x2.m; ⟨L, mm.offk f3 (Ne.symm nds.1), pl⟩⟩
  · have q1 : (v.k != 3) = true := by simp [hk]
    rw [if_neg (by omega)]
    refine gA ?_
    exact ⟨_, rfl, x', .of_ext x1⟩
set_option maxHeartbeats 16000000
theorem findI_keys {key : ByteArray} : ∀ {l m : List KV}, l.map (·.1) = m.map (·.1) → findI key l = findI key m
  | [], [], _ => rfl
  | [], _ :: _, e => by cases e
  | _ :: _, [], e => by cases e
  | p :: r, q :: s, e => by
    simp only [List.map_cons, List.cons.injEq] at e
    simp only [findI]
    rw [e.1, findI_keys e.2]
theorem setP_at {key : ByteArray} {x : VV} : ∀ {l : List KV} {i : Nat}, findI key l = some i → setP key x l = l.set i (key, x)
  | [], i, h => by cases h
  | p :: r, i, h => by
    simp only [findI] at h
    by_cases e : p.1 = key
    · rw [if_pos e] at h; cases h
      simp only [setP]; rw [if_pos e]; rfl
    · rw [if_neg e] at h
      cases hf : findI key r with
      | none => rw [hf] at h; cases h
      | some j =>
        rw [hf] at h; cases h
        simp only [setP]; rw [if_neg e, setP_at hf]; rfl
theorem set_keys {l : List KV} {i : Nat} {x : VV} {key : ByteArray} (hi : i < l.length) (hk : l[i].1 = key) : (l.set i (key, x)).map (·.1) = l.map (·.1) := by
  apply List.ext_getElem
  · simp
  · intro j h1 h2
    rw [List.getElem_map, List.getElem_map, List.getElem_set]
    split
    · rename_i e; subst e; exact hk.symm
    · rfl
theorem cells_split {l : List KV} {i : Nat} (hi : i < l.length) : cellsKs l = cellsKs (l.take i) ++ (cellsK l[i] ++ cellsKs (l.drop (i + 1))) := by
  conv => lhs; rw [← List.take_append_drop i l, List.drop_eq_getElem_cons hi, cellsKs_append]
  rfl
theorem cells_set {l : List KV} {i : Nat} {x : VV} {sp : List Value} (hi : i < l.length) :
    (cellsKs l ++ sp).take (i * 7 + 1) ++ (cellsV x ++ (cellsKs l ++ sp).drop (i * 7 + 1 + (cellsV x).length)) = cellsKs (l.set i (l[i].1, x)) ++ sp := by
  have hi2 : i < (l.set i (l[i].1, x)).length := by simpa using hi
  have e2 := cells_split hi2
  rw [List.take_set_of_le (Nat.le_refl _), List.drop_set_of_lt (by omega), List.getElem_set_self] at e2
  rw [e2, cells_split hi]
  have hA : (cellsKs (l.take i)).length = i * 7 := by rw [cellsKs_len, List.length_take, Nat.min_eq_left (by omega)]
  generalize cellsKs (l.take i) = A at hA ⊢
  generalize cellsKs (l.drop (i + 1)) = B
  have t1 : (A ++ (cellsK l[i] ++ B) ++ sp).take (i * 7 + 1) = A ++ [.string l[i].1] := by
    rw [← hA, List.append_assoc, List.take_append, List.take_of_length_le (Nat.le_succ _)]; simp [cellsK]
  have t2 : (A ++ (cellsK l[i] ++ B) ++ sp).drop (i * 7 + 1 + (cellsV x).length) = .bool true :: .bool true :: .bool true :: (B ++ sp) := by
    rw [← hA, Nat.add_assoc, List.append_assoc, List.drop_append]; simp [cellsK, cellsV]
  rw [t1, t2]
  simp [cellsK, cellsV]
theorem Own.setV {h : Heap} {a : Option Addr} {c i : Nat} {l : List KV} {p : Addr} {K : Heap → Prop} (w : Own h 0 53 7 a l.length c (cellsKs l)) (ep : a = some p) (hi : i < l.length) (v : VV)
    (k : ∀ h', Off p.block h h' → h'.size = h.size → Own h' 0 53 7 a (l.set i (l[i].1, v)).length c (cellsKs (l.set i (l[i].1, v))) → K h') : HStore h ((p.add (i * 7)).add 1) (cellsV v) K := by
  obtain ⟨h1, h2, h3, h4⟩ := w
  obtain ⟨b, spare, rfl, hb, hs, y⟩ := h4 p ep
  have hl := cellsKs_len l
  rw [add_add, add_mk, Nat.zero_add]
  refine store_blk y (by rw [List.length_append]; simp; omega) (by simp [isOne]) ?_
  intro h' f z y'
  rw [cells_set hi] at y'
  refine k h' f z ⟨by rw [cellsKs_len], by rw [List.length_set]; exact h2, h3, fun p' ep' => ?_⟩
  rw [ep] at ep'
  cases ep'
  exact ⟨b, spare, rfl, hb, by rw [List.length_set]; exact hs, y'⟩
theorem nodup_in {α : Type} {f : α → List Nat} : ∀ {l : List α}, (l.flatMap f).Nodup → ∀ {i : Nat} (hi : i < l.length), (f l[i]).Nodup
  | [], _, i, hi => by simp at hi
  | a :: r, nd, 0, _ => by
    rw [List.flatMap_cons, List.nodup_append] at nd; exact nd.1
  | a :: r, nd, i + 1, hi => by
    rw [List.flatMap_cons, List.nodup_append] at nd
    exact nodup_in nd.2.1 (i := i) (by simpa using hi)
theorem hadd_spec {h : Heap} {bh : Nat} {H : PH} {Z : HZ} (x : HeapR h bh H Z) {i : Nat} (hi : i < H.objs.length) (hz : i < Z.os.length) (key : ByteArray) (v : VV) (hk : key.size ≤ 2097152) (hf : findI key H.objs[i].props = none) (hl : H.objs[i].props.length ≤ 1000000) (hlo : H.objs[i].long ≤ 1000000)
    (hm : i64 H.most) (hu : 0 ≤ H.used) (hmu : H.used ≤ 1000000) (hmm : H.most ≤ 1000000) (hm0 : 0 ≤ H.most) :
    HCalls Tryz.prog 85 #[.pointer (some ⟨bh, 0, none⟩), .pointer (some ⟨Z.os[i].bi, 0, none⟩), .agg (cellsK (key, v)).toArray] h fun e h' => ∃ (n : Int) (Z' : HZ), e = .returned (.int .i64 n) ∧
      HeapR h' bh (if farP H.objs[i] key = true then H else if H.most - H.used < 1 then H else ⟨H.objs.set i ⟨H.objs[i].cls, H.objs[i].proto, H.objs[i].props ++ [(key, v)], longP H.objs[i] key⟩, H.most, H.used + 1⟩) Z' ∧ PassF (Z.bs bh) (Z'.bs bh) h h' := by
  refine c85 (by simp) ?_
  refine gA ?_
  refine new_var (e := 53) (cellsK (key, v)) rfl ?_
  intro h1 b5 o5 x1 z1 hb5
  have x' := x.ext x1
  have xi := x'.all i hi hz
  have ob := xi.b
  have hlt := x.lt
  have hx1 := x1.1
  replace o5 : BlkW h1 b5 53 [.string key, .int .i64 v.k, .int .i64 v.n, .string v.s, .bool true, .bool true, .bool true] := o5
  refine gA ?_
  refine HCall.mk ((index_spec xi key hk).mono ?_)
  rintro e h2 ⟨j, rfl, hj, rfl⟩
  unfold farP longP
  have xnd : ∀ {h : Heap} {Z : HZ} {H : PH} (x : HeapR h bh H Z) (hz : i < Z.os.length), Z.os[i].bs.Nodup := fun x hz => by
    have nds := x.nds
    exact (nodup_in nds.2.2 hz)
  cases ha : arrIx H.objs[i] key with
  | none =>
    have q : (none : Option Nat).isSome = false := rfl
    have e0 : ¬ (false = true) := by simp
    rw [if_neg e0]
    refine gA ?_
    refine HCall.mk ((take_spec x' hm hu hmu hmm hm0).mono ?_)
    rintro e h3 (⟨hc, rfl, rfl⟩ | ⟨hc, rfl, x3, f3⟩)
    · have q1 : (!false) = true := rfl
      rw [if_pos hc]
      refine gA ?_
      exact ⟨_, Z, rfl, x', .of_ext x1⟩
    · have q1 : (!true) = false := rfl
      rw [if_neg hc]
      have hbh := x.b.lt
      have o5 := o5.offk f3 (by omega)
      have xi3 := x3.all i hi hz
      refine gA ?_
      refine HCall.mk ((lay_spec xi3 (xnd x3 hz) key v hf hl).mono ?_)
      rintro e h4 ⟨z', rfl, ez, x4, nd4, K4⟩
      refine gA ?_
      obtain ⟨u1, u2⟩ := x3.upd hi hz ez K4 x4 nd4
      exact ⟨_, _, rfl, u1, ((PassF.of_ext x1).trans (.of_off f3 (.inl (by simp [HZ.bs])))).trans u2⟩
  | some k =>
    obtain rfl := hj k ha
    have q : (some k).isSome = true := rfl
    by_cases hk9 : 1000 ≤ k
    · have q1 : decide ((k : Int) ≥ 1000) = true := decide_eq_true (by omega)
      rw [if_pos (decide_eq_true hk9)]
      refine gA ?_
      exact ⟨_, Z, rfl, x', .of_ext x1⟩
    · have q1 : decide ((k : Int) ≥ 1000) = false := decide_eq_false (by omega)
      rw [if_neg (by simp; omega)]
      by_cases hkl : (H.objs[i].long : Int) ≤ k
      all_goals
        first
        | have q2 : decide ((k : Int) ≥ (H.objs[i].long : Int)) = true := decide_eq_true hkl
        | have q2 : decide ((k : Int) ≥ (H.objs[i].long : Int)) = false := decide_eq_false hkl
        refine gA ?_
        refine HCall.mk ((take_spec x' hm hu hmu hmm hm0).mono ?_)
        rintro e h3 (⟨hc, rfl, rfl⟩ | ⟨hc, rfl, x3, f3⟩)
        · have q3 : (!false) = true := rfl
          rw [if_pos hc]
          refine gA ?_
          exact ⟨_, Z, rfl, x', .of_ext x1⟩
        · have q3 : (!true) = false := rfl
          rw [if_neg hc]
          have hbh := x.b.lt
          have o5 := o5.offk f3 (by omega)
          have xi3 := x3.all i hi hz
          refine gA ?_
          refine HCall.mk ((lay_spec xi3 (xnd x3 hz) key v hf hl).mono ?_)
          rintro e h4 ⟨z', rfl, ez, x4, nd4, K4⟩
          have ob4 := x4.b
          rw [ez] at ob4
          have nds4 := OZ.nds nd4
          refine gA ?_
          refine blk_st (o := 7) ob4 (by simp) rfl ?_
          intro h5 f5 z5 ob5
          refine gA ?_
          have x5 : ObjR h5 ⟨H.objs[i].cls, H.objs[i].proto, H.objs[i].props ++ [(key, v)], max H.objs[i].long (k + 1)⟩ z' := by
            refine ⟨?_, x4.p.off f5 fun p ep => by rw [← ez]; exact (nds4.2 p ep).1, let ⟨L, mm, pl⟩ := x4.m; ⟨L, mm.offk f5 (by rw [← ez]; exact Ne.symm nds4.1), pl⟩⟩
            rw [ez]
            have e9 : (((max H.objs[i].long (k + 1) : Nat)) : Int) = if ((k : Int) + 1) > (H.objs[i].long : Int) then (k : Int) + 1 else (H.objs[i].long : Int) := by split <;> omega
            rw [e9]
            have e8 : (H.objs[i].props ++ [(key, v)]).length = H.objs[i].props.length + 1 := by simp
            exact ob5
          obtain ⟨u1, u2⟩ := x3.upd hi hz ez (K4.trans (.of_off f5 (.inl (by simp [OZ.bs, ez])))) x5 nd4
          exact ⟨_, _, rfl, u1, ((PassF.of_ext x1).trans (.of_off f3 (.inl (by simp [HZ.bs])))).trans u2⟩
end Go.Proofs.YtadkdfecmpjmdaaGreatDoor.Hc
