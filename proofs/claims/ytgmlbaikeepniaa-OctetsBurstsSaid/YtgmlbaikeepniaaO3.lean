import Derived.Test.YtgmlbaikeepniaaO2
set_option linter.unusedVariables false
set_option linter.unusedSimpArgs false
namespace Go.Proofs.Ytgmlbaikeepniaa.Hc
open Go Go.H Go.Proofs
set_option maxRecDepth 100000

theorem ibits_or64 {a b : Nat} (ha : a < 2 ^ 64) (hb : b < 2 ^ 64) : ibits .or .u64 (a : Int) (b : Int) = ((a ||| b : Nat) : Int) := by
  unfold ibits
  have e1 : ((BitVec.ofInt 64 (a : Int)) ||| (BitVec.ofInt 64 (b : Int))).toNat = a ||| b := by
    rw [BitVec.toNat_or, BitVec.ofInt_natCast, BitVec.ofInt_natCast, BitVec.toNat_ofNat, BitVec.toNat_ofNat, Nat.mod_eq_of_lt ha, Nat.mod_eq_of_lt hb]
  show IntKind.u64.wrap (((BitVec.ofInt 64 (a : Int)) ||| (BitVec.ofInt 64 (b : Int))).toNat : Int) = _
  rw [e1]
  have : a ||| b < 2 ^ 64 := Nat.or_lt_two_pow ha hb
  exact wrap_u64 (by omega)
theorem or_add {a x k : Nat} (ha : a < 2 ^ k) : a ||| (x * 2 ^ k) = a + x * 2 ^ k := by
  rw [Nat.or_comm, Nat.mul_comm x, ← Nat.two_pow_add_eq_or_of_lt ha, Nat.add_comm]
theorem and127 (c : UInt8) : ibits .and .u8 (c.toNat : Int) 127 = ((c.toNat % 128 : Nat) : Int) := by
  have h0 : ∀ m : Fin 256, ibits .and .u8 (m.val : Int) 127 = ((m.val % 128 : Nat) : Int) := by decide +kernel
  exact h0 ⟨c.toNat, c.toNat_lt⟩

/-- What number stands there: number, bytes, error. -/
def rdn : List UInt8 → Nat → Nat → Nat × Nat × Nat
  | [], _, _ => (0, 0, 20)
  | c :: r, i, acc => if (i = 9 ∧ 1 < c.toNat) ∨ (0 < i ∧ c.toNat = 0) then (0, 0, 22)
    else if c.toNat < 128 then (acc + c.toNat % 128 * 128 ^ i, i + 1, 0) else rdn r (i + 1) (acc + c.toNat % 128 * 128 ^ i)
def tup (t : Nat × Nat × Nat) : Value := .tuple #[.int .u64 t.1, .int .i64 t.2.1, .int .i64 t.2.2]

theorem sl_get {h : Heap} {a : Option Addr} {n c i : Nat} {l : List UInt8} {p : Addr} {K : Value → Prop} (x : Sl h 1 a n c (l.map byteV)) (ep : a = some p) (hi : i < l.length)
    (k : K (.int .u8 (l[i].toNat : Nat))) : HLoad h (p.add (i * 1)) K :=
  x.load ep (by simpa using hi) (by simpa [byteV] using k)
theorem sl_some {h : Heap} {a : Option Addr} {n c i : Nat} {xs : List Value} {K : Addr → Prop} {s : Nat} (x : Sl h s a n c xs) (hi : i < n) (k : ∀ p, a = some p → K p) : HSome a K := by
  cases a with
  | none => have := x.2.2.1 rfl; have := x.2.1; omega
  | some p => exact ⟨p, rfl, k p rfl⟩

theorem shl_ok {i : Nat} (x : Nat) (hi : i ≤ 9) : ((x : Nat) : Int) * 2 ^ (min (Int.toNat ((7 * i : Nat) : Int)) (IntKind.bits .u64)) = ((x * 128 ^ i : Nat) : Int) := by
  have e : min (Int.toNat ((7 * i : Nat) : Int)) (IntKind.bits .u64) = 7 * i := by simp [IntKind.bits]; omega
  rw [e, Int.natCast_mul]
  congr 1
  have h0 : ∀ j : Fin 10, (2 : Int) ^ (j.val * 7) = ((128 ^ j.val : Nat) : Int) := by decide +kernel
  rw [Nat.mul_comm]; simpa [Nat.mul_comm] using h0 ⟨i, by omega⟩

theorem pow128_lt {i acc x : Nat} (hi : i ≤ 9) (ha : acc < 128 ^ i) (hx : x < 128) : acc + x * 128 ^ i < 128 ^ (i + 1) := by
  have : x * 128 ^ i + 128 ^ i ≤ 128 * 128 ^ i := by rw [← Nat.succ_mul]; exact Nat.mul_le_mul_right _ (by omega)
  rw [Nat.pow_succ]; omega
theorem or_step {i acc x : Nat} (hi : i ≤ 9) (ha : acc < 128 ^ i) (hx : x < 128) (h9 : i = 9 → x ≤ 1) : ibits .or .u64 (acc : Int) ((x * 128 ^ i : Nat) : Int) = ((acc + x * 128 ^ i : Nat) : Int) ∧ x * 128 ^ i < 2 ^ 64 ∧ acc + x * 128 ^ i < 2 ^ 64 := by
  have hp : (128 : Nat) ^ i = 2 ^ (7 * i) := by rw [Nat.pow_mul]
  have h8 : i ≤ 8 → 128 ^ (i + 1) ≤ 2 ^ 64 := by
    intro h
    have : 128 ^ (i + 1) ≤ 128 ^ 9 := Nat.pow_le_pow_right (by omega) (by omega)
    have : (128 : Nat) ^ 9 ≤ 2 ^ 64 := by decide
    omega
  have hlt := pow128_lt hi ha hx
  have hb : acc + x * 128 ^ i < 2 ^ 64 := by
    rcases Nat.lt_or_ge i 9 with h | h
    · have := h8 (by omega); omega
    · obtain rfl : i = 9 := by omega
      have hx1 := h9 rfl
      have : x * 128 ^ 9 ≤ 1 * 128 ^ 9 := Nat.mul_le_mul_right _ hx1
      have : 2 * (128 : Nat) ^ 9 ≤ 2 ^ 64 := by decide
      omega
  refine ⟨?_, by omega, hb⟩
  rw [ibits_or64 (by omega) (by omega), hp, or_add (by rw [← hp]; exact ha)]

theorem readNum_spec {a : Option Addr} {n c : Nat} {l : List UInt8} {h : Heap} (x : Sl h 1 a n c (l.map byteV)) (hn : n ≤ 9223372036854775806) :
    HCalls Try.prog 16 #[.slice a n c] h fun e h' => h' = h ∧ e = .returned (tup (rdn l 0 0)) := by
  have hl : l.length = n := by simpa using x.1
  refine c16 (by simp) ?_
  (conv => whnf)
  (repeat (first | ((with_reducible refine HSeq.go ?_); conv => whnf) | ((with_reducible refine HMust.mk (by decide) ?_); conv => whnf) | ((with_reducible refine HIf.yes (by first | rfl | assumption | decide) ?_); conv => whnf) | ((with_reducible refine HIf.no (by first | rfl | assumption | decide) ?_); conv => whnf) | ((with_reducible refine HInt.mk _ (wrap_i64 (by omega)) ?_); conv => whnf)))
  refine loop_rule [5, 6, 11] (fun vs h' => ∃ (i acc : Nat), vs = [.int .u64 acc, .int .u64 ((7 * i : Nat) : Int), .int .i64 i] ∧ i ≤ n ∧ i ≤ 9 ∧ acc < 128 ^ i ∧ rdn (l.drop i) i acc = rdn l 0 0 ∧ h' = h)
    (fun vs _ => match vs with | [_, _, .int _ i] => n - i.toNat | _ => 0) rfl ?_ ?_
  · exact ⟨0, 0, rfl, by omega, by omega, by simp, rfl, rfl⟩
  · intro u h' v5 v6 v11
    rintro ⟨i, acc, e, hin, hi9, hacc, hr, rfl⟩
    cases e
    (conv => whnf)
    (repeat (first | ((with_reducible refine HSeq.go ?_); conv => whnf) | ((with_reducible refine HMust.mk (by decide) ?_); conv => whnf) | ((with_reducible refine HIf.yes (by first | rfl | assumption | decide) ?_); conv => whnf) | ((with_reducible refine HIf.no (by first | rfl | assumption | decide) ?_); conv => whnf) | ((with_reducible refine HInt.mk _ (wrap_i64 (by omega)) ?_); conv => whnf)))
    refine HIf.mk (fun hb => ?_) (fun hb => ?_)
    · have hlt : i < l.length := by have := of_decide_eq_true hb; omega
      rw [List.drop_eq_getElem_cons hlt] at hr
      (conv => whnf)
      (repeat (first | ((with_reducible refine HSeq.go ?_); conv => whnf) | ((with_reducible refine HMust.mk (by decide) ?_); conv => whnf) | ((with_reducible refine HIf.yes (by first | rfl | assumption | decide) ?_); conv => whnf) | ((with_reducible refine HIf.no (by first | rfl | assumption | decide) ?_); conv => whnf) | ((with_reducible refine HInt.mk _ (wrap_i64 (by omega)) ?_); conv => whnf)))
      refine HIdx.mk i rfl (by omega) ?_
      refine sl_some (i := i) x (by omega) fun p ep => ?_
      (conv => whnf)
      refine sl_get x ep hlt ?_
      generalize l[i] = ch at hr ⊢
      simp only [rdn] at hr
      (conv => whnf)
      (repeat (first | ((with_reducible refine HSeq.go ?_); conv => whnf) | ((with_reducible refine HMust.mk (by decide) ?_); conv => whnf) | ((with_reducible refine HIf.yes (by first | rfl | assumption | decide) ?_); conv => whnf) | ((with_reducible refine HIf.no (by first | rfl | assumption | decide) ?_); conv => whnf) | ((with_reducible refine HInt.mk _ (wrap_i64 (by omega)) ?_); conv => whnf)))
      have hch := ch.toNat_lt
      rcases Bool.eq_false_or_eq_true ((i : Int) == 9) with h9 | h9 <;> rcases Bool.eq_false_or_eq_true (decide ((ch.toNat : Int) > 1)) with hg | hg <;>
        rcases Bool.eq_false_or_eq_true (decide ((i : Int) > 0)) with h0 | h0 <;> rcases Bool.eq_false_or_eq_true ((ch.toNat : Int) == 0) with hz | hz <;> (repeat (first | ((with_reducible refine HSeq.go ?_); conv => whnf) | ((with_reducible refine HMust.mk (by decide) ?_); conv => whnf) | ((with_reducible refine HIf.yes (by first | rfl | assumption | decide) ?_); conv => whnf) | ((with_reducible refine HIf.no (by first | rfl | assumption | decide) ?_); conv => whnf) | ((with_reducible refine HInt.mk _ (wrap_i64 (by omega)) ?_); conv => whnf)))
      all_goals
        have h9' := h9; have hg' := hg; have h0' := h0; have hz' := hz
        simp only [beq_iff_eq, decide_eq_true_eq, beq_eq_false_iff_ne, decide_eq_false_iff_not, ne_eq] at h9' hg' h0' hz'
      all_goals first
        | (exact ⟨rfl, by rw [← hr, if_pos (by omega)]; rfl⟩)
        | (exfalso; omega)
        | skip
      all_goals
        rw [if_neg (by omega)] at hr
        rw [and127]
        refine HInt.mk _ (wrap_u64 (by omega)) ?_
        (conv => whnf)
        refine HMust.mk (by omega) ?_
        (conv => whnf)
        refine HInt.mk ((ch.toNat % 128 * 128 ^ i : Nat) : Int) (by rw [shl_ok _ hi9]; exact wrap_u64 (by have := (or_step (x := ch.toNat % 128) hi9 hacc (by omega) (by omega)).2.1; omega)) ?_
        (conv => whnf)
        rw [(or_step (x := ch.toNat % 128) hi9 hacc (by omega) (by omega)).1]
        (repeat (first | ((with_reducible refine HSeq.go ?_); conv => whnf) | ((with_reducible refine HMust.mk (by decide) ?_); conv => whnf) | ((with_reducible refine HIf.yes (by first | rfl | assumption | decide) ?_); conv => whnf) | ((with_reducible refine HIf.no (by first | rfl | assumption | decide) ?_); conv => whnf) | ((with_reducible refine HInt.mk _ (wrap_i64 (by omega)) ?_); conv => whnf)))
        refine HInt.mk ((7 * (i + 1) : Nat) : Int) (by rw [wrap_u64 (by omega)]; omega) ?_
        (conv => whnf)
        (repeat (first | ((with_reducible refine HSeq.go ?_); conv => whnf) | ((with_reducible refine HMust.mk (by decide) ?_); conv => whnf) | ((with_reducible refine HIf.yes (by first | rfl | assumption | decide) ?_); conv => whnf) | ((with_reducible refine HIf.no (by first | rfl | assumption | decide) ?_); conv => whnf) | ((with_reducible refine HInt.mk _ (wrap_i64 (by omega)) ?_); conv => whnf)))
        refine HIf.mk (fun h128 => ?_) (fun h128 => ?_)
        · have h128' := of_decide_eq_true h128
          rw [if_pos (by omega)] at hr
          (conv => whnf)
          (repeat (first | ((with_reducible refine HSeq.go ?_); conv => whnf) | ((with_reducible refine HMust.mk (by decide) ?_); conv => whnf) | ((with_reducible refine HIf.yes (by first | rfl | assumption | decide) ?_); conv => whnf) | ((with_reducible refine HIf.no (by first | rfl | assumption | decide) ?_); conv => whnf) | ((with_reducible refine HInt.mk _ (wrap_i64 (by omega)) ?_); conv => whnf)))
          exact ⟨rfl, by rw [← hr]; rfl⟩
        · have h128' := of_decide_eq_false h128
          rw [if_neg (by omega)] at hr
          (conv => whnf)
          (repeat (first | ((with_reducible refine HSeq.go ?_); conv => whnf) | ((with_reducible refine HMust.mk (by decide) ?_); conv => whnf) | ((with_reducible refine HIf.yes (by first | rfl | assumption | decide) ?_); conv => whnf) | ((with_reducible refine HIf.no (by first | rfl | assumption | decide) ?_); conv => whnf) | ((with_reducible refine HInt.mk _ (wrap_i64 (by omega)) ?_); conv => whnf)))
          refine ⟨⟨i + 1, acc + ch.toNat % 128 * 128 ^ i, rfl, by omega, by omega, pow128_lt hi9 hacc (by omega), hr, rfl⟩, ?_⟩
          show n - (((i : Int) + 1)).toNat < n - ((i : Int)).toNat
          omega
    · have hge := of_decide_eq_false hb
      (conv => whnf)
      (repeat (first | ((with_reducible refine HSeq.go ?_); conv => whnf) | ((with_reducible refine HMust.mk (by decide) ?_); conv => whnf) | ((with_reducible refine HIf.yes (by first | rfl | assumption | decide) ?_); conv => whnf) | ((with_reducible refine HIf.no (by first | rfl | assumption | decide) ?_); conv => whnf) | ((with_reducible refine HInt.mk _ (wrap_i64 (by omega)) ?_); conv => whnf)))
      rw [List.drop_of_length_le (by omega)] at hr
      exact ⟨rfl, by rw [← hr]; rfl⟩

theorem rreadNum_spec {a : Option Addr} {n c : Nat} {l : List UInt8} {h : Heap} (x : Sl h 1 a n c (l.map byteV)) (hn : n ≤ 9223372036854775806) :
    HCalls Try.prog 17 #[.slice a n c] h fun e h' => h' = h ∧ e = .returned (tup (rdn l 0 0)) := by
  have hl : l.length = n := by simpa using x.1
  refine c17 (by simp) ?_
  (conv => whnf)
  (repeat (first | ((with_reducible refine HSeq.go ?_); conv => whnf) | ((with_reducible refine HMust.mk (by decide) ?_); conv => whnf) | ((with_reducible refine HIf.yes (by first | rfl | assumption | decide) ?_); conv => whnf) | ((with_reducible refine HIf.no (by first | rfl | assumption | decide) ?_); conv => whnf) | ((with_reducible refine HInt.mk _ (wrap_i64 (by omega)) ?_); conv => whnf)))
  refine loop_rule [5, 6] (fun vs h' => ∃ (i acc : Nat), vs = [.int .u64 acc, .int .i64 i] ∧ i ≤ n ∧ i ≤ 9 ∧ acc < 128 ^ i ∧ rdn (l.drop i) i acc = rdn l 0 0 ∧ h' = h)
    (fun vs _ => match vs with | [_, .int _ i] => n - i.toNat | _ => 0) rfl ?_ ?_
  · exact ⟨0, 0, rfl, by omega, by omega, by simp, rfl, rfl⟩
  · intro u h' v5 v6
    rintro ⟨i, acc, e, hin, hi9, hacc, hr, rfl⟩
    cases e
    (conv => whnf)
    have hb : decide ((i : Int) < 10) = true := decide_eq_true (by omega)
    (repeat (first | ((with_reducible refine HSeq.go ?_); conv => whnf) | ((with_reducible refine HMust.mk (by decide) ?_); conv => whnf) | ((with_reducible refine HIf.yes (by first | rfl | assumption | decide) ?_); conv => whnf) | ((with_reducible refine HIf.no (by first | rfl | assumption | decide) ?_); conv => whnf) | ((with_reducible refine HInt.mk _ (wrap_i64 (by omega)) ?_); conv => whnf)))
    refine HIf.mk (fun hb2 => ?_) (fun hb2 => ?_)
    · have hge := of_decide_eq_true hb2
      (conv => whnf)
      (repeat (first | ((with_reducible refine HSeq.go ?_); conv => whnf) | ((with_reducible refine HMust.mk (by decide) ?_); conv => whnf) | ((with_reducible refine HIf.yes (by first | rfl | assumption | decide) ?_); conv => whnf) | ((with_reducible refine HIf.no (by first | rfl | assumption | decide) ?_); conv => whnf) | ((with_reducible refine HInt.mk _ (wrap_i64 (by omega)) ?_); conv => whnf)))
      rw [List.drop_of_length_le (by omega)] at hr
      exact ⟨rfl, by rw [← hr]; rfl⟩
    · have hlt : i < l.length := by have := of_decide_eq_false hb2; omega
      rw [List.drop_eq_getElem_cons hlt] at hr
      (conv => whnf)
      generalize hch : l[i] = ch at hr
      simp only [rdn] at hr
      have hlt' := ch.toNat_lt
      have ld : ∀ {K : Value → Prop}, K (.int .u8 (ch.toNat : Nat)) → ∀ p, a = some p → HLoad h' (p.add (i * 1)) K := fun k p ep => sl_get x ep hlt (by rw [hch]; exact k)
      rcases Bool.eq_false_or_eq_true ((i : Int) == 9) with h9 | h9 <;> rcases Bool.eq_false_or_eq_true (decide ((ch.toNat : Int) > 1)) with hg | hg <;>
        rcases Bool.eq_false_or_eq_true (decide ((i : Int) > 0)) with h0 | h0 <;> rcases Bool.eq_false_or_eq_true ((ch.toNat : Int) == 0) with hz | hz
      all_goals
        have h9' := h9; have hg' := hg; have h0' := h0; have hz' := hz
        simp only [beq_iff_eq, decide_eq_true_eq, beq_eq_false_iff_ne, decide_eq_false_iff_not, ne_eq] at h9' hg' h0' hz'
      all_goals first | (exfalso; omega) | skip
      all_goals (repeat (first | ((with_reducible refine HSeq.go ?_); conv => whnf) | ((with_reducible refine HMust.mk (by decide) ?_); conv => whnf) | ((with_reducible refine HIf.yes (by first | rfl | assumption | decide) ?_); conv => whnf) | ((with_reducible refine HIf.no (by first | rfl | assumption | decide) ?_); conv => whnf) | ((with_reducible refine HInt.mk _ (wrap_i64 (by omega)) ?_); conv => whnf)))
      all_goals (refine HIdx.mk i rfl (by omega) ?_; refine sl_some (i := i) x (by omega) fun p ep => ?_; (conv => whnf); (repeat (first | ((with_reducible refine HSeq.go ?_); conv => whnf) | ((with_reducible refine HMust.mk (by decide) ?_); conv => whnf) | ((with_reducible refine HIf.yes (by first | rfl | assumption | decide) ?_); conv => whnf) | ((with_reducible refine HIf.no (by first | rfl | assumption | decide) ?_); conv => whnf) | ((with_reducible refine HInt.mk _ (wrap_i64 (by omega)) ?_); conv => whnf))); refine ld ?_ p ep; (conv => whnf); (repeat (first | ((with_reducible refine HSeq.go ?_); conv => whnf) | ((with_reducible refine HMust.mk (by decide) ?_); conv => whnf) | ((with_reducible refine HIf.yes (by first | rfl | assumption | decide) ?_); conv => whnf) | ((with_reducible refine HIf.no (by first | rfl | assumption | decide) ?_); conv => whnf) | ((with_reducible refine HInt.mk _ (wrap_i64 (by omega)) ?_); conv => whnf))))
      all_goals first
        | (exact ⟨rfl, by rw [← hr, if_pos (by omega)]; rfl⟩)
        | skip
      all_goals try (refine HIdx.mk i rfl (by omega) ?_; refine sl_some (i := i) x (by omega) fun p ep => ?_; (conv => whnf); (repeat (first | ((with_reducible refine HSeq.go ?_); conv => whnf) | ((with_reducible refine HMust.mk (by decide) ?_); conv => whnf) | ((with_reducible refine HIf.yes (by first | rfl | assumption | decide) ?_); conv => whnf) | ((with_reducible refine HIf.no (by first | rfl | assumption | decide) ?_); conv => whnf) | ((with_reducible refine HInt.mk _ (wrap_i64 (by omega)) ?_); conv => whnf))); refine ld ?_ p ep; (conv => whnf); (repeat (first | ((with_reducible refine HSeq.go ?_); conv => whnf) | ((with_reducible refine HMust.mk (by decide) ?_); conv => whnf) | ((with_reducible refine HIf.yes (by first | rfl | assumption | decide) ?_); conv => whnf) | ((with_reducible refine HIf.no (by first | rfl | assumption | decide) ?_); conv => whnf) | ((with_reducible refine HInt.mk _ (wrap_i64 (by omega)) ?_); conv => whnf))))
      all_goals
        have hx9 : i = 9 → ch.toNat % 128 ≤ 1 := by omega
        rw [show ((ch.toNat : Nat) : Int).tmod 128 = ((ch.toNat % 128 : Nat) : Int) from rfl]
        refine HInt.mk _ (wrap_u64 (by omega)) ?_
        (conv => whnf)
        refine HInt.mk ((7 * i : Nat) : Int) (by rw [wrap_i64 (by omega)]; omega) ?_
        (conv => whnf)
        refine HMust.mk (by omega) ?_
        (conv => whnf)
        refine HInt.mk ((ch.toNat % 128 * 128 ^ i : Nat) : Int) (by rw [shl_ok _ hi9]; exact wrap_u64 (by have := (or_step (x := ch.toNat % 128) hi9 hacc (by omega) hx9).2.1; omega)) ?_
        (conv => whnf)
        rw [(or_step (x := ch.toNat % 128) hi9 hacc (by omega) hx9).1]
        (repeat (first | ((with_reducible refine HSeq.go ?_); conv => whnf) | ((with_reducible refine HMust.mk (by decide) ?_); conv => whnf) | ((with_reducible refine HIf.yes (by first | rfl | assumption | decide) ?_); conv => whnf) | ((with_reducible refine HIf.no (by first | rfl | assumption | decide) ?_); conv => whnf) | ((with_reducible refine HInt.mk _ (wrap_i64 (by omega)) ?_); conv => whnf)))
        refine HIdx.mk i rfl (by omega) ?_
        refine sl_some (i := i) x (by omega) fun p ep => ?_
        (conv => whnf)
        refine ld ?_ p ep
        (conv => whnf)
        refine HIf.mk (fun h128 => ?_) (fun h128 => ?_)
      all_goals try (have h128' := of_decide_eq_true h128)
      all_goals try (have h128' := of_decide_eq_false h128)
      all_goals (conv => whnf)
      all_goals (repeat (first | ((with_reducible refine HSeq.go ?_); conv => whnf) | ((with_reducible refine HMust.mk (by decide) ?_); conv => whnf) | ((with_reducible refine HIf.yes (by first | rfl | assumption | decide) ?_); conv => whnf) | ((with_reducible refine HIf.no (by first | rfl | assumption | decide) ?_); conv => whnf) | ((with_reducible refine HInt.mk _ (wrap_i64 (by omega)) ?_); conv => whnf)))
      all_goals try (refine HIdx.mk i rfl (by omega) ?_; refine sl_some (i := i) x (by omega) fun p ep => ?_; (conv => whnf); refine ld ?_ p ep; (conv => whnf); (repeat (first | ((with_reducible refine HSeq.go ?_); conv => whnf) | ((with_reducible refine HMust.mk (by decide) ?_); conv => whnf) | ((with_reducible refine HIf.yes (by first | rfl | assumption | decide) ?_); conv => whnf) | ((with_reducible refine HIf.no (by first | rfl | assumption | decide) ?_); conv => whnf) | ((with_reducible refine HInt.mk _ (wrap_i64 (by omega)) ?_); conv => whnf))))
      all_goals first
        | (exact ⟨rfl, by rw [← hr, if_pos (by omega)]; rfl⟩)
        | (exact ⟨rfl, by rw [← hr, if_neg (by omega), if_pos (by omega)]; rfl⟩)
        | skip
      all_goals
        rw [if_neg (by omega), if_neg (by omega)] at hr
        refine ⟨⟨i + 1, acc + ch.toNat % 128 * 128 ^ i, rfl, by omega, by omega, pow128_lt hi9 hacc (by omega), hr, rfl⟩, ?_⟩
        show n - (((i : Int) + 1)).toNat < n - ((i : Int)).toNat
        omega

end Go.Proofs.Ytgmlbaikeepniaa.Hc
