/- Numbers' texts: FormatInt by the shelf's contract, and to the base 16. -/
import Derived.Test.YtmibnfjjlibpgaaDoorG1
import Derived.Test.YtmibnfjjlibpgaaDoorS0
import Derived.Test.YtmibnfjjlibpgaaDoorS1
import Derived.Test.YtmibnfjjlibpgaaDoorRows
set_option linter.unusedVariables false
set_option linter.unusedSimpArgs false
namespace Go.Proofs.YtmibnfjjlibpgaaDoor.Hc
open Go Go.H Go.Proofs
set_option maxRecDepth 100000
set_option maxHeartbeats 4000000

/-! ### The table -/
def powName : String := Rows.dataTextsRow.named.getD 0 ""
/-- The table of powers of ten lies in the heap. -/
def Tab (h : Heap) : Prop := ∀ w : World, w.heap = h → Lib.TabIs Tryd.prog w powName .u64 Lib.pow10Tab
theorem Tab.ext {h h' : Heap} (t : Tab h) (x : Ext h h') : Tab h' := by
  intro w hw
  have t0 := t { w with heap := h } rfl
  unfold Lib.TabIs World.var? at *
  cases hg : Tryd.prog.globalNamed powName with
  | none => simp [hg] at t0
  | some g =>
    simp only [hg, Option.bind_some] at t0 ⊢
    have hlt : g < h.size := by
      rcases Nat.lt_or_ge g h.size with h' | h'
      · exact h'
      · rw [Array.getElem?_eq_none h'] at t0; simp at t0
    rw [hw, x.2 g hlt]
    exact t0
theorem calls_grow {P : Program} {f : FuncId} {args : Array Value} {h : Heap} {v : Value} (c : ∀ w : World, w.heap = h → Calls P f args w fun e w' => e = .returned v ∧ ∃ k os, w' = Sort.grow (w.drewN k) os) :
    HCalls P f args h fun e h' => e = .returned v ∧ Ext h h' := by
  intro w hw
  refine (c w hw).mono ?_
  rintro e w' ⟨rfl, k, os, rfl⟩
  refine ⟨⟨rfl, rfl, rfl⟩, rfl, ?_⟩
  subst hw
  show Ext w.heap (w.heap ++ os)
  refine ⟨by simp, fun b hb => ?_⟩
  rw [Array.getElem?_append_left hb]
theorem fmt10_spec (n : Int) (h0 : -9223372036854775808 ≤ n) (h1 : n ≤ 9223372036854775807) (h : Heap) (t : Tab h) :
    HCalls Tryd.prog 41 #[.int .i64 n, .int .i64 10] h fun e h' => e = .returned (.string ⟨(Lib.itoa n).toArray⟩) ∧ Ext h h' :=
  calls_grow fun w hw => Any.strconv_FormatInt_10 Tryd.lays173 n h0 h1 w (t w hw)

def plainL (l : List UInt8) : Prop := ∀ c ∈ l, c.toNat < 128

/-! ### Numerals -/
theorem dec_plain (u : Nat) : plainL (Lib.decDigits u) := by
  induction u using Nat.strongRecOn with
  | ind u ih =>
    rw [Lib.decDigits]
    split
    · intro c hc; simp only [List.mem_singleton] at hc; subst hc; simp; omega
    · intro c hc
      rcases List.mem_append.1 hc with hc | hc
      · exact ih (u / 10) (by omega) c hc
      · simp only [List.mem_singleton] at hc; subst hc; simp; omega
theorem itoa_plain (n : Int) : plainL (Lib.itoa n) := by
  unfold Lib.itoa
  split
  · intro c hc
    rcases List.mem_cons.1 hc with rfl | hc
    · decide
    · exact dec_plain _ c hc
  · exact dec_plain _
theorem dec_len (u : Nat) : ∀ k, u < 10 ^ (k + 1) → (Lib.decDigits u).length ≤ k + 1 := by
  induction u using Nat.strongRecOn with
  | ind u ih =>
    intro k hk
    rw [Lib.decDigits]
    split
    · simp
    · rename_i h
      cases k with
      | zero => simp at hk; omega
      | succ k =>
        rw [List.length_append]
        have := ih (u / 10) (by omega) k (by rw [Nat.div_lt_iff_lt_mul (by omega)]; rw [Nat.pow_succ] at hk; exact hk)
        simp; omega
theorem itoa_len (n : Int) (h0 : -9223372036854775808 ≤ n) (h1 : n ≤ 9223372036854775807) : (Lib.itoa n).length ≤ 21 := by
  have hp : (10 : Nat) ^ 20 = 100000000000000000000 := by decide
  unfold Lib.itoa
  split
  · have := dec_len n.natAbs 19 (by rw [hp]; omega)
    simp; omega
  · have := dec_len n.toNat 19 (by rw [hp]; omega)
    omega

/-! ### To the base 16 -/
/-- A digit. -/
def hexd (k : Nat) : UInt8 := if k < 10 then UInt8.ofNat (48 + k) else UInt8.ofNat (87 + k)
/-- The last digits. -/
def hexT (n : Nat) : Nat → List UInt8
  | 0 => []
  | j + 1 => hexd (n / 16 ^ j % 16) :: hexT n j
theorem hexT_len (n : Nat) : ∀ j, (hexT n j).length = j
  | 0 => rfl
  | j + 1 => by simp [hexT, hexT_len n j]
def digs : ByteArray := ⟨#[48, 49, 50, 51, 52, 53, 54, 55, 56, 57, 97, 98, 99, 100, 101, 102, 103, 104, 105, 106, 107, 108, 109, 110, 111, 112, 113, 114, 115, 116, 117, 118, 119, 120, 121, 122]⟩
theorem digs_at : ∀ k, k < 16 → digs.data[k]! = hexd k := by decide
theorem and15 (n : Nat) (hn : n < 2 ^ 64) : ibits .and .u64 (n : Int) 15 = ((n % 16 : Nat) : Int) := by
  unfold ibits
  have e1 : BitVec.ofInt (IntKind.bits .u64) (n : Int) = BitVec.ofNat 64 n := by rw [BitVec.ofInt_natCast]; rfl
  have e3 : ((BitVec.ofNat 64 n) &&& (BitVec.ofNat 64 15)).toNat = n % 16 := by
    rw [BitVec.toNat_and, BitVec.toNat_ofNat, BitVec.toNat_ofNat, Nat.mod_eq_of_lt (by omega)]
    exact Nat.and_two_pow_sub_one_eq_mod n 4
  show IntKind.u64.wrap (((BitVec.ofInt (IntKind.bits .u64) (n : Int)) &&& (BitVec.ofInt (IntKind.bits .u64) 15)).toNat : Int) = _
  rw [e1]
  show IntKind.u64.wrap ((((BitVec.ofNat 64 n) &&& (BitVec.ofNat 64 15)).toNat : Nat) : Int) = _
  rw [e3]
  exact wrap_u64 (by omega)
/-- The table that finds the lowest bit has 4 where it is asked for 16. -/
def Tz (h : Heap) : Prop := hcell h ⟨2, 15, none⟩ = some (.int .u8 4)
theorem Tz.ext {h h' : Heap} (t : Tz h) (x : Ext h h') : Tz h' := x.cell t
def Glob (h : Heap) : Prop := Tab h ∧ Tz h
theorem Glob.ext {h h' : Heap} (t : Glob h) (x : Ext h h') : Glob h' := ⟨t.1.ext x, t.2.ext x⟩
theorem tz_spec (h : Heap) (t : Tz h) : HCalls Tryd.prog 67 #[.int .u64 16] h fun e h' => e = .returned (.int .i64 4) ∧ h' = h := by
  refine c67 (by simp) ?_
  ((conv=>whnf);repeat((first|(with_reducible first|refine Z1 ?_|refine Z2 ?_|refine Z3 ?_|refine Z4 ?_|refine Z5 ?_|refine Z9 (by assumption) rfl ?_|refine ZA (by assumption) rfl ?_|refine ZB (by assumption) rfl ?_|refine Z6 ?_|refine Z7 ?_|refine Z8 ?_)|((with_reducible refine ZM ?_ ?_);(focus rfl)));(conv=>whnf)))
  refine HCall.mk (?_ : HCalls _ _ _ _ _)
  refine c70 (by simp) ?_
  ((conv=>whnf);repeat((first|(with_reducible first|refine Z1 ?_|refine Z2 ?_|refine Z3 ?_|refine Z4 ?_|refine Z5 ?_|refine Z9 (by assumption) rfl ?_|refine ZA (by assumption) rfl ?_|refine ZB (by assumption) rfl ?_|refine Z6 ?_|refine Z7 ?_|refine Z8 ?_)|((with_reducible refine ZM ?_ ?_);(focus rfl)));(conv=>whnf)))
  refine HInt.mk 18446744073709551600 (by decide) ?_
  ((conv=>whnf);repeat((first|(with_reducible first|refine Z1 ?_|refine Z2 ?_|refine Z3 ?_|refine Z4 ?_|refine Z5 ?_|refine Z9 (by assumption) rfl ?_|refine ZA (by assumption) rfl ?_|refine ZB (by assumption) rfl ?_|refine Z6 ?_|refine Z7 ?_|refine Z8 ?_)|((with_reducible refine ZM ?_ ?_);(focus rfl)));(conv=>whnf)))
  refine HInt.mk 4573923408821661840 (by decide) ?_
  ((conv=>whnf);repeat((first|(with_reducible first|refine Z1 ?_|refine Z2 ?_|refine Z3 ?_|refine Z4 ?_|refine Z5 ?_|refine Z9 (by assumption) rfl ?_|refine ZA (by assumption) rfl ?_|refine ZB (by assumption) rfl ?_|refine Z6 ?_|refine Z7 ?_|refine Z8 ?_)|((with_reducible refine ZM ?_ ?_);(focus rfl)));(conv=>whnf)))
  refine HIdx.mk 15 (by decide) (by decide) ?_
  ((conv=>whnf);repeat((first|(with_reducible first|refine Z1 ?_|refine Z2 ?_|refine Z3 ?_|refine Z4 ?_|refine Z5 ?_|refine Z9 (by assumption) rfl ?_|refine ZA (by assumption) rfl ?_|refine ZB (by assumption) rfl ?_|refine Z6 ?_|refine Z7 ?_|refine Z8 ?_)|((with_reducible refine ZM ?_ ?_);(focus rfl)));(conv=>whnf)))
  refine HLoad.mk (.int .u8 4) t ?_
  ((conv=>whnf);repeat((first|(with_reducible first|refine Z1 ?_|refine Z2 ?_|refine Z3 ?_|refine Z4 ?_|refine Z5 ?_|refine Z9 (by assumption) rfl ?_|refine ZA (by assumption) rfl ?_|refine ZB (by assumption) rfl ?_|refine Z6 ?_|refine Z7 ?_|refine Z8 ?_)|((with_reducible refine ZM ?_ ?_);(focus rfl)));(conv=>whnf)))
  exact ⟨rfl, rfl⟩

theorem bits_spec (n : Nat) (h0 : 65536 ≤ n) (h1 : n < 131072) (h : Heap) (t : Tz h) :
    HCalls Tryd.prog 57 #[.slice none 0 0, .int .u64 n, .int .i64 16, .bool false, .bool false] h fun e h' => e = .returned (.tuple #[.slice none 0 0, .string ⟨(49 :: hexT n 4).toArray⟩]) ∧ Ext h h' := by
  refine c57 (by simp) ?_
  ((conv=>whnf);repeat((first|(with_reducible first|refine Z1 ?_|refine Z2 ?_|refine Z3 ?_|refine Z4 ?_|refine Z5 ?_|refine Z9 (by assumption) rfl ?_|refine ZA (by assumption) rfl ?_|refine ZB (by assumption) rfl ?_|refine Z6 ?_|refine Z7 ?_|refine Z8 ?_)|((with_reducible refine ZM ?_ ?_);(focus rfl)));(conv=>whnf)))
  refine new_var (e := 86) (List.replicate 65 (.int .u8 0)) rfl ?_
  intro h1 b1 o1 x1 z1 hb1
  ((conv=>whnf);repeat((first|(with_reducible first|refine Z1 ?_|refine Z2 ?_|refine Z3 ?_|refine Z4 ?_|refine Z5 ?_|refine Z9 (by assumption) rfl ?_|refine ZA (by assumption) rfl ?_|refine ZB (by assumption) rfl ?_|refine Z6 ?_|refine Z7 ?_|refine Z8 ?_)|((with_reducible refine ZM ?_ ?_);(focus rfl)));(conv=>whnf)))
  refine HCall.mk (?_ : HCalls _ _ _ _ _)
  refine c66 (by simp) ?_
  ((conv=>whnf);repeat((first|(with_reducible first|refine Z1 ?_|refine Z2 ?_|refine Z3 ?_|refine Z4 ?_|refine Z5 ?_|refine Z9 (by assumption) rfl ?_|refine ZA (by assumption) rfl ?_|refine ZB (by assumption) rfl ?_|refine Z6 ?_|refine Z7 ?_|refine Z8 ?_)|((with_reducible refine ZM ?_ ?_);(focus rfl)));(conv=>whnf)))
  have q0 : (ibits .and .i64 16 15 == 0) = true := by decide
  ((conv=>whnf);repeat((first|(with_reducible first|refine Z1 ?_|refine Z2 ?_|refine Z3 ?_|refine Z4 ?_|refine Z5 ?_|refine Z9 (by assumption) rfl ?_|refine ZA (by assumption) rfl ?_|refine ZB (by assumption) rfl ?_|refine Z6 ?_|refine Z7 ?_|refine Z8 ?_)|((with_reducible refine ZM ?_ ?_);(focus rfl)));(conv=>whnf)))
  refine HCall.mk ((tz_spec h1 (t.ext x1)).mono ?_)
  rintro e _ ⟨rfl, rfl⟩
  ((conv=>whnf);repeat((first|(with_reducible first|refine Z1 ?_|refine Z2 ?_|refine Z3 ?_|refine Z4 ?_|refine Z5 ?_|refine Z9 (by assumption) rfl ?_|refine ZA (by assumption) rfl ?_|refine ZB (by assumption) rfl ?_|refine Z6 ?_|refine Z7 ?_|refine Z8 ?_)|((with_reducible refine ZM ?_ ?_);(focus rfl)));(conv=>whnf)))
  refine loop_rule [1, 13] (fun vs h' => ∃ (j : Nat), vs = [.int .u64 (n / 16 ^ j : Nat), .int .i64 (65 - j : Nat)] ∧ j ≤ 4 ∧ BlkW h' b1 86 (List.replicate (65 - j) (.int .u8 0) ++ (hexT n j).map byteV) ∧ Ext h h')
    (fun vs _ => match vs with | [.int _ u, _] => u.toNat | _ => 0) rfl ?_ ?_
  · refine ⟨0, ?_, by omega, by simpa [hexT] using o1, x1⟩
    show [Value.int .u64 (n : Int), Value.int .i64 65] = _
    simp
  intro u h2 v1 v13
  rintro ⟨j, e, hj, o2, x2⟩
  cases e
  have hm : n / 16 ^ j < 131072 := Nat.lt_of_le_of_lt (Nat.div_le_self _ _) h1
  have hs : n / 16 ^ (j + 1) = n / 16 ^ j / 16 := by rw [Nat.pow_succ, Nat.div_div_eq_div_mul]
  have h4 : j = 4 → n / 16 ^ j = 1 := by
    rintro rfl
    have : (16 : Nat) ^ 4 = 65536 := by decide
    rw [this]; omega
  have hT : hexT n (j + 1) = hexd (n / 16 ^ j % 16) :: hexT n j := rfl
  have hT0 := hexT_len n j
  ((conv=>whnf);repeat((first|(with_reducible first|refine Z1 ?_|refine Z2 ?_|refine Z3 ?_|refine Z4 ?_|refine Z5 ?_|refine Z9 (by assumption) rfl ?_|refine ZA (by assumption) rfl ?_|refine ZB (by assumption) rfl ?_|refine Z6 ?_|refine Z7 ?_|refine Z8 ?_)|((with_reducible refine ZM ?_ ?_);(focus rfl)));(conv=>whnf)))
  refine HIf.mk (fun hge => ?_) (fun hge => ?_)
  · have hge1 := of_decide_eq_true hge
    have hj4 : j ≠ 4 := fun e => by have := h4 e; omega
    have hmu : ((n / 16 ^ (j + 1) : Nat) : Int).toNat < ((n / 16 ^ j : Nat) : Int).toNat := by rw [hs]; omega
    have ea := and15 (n / 16 ^ j) (by omega)
    generalize n / 16 ^ j = m at *
    ((conv=>whnf);repeat((first|(with_reducible first|refine Z1 ?_|refine Z2 ?_|refine Z3 ?_|refine Z4 ?_|refine Z5 ?_|refine Z9 (by assumption) rfl ?_|refine ZA (by assumption) rfl ?_|refine ZB (by assumption) rfl ?_|refine Z6 ?_|refine Z7 ?_|refine Z8 ?_)|((with_reducible refine ZM ?_ ?_);(focus rfl)));(conv=>whnf)))
    refine HIdx.mk (m % 16) ea (by show m % 16 < 36; omega) ?_
    ((conv=>whnf);repeat((first|(with_reducible first|refine Z1 ?_|refine Z2 ?_|refine Z3 ?_|refine Z4 ?_|refine Z5 ?_|refine Z9 (by assumption) rfl ?_|refine ZA (by assumption) rfl ?_|refine ZB (by assumption) rfl ?_|refine Z6 ?_|refine Z7 ?_|refine Z8 ?_)|((with_reducible refine ZM ?_ ?_);(focus rfl)));(conv=>whnf)))
    refine HIdx.mk (64 - j) (by omega) (by omega) ?_
    ((conv=>whnf);repeat((first|(with_reducible first|refine Z1 ?_|refine Z2 ?_|refine Z3 ?_|refine Z4 ?_|refine Z5 ?_|refine Z9 (by assumption) rfl ?_|refine ZA (by assumption) rfl ?_|refine ZB (by assumption) rfl ?_|refine Z6 ?_|refine Z7 ?_|refine Z8 ?_)|((with_reducible refine ZM ?_ ?_);(focus rfl)));(conv=>whnf)))
    rw [Nat.mul_one]
    refine blk_st (o := 64 - j) o2 (by simp; omega) rfl ?_
    intro h3 f3 z3 o3
    have e3 : (List.replicate (65 - j) (Value.int .u8 0) ++ (hexT n j).map byteV).set (64 - j) (.int .u8 (digs.data[m % 16]!.toNat : Nat)) = List.replicate (65 - (j + 1)) (Value.int .u8 0) ++ (hexT n (j + 1)).map byteV := by
      rw [digs_at (m % 16) (by omega), hT]
      have h5 : 65 - j = (64 - j) + 1 := by omega
      have h6 : 65 - (j + 1) = 64 - j := by omega
      rw [h5, h6, List.replicate_succ', List.append_assoc, List.set_append_right _ _ (by simp), List.length_replicate, Nat.sub_self]
      rfl
    replace o3 : BlkW h3 b1 86 ((List.replicate (65 - j) (Value.int .u8 0) ++ (hexT n j).map byteV).set (64 - j) (.int .u8 (digs.data[m % 16]!.toNat : Nat))) := o3
    rw [e3] at o3
    ((conv=>whnf);repeat((first|(with_reducible first|refine Z1 ?_|refine Z2 ?_|refine Z3 ?_|refine Z4 ?_|refine Z5 ?_|refine Z9 (by assumption) rfl ?_|refine ZA (by assumption) rfl ?_|refine ZB (by assumption) rfl ?_|refine Z6 ?_|refine Z7 ?_|refine Z8 ?_)|((with_reducible refine ZM ?_ ?_);(focus rfl)));(conv=>whnf)))
    have ev : Int.fdiv (m : Int) (2 ^ (min (Int.toNat 4) (IntKind.bits .u64))) = ((m / 16 : Nat) : Int) := by
      have e : (2 : Int) ^ (min (Int.toNat 4) (IntKind.bits .u64)) = 16 := by decide
      rw [e, Int.fdiv_eq_ediv_of_nonneg _ (by omega)]; rfl
    have ew : ((65 - (j + 1) : Nat) : Int) = ((65 - j : Nat) : Int) - 1 := by omega
    refine ⟨⟨j + 1, ?_, by omega, o3, x2.offNew f3 (by have := x1.1; omega)⟩, ?_⟩
    · rw [hs, ← ev, ew]; rfl
    · show (Int.fdiv (m : Int) (2 ^ (min (Int.toNat 4) (IntKind.bits .u64)))).toNat < ((m : Nat) : Int).toNat
      rw [ev, ← hs]; exact hmu
  · have hge1 := of_decide_eq_false hge
    have hj4 : j = 4 := by
      rcases Nat.lt_or_ge j 4 with hlt | _
      · have hp : (16 : Nat) ^ (j + 1) ≤ 16 ^ 4 := Nat.pow_le_pow_right (by decide) (by omega)
        have hq : (16 : Nat) ^ 4 = 65536 := by decide
        have : 16 ≤ n / 16 ^ j := by
          rw [Nat.le_div_iff_mul_le (Nat.pow_pos (by decide)), Nat.mul_comm, ← Nat.pow_succ]; omega
        omega
      · omega
    subst hj4
    have e1 := h4 rfl
    rw [e1]
    ((conv=>whnf);repeat((first|(with_reducible first|refine Z1 ?_|refine Z2 ?_|refine Z3 ?_|refine Z4 ?_|refine Z5 ?_|refine Z9 (by assumption) rfl ?_|refine ZA (by assumption) rfl ?_|refine ZB (by assumption) rfl ?_|refine Z6 ?_|refine Z7 ?_|refine Z8 ?_)|((with_reducible refine ZM ?_ ?_);(focus rfl)));(conv=>whnf)))
    refine HIdx.mk 1 rfl (by decide) ?_
    ((conv=>whnf);repeat((first|(with_reducible first|refine Z1 ?_|refine Z2 ?_|refine Z3 ?_|refine Z4 ?_|refine Z5 ?_|refine Z9 (by assumption) rfl ?_|refine ZA (by assumption) rfl ?_|refine ZB (by assumption) rfl ?_|refine Z6 ?_|refine Z7 ?_|refine Z8 ?_)|((with_reducible refine ZM ?_ ?_);(focus rfl)));(conv=>whnf)))
    refine HIdx.mk 60 (by decide) (by decide) ?_
    ((conv=>whnf);repeat((first|(with_reducible first|refine Z1 ?_|refine Z2 ?_|refine Z3 ?_|refine Z4 ?_|refine Z5 ?_|refine Z9 (by assumption) rfl ?_|refine ZA (by assumption) rfl ?_|refine ZB (by assumption) rfl ?_|refine Z6 ?_|refine Z7 ?_|refine Z8 ?_)|((with_reducible refine ZM ?_ ?_);(focus rfl)));(conv=>whnf)))
    refine blk_st (o := 60) o2 (by simp) rfl ?_
    intro h3 f3 z3 o3
    ((conv=>whnf);repeat((first|(with_reducible first|refine Z1 ?_|refine Z2 ?_|refine Z3 ?_|refine Z4 ?_|refine Z5 ?_|refine Z9 (by assumption) rfl ?_|refine ZA (by assumption) rfl ?_|refine ZB (by assumption) rfl ?_|refine Z6 ?_|refine Z7 ?_|refine Z8 ?_)|((with_reducible refine ZM ?_ ?_);(focus rfl)));(conv=>whnf)))
    refine HBound.mk 60 (by decide) (by decide) ?_
    have e3 : (List.replicate (65 - 4) (Value.int .u8 0) ++ (hexT n 4).map byteV).set 60 (.int .u8 49) = List.replicate 60 (Value.int .u8 0) ++ (49 :: hexT n 4).map byteV := rfl
    replace o3 : BlkW h3 b1 86 ((List.replicate (65 - 4) (Value.int .u8 0) ++ (hexT n 4).map byteV).set 60 (.int .u8 49)) := o3
    rw [e3] at o3
    have s3 : Sl h3 1 (some ⟨b1, 60, none⟩) 5 5 ((49 :: hexT n 4).map byteV) := o3.sl.slice (i := 60) (j := 65) (by decide) (by simp [hexT_len])
    ((conv=>whnf);repeat((first|(with_reducible first|refine Z1 ?_|refine Z2 ?_|refine Z3 ?_|refine Z4 ?_|refine Z5 ?_|refine Z9 (by assumption) rfl ?_|refine ZA (by assumption) rfl ?_|refine ZB (by assumption) rfl ?_|refine Z6 ?_|refine Z7 ?_|refine Z8 ?_)|((with_reducible refine ZM ?_ ?_);(focus rfl)));(conv=>whnf)))
    refine s3.bytes ?_
    ((conv=>whnf);repeat((first|(with_reducible first|refine Z1 ?_|refine Z2 ?_|refine Z3 ?_|refine Z4 ?_|refine Z5 ?_|refine Z9 (by assumption) rfl ?_|refine ZA (by assumption) rfl ?_|refine ZB (by assumption) rfl ?_|refine Z6 ?_|refine Z7 ?_|refine Z8 ?_)|((with_reducible refine ZM ?_ ?_);(focus rfl)));(conv=>whnf)))
    exact ⟨rfl, x2.offNew f3 (by have := x1.1; omega)⟩

theorem fmt16_spec (n : Nat) (h0 : 65536 ≤ n) (h1 : n < 131072) (h : Heap) (t : Tz h) :
    HCalls Tryd.prog 41 #[.int .i64 n, .int .i64 16] h fun e h' => e = .returned (.string ⟨(49 :: hexT n 4).toArray⟩) ∧ Ext h h' := by
  refine c41 (by simp) ?_
  ((conv=>whnf);repeat((first|(with_reducible first|refine Z1 ?_|refine Z2 ?_|refine Z3 ?_|refine Z4 ?_|refine Z5 ?_|refine Z9 (by assumption) rfl ?_|refine ZA (by assumption) rfl ?_|refine ZB (by assumption) rfl ?_|refine Z6 ?_|refine Z7 ?_|refine Z8 ?_)|((with_reducible refine ZM ?_ ?_);(focus rfl)));(conv=>whnf)))
  refine HCall.mk (?_ : HCalls _ _ _ _ _)
  refine c49 (by simp) ?_
  have q : decide ((n : Int) < 0) = false := decide_eq_false (by omega)
  ((conv=>whnf);repeat((first|(with_reducible first|refine Z1 ?_|refine Z2 ?_|refine Z3 ?_|refine Z4 ?_|refine Z5 ?_|refine Z9 (by assumption) rfl ?_|refine ZA (by assumption) rfl ?_|refine ZB (by assumption) rfl ?_|refine Z6 ?_|refine Z7 ?_|refine Z8 ?_)|((with_reducible refine ZM ?_ ?_);(focus rfl)));(conv=>whnf)))
  refine HCall.to #[.slice none 0 0, .int .u64 n, .int .i64 16, .bool false, .bool false] (by rw [← q]; rfl) ((bits_spec n h0 h1 h t).mono ?_)
  rintro e h2 ⟨rfl, x2⟩
  ((conv=>whnf);repeat((first|(with_reducible first|refine Z1 ?_|refine Z2 ?_|refine Z3 ?_|refine Z4 ?_|refine Z5 ?_|refine Z9 (by assumption) rfl ?_|refine ZA (by assumption) rfl ?_|refine ZB (by assumption) rfl ?_|refine Z6 ?_|refine Z7 ?_|refine Z8 ?_)|((with_reducible refine ZM ?_ ?_);(focus rfl)));(conv=>whnf)))
  exact ⟨rfl, x2⟩
theorem index_spec (s : ByteArray) (c : Int) (h : Heap) : HCalls Tryd.prog 60 #[.string s, .int .u8 c] h fun e h' => e = .returned (.int .i64 (Lib.indexByte s.data.toList c.toNat.toUInt8)) ∧ h' = h := by
  intro w hw
  refine (Any.strings_IndexByte Tryd.lays137 s c w).mono ?_
  rintro e w' ⟨rfl, rfl⟩
  exact ⟨⟨rfl, rfl, rfl⟩, rfl, hw⟩

end Go.Proofs.YtmibnfjjlibpgaaDoor.Hc
