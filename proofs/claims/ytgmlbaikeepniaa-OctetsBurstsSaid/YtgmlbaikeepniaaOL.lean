import Derived.Test.YtgmlbaikeepniaaOK
set_option linter.unusedVariables false
set_option linter.unusedSimpArgs false
namespace Go.Proofs.Ytgmlbaikeepniaa.Hc
open Go Go.H Go.Proofs
set_option maxRecDepth 100000

theorem wf_u32 {a : Int} (w : (Lit.int .u32 a).wf = true) : ∃ d : BitVec 32, a = w32 d := by
  have : 0 ≤ a ∧ a ≤ 4294967295 := by simpa [Lit.wf, IntKind.min, IntKind.max, IntKind.signed, IntKind.bits] using w
  refine ⟨BitVec.ofNat 32 a.toNat, ?_⟩
  unfold w32; rw [BitVec.toNat_ofNat]; omega

theorem bit_test (d : BitVec 32) (i : Nat) : ((w32 (d >>> i)).tmod 2 == 1) = d.getLsbD i := by
  unfold w32
  rw [← BitVec.testBit_toNat, BitVec.toNat_ushiftRight, Nat.testBit]
  rw [Nat.one_and_eq_mod_two]
  generalize d.toNat >>> i = m
  rw [show (m : Int).tmod 2 = ((m % 2 : Nat) : Int) from (Int.ofNat_tmod m 2).symm]
  rcases Nat.mod_two_eq_zero_or_one m with h | h <;> rw [h] <;> rfl
theorem flip_cells (y : List UInt8) (t : Nat) (h : t / 8 < y.length) : (y.map byteV).set (t / 8) (.int .u8 ((y[t / 8] ^^^ bit8 (t % 8)).toNat : Nat)) = (flip y t).map byteV := by
  unfold flip
  apply List.ext_getElem?
  intro j
  rw [List.getElem?_set, List.getElem?_map, List.getElem?_map, List.getElem?_modify]
  by_cases e : t / 8 = j
  · subst e
    rw [if_pos rfl, if_pos (by simpa using h), List.getElem?_eq_getElem h]
    simp only [if_true]
    rfl
  · simp only [if_neg e]
    cases y[j]? <;> rfl
theorem xor_bit (m : UInt8) (k : Nat) (hk : k < 8) : ibits .xor .u8 (m.toNat : Int) (IntKind.u8.wrap (1 * 2 ^ (min (Int.toNat (k : Int)) (IntKind.bits .u8)))) = ((m ^^^ bit8 k).toNat : Nat) := by
  have h0 : ∀ (m : Fin 256) (k : Fin 8), ibits .xor .u8 (m.val : Int) (IntKind.u8.wrap (1 * 2 ^ (min (Int.toNat (k.val : Int)) (IntKind.bits .u8)))) = ((UInt8.ofNat m.val ^^^ bit8 k.val).toNat : Nat) := by decide +kernel
  have := h0 ⟨m.toNat, m.toNat_lt⟩ ⟨k, hk⟩
  rw [this]
  simp

theorem octetsBursts_spec {p1 : Option Addr} {n1 c1 : Nat} {l : List UInt8} {h : Heap} (x : Sl h 1 p1 n1 c1 (l.map byteV)) (hn1 : n1 * 1 ≤ 140737488351232)
    (g : Int) (wg : (Lit.int .i64 g).wf = true) (b : Int) (wb : (Lit.int .u32 b).wf = true) :
    HCalls Try.prog 6 #[.slice p1 n1 c1, .int .i64 g, .int .u32 b] h fun e h' => e = .returned (.bool true) ∧ Ext h h' := by
  obtain ⟨d, rfl⟩ := wf_u32 wb
  have hg := wf_i64 wg
  have hl : l.length = n1 := by simpa using x.1
  refine c6 (by simp) ?_
  ((conv => whnf); (repeat (first | ((with_reducible refine HSeq.go ?_); conv => whnf) | ((with_reducible refine HMust.mk (by decide) ?_); conv => whnf) | ((with_reducible refine HIf.yes (by first | rfl | assumption | decide) ?_); conv => whnf) | ((with_reducible refine HIf.no (by first | rfl | assumption | decide) ?_); conv => whnf) | ((with_reducible refine HInt.mk _ (wrap_i64 (by omega)) ?_); conv => whnf))))
  refine HCall.mk ((framed_spec _).mono ?_)
  rintro e h1 ⟨rfl, x1⟩
  ((conv => whnf); (repeat (first | ((with_reducible refine HSeq.go ?_); conv => whnf) | ((with_reducible refine HMust.mk (by decide) ?_); conv => whnf) | ((with_reducible refine HIf.yes (by first | rfl | assumption | decide) ?_); conv => whnf) | ((with_reducible refine HIf.no (by first | rfl | assumption | decide) ?_); conv => whnf) | ((with_reducible refine HInt.mk _ (wrap_i64 (by omega)) ?_); conv => whnf))))
  refine HCall.mk ((frame_spec (x.ext x1) (by omega)).mono ?_)
  rintro e h2 ⟨bz, rfl, hbz, yz, x2⟩
  have x12 := x1.trans x2
  have lf : ((frameL l).map byteV).length = 8 + n1 := by rw [List.length_map, frameL_len, hl]
  have oz := yz.own (Nat.zero_le _)
  rw [lf] at oz
  have f1 : decide (((8 + n1 : Nat) : Int) < 8) = false := decide_eq_false (by omega)
  have f2 : decide (((8 + n1 : Nat) : Int) ≥ 8) = true := decide_eq_true (by omega)
  by_cases h4 : (n1 : Int) > 4000
  · have f3 : decide ((n1 : Int) > 4000) = true := decide_eq_true h4
    ((conv => whnf); (repeat (first | ((with_reducible refine HSeq.go ?_); conv => whnf) | ((with_reducible refine HMust.mk (by decide) ?_); conv => whnf) | ((with_reducible refine HIf.yes (by first | rfl | assumption | decide) ?_); conv => whnf) | ((with_reducible refine HIf.no (by first | rfl | assumption | decide) ?_); conv => whnf) | ((with_reducible refine HInt.mk _ (wrap_i64 (by omega)) ?_); conv => whnf))))
    exact ⟨by rw [← f2]; rfl, x12⟩
  have f3 : decide ((n1 : Int) > 4000) = false := decide_eq_false h4
  by_cases h0 : d = 0#32
  · have f4 : (w32 d == 0) = true := by subst h0; rfl
    ((conv => whnf); (repeat (first | ((with_reducible refine HSeq.go ?_); conv => whnf) | ((with_reducible refine HMust.mk (by decide) ?_); conv => whnf) | ((with_reducible refine HIf.yes (by first | rfl | assumption | decide) ?_); conv => whnf) | ((with_reducible refine HIf.no (by first | rfl | assumption | decide) ?_); conv => whnf) | ((with_reducible refine HInt.mk _ (wrap_i64 (by omega)) ?_); conv => whnf))))
    exact ⟨by rw [← f2]; rfl, x12⟩
  have f4 : (w32 d == 0) = false := by
    rw [beq_eq_false_iff_ne]; intro e; apply h0
    apply BitVec.eq_of_toNat_eq
    unfold w32 at e
    simp; omega
  ((conv => whnf); (repeat (first | ((with_reducible refine HSeq.go ?_); conv => whnf) | ((with_reducible refine HMust.mk (by decide) ?_); conv => whnf) | ((with_reducible refine HIf.yes (by first | rfl | assumption | decide) ?_); conv => whnf) | ((with_reducible refine HIf.no (by first | rfl | assumption | decide) ?_); conv => whnf) | ((with_reducible refine HInt.mk _ (wrap_i64 (by omega)) ?_); conv => whnf))))
  refine HMust.mk (by omega) ?_
  (conv => whnf)
  obtain ⟨M, hM⟩ : ∃ M : Int, (8 * ((8 + n1 : Nat) : Int) - 31) = M := ⟨_, rfl⟩
  rw [hM]
  have m1 := Int.tmod_lt_of_pos g (b := M) (by omega)
  have m2 := Int.lt_tmod_of_pos g (b := M) (by omega)
  refine HInt.mk _ (wrap_i64 (by omega)) ?_
  ((conv => whnf); (repeat (first | ((with_reducible refine HSeq.go ?_); conv => whnf) | ((with_reducible refine HMust.mk (by decide) ?_); conv => whnf) | ((with_reducible refine HIf.yes (by first | rfl | assumption | decide) ?_); conv => whnf) | ((with_reducible refine HIf.no (by first | rfl | assumption | decide) ?_); conv => whnf) | ((with_reducible refine HInt.mk _ (wrap_i64 (by omega)) ?_); conv => whnf))))
  refine HMust.mk (by omega) ?_
  obtain ⟨q, hq⟩ : ∃ q : Nat, (g.tmod M + M).tmod M = q := ⟨((g.tmod M + M).tmod M).toNat, by have := Int.tmod_nonneg M (a := g.tmod M + M) (by omega); omega⟩
  have hqM : (q : Int) < M := by rw [← hq]; exact Int.tmod_lt_of_pos _ (by omega)
  rw [hq]
  ((conv => whnf); (repeat (first | ((with_reducible refine HSeq.go ?_); conv => whnf) | ((with_reducible refine HMust.mk (by decide) ?_); conv => whnf) | ((with_reducible refine HIf.yes (by first | rfl | assumption | decide) ?_); conv => whnf) | ((with_reducible refine HIf.no (by first | rfl | assumption | decide) ?_); conv => whnf) | ((with_reducible refine HInt.mk _ (wrap_i64 (by omega)) ?_); conv => whnf))))
  refine loop_rule [10, 11, 48] (fun vs h' => ∃ (hd rs : Bool) (i : Nat), vs = [.bool hd, .bool rs, .int .i64 i] ∧ i ≤ 32 ∧ (hd = false → ∀ i', i' < i → d.getLsbD i' = true → 64 ≤ q + i') ∧ (rs = false → ∀ i', i' < i → d.getLsbD i' = true → q + i' < 64) ∧
      Own h' 0 5 1 (some ⟨bz, 0, none⟩) (8 + n1) (8 + n1) ((flips (frameL l) q d i).map byteV) ∧ Off bz h2 h')
    (fun vs _ => match vs with | [_, _, .int _ i] => 32 - i.toNat | _ => 0) rfl ?_ ?_
  · exact ⟨false, false, 0, rfl, by omega, fun _ i' h => by omega, fun _ i' h => by omega, oz, (Ext.refl _).off⟩
  · intro u h3 v10 v11 v48
    rintro ⟨hd, rs, i, e, hi, jh, jr, o3, f3'⟩
    cases e
    ((conv => whnf); (repeat (first | ((with_reducible refine HSeq.go ?_); conv => whnf) | ((with_reducible refine HMust.mk (by decide) ?_); conv => whnf) | ((with_reducible refine HIf.yes (by first | rfl | assumption | decide) ?_); conv => whnf) | ((with_reducible refine HIf.no (by first | rfl | assumption | decide) ?_); conv => whnf) | ((with_reducible refine HInt.mk _ (wrap_i64 (by omega)) ?_); conv => whnf))))
    refine HIf.mk (fun hb => ?_) (fun hb => ?_)
    · have hlt := of_decide_eq_true hb
      ((conv => whnf); (repeat (first | ((with_reducible refine HSeq.go ?_); conv => whnf) | ((with_reducible refine HMust.mk (by decide) ?_); conv => whnf) | ((with_reducible refine HIf.yes (by first | rfl | assumption | decide) ?_); conv => whnf) | ((with_reducible refine HIf.no (by first | rfl | assumption | decide) ?_); conv => whnf) | ((with_reducible refine HInt.mk _ (wrap_i64 (by omega)) ?_); conv => whnf))))
      refine HInt.mk (i : Int) (wrap_u64 (by omega)) ?_
      ((conv => whnf); (repeat (first | ((with_reducible refine HSeq.go ?_); conv => whnf) | ((with_reducible refine HMust.mk (by decide) ?_); conv => whnf) | ((with_reducible refine HIf.yes (by first | rfl | assumption | decide) ?_); conv => whnf) | ((with_reducible refine HIf.no (by first | rfl | assumption | decide) ?_); conv => whnf) | ((with_reducible refine HInt.mk _ (wrap_i64 (by omega)) ?_); conv => whnf))))
      refine HMust.mk (by omega) ?_
      (conv => whnf)
      rw [shr32 d i (by omega)]
      ((conv => whnf); (repeat (first | ((with_reducible refine HSeq.go ?_); conv => whnf) | ((with_reducible refine HMust.mk (by decide) ?_); conv => whnf) | ((with_reducible refine HIf.yes (by first | rfl | assumption | decide) ?_); conv => whnf) | ((with_reducible refine HIf.no (by first | rfl | assumption | decide) ?_); conv => whnf) | ((with_reducible refine HInt.mk _ (wrap_i64 (by omega)) ?_); conv => whnf))))
      have bt := bit_test d i
      cases hbit : d.getLsbD i
      · rw [hbit] at bt
        ((conv => whnf); (repeat (first | ((with_reducible refine HSeq.go ?_); conv => whnf) | ((with_reducible refine HMust.mk (by decide) ?_); conv => whnf) | ((with_reducible refine HIf.yes (by first | rfl | assumption | decide) ?_); conv => whnf) | ((with_reducible refine HIf.no (by first | rfl | assumption | decide) ?_); conv => whnf) | ((with_reducible refine HInt.mk _ (wrap_i64 (by omega)) ?_); conv => whnf))))
        refine ⟨⟨hd, rs, i + 1, rfl, by omega, ?_, ?_, ?_, f3'⟩, ?_⟩
        · intro h i' hi' hb'
          rcases Nat.lt_or_ge i' i with hlt' | hge'
          · exact jh h i' hlt' hb'
          · obtain rfl : i' = i := by omega
            rw [hbit] at hb'; cases hb'
        · intro h i' hi' hb'
          rcases Nat.lt_or_ge i' i with hlt' | hge'
          · exact jr h i' hlt' hb'
          · obtain rfl : i' = i := by omega
            rw [hbit] at hb'; cases hb'
        · simp only [flips, hbit]; exact o3
        · show 32 - (((i : Int) + 1)).toNat < 32 - ((i : Int)).toNat
          omega
      · rw [hbit] at bt
        have hj : (q + i) / 8 < (flips (frameL l) q d i).length := by rw [flips_len, frameL_len]; omega
        have ed : ((q : Int) + (i : Int)).tdiv 8 = (((q + i) / 8 : Nat) : Int) := by rw [← Int.natCast_add]; exact (Int.ofNat_tdiv (q + i) 8).symm
        have em : ((q : Int) + (i : Int)).tmod 8 = (((q + i) % 8 : Nat) : Int) := by rw [← Int.natCast_add]; exact (Int.ofNat_tmod (q + i) 8).symm
        have step : ∀ (hd' rs' : Bool) (h4 : Heap), Off bz h3 h4 → Own h4 0 5 1 (some ⟨bz, 0, none⟩) (8 + n1) (8 + n1) ((flip (flips (frameL l) q d i) (q + i)).map byteV) → (hd' = false → hd = false ∧ 64 ≤ q + i) → (rs' = false → rs = false ∧ q + i < 64) →
            ∃ (hd rs : Bool) (i1 : Nat), [Value.bool hd', Value.bool rs', Value.int .i64 ((i : Int) + 1)] = [.bool hd, .bool rs, .int .i64 i1] ∧ i1 ≤ 32 ∧ (hd = false → ∀ i', i' < i1 → d.getLsbD i' = true → 64 ≤ q + i') ∧ (rs = false → ∀ i', i' < i1 → d.getLsbD i' = true → q + i' < 64) ∧
      Own h4 0 5 1 (some ⟨bz, 0, none⟩) (8 + n1) (8 + n1) ((flips (frameL l) q d i1).map byteV) ∧ Off bz h2 h4 := by
          intro hd' rs' h4 o4 w4 z1 z2
          refine ⟨hd', rs', i + 1, rfl, by omega, ?_, ?_, ?_, f3'.trans o4⟩
          · intro h i' hi' hb'
            obtain ⟨y1, y2⟩ := z1 h
            rcases Nat.lt_or_ge i' i with hlt' | hge'
            · exact jh y1 i' hlt' hb'
            · obtain rfl : i' = i := by omega
              exact y2
          · intro h i' hi' hb'
            obtain ⟨y1, y2⟩ := z2 h
            rcases Nat.lt_or_ge i' i with hlt' | hge'
            · exact jr y1 i' hlt' hb'
            · obtain rfl : i' = i := by omega
              exact y2
          · simp only [flips, hbit, if_true]; exact w4
        ((conv => whnf); (repeat (first | ((with_reducible refine HSeq.go ?_); conv => whnf) | ((with_reducible refine HMust.mk (by decide) ?_); conv => whnf) | ((with_reducible refine HIf.yes (by first | rfl | assumption | decide) ?_); conv => whnf) | ((with_reducible refine HIf.no (by first | rfl | assumption | decide) ?_); conv => whnf) | ((with_reducible refine HInt.mk _ (wrap_i64 (by omega)) ?_); conv => whnf))))
        have hz : (q + i) / 8 < 8 + n1 := by omega
        have ld : ∀ {K : Value → Prop} {p : Addr}, some (⟨bz, 0, none⟩ : Addr) = some p → K (.int .u8 ((flips (frameL l) q d i)[(q + i) / 8].toNat : Nat)) → HLoad h3 (p.add ((q + i) / 8 * 1)) K := by
          intro K p ep k
          exact sl_get o3.sl ep hj k
        have sh : ∀ {K : Heap → Prop} {p : Addr}, some (⟨bz, 0, none⟩ : Addr) = some p →
            (∀ h4, Off bz h3 h4 → Own h4 0 5 1 (some ⟨bz, 0, none⟩) (8 + n1) (8 + n1) ((flip (flips (frameL l) q d i) (q + i)).map byteV) → K h4) →
            HStore h3 (p.add ((q + i) / 8 * 1)) [.int .u8 (((flips (frameL l) q d i)[(q + i) / 8] ^^^ bit8 ((q + i) % 8)).toNat : Nat)] K := by
          intro K p ep k
          refine o3.store ep hz rfl ?_
          intro h4 w4 _ _ o4
          rw [flip_cells _ _ hj] at o4
          cases ep
          exact k h4 w4 o4
        have hmu : 32 - (((i : Int) + 1)).toNat < 32 - ((i : Int)).toNat := by omega
        cases hd <;> cases rs <;> (
          ((conv => whnf); (repeat (first | ((with_reducible refine HSeq.go ?_); conv => whnf) | ((with_reducible refine HMust.mk (by decide) ?_); conv => whnf) | ((with_reducible refine HIf.yes (by first | rfl | assumption | decide) ?_); conv => whnf) | ((with_reducible refine HIf.no (by first | rfl | assumption | decide) ?_); conv => whnf) | ((with_reducible refine HInt.mk _ (wrap_i64 (by omega)) ?_); conv => whnf))))
          refine HIdx.mk ((q + i) / 8) ed hz ?_
          refine ⟨⟨bz, 0, none⟩, rfl, ?_⟩
          ((conv => whnf); (repeat (first | ((with_reducible refine HSeq.go ?_); conv => whnf) | ((with_reducible refine HMust.mk (by decide) ?_); conv => whnf) | ((with_reducible refine HIf.yes (by first | rfl | assumption | decide) ?_); conv => whnf) | ((with_reducible refine HIf.no (by first | rfl | assumption | decide) ?_); conv => whnf) | ((with_reducible refine HInt.mk _ (wrap_i64 (by omega)) ?_); conv => whnf))))
          refine ld rfl ?_
          ((conv => whnf); (repeat (first | ((with_reducible refine HSeq.go ?_); conv => whnf) | ((with_reducible refine HMust.mk (by decide) ?_); conv => whnf) | ((with_reducible refine HIf.yes (by first | rfl | assumption | decide) ?_); conv => whnf) | ((with_reducible refine HIf.no (by first | rfl | assumption | decide) ?_); conv => whnf) | ((with_reducible refine HInt.mk _ (wrap_i64 (by omega)) ?_); conv => whnf))))
          rw [em]
          refine HInt.mk (((q + i) % 8 : Nat) : Int) (wrap_u64 (by omega)) ?_
          ((conv => whnf); (repeat (first | ((with_reducible refine HSeq.go ?_); conv => whnf) | ((with_reducible refine HMust.mk (by decide) ?_); conv => whnf) | ((with_reducible refine HIf.yes (by first | rfl | assumption | decide) ?_); conv => whnf) | ((with_reducible refine HIf.no (by first | rfl | assumption | decide) ?_); conv => whnf) | ((with_reducible refine HInt.mk _ (wrap_i64 (by omega)) ?_); conv => whnf))))
          refine HMust.mk (by omega) ?_
          (conv => whnf)
          refine HInt.mk _ rfl ?_
          ((conv => whnf); (repeat (first | ((with_reducible refine HSeq.go ?_); conv => whnf) | ((with_reducible refine HMust.mk (by decide) ?_); conv => whnf) | ((with_reducible refine HIf.yes (by first | rfl | assumption | decide) ?_); conv => whnf) | ((with_reducible refine HIf.no (by first | rfl | assumption | decide) ?_); conv => whnf) | ((with_reducible refine HInt.mk _ (wrap_i64 (by omega)) ?_); conv => whnf))))
          rw [xor_bit _ _ (Nat.mod_lt _ (by omega))]
          refine HIdx.mk ((q + i) / 8) ed hz ?_
          refine ⟨⟨bz, 0, none⟩, rfl, ?_⟩
          ((conv => whnf); (repeat (first | ((with_reducible refine HSeq.go ?_); conv => whnf) | ((with_reducible refine HMust.mk (by decide) ?_); conv => whnf) | ((with_reducible refine HIf.yes (by first | rfl | assumption | decide) ?_); conv => whnf) | ((with_reducible refine HIf.no (by first | rfl | assumption | decide) ?_); conv => whnf) | ((with_reducible refine HInt.mk _ (wrap_i64 (by omega)) ?_); conv => whnf))))
          refine sh rfl ?_
          intro h4 w4 o4
          ((conv => whnf); (repeat (first | ((with_reducible refine HSeq.go ?_); conv => whnf) | ((with_reducible refine HMust.mk (by decide) ?_); conv => whnf) | ((with_reducible refine HIf.yes (by first | rfl | assumption | decide) ?_); conv => whnf) | ((with_reducible refine HIf.no (by first | rfl | assumption | decide) ?_); conv => whnf) | ((with_reducible refine HInt.mk _ (wrap_i64 (by omega)) ?_); conv => whnf))))
          refine ⟨step _ _ h4 w4 o4 ?_ ?_, hmu⟩)
        all_goals (intro hx; first | (cases hx; done) | skip)
        all_goals exact ⟨rfl, by have := of_decide_eq_false hx; omega⟩
    · have hge := of_decide_eq_false hb
      obtain rfl : i = 32 := by omega
      have hz := x12.offNew f3' (by have := x1.1; omega)
      have fin : ((∀ i, i < 32 → d.getLsbD i = true → q + i < 64) ∨ (∀ i, i < 32 → d.getLsbD i = true → 64 ≤ q + i)) →
          HCalls Try.prog 22 #[.slice (some ⟨bz, 0, none⟩) (8 + n1) (8 + n1), .int .i64 n1] h3 fun e h' => ∃ a c t1 t2 t3, e = .returned (.tuple #[.slice a t1 c, .int .i64 (t2 : Nat), .int .i64 (t3 : Nat)]) ∧ Ext h3 h' ∧ ((((t3 : Nat) : Int) == 0) = false ∧ (((t3 : Nat) : Int) != 0) = true ∨
            (((t3 : Nat) : Int) == 0) = true ∧ (((t3 : Nat) : Int) != 0) = false ∧ (((t2 : Nat) : Int) == ((8 + n1 : Nat) : Int)) = false ∧ (((t1 : Nat) : Int) != ((n1 : Nat) : Int)) = true) := by
        intro hc
        have law := burst_law l q d (by omega) (by omega) h0 hc
        refine (unframe_spec o3.sl (by omega) n1 (by omega)).mono ?_
        rintro e h4 ⟨a, c, rfl, _, w4⟩
        rw [hl] at law
        refine ⟨a, c, _, _, _, rfl, w4, ?_⟩
        generalize unf (flips (frameL l) q d 32) (n1 : Nat) = t at *
        by_cases z3 : t.2.2 = 0
        · right
          rcases law with law | law
          · exact absurd z3 law
          · refine ⟨by rw [z3]; rfl, by rw [z3]; rfl, ?_, ?_⟩
            · rw [beq_eq_false_iff_ne]; omega
            · rw [bne_iff_ne]; omega
        · left
          exact ⟨by rw [beq_eq_false_iff_ne]; omega, by rw [bne_iff_ne]; omega⟩
      have jh := fun e => jh e
      ((conv => whnf); (repeat (first | ((with_reducible refine HSeq.go ?_); conv => whnf) | ((with_reducible refine HMust.mk (by decide) ?_); conv => whnf) | ((with_reducible refine HIf.yes (by first | rfl | assumption | decide) ?_); conv => whnf) | ((with_reducible refine HIf.no (by first | rfl | assumption | decide) ?_); conv => whnf) | ((with_reducible refine HInt.mk _ (wrap_i64 (by omega)) ?_); conv => whnf))))
      cases hd <;> cases rs
      all_goals ((conv => whnf); (repeat (first | ((with_reducible refine HSeq.go ?_); conv => whnf) | ((with_reducible refine HMust.mk (by decide) ?_); conv => whnf) | ((with_reducible refine HIf.yes (by first | rfl | assumption | decide) ?_); conv => whnf) | ((with_reducible refine HIf.no (by first | rfl | assumption | decide) ?_); conv => whnf) | ((with_reducible refine HInt.mk _ (wrap_i64 (by omega)) ?_); conv => whnf))))
      all_goals first | exact ⟨rfl, hz⟩ | skip
      all_goals refine HCall.mk ((fin (by first | exact .inl (jr rfl) | exact .inr (jh rfl))).mono ?_)
      all_goals (
        rintro e h4 ⟨a, c, t1, t2, t3, rfl, w4, hw⟩
        rcases hw with ⟨g1, g2⟩ | ⟨g1, g2, g3, g4⟩
        · ((conv => whnf); (repeat (first | ((with_reducible refine HSeq.go ?_); conv => whnf) | ((with_reducible refine HMust.mk (by decide) ?_); conv => whnf) | ((with_reducible refine HIf.yes (by first | rfl | assumption | decide) ?_); conv => whnf) | ((with_reducible refine HIf.no (by first | rfl | assumption | decide) ?_); conv => whnf) | ((with_reducible refine HInt.mk _ (wrap_i64 (by omega)) ?_); conv => whnf))))
          exact ⟨by rw [← g2]; rfl, hz.trans w4⟩
        · have g5 : (!(((t2 : Nat) : Int) == ((8 + n1 : Nat) : Int))) = true := by rw [g3]; rfl
          ((conv => whnf); (repeat (first | ((with_reducible refine HSeq.go ?_); conv => whnf) | ((with_reducible refine HMust.mk (by decide) ?_); conv => whnf) | ((with_reducible refine HIf.yes (by first | rfl | assumption | decide) ?_); conv => whnf) | ((with_reducible refine HIf.no (by first | rfl | assumption | decide) ?_); conv => whnf) | ((with_reducible refine HInt.mk _ (wrap_i64 (by omega)) ?_); conv => whnf))))
          exact ⟨by rw [← g4]; rfl, hz.trans w4⟩)

end Go.Proofs.Ytgmlbaikeepniaa.Hc
