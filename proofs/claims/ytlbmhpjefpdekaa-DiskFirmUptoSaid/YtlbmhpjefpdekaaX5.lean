/- The program's disk: its functions. -/
import Derived.Test.YtlbmhpjefpdekaaX4
set_option linter.unusedVariables false
set_option linter.unusedSimpArgs false
namespace Go.Proofs.Ytlbmhpjefpdekaa.Hc
open Go Go.H Go.Proofs
set_option maxRecDepth 100000
set_option maxHeartbeats 8000000

theorem new_disk (n : Int) (h : Heap) : HCalls Try.prog 8 #[.int .i64 n] h fun e h' => Ext h h' ∧
    ((1 ≤ n ∧ n ≤ 2048 ∧ ∃ b rf rw, e = .returned (.tuple #[.pointer (some ⟨b, 0, none⟩), .int .i64 0]) ∧ DR h' b rf rw (DK.new n.toNat) ∧ h.size ≤ b ∧ h.size ≤ rf ∧ h.size ≤ rw) ∨ (¬ (1 ≤ n ∧ n ≤ 2048) ∧ e = .returned (.tuple #[.pointer none, .int .i64 1]))) := by
  refine c8 (by simp) ?_
  by_cases h1 : n < 1
  · have q : decide (n < 1) = true := decide_eq_true h1
    ((conv=>whnf);repeat((first|(with_reducible first|refine Z1 ?_|refine Z2 ?_|refine Z3 ?_|refine Z4 ?_|refine Z5 ?_|refine Z9 (by assumption) rfl ?_|refine ZA (by assumption) rfl ?_|refine ZB (by assumption) rfl ?_|refine Z6 ?_|refine Z7 ?_|refine Z8 ?_)|((with_reducible refine ZM ?_ ?_);(focus rfl)));(conv=>whnf)))
    exact ⟨Ext.refl _, .inr ⟨by omega, rfl⟩⟩
  have q : decide (n < 1) = false := decide_eq_false h1
  by_cases h2 : n > 2048
  · have q2 : decide (n > 2048) = true := decide_eq_true h2
    ((conv=>whnf);repeat((first|(with_reducible first|refine Z1 ?_|refine Z2 ?_|refine Z3 ?_|refine Z4 ?_|refine Z5 ?_|refine Z9 (by assumption) rfl ?_|refine ZA (by assumption) rfl ?_|refine ZB (by assumption) rfl ?_|refine Z6 ?_|refine Z7 ?_|refine Z8 ?_)|((with_reducible refine ZM ?_ ?_);(focus rfl)));(conv=>whnf)))
    exact ⟨Ext.refl _, .inr ⟨by omega, rfl⟩⟩
  have q2 : decide (n > 2048) = false := decide_eq_false h2
  ((conv=>whnf);repeat((first|(with_reducible first|refine Z1 ?_|refine Z2 ?_|refine Z3 ?_|refine Z4 ?_|refine Z5 ?_|refine Z9 (by assumption) rfl ?_|refine ZA (by assumption) rfl ?_|refine ZB (by assumption) rfl ?_|refine Z6 ?_|refine Z7 ?_|refine Z8 ?_)|((with_reducible refine ZM ?_ ?_);(focus rfl)));(conv=>whnf)))
  refine ⟨?_⟩
  have m0 : MR (h.push (.map #[] 0)) h.size (fun _ => none) := ⟨#[], 0, by simp, MS.empty 0⟩
  have x1 : Ext h (h.push (.map #[] 0)) := Ext.push _ _
  have z1 : (h.push (.map #[] 0)).size = h.size + 1 := by simp
  generalize h.push (.map #[] 0) = h1 at *
  ((conv=>whnf);repeat((first|(with_reducible first|refine Z1 ?_|refine Z2 ?_|refine Z3 ?_|refine Z4 ?_|refine Z5 ?_|refine Z9 (by assumption) rfl ?_|refine ZA (by assumption) rfl ?_|refine ZB (by assumption) rfl ?_|refine Z6 ?_|refine Z7 ?_|refine Z8 ?_)|((with_reducible refine ZM ?_ ?_);(focus rfl)));(conv=>whnf)))
  refine ⟨?_⟩
  have m1 : MR (h1.push (.map #[] 0)) h1.size (fun _ => none) := ⟨#[], 0, by simp, MS.empty 0⟩
  have x2 : Ext h1 (h1.push (.map #[] 0)) := Ext.push _ _
  have z2 : (h1.push (.map #[] 0)).size = h1.size + 1 := by simp
  generalize h1.push (.map #[] 0) = h2 at *
  ((conv=>whnf);repeat((first|(with_reducible first|refine Z1 ?_|refine Z2 ?_|refine Z3 ?_|refine Z4 ?_|refine Z5 ?_|refine Z9 (by assumption) rfl ?_|refine ZA (by assumption) rfl ?_|refine ZB (by assumption) rfl ?_|refine Z6 ?_|refine Z7 ?_|refine Z8 ?_)|((with_reducible refine ZM ?_ ?_);(focus rfl)));(conv=>whnf)))
  refine new_var (e := 57) [.int .i64 n, .int .i64 0, .int .i64 (-1), .map (some h.size), .map (some h1.size), .bool false] rfl ?_
  intro h3 b o x3 z3 hb
  ((conv=>whnf);repeat((first|(with_reducible first|refine Z1 ?_|refine Z2 ?_|refine Z3 ?_|refine Z4 ?_|refine Z5 ?_|refine Z9 (by assumption) rfl ?_|refine ZA (by assumption) rfl ?_|refine ZB (by assumption) rfl ?_|refine Z6 ?_|refine Z7 ?_|refine Z8 ?_)|((with_reducible refine ZM ?_ ?_);(focus rfl)));(conv=>whnf)))
  refine ⟨x1.trans (x2.trans x3), .inl ⟨by omega, by omega, b, h.size, h1.size, rfl, ⟨⟨?_, ?_, ?_, ?_, ?_, ?_, ?_⟩, ?_, (m0.ext x2).ext x3, m1.ext x3, by omega⟩, by omega, by omega, by omega⟩⟩
  · show 1 ≤ n.toNat; omega
  · show n.toNat ≤ 2048; omega
  · show (-1 : Int) ≤ -1; omega
  · show (-1 : Int) ≤ _; omega
  · show 0 ≤ _; omega
  · intro i s h; cases h
  · intro i s h; cases h
  · have e : ((n.toNat : Nat) : Int) = n := Int.toNat_of_nonneg (by omega)
    show BlkW h3 b _ [.int .i64 (n.toNat : Nat), _, _, _, _, _]
    rw [e]; exact o
theorem isOn_spec {h : Heap} {b rf rw : Nat} {d : DK} (x : DR h b rf rw d) : HCalls Try.prog 20 #[.pointer (some ⟨b, 0, none⟩)] h fun e h' => e = .returned (.bool (!d.off)) ∧ h' = h := by
  have o := x.o
  refine c20 (by simp) ?_
  ((conv=>whnf);repeat((first|(with_reducible first|refine Z1 ?_|refine Z2 ?_|refine Z3 ?_|refine Z4 ?_|refine Z5 ?_|refine Z9 (by assumption) rfl ?_|refine ZA (by assumption) rfl ?_|refine ZB (by assumption) rfl ?_|refine Z6 ?_|refine Z7 ?_|refine Z8 ?_)|((with_reducible refine ZM ?_ ?_);(focus rfl)));(conv=>whnf)))
  exact ⟨rfl, rfl⟩
theorem acts_spec {h : Heap} {b rf rw : Nat} {d : DK} (x : DR h b rf rw d) : HCalls Try.prog 22 #[.pointer (some ⟨b, 0, none⟩)] h fun e h' => e = .returned (.int .i64 d.acts) ∧ h' = h := by
  have o := x.o
  refine c22 (by simp) ?_
  ((conv=>whnf);repeat((first|(with_reducible first|refine Z1 ?_|refine Z2 ?_|refine Z3 ?_|refine Z4 ?_|refine Z5 ?_|refine Z9 (by assumption) rfl ?_|refine ZA (by assumption) rfl ?_|refine ZB (by assumption) rfl ?_|refine Z6 ?_|refine Z7 ?_|refine Z8 ?_)|((with_reducible refine ZM ?_ ?_);(focus rfl)));(conv=>whnf)))
  exact ⟨rfl, rfl⟩
theorem sectors_spec {h : Heap} {b rf rw : Nat} {d : DK} (x : DR h b rf rw d) : HCalls Try.prog 27 #[.pointer (some ⟨b, 0, none⟩)] h fun e h' => e = .returned (.int .i64 d.many) ∧ h' = h := by
  have o := x.o
  refine c27 (by simp) ?_
  ((conv=>whnf);repeat((first|(with_reducible first|refine Z1 ?_|refine Z2 ?_|refine Z3 ?_|refine Z4 ?_|refine Z5 ?_|refine Z9 (by assumption) rfl ?_|refine ZA (by assumption) rfl ?_|refine ZB (by assumption) rfl ?_|refine Z6 ?_|refine Z7 ?_|refine Z8 ?_)|((with_reducible refine ZM ?_ ?_);(focus rfl)));(conv=>whnf)))
  exact ⟨rfl, rfl⟩
theorem waiting_spec {h : Heap} {b rf rw : Nat} {d : DK} (x : DR h b rf rw d) : HCalls Try.prog 19 #[.pointer (some ⟨b, 0, none⟩)] h fun e h' =>
    ∃ (a : Option Addr) (c : Nat), e = .returned (.slice a (keysOf d.waits).length c) ∧ Sl h' 1 a (keysOf d.waits).length c ((keysOf d.waits).map natV) ∧ Ext h h' := by
  have o := x.o
  refine c19 (by simp) ?_
  ((conv=>whnf);repeat((first|(with_reducible first|refine Z1 ?_|refine Z2 ?_|refine Z3 ?_|refine Z4 ?_|refine Z5 ?_|refine Z9 (by assumption) rfl ?_|refine ZA (by assumption) rfl ?_|refine ZB (by assumption) rfl ?_|refine Z6 ?_|refine Z7 ?_|refine Z8 ?_)|((with_reducible refine ZM ?_ ?_);(focus rfl)));(conv=>whnf)))
  refine HCall.mk ((mkeys_spec rw h).mono ?_)
  rintro e _ ⟨rfl, rfl⟩
  have x1 : Ext h (h.push (.cells #[.map (some rw)] 55)) := Ext.push _ _
  have bk : BlkW (h.push (.cells #[.map (some rw)] 55)) h.size 55 [.map (some rw)] := BlkW.push h [.map (some rw)] 55
  ((conv=>whnf);repeat((first|(with_reducible first|refine Z1 ?_|refine Z2 ?_|refine Z3 ?_|refine Z4 ?_|refine Z5 ?_|refine Z9 (by assumption) rfl ?_|refine ZA (by assumption) rfl ?_|refine ZB (by assumption) rfl ?_|refine Z6 ?_|refine Z7 ?_|refine Z8 ?_)|((with_reducible refine ZM ?_ ?_);(focus rfl)));(conv=>whnf)))
  refine HCall.mk ((msorted_spec (x.mw.ext x1) bk).mono ?_)
  rintro e h2 ⟨a, c, rfl, s, x2⟩
  ((conv=>whnf);repeat((first|(with_reducible first|refine Z1 ?_|refine Z2 ?_|refine Z3 ?_|refine Z4 ?_|refine Z5 ?_|refine Z9 (by assumption) rfl ?_|refine ZA (by assumption) rfl ?_|refine ZB (by assumption) rfl ?_|refine Z6 ?_|refine Z7 ?_|refine Z8 ?_)|((with_reducible refine ZM ?_ ?_);(focus rfl)));(conv=>whnf)))
  exact ⟨a, c, rfl, s, x1.trans x2⟩
theorem fuse_spec {h : Heap} {b rf rw : Nat} {d : DK} (x : DR h b rf rw d) (n : Int) (hn : n ≤ 9223372036854775807) : HCalls Try.prog 26 #[.pointer (some ⟨b, 0, none⟩), .int .i64 n] h fun e h' => e = .returned (.tuple #[]) ∧ DR h' b rf rw (d.fused n) ∧ OffS [b, rf, rw] h h' := by
  have o := x.o
  have k := x.ok
  refine c26 (by simp) ?_
  ((conv=>whnf);repeat((first|(with_reducible first|refine Z1 ?_|refine Z2 ?_|refine Z3 ?_|refine Z4 ?_|refine Z5 ?_|refine Z9 (by assumption) rfl ?_|refine ZA (by assumption) rfl ?_|refine ZB (by assumption) rfl ?_|refine Z6 ?_|refine Z7 ?_|refine Z8 ?_)|((with_reducible refine ZM ?_ ?_);(focus rfl)));(conv=>whnf)))
  refine blk_st (o := 2) o (by simp) rfl ?_
  intro h' f z o'
  ((conv=>whnf);repeat((first|(with_reducible first|refine Z1 ?_|refine Z2 ?_|refine Z3 ?_|refine Z4 ?_|refine Z5 ?_|refine Z9 (by assumption) rfl ?_|refine ZA (by assumption) rfl ?_|refine ZB (by assumption) rfl ?_|refine Z6 ?_|refine Z7 ?_|refine Z8 ?_)|((with_reducible refine ZM ?_ ?_);(focus rfl)));(conv=>whnf)))
  refine ⟨rfl, ⟨⟨k.m1, k.m2, ?_, ?_, k.ac, k.wm, k.fm⟩, o', x.mf.offk f (Ne.symm x.nf), x.mw.offk f (Ne.symm x.nw), x.ne⟩, OffS.of_off f (by simp)⟩
  · show (-1 : Int) ≤ (if -1 > n then -1 else n); split <;> omega
  · show (if -1 > n then (-1 : Int) else n) ≤ _; split <;> omega

theorem DK.sec_len {d : DK} (k : d.Ok) (i : Nat) : (d.sec i).data.toList.length = 4096 := by
  have hz : zeroB.data.toList.length = 4096 := by unfold zeroB; simp
  unfold DK.sec
  cases hw : d.waits i with
  | some s => exact (k.wm i s hw).2
  | none =>
    cases hf : d.firm i with
    | some s => exact (k.fm i s hf).2
    | none => exact hz
/-- What Read tells. -/
def DK.told (d : DK) (i : Int) : List UInt8 := if d.refused i = 0 then (d.sec i.toNat).data.toList else []
theorem rep_bytes (n : Nat) : List.replicate n (Value.int .u8 0) = (List.replicate n (0 : UInt8)).map byteV := by rw [List.map_replicate]; rfl
theorem read_spec {h : Heap} {b rf rw : Nat} {d : DK} (x : DR h b rf rw d) (i : Int) : HCalls Try.prog 15 #[.pointer (some ⟨b, 0, none⟩), .int .i64 i] h fun e h' =>
    ∃ (a : Option Addr) (c : Nat), e = .returned (.tuple #[.slice a (d.told i).length c, .int .i64 (d.refused i)]) ∧ Own h' h.size 5 1 a (d.told i).length c ((d.told i).map byteV) ∧ Ext h h' := by
  have o := x.o
  refine c15 (by simp) ?_
  ((conv=>whnf);repeat((first|(with_reducible first|refine Z1 ?_|refine Z2 ?_|refine Z3 ?_|refine Z4 ?_|refine Z5 ?_|refine Z9 (by assumption) rfl ?_|refine ZA (by assumption) rfl ?_|refine ZB (by assumption) rfl ?_|refine Z6 ?_|refine Z7 ?_|refine Z8 ?_)|((with_reducible refine ZM ?_ ?_);(focus rfl)));(conv=>whnf)))
  refine HCall.mk ((refused_spec x i).mono ?_)
  rintro e h ⟨rfl, rfl⟩
  unfold DK.told
  by_cases hr : d.refused i = 0
  rotate_left
  · have q : (d.refused i != 0) = true := bne_iff_ne.2 hr
    rw [if_neg hr]
    ((conv=>whnf);repeat((first|(with_reducible first|refine Z1 ?_|refine Z2 ?_|refine Z3 ?_|refine Z4 ?_|refine Z5 ?_|refine Z9 (by assumption) rfl ?_|refine ZA (by assumption) rfl ?_|refine ZB (by assumption) rfl ?_|refine Z6 ?_|refine Z7 ?_|refine Z8 ?_)|((with_reducible refine ZM ?_ ?_);(focus rfl)));(conv=>whnf)))
    exact ⟨none, 0, rfl, Own.nil _ _ _ _, Ext.refl _⟩
  have q : (d.refused i != 0) = false := by rw [hr]; rfl
  rw [if_pos hr, hr]
  have hi : 0 ≤ i := by
    unfold DK.refused at hr
    split at hr
    · omega
    · split at hr <;> omega
  obtain ⟨n, rfl⟩ := Int.eq_ofNat_of_zero_le hi
  rw [Int.toNat_natCast]
  have hsl := DK.sec_len x.ok n
  ((conv=>whnf);repeat((first|(with_reducible first|refine Z1 ?_|refine Z2 ?_|refine Z3 ?_|refine Z4 ?_|refine Z5 ?_|refine Z9 (by assumption) rfl ?_|refine ZA (by assumption) rfl ?_|refine ZB (by assumption) rfl ?_|refine Z6 ?_|refine Z7 ?_|refine Z8 ?_)|((with_reducible refine ZM ?_ ?_);(focus rfl)));(conv=>whnf)))
  refine HBound.mk 4096 rfl (by decide) ?_
  refine HBound.mk 4096 rfl (by decide) ?_
  ((conv=>whnf);repeat((first|(with_reducible first|refine Z1 ?_|refine Z2 ?_|refine Z3 ?_|refine Z4 ?_|refine Z5 ?_|refine Z9 (by assumption) rfl ?_|refine ZA (by assumption) rfl ?_|refine ZB (by assumption) rfl ?_|refine Z6 ?_|refine Z7 ?_|refine Z8 ?_)|((with_reducible refine ZM ?_ ?_);(focus rfl)));(conv=>whnf)))
  refine new_var (e := 5) (List.replicate 4096 (.int .u8 0)) (by rw [zeroCells_one]) ?_
  intro h1 b1 o1 x1 z1 hb1
  have y1 := x.ext x1
  have p1 := y1.o
  have fin : ∀ (s : ByteArray) (h2 : Heap), d.sec n = s → BlkW h2 b1 5 (s.data.toList.map byteV) → Ext h h2 → ∃ (a : Option Addr) (c : Nat), Ending.returned (.tuple #[.slice (some ⟨b1, 0, none⟩) 4096 4096, .int .i64 0]) = .returned (.tuple #[.slice a (d.sec n).data.toList.length c, .int .i64 0]) ∧ Own h2 h.size 5 1 a (d.sec n).data.toList.length c ((d.sec n).data.toList.map byteV) ∧ Ext h h2 := by
    intro s h2 hs ow xx
    refine ⟨some ⟨b1, 0, none⟩, 4096, by rw [hsl], ?_, xx⟩
    have := BlkW.own (B := h.size) ow (by omega)
    rw [List.length_map, ← hs, hsl] at this
    rw [hsl]; exact this
  have copyS : ∀ (s : ByteArray) (K : Heap → Prop), s.data.toList.length = 4096 → (∀ h2, BlkW h2 b1 5 (s.data.toList.map byteV) → Ext h h2 → K h2) → HStoreO h1 (some ⟨b1, 0, none⟩) ((s.data.toList.take (Nat.min s.size 4096)).map fun b => Value.int .u8 (b.toNat : Nat)) K := by
    intro s K hs hk
    have e : s.data.toList.take (Nat.min s.size 4096) = s.data.toList := List.take_of_length_le (by rw [hs]; have : s.size = 4096 := hs; rw [this]; decide)
    rw [e]
    refine HStoreO.mk ⟨b1, 0, none⟩ rfl (store_blk o1 (by simp [hs]) bytesV_one ?_)
    intro h2 f2 z2 o2
    refine hk h2 ?_ (x1.offNew f2 (by omega))
    have e2 : (List.replicate 4096 (Value.int .u8 0)).drop (0 + (s.data.toList.map fun b => Value.int .u8 (b.toNat : Nat)).length) = [] := by
      apply List.drop_eq_nil_of_le; simp [hs]
    rw [e2] at o2
    rw [List.take_zero, List.nil_append, List.append_nil] at o2
    exact o2
  have copyZ : ∀ (K : Heap → Prop), K h1 → HStoreO h1 (some ⟨b1, 0, none⟩) ((((⟨#[]⟩ : ByteArray)).data.toList.take (Nat.min (⟨#[]⟩ : ByteArray).size 4096)).map fun b => Value.int .u8 (b.toNat : Nat)) K := by
    intro K k
    refine HStoreO.mk ⟨b1, 0, none⟩ rfl ?_
    exact store_nil k
  have oz : BlkW h1 b1 5 (zeroB.data.toList.map byteV) := by
    have : zeroB.data.toList.map byteV = List.replicate 4096 (.int .u8 0) := by
      unfold zeroB
      rw [show (⟨(List.replicate 4096 (0 : UInt8)).toArray⟩ : ByteArray).data.toList = List.replicate 4096 0 from by simp, ← rep_bytes]
    rw [this]; exact o1
  ((conv=>whnf);repeat((first|(with_reducible first|refine Z1 ?_|refine Z2 ?_|refine Z3 ?_|refine Z4 ?_|refine Z5 ?_|refine Z9 (by assumption) rfl ?_|refine ZA (by assumption) rfl ?_|refine ZB (by assumption) rfl ?_|refine Z6 ?_|refine Z7 ?_|refine Z8 ?_)|((with_reducible refine ZM ?_ ?_);(focus rfl)));(conv=>whnf)))
  refine MR.look y1.mw ?_
  rintro es clock f (⟨rfl, hw⟩ | ⟨j, s, rfl, hw⟩)
  · ((conv=>whnf);repeat((first|(with_reducible first|refine Z1 ?_|refine Z2 ?_|refine Z3 ?_|refine Z4 ?_|refine Z5 ?_|refine Z9 (by assumption) rfl ?_|refine ZA (by assumption) rfl ?_|refine ZB (by assumption) rfl ?_|refine Z6 ?_|refine Z7 ?_|refine Z8 ?_)|((with_reducible refine ZM ?_ ?_);(focus rfl)));(conv=>whnf)))
    refine MR.look y1.mf ?_
    rintro es' clock' f' (⟨rfl, hf⟩ | ⟨j, s, rfl, hf⟩)
    · have hs : d.sec n = zeroB := by unfold DK.sec; rw [hw, hf]; rfl
      ((conv=>whnf);repeat((first|(with_reducible first|refine Z1 ?_|refine Z2 ?_|refine Z3 ?_|refine Z4 ?_|refine Z5 ?_|refine Z9 (by assumption) rfl ?_|refine ZA (by assumption) rfl ?_|refine ZB (by assumption) rfl ?_|refine Z6 ?_|refine Z7 ?_|refine Z8 ?_)|((with_reducible refine ZM ?_ ?_);(focus rfl)));(conv=>whnf)))
      refine copyZ _ ?_
      ((conv=>whnf);repeat((first|(with_reducible first|refine Z1 ?_|refine Z2 ?_|refine Z3 ?_|refine Z4 ?_|refine Z5 ?_|refine Z9 (by assumption) rfl ?_|refine ZA (by assumption) rfl ?_|refine ZB (by assumption) rfl ?_|refine Z6 ?_|refine Z7 ?_|refine Z8 ?_)|((with_reducible refine ZM ?_ ?_);(focus rfl)));(conv=>whnf)))
      exact fin _ _ hs oz x1
    · have hs : d.sec n = s := by unfold DK.sec; rw [hw, hf]; rfl
      ((conv=>whnf);repeat((first|(with_reducible first|refine Z1 ?_|refine Z2 ?_|refine Z3 ?_|refine Z4 ?_|refine Z5 ?_|refine Z9 (by assumption) rfl ?_|refine ZA (by assumption) rfl ?_|refine ZB (by assumption) rfl ?_|refine Z6 ?_|refine Z7 ?_|refine Z8 ?_)|((with_reducible refine ZM ?_ ?_);(focus rfl)));(conv=>whnf)))
      refine copyS s _ (by rw [← hs]; exact hsl) ?_
      intro h2 ow xx
      ((conv=>whnf);repeat((first|(with_reducible first|refine Z1 ?_|refine Z2 ?_|refine Z3 ?_|refine Z4 ?_|refine Z5 ?_|refine Z9 (by assumption) rfl ?_|refine ZA (by assumption) rfl ?_|refine ZB (by assumption) rfl ?_|refine Z6 ?_|refine Z7 ?_|refine Z8 ?_)|((with_reducible refine ZM ?_ ?_);(focus rfl)));(conv=>whnf)))
      exact fin _ _ hs ow xx
  · have hs : d.sec n = s := by unfold DK.sec; rw [hw]
    ((conv=>whnf);repeat((first|(with_reducible first|refine Z1 ?_|refine Z2 ?_|refine Z3 ?_|refine Z4 ?_|refine Z5 ?_|refine Z9 (by assumption) rfl ?_|refine ZA (by assumption) rfl ?_|refine ZB (by assumption) rfl ?_|refine Z6 ?_|refine Z7 ?_|refine Z8 ?_)|((with_reducible refine ZM ?_ ?_);(focus rfl)));(conv=>whnf)))
    refine copyS s _ (by rw [← hs]; exact hsl) ?_
    intro h2 ow xx
    ((conv=>whnf);repeat((first|(with_reducible first|refine Z1 ?_|refine Z2 ?_|refine Z3 ?_|refine Z4 ?_|refine Z5 ?_|refine Z9 (by assumption) rfl ?_|refine ZA (by assumption) rfl ?_|refine ZB (by assumption) rfl ?_|refine Z6 ?_|refine Z7 ?_|refine Z8 ?_)|((with_reducible refine ZM ?_ ?_);(focus rfl)));(conv=>whnf)))
    exact fin _ _ hs ow xx

end Go.Proofs.Ytlbmhpjefpdekaa.Hc
