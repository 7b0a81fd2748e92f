/- The disk: what it has, and the program's functions. -/
import Derived.Test.YtlbmhpjefpdekaaX3
import Derived.Test.YtlbmhpjefpdekaaHL
set_option linter.unusedVariables false
set_option linter.unusedSimpArgs false
namespace Go.Proofs.Ytlbmhpjefpdekaa.Hc
open Go Go.H Go.Proofs
set_option maxRecDepth 100000
set_option maxHeartbeats 8000000

/-- All blocks but these are as they were. -/
def OffS (S : List Nat) (h h' : Heap) : Prop := h.size ≤ h'.size ∧ ∀ b, b < h.size → b ∉ S → h'[b]? = h[b]?
theorem OffS.refl (S : List Nat) (h : Heap) : OffS S h h := ⟨Nat.le_refl _, fun _ _ _ => rfl⟩
theorem OffS.trans {S : List Nat} {a b c : Heap} (x : OffS S a b) (y : OffS S b c) : OffS S a c := ⟨Nat.le_trans x.1 y.1, fun k hk hn => by rw [y.2 k (by have := x.1; omega) hn, x.2 k hk hn]⟩
theorem OffS.of_ext {S : List Nat} {h h' : Heap} (x : Ext h h') : OffS S h h' := ⟨x.1, fun k hk _ => x.2 k hk⟩
theorem OffS.of_off {S : List Nat} {k : Nat} {h h' : Heap} (x : Off k h h') (hk : k ∈ S) : OffS S h h' := ⟨x.1, fun b hb hn => x.2 b hb (fun e => hn (e ▸ hk))⟩
theorem OffS.mono {S T : List Nat} {h h' : Heap} (x : OffS S h h') (hs : ∀ b ∈ S, b ∈ T) : OffS T h h' := ⟨x.1, fun b hb hn => x.2 b hb (fun e => hn (hs b e))⟩
theorem BlkW.offS {S : List Nat} {h h' : Heap} {b e : Nat} {cs : List Value} (x : BlkW h b e cs) (o : OffS S h h') (hb : b ∉ S) : BlkW h' b e cs := x.of (o.2 _ x.lt hb)
theorem MR.offS {S : List Nat} {h h' : Heap} {r : Nat} {g : Nat → Option ByteArray} (x : MR h r g) (o : OffS S h h') (hb : r ∉ S) : MR h' r g := x.of (o.2 _ x.lt hb)
theorem OffS.ext {S : List Nat} {h0 h h' : Heap} (o : OffS S h h') (x : Ext h0 h) (hs : ∀ b ∈ S, h0.size ≤ b) : Ext h0 h' :=
  ⟨by have := x.1; have := o.1; omega, fun b hb => by rw [o.2 b (by have := x.1; omega) (fun hm => by have := hs b hm; omega), x.2 b hb]⟩

structure DK where
  many : Nat
  acts : Nat
  fuse : Int
  off : Bool
  firm : Nat → Option ByteArray
  waits : Nat → Option ByteArray
structure DK.Ok (d : DK) : Prop where
  m1 : 1 ≤ d.many
  m2 : d.many ≤ 2048
  f1 : -1 ≤ d.fuse
  f2 : d.fuse ≤ 9223372036854775807
  ac : d.acts ≤ 1000000
  wm : ∀ i s, d.waits i = some s → i < d.many ∧ s.size = 4096
  fm : ∀ i s, d.firm i = some s → i < d.many ∧ s.size = 4096
def DK.new (n : Nat) : DK := ⟨n, 0, -1, false, fun _ => none, fun _ => none⟩
def DK.refused (d : DK) (i : Int) : Int := if d.off then 160 else if i < 0 ∨ (d.many : Int) ≤ i then 4 else 0
def DK.act (d : DK) : Int × DK := if d.fuse = 0 then (160, { d with off := true }) else (0, { d with fuse := if 0 < d.fuse then d.fuse - 1 else d.fuse, acts := d.acts + 1 })
def zeroB : ByteArray := ⟨(List.replicate 4096 (0 : UInt8)).toArray⟩
def DK.sec (d : DK) (i : Nat) : ByteArray := match d.waits i with
  | some s => s
  | none => (d.firm i).getD zeroB
def DK.write (d : DK) (i : Int) (b : ByteArray) : Int × DK :=
  if d.refused i ≠ 0 then (d.refused i, d) else if b.size ≠ 4096 then (2, d) else
    if d.act.1 = 0 then (0, { d.act.2 with waits := setG d.act.2.waits i.toNat b }) else d.act
def DK.flush (d : DK) : Int × DK :=
  if d.off then (160, d) else if d.act.1 = 0 then (0, { d.act.2 with firm := mergeG d.act.2.firm d.act.2.waits, waits := fun _ => none }) else d.act
def bitAt (mask : List UInt8) (n : Nat) : Bool := match mask[n]? with
  | some c => c.toNat % 2 == 1
  | none => false
def cutG (w f : Nat → Option ByteArray) (ks : List Nat) (mask : List UInt8) : Nat → Nat → Option ByteArray
  | 0 => f
  | i + 1 => match ks[i]? with
    | some k => if bitAt mask i = true then (fun j => if j = k then w k else cutG w f ks mask i j) else cutG w f ks mask i
    | none => cutG w f ks mask i
def DK.cut (d : DK) (mask : List UInt8) : DK := { d with firm := cutG d.waits d.firm (keysOf d.waits) mask (keysOf d.waits).length, waits := fun _ => none, off := true, fuse := -1 }
def DK.on (d : DK) : DK := if d.off then { d.cut [] with off := false } else d
def DK.fused (d : DK) (n : Int) : DK := { d with fuse := if -1 > n then -1 else n }

theorem DK.act_ok {d : DK} (k : d.Ok) (ha : d.acts ≤ 999999) : d.act.2.Ok := by
  unfold DK.act
  split
  · exact ⟨k.m1, k.m2, k.f1, k.f2, k.ac, k.wm, k.fm⟩
  · refine ⟨k.m1, k.m2, ?_, ?_, by show d.acts + 1 ≤ _; omega, k.wm, k.fm⟩
    · show -1 ≤ (if 0 < d.fuse then d.fuse - 1 else d.fuse)
      have := k.f1; split <;> omega
    · show (if 0 < d.fuse then d.fuse - 1 else d.fuse) ≤ _
      have := k.f2; split <;> omega
theorem cutG_some {w f : Nat → Option ByteArray} {ks : List Nat} {mask : List UInt8} {P : Nat → ByteArray → Prop} (hw : ∀ i s, w i = some s → P i s) (hf : ∀ i s, f i = some s → P i s) : ∀ n i s, cutG w f ks mask n i = some s → P i s
  | 0, i, s, h => hf i s h
  | n + 1, i, s, h => by
    unfold cutG at h
    cases hk : ks[n]? with
    | none => rw [hk] at h; exact cutG_some hw hf n i s h
    | some k =>
      rw [hk] at h
      dsimp only at h
      by_cases hb : bitAt mask n = true
      · rw [if_pos hb] at h
        by_cases e : i = k
        · subst e; rw [if_pos rfl] at h; exact hw _ _ h
        · rw [if_neg e] at h; exact cutG_some hw hf n i s h
      · rw [if_neg hb] at h; exact cutG_some hw hf n i s h
theorem DK.cut_ok {d : DK} (k : d.Ok) (mask : List UInt8) : (d.cut mask).Ok :=
  ⟨k.m1, k.m2, by show (-1 : Int) ≤ -1; omega, by show (-1 : Int) ≤ _; omega, k.ac, (by intro i s h; cases h), fun i s h => cutG_some (P := fun i s => i < d.many ∧ s.size = 4096) k.wm k.fm _ i s h⟩
theorem DK.on_ok {d : DK} (k : d.Ok) : d.on.Ok := by
  unfold DK.on
  split
  · have c := DK.cut_ok k []
    exact ⟨c.m1, c.m2, c.f1, c.f2, c.ac, c.wm, c.fm⟩
  · exact k

/-- Block b holds a disk; its maps are blocks rf and rw. -/
structure DR (h : Heap) (b rf rw : Nat) (d : DK) : Prop where
  ok : d.Ok
  o : BlkW h b 57 [.int .i64 d.many, .int .i64 d.acts, .int .i64 d.fuse, .map (some rf), .map (some rw), .bool d.off]
  mf : MR h rf d.firm
  mw : MR h rw d.waits
  ne : rf ≠ rw
theorem BlkW.ne_map {h : Heap} {b e r : Nat} {cs : List Value} {g : Nat → Option ByteArray} (x : BlkW h b e cs) (y : MR h r g) : b ≠ r := by
  rintro rfl
  obtain ⟨fz, e1, _⟩ := x
  obtain ⟨es, clock, e2, _⟩ := y
  rw [e1] at e2; cases e2
theorem DR.nf {h : Heap} {b rf rw : Nat} {d : DK} (x : DR h b rf rw d) : b ≠ rf := BlkW.ne_map x.o x.mf
theorem DR.nw {h : Heap} {b rf rw : Nat} {d : DK} (x : DR h b rf rw d) : b ≠ rw := BlkW.ne_map x.o x.mw
theorem DR.ext {h h' : Heap} {b rf rw : Nat} {d : DK} (x : DR h b rf rw d) (k : Ext h h') : DR h' b rf rw d := ⟨x.ok, x.o.ext k, x.mf.ext k, x.mw.ext k, x.ne⟩
theorem DR.offS {S : List Nat} {h h' : Heap} {b rf rw : Nat} {d : DK} (x : DR h b rf rw d) (k : OffS S h h') (h1 : b ∉ S) (h2 : rf ∉ S) (h3 : rw ∉ S) : DR h' b rf rw d := ⟨x.ok, BlkW.offS x.o k h1, x.mf.offS k h2, x.mw.offS k h3, x.ne⟩
theorem DR.lt {h : Heap} {b rf rw : Nat} {d : DK} (x : DR h b rf rw d) : b < h.size ∧ rf < h.size ∧ rw < h.size := ⟨x.o.lt, x.mf.lt, x.mw.lt⟩

theorem refused_spec {h : Heap} {b rf rw : Nat} {d : DK} (x : DR h b rf rw d) (i : Int) : HCalls Try.prog 36 #[.pointer (some ⟨b, 0, none⟩), .int .i64 i] h fun e h' => e = .returned (.int .i64 (d.refused i)) ∧ h' = h := by
  have o := x.o
  refine c36 (by simp) ?_
  unfold DK.refused
  cases hoff : d.off
  · rw [hoff] at o
    by_cases h1 : i < 0
    · have q : decide (i < 0) = true := decide_eq_true h1
      ((conv=>whnf);repeat((first|(with_reducible first|refine Z1 ?_|refine Z2 ?_|refine Z3 ?_|refine Z4 ?_|refine Z5 ?_|refine Z9 (by assumption) rfl ?_|refine ZA (by assumption) rfl ?_|refine ZB (by assumption) rfl ?_|refine Z6 ?_|refine Z7 ?_|refine Z8 ?_)|((with_reducible refine ZM ?_ ?_);(focus rfl)));(conv=>whnf)))
      rw [if_neg (by simp), if_pos (.inl h1)]
      exact ⟨rfl, rfl⟩
    · have q : decide (i < 0) = false := decide_eq_false h1
      by_cases h2 : (d.many : Int) ≤ i
      · have q2 : decide (i ≥ (d.many : Int)) = true := decide_eq_true h2
        ((conv=>whnf);repeat((first|(with_reducible first|refine Z1 ?_|refine Z2 ?_|refine Z3 ?_|refine Z4 ?_|refine Z5 ?_|refine Z9 (by assumption) rfl ?_|refine ZA (by assumption) rfl ?_|refine ZB (by assumption) rfl ?_|refine Z6 ?_|refine Z7 ?_|refine Z8 ?_)|((with_reducible refine ZM ?_ ?_);(focus rfl)));(conv=>whnf)))
        rw [if_neg (by simp), if_pos (.inr h2)]
        exact ⟨rfl, rfl⟩
      · have q2 : decide (i ≥ (d.many : Int)) = false := decide_eq_false h2
        ((conv=>whnf);repeat((first|(with_reducible first|refine Z1 ?_|refine Z2 ?_|refine Z3 ?_|refine Z4 ?_|refine Z5 ?_|refine Z9 (by assumption) rfl ?_|refine ZA (by assumption) rfl ?_|refine ZB (by assumption) rfl ?_|refine Z6 ?_|refine Z7 ?_|refine Z8 ?_)|((with_reducible refine ZM ?_ ?_);(focus rfl)));(conv=>whnf)))
        rw [if_neg (by simp), if_neg (by omega)]
        exact ⟨rfl, rfl⟩
  · rw [hoff] at o
    ((conv=>whnf);repeat((first|(with_reducible first|refine Z1 ?_|refine Z2 ?_|refine Z3 ?_|refine Z4 ?_|refine Z5 ?_|refine Z9 (by assumption) rfl ?_|refine ZA (by assumption) rfl ?_|refine ZB (by assumption) rfl ?_|refine Z6 ?_|refine Z7 ?_|refine Z8 ?_)|((with_reducible refine ZM ?_ ?_);(focus rfl)));(conv=>whnf)))
    rw [if_pos rfl]
    exact ⟨rfl, rfl⟩
theorem act_spec {h : Heap} {b rf rw : Nat} {d : DK} (x : DR h b rf rw d) (ha : d.acts ≤ 999999) : HCalls Try.prog 37 #[.pointer (some ⟨b, 0, none⟩)] h fun e h' => e = .returned (.int .i64 d.act.1) ∧ DR h' b rf rw d.act.2 ∧ OffS [b, rf, rw] h h' := by
  have o := x.o
  have k := DK.act_ok x.ok ha
  have hk := x.ok
  have k1 := hk.f1
  have k2 := hk.f2
  have nf := x.nf
  have nw := x.nw
  refine c37 (by simp) ?_
  unfold DK.act at k ⊢
  by_cases h0 : d.fuse = 0
  · have q : (d.fuse == 0) = true := beq_iff_eq.2 h0
    rw [if_pos h0] at k ⊢
    ((conv=>whnf);repeat((first|(with_reducible first|refine Z1 ?_|refine Z2 ?_|refine Z3 ?_|refine Z4 ?_|refine Z5 ?_|refine Z9 (by assumption) rfl ?_|refine ZA (by assumption) rfl ?_|refine ZB (by assumption) rfl ?_|refine Z6 ?_|refine Z7 ?_|refine Z8 ?_)|((with_reducible refine ZM ?_ ?_);(focus rfl)));(conv=>whnf)))
    refine blk_st (o := 5) o (by simp) rfl ?_
    intro h' f z o'
    ((conv=>whnf);repeat((first|(with_reducible first|refine Z1 ?_|refine Z2 ?_|refine Z3 ?_|refine Z4 ?_|refine Z5 ?_|refine Z9 (by assumption) rfl ?_|refine ZA (by assumption) rfl ?_|refine ZB (by assumption) rfl ?_|refine Z6 ?_|refine Z7 ?_|refine Z8 ?_)|((with_reducible refine ZM ?_ ?_);(focus rfl)));(conv=>whnf)))
    exact ⟨rfl, ⟨k, o', x.mf.offk f (Ne.symm nf), x.mw.offk f (Ne.symm nw), x.ne⟩, OffS.of_off f (by simp)⟩
  · have q : (d.fuse == 0) = false := beq_eq_false_iff_ne.2 h0
    rw [if_neg h0] at k ⊢
    by_cases h1 : 0 < d.fuse
    · have q1 : decide (d.fuse > 0) = true := decide_eq_true h1
      simp only [if_pos h1] at k ⊢
      ((conv=>whnf);repeat((first|(with_reducible first|refine Z1 ?_|refine Z2 ?_|refine Z3 ?_|refine Z4 ?_|refine Z5 ?_|refine Z9 (by assumption) rfl ?_|refine ZA (by assumption) rfl ?_|refine ZB (by assumption) rfl ?_|refine Z6 ?_|refine Z7 ?_|refine Z8 ?_)|((with_reducible refine ZM ?_ ?_);(focus rfl)));(conv=>whnf)))
      refine blk_st (o := 2) o (by simp) rfl ?_
      intro h1 f1 z1 o1
      ((conv=>whnf);repeat((first|(with_reducible first|refine Z1 ?_|refine Z2 ?_|refine Z3 ?_|refine Z4 ?_|refine Z5 ?_|refine Z9 (by assumption) rfl ?_|refine ZA (by assumption) rfl ?_|refine ZB (by assumption) rfl ?_|refine Z6 ?_|refine Z7 ?_|refine Z8 ?_)|((with_reducible refine ZM ?_ ?_);(focus rfl)));(conv=>whnf)))
      refine blk_st (o := 1) o1 (by simp) rfl ?_
      intro h2 f2 z2 o2
      ((conv=>whnf);repeat((first|(with_reducible first|refine Z1 ?_|refine Z2 ?_|refine Z3 ?_|refine Z4 ?_|refine Z5 ?_|refine Z9 (by assumption) rfl ?_|refine ZA (by assumption) rfl ?_|refine ZB (by assumption) rfl ?_|refine Z6 ?_|refine Z7 ?_|refine Z8 ?_)|((with_reducible refine ZM ?_ ?_);(focus rfl)));(conv=>whnf)))
      refine ⟨rfl, ⟨k, o2, x.mf.offk (f1.trans f2) (Ne.symm nf), x.mw.offk (f1.trans f2) (Ne.symm nw), x.ne⟩, OffS.of_off (f1.trans f2) (by simp)⟩
    · have q1 : decide (d.fuse > 0) = false := decide_eq_false h1
      simp only [if_neg h1] at k ⊢
      ((conv=>whnf);repeat((first|(with_reducible first|refine Z1 ?_|refine Z2 ?_|refine Z3 ?_|refine Z4 ?_|refine Z5 ?_|refine Z9 (by assumption) rfl ?_|refine ZA (by assumption) rfl ?_|refine ZB (by assumption) rfl ?_|refine Z6 ?_|refine Z7 ?_|refine Z8 ?_)|((with_reducible refine ZM ?_ ?_);(focus rfl)));(conv=>whnf)))
      refine blk_st (o := 1) o (by simp) rfl ?_
      intro h2 f2 z2 o2
      ((conv=>whnf);repeat((first|(with_reducible first|refine Z1 ?_|refine Z2 ?_|refine Z3 ?_|refine Z4 ?_|refine Z5 ?_|refine Z9 (by assumption) rfl ?_|refine ZA (by assumption) rfl ?_|refine ZB (by assumption) rfl ?_|refine Z6 ?_|refine Z7 ?_|refine Z8 ?_)|((with_reducible refine ZM ?_ ?_);(focus rfl)));(conv=>whnf)))
      refine ⟨rfl, ⟨k, o2, x.mf.offk f2 (Ne.symm nf), x.mw.offk f2 (Ne.symm nw), x.ne⟩, OffS.of_off f2 (by simp)⟩

end Go.Proofs.Ytlbmhpjefpdekaa.Hc
