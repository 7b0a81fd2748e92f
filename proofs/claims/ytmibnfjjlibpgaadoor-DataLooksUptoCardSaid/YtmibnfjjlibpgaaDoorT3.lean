/- A builder within a writer: WriteString, lay, String. -/
import Derived.Test.YtmibnfjjlibpgaaDoorT2
set_option linter.unusedVariables false
set_option linter.unusedSimpArgs false
namespace Go.Proofs.YtmibnfjjlibpgaaDoor.Hc
open Go Go.H Go.Proofs
set_option maxRecDepth 100000
set_option maxHeartbeats 4000000

/-- What a builder in block b, whose buffer is a, leaves alone. -/
def GB (b : Nat) (h : Heap) (a : Option Addr) (h' : Heap) (a' : Option Addr) : Prop :=
  h.size ≤ h'.size ∧ (∀ x, x < h.size → x ≠ b → (∀ p, a = some p → p.block ≠ x) → h'[x]? = h[x]?) ∧ (∀ p', a' = some p' → (∃ p, a = some p ∧ p'.block = p.block) ∨ h.size ≤ p'.block)
theorem GB.refl (b : Nat) (h : Heap) (a : Option Addr) : GB b h a h a := ⟨Nat.le_refl _, fun _ _ _ _ => rfl, fun p ep => .inl ⟨p, ep, rfl⟩⟩
theorem GB.of_ext {b : Nat} {h h' : Heap} (x : Ext h h') (a : Option Addr) : GB b h a h' a := ⟨x.1, fun c hc _ _ => x.2 c hc, fun p ep => .inl ⟨p, ep, rfl⟩⟩
theorem GB.of_off {b : Nat} {h h' : Heap} (x : Off b h h') (a : Option Addr) : GB b h a h' a := ⟨x.1, fun c hc hne _ => x.2 c hc hne, fun p ep => .inl ⟨p, ep, rfl⟩⟩
theorem GB.of_grew {b : Nat} {h h' : Heap} {a a' : Option Addr} (x : Grew h a h' a') : GB b h a h' a' := ⟨x.1, fun c hc _ hn => x.2.1 c hc hn, x.2.2⟩
theorem GB.trans {b : Nat} {h h1 h2 : Heap} {a a1 a2 : Option Addr} (x : GB b h a h1 a1) (y : GB b h1 a1 h2 a2) : GB b h a h2 a2 := by
  refine ⟨Nat.le_trans x.1 y.1, fun c hc hb hne => ?_, fun p ep => ?_⟩
  · rw [y.2.1 c (by have := x.1; omega) hb, x.2.1 c hc hb hne]
    intro p ep
    rcases x.2.2 p ep with ⟨q, eq, hq⟩ | hq
    · have := hne q eq; omega
    · omega
  · rcases y.2.2 p ep with ⟨q, eq, hq⟩ | hq
    · rcases x.2.2 q eq with ⟨r, er, hr⟩ | hr
      · exact .inl ⟨r, er, by omega⟩
      · exact .inr (by omega)
    · exact .inr (by have := x.1; omega)
theorem GB.blk {b : Nat} {h h1 : Heap} {a a1 : Option Addr} {k e : Nat} {cs : List Value} (x : GB b h a h1 a1) (o : BlkW h k e cs) (hk : k ≠ b) (hne : ∀ p, a = some p → p.block ≠ k) : BlkW h1 k e cs := o.of (x.2.1 k o.lt hk hne)
/-- Block b holds a writer whose builder has these bytes; its buffer is a. -/
def Bld (h : Heap) (b : Nat) (a : Option Addr) (bs : List UInt8) : Prop :=
  ∃ (p : Option Addr) (c : Nat), (p = none ∨ p = some ⟨b, 0, none⟩) ∧ BlkW h b 49 [.pointer p, .slice a bs.length c] ∧ Own h (b + 1) 5 1 a bs.length c (bs.map byteV)
theorem Bld.lt {h : Heap} {b : Nat} {a : Option Addr} {bs : List UInt8} (x : Bld h b a bs) : ∀ p, a = some p → b < p.block ∧ p.block < h.size := by
  obtain ⟨_, _, _, _, o⟩ := x
  intro p ep
  have := o.lt p ep
  omega
theorem Bld.blt {h : Heap} {b : Nat} {a : Option Addr} {bs : List UInt8} (x : Bld h b a bs) : b < h.size := by
  obtain ⟨_, _, _, o, _⟩ := x
  exact o.lt
theorem Bld.ext {h h' : Heap} {b : Nat} {a : Option Addr} {bs : List UInt8} (x : Bld h b a bs) (k : Ext h h') : Bld h' b a bs := by
  obtain ⟨p, c, hp, o, w⟩ := x
  exact ⟨p, c, hp, o.ext k, w.ext k⟩
theorem GB.keep {b : Nat} {h0 h h1 : Heap} {a a1 : Option Addr} {bs : List UInt8} (x : GB b h a h1 a1) (e : Ext h0 h) (w : Bld h b a bs) (hb : h0.size ≤ b) : Ext h0 h1 :=
  ⟨by have := e.1; have := x.1; omega, fun k hk => by rw [x.2.1 k (by have := e.1; omega) (by omega) (fun p ep => by have := w.lt p ep; omega), e.2 k hk]⟩

theorem copyCheck_spec {h : Heap} {b e : Nat} {p : Option Addr} {v : Value} (x : BlkW h b e [.pointer p, v]) (hp : p = none ∨ p = some ⟨b, 0, none⟩) (hl : liesAt Tryd.prog Tryd.prog.depth e (2 / Tryd.prog.cellsOf e) 0 47 1 = true) :
    HCalls Tryd.prog 53 #[.pointer (some ⟨b, 0, none⟩)] h fun e' h' => e' = .returned (.tuple #[]) ∧ Off b h h' ∧ h'.size = h.size ∧ BlkW h' b e [.pointer (some ⟨b, 0, none⟩), v] := by
  rcases hp with rfl | rfl
  · exact copyCheck_fresh x hl fun h' f z o => ⟨rfl, f, z, o⟩
  · refine (copyCheck_used x).mono ?_
    rintro e' h' ⟨rfl, rfl⟩
    exact ⟨rfl, (Ext.refl _).off, rfl, x⟩
theorem wstr_spec {h : Heap} {b : Nat} {a : Option Addr} {bs : List UInt8} (w : Bld h b a bs) (s : List UInt8) (hs : bs.length + s.length ≤ 140737488355328) :
    HCalls Tryd.prog 47 #[.pointer (some ⟨b, 0, none⟩), .string ⟨s.toArray⟩] h fun e h' => e = .returned (.tuple #[.int .i64 s.length, .nilIface]) ∧ ∃ a', Bld h' b a' (bs ++ s) ∧ GB b h a h' a' := by
  have hlt := w.lt
  have hbl := w.blt
  obtain ⟨p, c, hp, o, own⟩ := w
  refine c47 (by simp) ?_
  ((conv=>whnf);repeat((first|(with_reducible first|refine Z2 ?_|refine Z3 ?_|refine Z4 ?_|refine Z5 ?_|refine Z9 (by assumption) rfl ?_|refine ZA (by assumption) rfl ?_|refine ZB (by assumption) rfl ?_|refine Z6 ?_|refine Z7 ?_|refine Z8 ?_)|((with_reducible refine ZM ?_ ?_);(focus rfl)));(conv=>whnf)))
  refine HCall.mk ((copyCheck_spec o hp lies_w).mono ?_)
  rintro e h1 ⟨rfl, f1, z1, o1⟩
  have own1 := own.off f1 (fun p ep => by have := hlt p ep; omega)
  ((conv=>whnf);repeat((first|(with_reducible first|refine Z2 ?_|refine Z3 ?_|refine Z4 ?_|refine Z5 ?_|refine Z9 (by assumption) rfl ?_|refine ZA (by assumption) rfl ?_|refine ZB (by assumption) rfl ?_|refine Z6 ?_|refine Z7 ?_|refine Z8 ?_)|((with_reducible refine ZM ?_ ?_);(focus rfl)));(conv=>whnf)))
  refine Own.bytes (more := s) own1 (by omega) hs ?_
  intro h2 a2 c2 own2 g2
  have o2 := g2.blk o1 (fun p ep => by have := hlt p ep; omega)
  have hlt2 := own2.lt
  ((conv=>whnf);repeat((first|(with_reducible first|refine Z2 ?_|refine Z3 ?_|refine Z4 ?_|refine Z5 ?_|refine Z9 (by assumption) rfl ?_|refine ZA (by assumption) rfl ?_|refine ZB (by assumption) rfl ?_|refine Z6 ?_|refine Z7 ?_|refine Z8 ?_)|((with_reducible refine ZM ?_ ?_);(focus rfl)));(conv=>whnf)))
  refine blk_st (o := 1) o2 (by simp) rfl ?_
  intro h3 f3 z3 o3
  ((conv=>whnf);repeat((first|(with_reducible first|refine Z1 ?_|refine Z2 ?_|refine Z3 ?_|refine Z4 ?_|refine Z5 ?_|refine Z9 (by assumption) rfl ?_|refine ZA (by assumption) rfl ?_|refine ZB (by assumption) rfl ?_|refine Z6 ?_|refine Z7 ?_|refine Z8 ?_)|((with_reducible refine ZM ?_ ?_);(focus rfl)));(conv=>whnf)))
  refine ⟨rfl, a2, ⟨_, c2, .inr rfl, o3, own2.off f3 (fun p ep => by have := hlt2 p ep; omega)⟩, ?_⟩
  exact ((GB.of_off f1 a).trans (GB.of_grew g2)).trans (GB.of_off f3 a2)
/-- Pieces, laid down. -/
theorem lay_spec {h : Heap} {b k n e : Nat} {a : Option Addr} {bs : List UInt8} (w : Bld h b a bs) (xs : List (List UInt8)) (o : BlkW h k e (xs.map fun x => Value.string ⟨x.toArray⟩)) (hk : k ≠ b) (hka : ∀ p, a = some p → p.block ≠ k) (hn : n = xs.length) (hxn : xs.length ≤ 1000)
    (hs : bs.length + xs.flatten.length ≤ 140737488355328) :
    HCalls Tryd.prog 39 #[.pointer (some ⟨b, 0, none⟩), .slice (some ⟨k, 0, none⟩) n n] h fun e h' => e = .returned (.tuple #[]) ∧ ∃ a', Bld h' b a' (bs ++ xs.flatten) ∧ GB b h a h' a' := by
  subst hn
  refine c39 (by simp) ?_
  ((conv=>whnf);repeat((first|(with_reducible first|refine Z1 ?_|refine Z2 ?_|refine Z3 ?_|refine Z4 ?_|refine Z5 ?_|refine Z9 (by assumption) rfl ?_|refine ZA (by assumption) rfl ?_|refine ZB (by assumption) rfl ?_|refine Z6 ?_|refine Z7 ?_|refine Z8 ?_)|((with_reducible refine ZM ?_ ?_);(focus rfl)));(conv=>whnf)))
  refine loop_rule [8] (fun vs h' => ∃ (i : Nat) (a' : Option Addr), vs = [.int .i64 i] ∧ i ≤ xs.length ∧ Bld h' b a' (bs ++ (xs.take i).flatten) ∧ GB b h a h' a')
    (fun vs _ => match vs with | [.int _ i] => xs.length - i.toNat | _ => 0) rfl ?_ ?_
  · exact ⟨0, a, rfl, by omega, by simpa using w, GB.refl _ _ _⟩
  intro u h2 v8
  rintro ⟨i, a2, e, hi, w2, g2⟩
  cases e
  ((conv=>whnf);repeat((first|(with_reducible first|refine Z1 ?_|refine Z2 ?_|refine Z3 ?_|refine Z4 ?_|refine Z5 ?_|refine Z9 (by assumption) rfl ?_|refine ZA (by assumption) rfl ?_|refine ZB (by assumption) rfl ?_|refine Z6 ?_|refine Z7 ?_|refine Z8 ?_)|((with_reducible refine ZM ?_ ?_);(focus rfl)));(conv=>whnf)))
  refine HIf.mk (fun hlt => ?_) (fun hlt => ?_)
  · have hi1 : i < xs.length := by have := of_decide_eq_true hlt; omega
    have hmu : xs.length - ((i : Int) + 1).toNat < xs.length - ((i : Int)).toNat := by omega
    have htk : xs.take (i + 1) = xs.take i ++ [xs[i]] := by rw [List.take_add_one, List.getElem?_eq_getElem hi1]; rfl
    have hft : (xs.take i).flatten.length + xs[i].length ≤ xs.flatten.length := by
      have e1 : xs = xs.take (i + 1) ++ xs.drop (i + 1) := (List.take_append_drop _ _).symm
      have e2 := congrArg (fun l => (List.flatten l).length) e1
      simp only [List.flatten_append, List.length_append, htk, List.flatten_cons, List.flatten_nil, List.append_nil] at e2
      omega
    have o2 := g2.blk o hk hka
    have s2 := o2.sl
    ((conv=>whnf);repeat((first|(with_reducible first|refine Z1 ?_|refine Z2 ?_|refine Z3 ?_|refine Z4 ?_|refine Z5 ?_|refine Z9 (by assumption) rfl ?_|refine ZA (by assumption) rfl ?_|refine ZB (by assumption) rfl ?_|refine Z6 ?_|refine Z7 ?_|refine Z8 ?_)|((with_reducible refine ZM ?_ ?_);(focus rfl)));(conv=>whnf)))
    refine HIdx.mk i rfl hi1 ?_
    refine sl_some s2 (by simpa using hi1) fun p ep => ?_
    cases ep
    ((conv=>whnf);repeat((first|(with_reducible first|refine Z1 ?_|refine Z2 ?_|refine Z3 ?_|refine Z4 ?_|refine Z5 ?_|refine Z9 (by assumption) rfl ?_|refine ZA (by assumption) rfl ?_|refine ZB (by assumption) rfl ?_|refine Z6 ?_|refine Z7 ?_|refine Z8 ?_)|((with_reducible refine ZM ?_ ?_);(focus rfl)));(conv=>whnf)))
    refine s2.load rfl (by simpa using hi1) ?_
    rw [List.getElem_map]
    ((conv=>whnf);repeat((first|(with_reducible first|refine Z1 ?_|refine Z2 ?_|refine Z3 ?_|refine Z4 ?_|refine Z5 ?_|refine Z9 (by assumption) rfl ?_|refine ZA (by assumption) rfl ?_|refine ZB (by assumption) rfl ?_|refine Z6 ?_|refine Z7 ?_|refine Z8 ?_)|((with_reducible refine ZM ?_ ?_);(focus rfl)));(conv=>whnf)))
    refine HCall.to #[.pointer (some ⟨b, 0, none⟩), .string ⟨xs[i].toArray⟩] rfl ((wstr_spec w2 xs[i] (by rw [List.length_append]; omega)).mono ?_)
    rintro e h3 ⟨rfl, a3, w3, g3⟩
    ((conv=>whnf);repeat((first|(with_reducible first|refine Z1 ?_|refine Z2 ?_|refine Z3 ?_|refine Z4 ?_|refine Z5 ?_|refine Z9 (by assumption) rfl ?_|refine ZA (by assumption) rfl ?_|refine ZB (by assumption) rfl ?_|refine Z6 ?_|refine Z7 ?_|refine Z8 ?_)|((with_reducible refine ZM ?_ ?_);(focus rfl)));(conv=>whnf)))
    refine ⟨⟨i + 1, a3, rfl, by omega, ?_, g2.trans g3⟩, hmu⟩
    rw [htk, List.flatten_append, ← List.append_assoc]
    simpa using w3
  · have hge := of_decide_eq_false hlt
    obtain rfl : i = xs.length := by omega
    rw [List.take_length] at w2
    ((conv=>whnf);repeat((first|(with_reducible first|refine Z1 ?_|refine Z2 ?_|refine Z3 ?_|refine Z4 ?_|refine Z5 ?_|refine Z9 (by assumption) rfl ?_|refine ZA (by assumption) rfl ?_|refine ZB (by assumption) rfl ?_|refine Z6 ?_|refine Z7 ?_|refine Z8 ?_)|((with_reducible refine ZM ?_ ?_);(focus rfl)));(conv=>whnf)))
    exact ⟨rfl, a2, w2, g2⟩
/-- What the builder holds, as a text. -/
theorem string_spec {h : Heap} {b : Nat} {a : Option Addr} {bs : List UInt8} (w : Bld h b a bs) (h0 : bs ≠ []) (hs : bs.length ≤ 140737488355328) :
    HCalls Tryd.prog 32 #[.pointer (some ⟨b, 0, none⟩)] h fun e h' => e = .returned (.string ⟨bs.toArray⟩) ∧ ∀ p, a = some p → Off p.block h h' := by
  obtain ⟨p, c, hp, o, own⟩ := w
  refine c32 (by simp) ?_
  have hl0 : 0 < bs.length := List.length_pos_iff.2 h0
  have hc : bs.length ≤ c := own.2.1
  cases a with
  | none => have := own.2.2.1 rfl; omega
  | some q =>
    obtain ⟨k, spare, rfl, hk, hsp, ob⟩ := own.2.2.2 q rfl
    have hc0 : c ≠ 0 := by omega
    have hsh : hshape h k = some (5, (bs.map byteV ++ spare).length) := by
      obtain ⟨fz, ee, ha⟩ := ob
      unfold hshape; rw [ee]; simp
    have fin : ∀ R : Ending → Heap → Prop, (∀ h', Off k h h' → R (.returned (.string ⟨bs.toArray⟩)) h') → R (.returned (.string ⟨bs.toArray⟩)) (hfreeze h ⟨k, 0, none⟩ bs.length) := by
      intro R hR
      refine hR _ ?_
      unfold hfreeze
      rw [if_neg (by omega)]
      exact ⟨by simp, fun x hx hne => by rw [Array.getElem?_modify, if_neg (by simpa using fun e => hne e.symm)]⟩
    have hr : ∀ i, i < (⟨bs.toArray⟩ : ByteArray).size → hcell h ((⟨k, 0, none⟩ : Addr).add i) = some (.int .u8 ((⟨bs.toArray⟩ : ByteArray).data[i]!.toNat : Nat)) := by
      intro i hi
      have hi' : i < bs.length := hi
      rw [add_mk, Nat.zero_add, ob.blk.cell, List.getElem?_append_left (by simpa using hi'), List.getElem?_map, List.getElem?_eq_getElem hi', idx_txt bs hi']
      rfl
    ((conv=>whnf);repeat((first|(with_reducible first|refine Z1 ?_|refine Z2 ?_|refine Z3 ?_|refine Z4 ?_|refine Z5 ?_|refine Z9 (by assumption) rfl ?_|refine ZA (by assumption) rfl ?_|refine ZB (by assumption) rfl ?_|refine Z6 ?_|refine Z7 ?_|refine Z8 ?_)|((with_reducible refine ZM ?_ ?_);(focus rfl)));(conv=>whnf)))
    refine HAlt.mk ?_ ?_
    all_goals
      ((conv=>whnf);repeat((first|(with_reducible first|refine Z1 ?_|refine Z2 ?_|refine Z3 ?_|refine Z4 ?_|refine Z5 ?_|refine Z9 (by assumption) rfl ?_|refine ZA (by assumption) rfl ?_|refine ZB (by assumption) rfl ?_|refine Z6 ?_|refine Z7 ?_|refine Z8 ?_)|((with_reducible refine ZM ?_ ?_);(focus rfl)));(conv=>whnf)))
      refine HMust.mk hc0 ?_
      ((conv=>whnf);repeat((first|(with_reducible first|refine Z1 ?_|refine Z2 ?_|refine Z3 ?_|refine Z4 ?_|refine Z5 ?_|refine Z9 (by assumption) rfl ?_|refine ZA (by assumption) rfl ?_|refine ZB (by assumption) rfl ?_|refine Z6 ?_|refine Z7 ?_|refine Z8 ?_)|((with_reducible refine ZM ?_ ?_);(focus rfl)));(conv=>whnf)))
      refine HUStr.mk ⟨bs.toArray⟩ (bs.map byteV ++ spare).length rfl hl0 (by show bs.length ≤ _; omega) rfl hsh (by show bs.length ≤ _; simp) (by kernel_rfl) hr ?_
      ((conv=>whnf);repeat((first|(with_reducible first|refine Z1 ?_|refine Z2 ?_|refine Z3 ?_|refine Z4 ?_|refine Z5 ?_|refine Z9 (by assumption) rfl ?_|refine ZA (by assumption) rfl ?_|refine ZB (by assumption) rfl ?_|refine Z6 ?_|refine Z7 ?_|refine Z8 ?_)|((with_reducible refine ZM ?_ ?_);(focus rfl)));(conv=>whnf)))
      refine fin (fun e h' => e = .returned (.string ⟨bs.toArray⟩) ∧ ∀ p, some (⟨k, 0, none⟩ : Addr) = some p → Off p.block h h') ?_
      intro h' f
      refine ⟨rfl, fun p ep => ?_⟩
      cases ep
      exact f
end Go.Proofs.YtmibnfjjlibpgaaDoor.Hc
