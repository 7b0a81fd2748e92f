import Derived.Test.YthagjflkdoafmaaNA
set_option linter.unusedVariables false
set_option linter.unusedSimpArgs false
namespace Go.Proofs.Ythagjflkdoafmaa.Hc
open Go Go.H Go.Proofs
set_option maxRecDepth 100000
set_option maxHeartbeats 4000000

theorem store_new {h : Heap} {b e : Nat} {zs vs : List Value} {K : Heap → Prop} (x : BlkW h b e zs) (hl : vs.length = zs.length) (one : ∀ v ∈ vs, isOne v = true)
    (k : ∀ h', Off b h h' → h'.size = h.size → BlkW h' b e vs → K h') : HStore h ⟨b, 0, none⟩ vs K := by
  refine store_blk x (by omega) one fun h' f z y => k h' f z ?_
  rw [List.take_zero, Nat.zero_add, hl, List.drop_length, List.append_nil, List.nil_append] at y
  exact y
theorem hcd_to {P : Program} {f : FuncId} {args args' : Array Value} {u : FrameMode} {h : Heap} {R R' : Ending → FrameMode → Heap → Prop} (e : args = args') (c : HCallsD P f args' u h R) (hr : ∀ e u' h', R e u' h' → R' e u' h') : HDeferred P f args u h R' := by
  subst e
  exact ⟨fun w hw => (c w hw).mono fun e u' w' r => ⟨r.1, hr _ _ _ r.2⟩⟩
def zeroN : List Value := [.slice none 0 0, .slice none 0 0, .slice none 0 0]
theorem zeroN_one : ∀ v ∈ zeroN, isOne v = true := by intro v hv; simp only [zeroN, List.mem_cons, List.not_mem_nil, or_false] at hv; rcases hv with rfl | rfl | rfl <;> rfl
theorem zeroN_fr (h : Heap) (B : Nat) : NFr h B ⟨[], [], []⟩ zeroN := by
  intro h' _
  exact ⟨by simp, by simp, by simp, by simp, by simp, by simp, none, 0, none, 0, none, 0, rfl, Sl.nil _ _, Sl.nil _ _, Sl.nil _ _⟩

/-! ### Noughts behind -/
theorem nz_spec (c : UInt8) (h : Heap) : HCalls Try.prog 38 #[.int .u8 (c.toNat : Nat)] h fun e h' => e = .returned (.bool (decide (c.toNat ≠ 0))) ∧ h' = h := by
  refine c38 (by simp) ?_
  ((conv=>whnf);repeat((first|(with_reducible first|refine Z1 ?_|refine Z2 ?_|refine Z3 ?_|refine Z4 ?_|refine Z5 ?_|refine Z9 (by assumption) rfl ?_|refine ZA (by assumption) rfl ?_|refine ZB (by assumption) rfl ?_|refine Z6 ?_|refine Z7 ?_|refine Z8 ?_)|((with_reducible refine ZM ?_ ?_);(focus rfl)));(conv=>whnf)))
  have : (((c.toNat : Nat) : Int) != 0) = decide (c.toNat ≠ 0) := by
    by_cases hc : c.toNat = 0
    · rw [hc]; rfl
    · rw [decide_eq_true hc, bne_iff_ne]; omega
  rw [← this]
  exact ⟨rfl, rfl⟩
def anyNz (l : List UInt8) : Bool := l.any fun c => decide (c.toNat ≠ 0)
theorem indexFunc_spec {a : Option Addr} {n c : Nat} {l : List UInt8} {h : Heap} (x : Sl h 1 a n c (l.map byteV)) (hn : n ≤ 17179869184) :
    HCalls Try.prog 52 #[.slice a n c, .func (.func 38) #[] #[]] h fun e h' => ∃ i : Int, e = .returned (.int .i64 i) ∧ (0 ≤ i ↔ anyNz l = true) ∧ -1 ≤ i ∧ i ≤ n ∧ h' = h := by
  have hl : l.length = n := by simpa using x.1
  refine c52 (by simp) ?_
  ((conv=>whnf);repeat((first|(with_reducible first|refine Z1 ?_|refine Z2 ?_|refine Z3 ?_|refine Z4 ?_|refine Z5 ?_|refine Z9 (by assumption) rfl ?_|refine ZA (by assumption) rfl ?_|refine ZB (by assumption) rfl ?_|refine Z6 ?_|refine Z7 ?_|refine Z8 ?_)|((with_reducible refine ZM ?_ ?_);(focus rfl)));(conv=>whnf)))
  refine loop_rule [8] (fun vs h' => ∃ (i : Nat), vs = [.int .i64 i] ∧ i ≤ n ∧ anyNz (l.take i) = false ∧ h' = h)
    (fun vs _ => match vs with | [.int _ i] => n - i.toNat | _ => 0) rfl ?_ ?_
  · exact ⟨0, rfl, by omega, by simp [anyNz], rfl⟩
  intro u h1 v8
  rintro ⟨i, e, hi, hz, rfl⟩
  cases e
  ((conv=>whnf);repeat((first|(with_reducible first|refine Z1 ?_|refine Z2 ?_|refine Z3 ?_|refine Z4 ?_|refine Z5 ?_|refine Z9 (by assumption) rfl ?_|refine ZA (by assumption) rfl ?_|refine ZB (by assumption) rfl ?_|refine Z6 ?_|refine Z7 ?_|refine Z8 ?_)|((with_reducible refine ZM ?_ ?_);(focus rfl)));(conv=>whnf)))
  refine HIf.mk (fun hlt => ?_) (fun hlt => ?_)
  · have hi1 : i < n := by have := of_decide_eq_true hlt; omega
    have hmu : n - ((i : Int) + 1).toNat < n - ((i : Int)).toNat := by omega
    have i1 : i < l.length := by omega
    ((conv=>whnf);repeat((first|(with_reducible first|refine Z1 ?_|refine Z2 ?_|refine Z3 ?_|refine Z4 ?_|refine Z5 ?_|refine Z9 (by assumption) rfl ?_|refine ZA (by assumption) rfl ?_|refine ZB (by assumption) rfl ?_|refine Z6 ?_|refine Z7 ?_|refine Z8 ?_)|((with_reducible refine ZM ?_ ?_);(focus rfl)));(conv=>whnf)))
    refine HIdx.mk i rfl hi1 ?_
    refine sl_some x hi1 fun p ep => ?_
    ((conv=>whnf);repeat((first|(with_reducible first|refine Z1 ?_|refine Z2 ?_|refine Z3 ?_|refine Z4 ?_|refine Z5 ?_|refine Z9 (by assumption) rfl ?_|refine ZA (by assumption) rfl ?_|refine ZB (by assumption) rfl ?_|refine Z6 ?_|refine Z7 ?_|refine Z8 ?_)|((with_reducible refine ZM ?_ ?_);(focus rfl)));(conv=>whnf)))
    refine sl_get x ep i1 ?_
    ((conv=>whnf);repeat((first|(with_reducible first|refine Z1 ?_|refine Z2 ?_|refine Z3 ?_|refine Z4 ?_|refine Z5 ?_|refine Z9 (by assumption) rfl ?_|refine ZA (by assumption) rfl ?_|refine ZB (by assumption) rfl ?_|refine Z6 ?_|refine Z7 ?_|refine Z8 ?_)|((with_reducible refine ZM ?_ ?_);(focus rfl)));(conv=>whnf)))
    refine HCall.mk ((nz_spec l[i] _).mono ?_)
    rintro e _ ⟨rfl, rfl⟩
    have hst : anyNz (l.take (i + 1)) = (anyNz (l.take i) || decide (l[i].toNat ≠ 0)) := by
      unfold anyNz
      rw [List.take_add_one, List.getElem?_eq_getElem i1, List.any_append]; simp
    cases hb : decide (l[i].toNat ≠ 0)
    · ((conv=>whnf);repeat((first|(with_reducible first|refine Z1 ?_|refine Z2 ?_|refine Z3 ?_|refine Z4 ?_|refine Z5 ?_|refine Z9 (by assumption) rfl ?_|refine ZA (by assumption) rfl ?_|refine ZB (by assumption) rfl ?_|refine Z6 ?_|refine Z7 ?_|refine Z8 ?_)|((with_reducible refine ZM ?_ ?_);(focus rfl)));(conv=>whnf)))
      exact ⟨⟨i + 1, rfl, by omega, by rw [hst, hz, hb]; rfl, rfl⟩, hmu⟩
    · ((conv=>whnf);repeat((first|(with_reducible first|refine Z1 ?_|refine Z2 ?_|refine Z3 ?_|refine Z4 ?_|refine Z5 ?_|refine Z9 (by assumption) rfl ?_|refine ZA (by assumption) rfl ?_|refine ZB (by assumption) rfl ?_|refine Z6 ?_|refine Z7 ?_|refine Z8 ?_)|((with_reducible refine ZM ?_ ?_);(focus rfl)));(conv=>whnf)))
      refine ⟨i, rfl, ?_, by omega, by omega, rfl⟩
      constructor
      · intro _
        unfold anyNz
        rw [List.any_eq_true]
        exact ⟨l[i], List.getElem_mem i1, hb⟩
      · intro _; omega
  · have hge := of_decide_eq_false hlt
    rw [List.take_of_length_le (by omega)] at hz
    ((conv=>whnf);repeat((first|(with_reducible first|refine Z1 ?_|refine Z2 ?_|refine Z3 ?_|refine Z4 ?_|refine Z5 ?_|refine Z9 (by assumption) rfl ?_|refine ZA (by assumption) rfl ?_|refine ZB (by assumption) rfl ?_|refine Z6 ?_|refine Z7 ?_|refine Z8 ?_)|((with_reducible refine ZM ?_ ?_);(focus rfl)));(conv=>whnf)))
    refine ⟨-1, rfl, ?_, by omega, by omega, rfl⟩
    rw [hz]; simp
theorem containsFunc_spec {a : Option Addr} {n c : Nat} {l : List UInt8} {h : Heap} (x : Sl h 1 a n c (l.map byteV)) (hn : n ≤ 17179869184) :
    HCalls Try.prog 37 #[.slice a n c, .func (.func 38) #[] #[]] h fun e h' => e = .returned (.bool (anyNz l)) ∧ h' = h := by
  refine c37 (by simp) ?_
  ((conv=>whnf);repeat((first|(with_reducible first|refine Z1 ?_|refine Z2 ?_|refine Z3 ?_|refine Z4 ?_|refine Z5 ?_|refine Z9 (by assumption) rfl ?_|refine ZA (by assumption) rfl ?_|refine ZB (by assumption) rfl ?_|refine Z6 ?_|refine Z7 ?_|refine Z8 ?_)|((with_reducible refine ZM ?_ ?_);(focus rfl)));(conv=>whnf)))
  refine HCall.mk ((indexFunc_spec x hn).mono ?_)
  rintro e _ ⟨i, rfl, hi, h1, h2, rfl⟩
  have : decide (i ≥ 0) = anyNz l := by
    cases hb : anyNz l
    · exact decide_eq_false (fun h => by have := hi.1 h; rw [hb] at this; cases this)
    · exact decide_eq_true (hi.2 hb)
  ((conv=>whnf);repeat((first|(with_reducible first|refine Z1 ?_|refine Z2 ?_|refine Z3 ?_|refine Z4 ?_|refine Z5 ?_|refine Z9 (by assumption) rfl ?_|refine ZA (by assumption) rfl ?_|refine ZB (by assumption) rfl ?_|refine Z6 ?_|refine Z7 ?_|refine Z8 ?_)|((with_reducible refine ZM ?_ ?_);(focus rfl)));(conv=>whnf)))
  rw [← this]
  exact ⟨rfl, rfl⟩

/-! ### What some bytes are as a node -/
noncomputable def rDec (l : List UInt8) : Rd ND :=
  if l.length ≠ 4096 then .no 2
  else if (unf l 4096).2.2 ≠ 0 then .no (unf l 4096).2.2
  else if anyNz (l.drop (unf l 4096).2.1) = true then .no 22
  else rNode (unf l 4096).1
def Rd.nd : Rd ND → ND
  | .no _ => ⟨[], [], []⟩
  | .ok d _ => d
def Rd.er {α : Type} : Rd α → Nat
  | .no e => e
  | .ok _ _ => 0
def DecP (h : Heap) (rd : Rd ND) (e : Ending) (h' : Heap) : Prop :=
  ∃ cs, e = .returned (.tuple #[.agg cs.toArray, .int .i64 rd.er]) ∧ NFr h' h.size rd.nd cs ∧ Ext h h'
theorem unf_ok (l : List UInt8) (hl : l.length = 4096) : ((unf l 4096).2.2 = 0 ∧ (unf l 4096).2.1 ≤ 4096 ∧ (unf l 4096).2.1 = 8 + (unf l 4096).1.length) ∨ ((unf l 4096).2.2 ≠ 0 ∧ (unf l 4096).2.2 ≤ 22) := by
  simp only [unf]
  split
  · simp
  split
  · simp
  split
  · simp
  split
  · simp
  · left
    have e : ((l.drop 8).take (wordN l)).length = wordN l := by rw [List.length_take, List.length_drop]; omega
    dsimp only
    rw [e]
    refine ⟨rfl, ?_, ?_⟩ <;> omega

/-- The closure, where nothing panicked. -/
theorem dc_ok (h : Heap) (v1 v2 : Value) : HCallsD Try.prog 39 #[v1, v2] .returning h fun e u' h' => e = .returned (.tuple #[]) ∧ u' = .returning ∧ h' = h := by
  refine d39 (by simp) ?_
  ((conv=>whnf);repeat((first|(with_reducible first|refine Z1 ?_|refine Z2 ?_|refine Z3 ?_|refine Z4 ?_|refine Z5 ?_|refine Z9 (by assumption) rfl ?_|refine ZA (by assumption) rfl ?_|refine ZB (by assumption) rfl ?_|refine Z6 ?_|refine Z7 ?_|refine Z8 ?_)|((with_reducible refine ZM ?_ ?_);(focus rfl)));(conv=>whnf)))
  exact ⟨rfl, rfl, rfl⟩
/-- .. and where an Errno was the reason. -/
theorem dc_no (h : Heap) (b2 b3 er : Nat) (cs : List Value) (c3 : Value) (o2 : BlkW h b2 26 cs) (hcs : cs.length = 3) (o3 : BlkW h b3 29 [c3]) (h23 : b2 ≠ b3) :
    HCallsD Try.prog 39 #[.pointer (some ⟨b2, 0, none⟩), .pointer (some ⟨b3, 0, none⟩)]
      (.panicking [{ v := .iface 29 (.int .i64 er), recovered := false }]) h fun e u' h' => e = .returned (.tuple #[]) ∧ settle u' = .returning ∧
        h.size ≤ h'.size ∧ (∀ b, b < h.size → b ≠ b2 → b ≠ b3 → h'[b]? = h[b]?) ∧ BlkW h' b2 26 zeroN ∧ BlkW h' b3 29 [.int .i64 er] := by
  refine d39 (by simp) ?_
  ((conv=>whnf);repeat((first|(with_reducible first|refine Z1 ?_|refine Z2 ?_|refine Z3 ?_|refine Z4 ?_|refine Z5 ?_|refine Z9 (by assumption) rfl ?_|refine ZA (by assumption) rfl ?_|refine ZB (by assumption) rfl ?_|refine Z6 ?_|refine Z7 ?_|refine Z8 ?_)|((with_reducible refine ZM ?_ ?_);(focus rfl)));(conv=>whnf)))
  refine store_new o2 (by simp [hcs]) zeroN_one ?_
  intro h2 f2 z2 o22
  ((conv=>whnf);repeat((first|(with_reducible first|refine Z1 ?_|refine Z2 ?_|refine Z3 ?_|refine Z4 ?_|refine Z5 ?_|refine Z9 (by assumption) rfl ?_|refine ZA (by assumption) rfl ?_|refine ZB (by assumption) rfl ?_|refine Z6 ?_|refine Z7 ?_|refine Z8 ?_)|((with_reducible refine ZM ?_ ?_);(focus rfl)));(conv=>whnf)))
  refine store1_blk (o := 0) (o3.offk f2 h23.symm) (by simp) rfl ?_
  intro h3 f3 z3 o33
  ((conv=>whnf);repeat((first|(with_reducible first|refine Z1 ?_|refine Z2 ?_|refine Z3 ?_|refine Z4 ?_|refine Z5 ?_|refine Z9 (by assumption) rfl ?_|refine ZA (by assumption) rfl ?_|refine ZB (by assumption) rfl ?_|refine Z6 ?_|refine Z7 ?_|refine Z8 ?_)|((with_reducible refine ZM ?_ ?_);(focus rfl)));(conv=>whnf)))
  refine ⟨rfl, rfl, by omega, fun b hb n2 n3 => ?_, o22.offk f3 h23, o33⟩
  rw [f3.2 b (by omega) n3, f2.2 b hb n2]

theorem NFr.one {h : Heap} {B : Nat} {d : ND} {cs : List Value} (x : NFr h B d cs) : cs.length = 3 ∧ ∀ v ∈ cs, isOne v = true := ⟨x.get.len, x.get.one⟩

theorem decodeN_spec {h : Heap} {a : Option Addr} {n c : Nat} {l : List UInt8} (x : Sl h 1 a n c (l.map byteV)) (hn : n ≤ 17179869184) :
    HCalls Try.prog 21 #[.slice a n c] h (DecP h (rDec l)) := by
  have hl : l.length = n := by simpa using x.1
  refine c21 (by simp) ?_
  (conv => whnf)
  refine new_var (e := 26) zeroN rfl ?_
  intro h1 b2 o2 x1 z1 hb2
  ((conv=>whnf);repeat((first|(with_reducible first|refine Z1 ?_|refine Z2 ?_|refine Z3 ?_|refine Z4 ?_|refine Z5 ?_|refine Z9 (by assumption) rfl ?_|refine ZA (by assumption) rfl ?_|refine ZB (by assumption) rfl ?_|refine Z6 ?_|refine Z7 ?_|refine Z8 ?_)|((with_reducible refine ZM ?_ ?_);(focus rfl)));(conv=>whnf)))
  refine new_var (e := 29) [.int .i64 0] rfl ?_
  intro h2 b3 o3 x2 z2 hb3
  have o22 := o2.ext x2
  have x02 := x1.trans x2
  by_cases h4 : n = 4096
  · have q0 : ((n : Int) != 4096) = false := by subst h4; rfl
    ((conv=>whnf);repeat((first|(with_reducible first|refine Z1 ?_|refine Z2 ?_|refine Z3 ?_|refine Z4 ?_|refine Z5 ?_|refine Z9 (by assumption) rfl ?_|refine ZA (by assumption) rfl ?_|refine ZB (by assumption) rfl ?_|refine Z6 ?_|refine Z7 ?_|refine Z8 ?_)|((with_reducible refine ZM ?_ ?_);(focus rfl)));(conv=>whnf)))
    refine HCall.mk ((unframe_spec (x.ext x02) (by omega) 4096 (by omega)).mono ?_)
    rintro e h3 ⟨a3, c3, rfl, w3, x3⟩
    have huo := unf_ok l (by omega)
    have hrd : rDec l = if (unf l 4096).2.2 ≠ 0 then .no (unf l 4096).2.2 else if anyNz (l.drop (unf l 4096).2.1) = true then .no 22 else rNode (unf l 4096).1 := by unfold rDec; rw [if_neg (by omega)]
    obtain ⟨body, k, er, hu⟩ : ∃ body k er, unf l 4096 = (body, k, er) := ⟨_, _, _, rfl⟩
    rw [hu] at hrd w3 huo ⊢
    simp only at hrd w3 huo ⊢
    rw [hrd]
    have x03 := x02.trans x3
    have o23 := o22.ext x3
    have o33 := o3.ext x3
    ((conv=>whnf);repeat((first|(with_reducible first|refine Z1 ?_|refine Z2 ?_|refine Z3 ?_|refine Z4 ?_|refine Z5 ?_|refine Z9 (by assumption) rfl ?_|refine ZA (by assumption) rfl ?_|refine ZB (by assumption) rfl ?_|refine Z6 ?_|refine Z7 ?_|refine Z8 ?_)|((with_reducible refine ZM ?_ ?_);(focus rfl)));(conv=>whnf)))
    refine store1_blk (o := 0) o33 (by simp) rfl ?_
    intro h4 f4 z4 o34
    have o24 := o23.offk f4 (by omega)
    have x04 : Ext h h4 := x03.offNew f4 (by omega)
    by_cases he : er = 0
    · subst he
      rw [if_neg (by simp)]
      have hk : k ≤ 4096 ∧ k = 8 + body.length := by rcases huo with h | h <;> omega
      ((conv=>whnf);repeat((first|(with_reducible first|refine Z1 ?_|refine Z2 ?_|refine Z3 ?_|refine Z4 ?_|refine Z5 ?_|refine Z9 (by assumption) rfl ?_|refine ZA (by assumption) rfl ?_|refine ZB (by assumption) rfl ?_|refine Z6 ?_|refine Z7 ?_|refine Z8 ?_)|((with_reducible refine ZM ?_ ?_);(focus rfl)));(conv=>whnf)))
      refine HBound.mk k rfl (by have := x.2.1; omega) ?_
      subst hl
      have sd := drop_sl (x.ext x04) (k := k) (by omega)
      rw [List.length_drop] at sd
      ((conv=>whnf);repeat((first|(with_reducible first|refine Z1 ?_|refine Z2 ?_|refine Z3 ?_|refine Z4 ?_|refine Z5 ?_|refine Z9 (by assumption) rfl ?_|refine ZA (by assumption) rfl ?_|refine ZB (by assumption) rfl ?_|refine Z6 ?_|refine Z7 ?_|refine Z8 ?_)|((with_reducible refine ZM ?_ ?_);(focus rfl)));(conv=>whnf)))
      refine HCall.mk ((containsFunc_spec sd (by omega)).mono ?_)
      rintro e h4 ⟨rfl, rfl⟩
      cases hz : anyNz (l.drop k)
      · rw [if_neg (by simp)]
        ((conv=>whnf);repeat((first|(with_reducible first|refine Z1 ?_|refine Z2 ?_|refine Z3 ?_|refine Z4 ?_|refine Z5 ?_|refine Z9 (by assumption) rfl ?_|refine ZA (by assumption) rfl ?_|refine ZB (by assumption) rfl ?_|refine Z6 ?_|refine Z7 ?_|refine Z8 ?_)|((with_reducible refine ZM ?_ ?_);(focus rfl)));(conv=>whnf)))
        refine new_var (e := 68) [.slice a3 body.length c3] rfl ?_
        intro h5 br or x5 z5 hbr
        have o25 := o24.ext x5
        have o35 := o34.ext x5
        have x05 := x04.trans x5
        have hs3 := x03.1
        have l24 := o24.lt
        have l34 := o34.lt
        have wl := w3.lt
        have r5 : Rdr h5 br body := ⟨a3, c3, or, ((w3.off f4 (fun p ep => by have := (w3.lt p ep).1; omega)).sl).ext x5, fun p ep _ => by have := (w3.lt p ep).2; omega⟩
        ((conv=>whnf);repeat((first|(with_reducible first|refine Z1 ?_|refine Z2 ?_|refine Z3 ?_|refine Z4 ?_|refine Z5 ?_|refine Z9 (by assumption) rfl ?_|refine ZA (by assumption) rfl ?_|refine ZB (by assumption) rfl ?_|refine Z6 ?_|refine Z7 ?_|refine Z8 ?_)|((with_reducible refine ZM ?_ ?_);(focus rfl)));(conv=>whnf)))
        refine HCall.mk ((nodeR_spec r5 (by omega)).mono ?_)
        rintro e h6 ⟨f6, he6⟩
        have o26 := o25.offk f6 (by omega)
        have o36 := o35.offk f6 (by omega)
        have x06 : Ext h h6 := x05.offNew f6 (by omega)
        have hz6 := f6.1
        cases hrn : rNode body with
        | no k6 =>
          rw [hrn] at he6
          obtain rfl := he6
          ((conv=>whnf);repeat((first|(with_reducible first|refine Z1 ?_|refine Z2 ?_|refine Z3 ?_|refine Z4 ?_|refine Z5 ?_|refine Z9 (by assumption) rfl ?_|refine ZA (by assumption) rfl ?_|refine ZB (by assumption) rfl ?_|refine Z6 ?_|refine Z7 ?_|refine Z8 ?_)|((with_reducible refine ZM ?_ ?_);(focus rfl)));(conv=>whnf)))
          refine HMust.mk ⟨rfl, rfl⟩ (hcd_to rfl (dc_no h6 b2 b3 _ zeroN _ o26 rfl o36 (by omega)) ?_)
          rintro e u' h7 ⟨rfl, hu, hs7, ag7, o27, o37⟩
          show HLv _ _ _ _ _ (settle u') h7
          rw [hu]
          ((conv=>whnf);repeat((first|(with_reducible first|refine Z1 ?_|refine Z2 ?_|refine Z3 ?_|refine Z4 ?_|refine Z5 ?_|refine Z9 (by assumption) rfl ?_|refine ZA (by assumption) rfl ?_|refine ZB (by assumption) rfl ?_|refine Z6 ?_|refine Z7 ?_|refine Z8 ?_)|((with_reducible refine ZM ?_ ?_);(focus rfl)));(conv=>whnf)))
          exact ⟨zeroN, rfl, zeroN_fr _ _, by have := x06.1; omega, fun b hb => by rw [ag7 b (by have := x06.1; omega) (by omega) (by omega), x06.2 b hb]⟩
        | ok d r6 =>
          rw [hrn] at he6
          obtain ⟨cs, rfl, nf⟩ := he6
          have hcs := nf.one
          ((conv=>whnf);repeat((first|(with_reducible first|refine Z1 ?_|refine Z2 ?_|refine Z3 ?_|refine Z4 ?_|refine Z5 ?_|refine Z9 (by assumption) rfl ?_|refine ZA (by assumption) rfl ?_|refine ZB (by assumption) rfl ?_|refine Z6 ?_|refine Z7 ?_|refine Z8 ?_)|((with_reducible refine ZM ?_ ?_);(focus rfl)));(conv=>whnf)))
          refine HMust.mk hcs.1 ?_
          refine store_new o26 hcs.1 hcs.2 ?_
          intro h7 f7 z7 o27
          ((conv=>whnf);repeat((first|(with_reducible first|refine Z1 ?_|refine Z2 ?_|refine Z3 ?_|refine Z4 ?_|refine Z5 ?_|refine Z9 (by assumption) rfl ?_|refine ZA (by assumption) rfl ?_|refine ZB (by assumption) rfl ?_|refine Z6 ?_|refine Z7 ?_|refine Z8 ?_)|((with_reducible refine ZM ?_ ?_);(focus rfl)));(conv=>whnf)))
          refine store1_blk (o := 0) (o36.offk f7 (by omega)) (by simp) rfl ?_
          intro h8 f8 z8 o38
          have o28 := o27.offk f8 (by omega)
          ((conv=>whnf);repeat((first|(with_reducible first|refine Z1 ?_|refine Z2 ?_|refine Z3 ?_|refine Z4 ?_|refine Z5 ?_|refine Z9 (by assumption) rfl ?_|refine ZA (by assumption) rfl ?_|refine ZB (by assumption) rfl ?_|refine Z6 ?_|refine Z7 ?_|refine Z8 ?_)|((with_reducible refine ZM ?_ ?_);(focus rfl)));(conv=>whnf)))
          refine hcd_to rfl (dc_ok _ _ _) ?_
          rintro e u' h8 ⟨rfl, rfl, rfl⟩
          ((conv=>whnf);repeat((first|(with_reducible first|refine Z1 ?_|refine Z2 ?_|refine Z3 ?_|refine Z4 ?_|refine Z5 ?_|refine Z9 (by assumption) rfl ?_|refine ZA (by assumption) rfl ?_|refine ZB (by assumption) rfl ?_|refine Z6 ?_|refine Z7 ?_|refine Z8 ?_)|((with_reducible refine ZM ?_ ?_);(focus rfl)));(conv=>whnf)))
          refine blk_ldN o28 hcs.1 ?_
          ((conv=>whnf);repeat((first|(with_reducible first|refine Z1 ?_|refine Z2 ?_|refine Z3 ?_|refine Z4 ?_|refine Z5 ?_|refine Z9 (by assumption) rfl ?_|refine ZA (by assumption) rfl ?_|refine ZB (by assumption) rfl ?_|refine Z6 ?_|refine Z7 ?_|refine Z8 ?_)|((with_reducible refine ZM ?_ ?_);(focus rfl)));(conv=>whnf)))
          refine ⟨cs, rfl, ?_, (x06.offNew f7 (by omega)).offNew f8 (by omega)⟩
          have hs5 := x05.1
          refine (nf.frame (h' := h8) fun b hb => ?_).mono fun b hb => ⟨by omega, by omega⟩
          rw [f8.2 b (by omega) (by omega), f7.2 b (by omega) (by omega)]
      · rw [if_pos rfl]
        ((conv=>whnf);repeat((first|(with_reducible first|refine Z1 ?_|refine Z2 ?_|refine Z3 ?_|refine Z4 ?_|refine Z5 ?_|refine Z9 (by assumption) rfl ?_|refine ZA (by assumption) rfl ?_|refine ZB (by assumption) rfl ?_|refine Z6 ?_|refine Z7 ?_|refine Z8 ?_)|((with_reducible refine ZM ?_ ?_);(focus rfl)));(conv=>whnf)))
        refine store_new o24 rfl zeroN_one ?_
        intro h5 f5 z5 o25
        ((conv=>whnf);repeat((first|(with_reducible first|refine Z1 ?_|refine Z2 ?_|refine Z3 ?_|refine Z4 ?_|refine Z5 ?_|refine Z9 (by assumption) rfl ?_|refine ZA (by assumption) rfl ?_|refine ZB (by assumption) rfl ?_|refine Z6 ?_|refine Z7 ?_|refine Z8 ?_)|((with_reducible refine ZM ?_ ?_);(focus rfl)));(conv=>whnf)))
        refine store1_blk (o := 0) (o34.offk f5 (by omega)) (by simp) rfl ?_
        intro h6 f6 z6 o36
        have o26 := o25.offk f6 (by omega)
        ((conv=>whnf);repeat((first|(with_reducible first|refine Z1 ?_|refine Z2 ?_|refine Z3 ?_|refine Z4 ?_|refine Z5 ?_|refine Z9 (by assumption) rfl ?_|refine ZA (by assumption) rfl ?_|refine ZB (by assumption) rfl ?_|refine Z6 ?_|refine Z7 ?_|refine Z8 ?_)|((with_reducible refine ZM ?_ ?_);(focus rfl)));(conv=>whnf)))
        exact ⟨zeroN, rfl, zeroN_fr _ _, (x04.offNew f5 (by omega)).offNew f6 (by omega)⟩
    · rw [if_pos he]
      have q1 : ((er : Int) != 0) = true := by rw [bne_iff_ne]; omega
      ((conv=>whnf);repeat((first|(with_reducible first|refine Z1 ?_|refine Z2 ?_|refine Z3 ?_|refine Z4 ?_|refine Z5 ?_|refine Z9 (by assumption) rfl ?_|refine ZA (by assumption) rfl ?_|refine ZB (by assumption) rfl ?_|refine Z6 ?_|refine Z7 ?_|refine Z8 ?_)|((with_reducible refine ZM ?_ ?_);(focus rfl)));(conv=>whnf)))
      refine HAlt.mk ?_ ?_
      · ((conv=>whnf);repeat((first|(with_reducible first|refine Z1 ?_|refine Z2 ?_|refine Z3 ?_|refine Z4 ?_|refine Z5 ?_|refine Z9 (by assumption) rfl ?_|refine ZA (by assumption) rfl ?_|refine ZB (by assumption) rfl ?_|refine Z6 ?_|refine Z7 ?_|refine Z8 ?_)|((with_reducible refine ZM ?_ ?_);(focus rfl)));(conv=>whnf)))
        refine store_new o24 rfl zeroN_one ?_
        intro h5 f5 z5 o25
        ((conv=>whnf);repeat((first|(with_reducible first|refine Z1 ?_|refine Z2 ?_|refine Z3 ?_|refine Z4 ?_|refine Z5 ?_|refine Z9 (by assumption) rfl ?_|refine ZA (by assumption) rfl ?_|refine ZB (by assumption) rfl ?_|refine Z6 ?_|refine Z7 ?_|refine Z8 ?_)|((with_reducible refine ZM ?_ ?_);(focus rfl)));(conv=>whnf)))
        refine store1_blk (o := 0) (o34.offk f5 (by omega)) (by simp) rfl ?_
        intro h6 f6 z6 o36
        have o26 := o25.offk f6 (by omega)
        ((conv=>whnf);repeat((first|(with_reducible first|refine Z1 ?_|refine Z2 ?_|refine Z3 ?_|refine Z4 ?_|refine Z5 ?_|refine Z9 (by assumption) rfl ?_|refine ZA (by assumption) rfl ?_|refine ZB (by assumption) rfl ?_|refine Z6 ?_|refine Z7 ?_|refine Z8 ?_)|((with_reducible refine ZM ?_ ?_);(focus rfl)));(conv=>whnf)))
        exact ⟨zeroN, rfl, zeroN_fr _ _, (x04.offNew f5 (by omega)).offNew f6 (by omega)⟩
      · ((conv=>whnf);repeat((first|(with_reducible first|refine Z1 ?_|refine Z2 ?_|refine Z3 ?_|refine Z4 ?_|refine Z5 ?_|refine Z9 (by assumption) rfl ?_|refine ZA (by assumption) rfl ?_|refine ZB (by assumption) rfl ?_|refine Z6 ?_|refine Z7 ?_|refine Z8 ?_)|((with_reducible refine ZM ?_ ?_);(focus rfl)));(conv=>whnf)))
        refine store_new o24 rfl zeroN_one ?_
        intro h5 f5 z5 o25
        have o35 := o34.offk f5 (by omega)
        ((conv=>whnf);repeat((first|(with_reducible first|refine Z1 ?_|refine Z2 ?_|refine Z3 ?_|refine Z4 ?_|refine Z5 ?_|refine Z9 (by assumption) rfl ?_|refine ZA (by assumption) rfl ?_|refine ZB (by assumption) rfl ?_|refine Z6 ?_|refine Z7 ?_|refine Z8 ?_)|((with_reducible refine ZM ?_ ?_);(focus rfl)));(conv=>whnf)))
        refine store1_blk (o := 0) o35 (by simp) rfl ?_
        intro h6 f6 z6 o36
        have o26 := o25.offk f6 (by omega)
        ((conv=>whnf);repeat((first|(with_reducible first|refine Z1 ?_|refine Z2 ?_|refine Z3 ?_|refine Z4 ?_|refine Z5 ?_|refine Z9 (by assumption) rfl ?_|refine ZA (by assumption) rfl ?_|refine ZB (by assumption) rfl ?_|refine Z6 ?_|refine Z7 ?_|refine Z8 ?_)|((with_reducible refine ZM ?_ ?_);(focus rfl)));(conv=>whnf)))
        exact ⟨zeroN, rfl, zeroN_fr _ _, (x04.offNew f5 (by omega)).offNew f6 (by omega)⟩
  · have q0 : ((n : Int) != 4096) = true := by rw [bne_iff_ne]; omega
    have hrd : rDec l = .no 2 := by unfold rDec; rw [if_pos (by omega)]
    rw [hrd]
    ((conv=>whnf);repeat((first|(with_reducible first|refine Z1 ?_|refine Z2 ?_|refine Z3 ?_|refine Z4 ?_|refine Z5 ?_|refine Z9 (by assumption) rfl ?_|refine ZA (by assumption) rfl ?_|refine ZB (by assumption) rfl ?_|refine Z6 ?_|refine Z7 ?_|refine Z8 ?_)|((with_reducible refine ZM ?_ ?_);(focus rfl)));(conv=>whnf)))
    refine store_new o22 rfl zeroN_one ?_
    intro h3 f3 z3 o23
    ((conv=>whnf);repeat((first|(with_reducible first|refine Z1 ?_|refine Z2 ?_|refine Z3 ?_|refine Z4 ?_|refine Z5 ?_|refine Z9 (by assumption) rfl ?_|refine ZA (by assumption) rfl ?_|refine ZB (by assumption) rfl ?_|refine Z6 ?_|refine Z7 ?_|refine Z8 ?_)|((with_reducible refine ZM ?_ ?_);(focus rfl)));(conv=>whnf)))
    refine store1_blk (o := 0) (o3.offk f3 (by omega)) (by simp) rfl ?_
    intro h4 f4 z4 o34
    have o24 := o23.offk f4 (by omega)
    ((conv=>whnf);repeat((first|(with_reducible first|refine Z1 ?_|refine Z2 ?_|refine Z3 ?_|refine Z4 ?_|refine Z5 ?_|refine Z9 (by assumption) rfl ?_|refine ZA (by assumption) rfl ?_|refine ZB (by assumption) rfl ?_|refine Z6 ?_|refine Z7 ?_|refine Z8 ?_)|((with_reducible refine ZM ?_ ?_);(focus rfl)));(conv=>whnf)))
    exact ⟨zeroN, rfl, zeroN_fr _ _, (x02.offNew f3 (by omega)).offNew f4 (by omega)⟩

end Go.Proofs.Ythagjflkdoafmaa.Hc
