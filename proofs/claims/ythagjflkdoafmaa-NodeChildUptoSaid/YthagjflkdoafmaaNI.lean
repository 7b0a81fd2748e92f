import Derived.Test.YthagjflkdoafmaaNG
set_option linter.unusedVariables false
set_option linter.unusedSimpArgs false
namespace Go.Proofs.Ythagjflkdoafmaa.Hc
open Go Go.H Go.Proofs
set_option maxRecDepth 100000
set_option maxHeartbeats 4000000

theorem nodeReads_spec {h : Heap} {a : Option Addr} {n c : Nat} {l : List UInt8} (x : Sl h 1 a n c (l.map byteV)) (hn : n ≤ 1048576) :
    HCalls Try.prog 4 #[.slice a n c] h fun e h' => e = .returned (.bool true) ∧ Ext h h' := by
  have hl : l.length = n := by simpa using x.1
  refine c4 (by simp) ?_
  ((conv=>whnf);repeat((first|(with_reducible first|refine Z1 ?_|refine Z2 ?_|refine Z3 ?_|refine Z4 ?_|refine Z5 ?_|refine Z9 (by assumption) rfl ?_|refine ZA (by assumption) rfl ?_|refine ZB (by assumption) rfl ?_|refine Z6 ?_|refine Z7 ?_|refine Z8 ?_|refine ZB (by assumption) (by assumption) ?_)|((with_reducible refine ZM ?_ ?_);(focus rfl)));(conv=>whnf)))
  refine x.cells ?_
  refine Own.none_app rfl (by simpa using hl) bytesV_one (by omega) ?_
  intro h1 a1 c1 w1 x0c
  have s1 := w1.sl
  replace x := x.ext x0c
  ((conv=>whnf);repeat((first|(with_reducible first|refine Z1 ?_|refine Z2 ?_|refine Z3 ?_|refine Z4 ?_|refine Z5 ?_|refine Z9 (by assumption) rfl ?_|refine ZA (by assumption) rfl ?_|refine ZB (by assumption) rfl ?_|refine Z6 ?_|refine Z7 ?_|refine Z8 ?_|refine ZB (by assumption) (by assumption) ?_)|((with_reducible refine ZM ?_ ?_);(focus rfl)));(conv=>whnf)))
  refine HCall.mk ((decodeN_spec s1 (by omega)).mono ?_)
  rintro e h2 ⟨xs, rfl, nx, xx⟩
  have rx : NRep h2 (rDec l).nd xs := nx.get
  have hxl := rx.len
  replace s1 := s1.ext xx
  replace x := x.ext xx
  replace x0c := x0c.trans xx
  clear xx nx w1
  ((conv=>whnf);repeat((first|(with_reducible first|refine Z1 ?_|refine Z2 ?_|refine Z3 ?_|refine Z4 ?_|refine Z5 ?_|refine Z9 (by assumption) rfl ?_|refine ZA (by assumption) rfl ?_|refine ZB (by assumption) rfl ?_|refine Z6 ?_|refine Z7 ?_|refine Z8 ?_|refine ZB (by assumption) (by assumption) ?_)|((with_reducible refine ZM ?_ ?_);(focus rfl)));(conv=>whnf)))
  refine new_var (e := 26) zeroN rfl ?_
  intro h3 b4 o4 x3 z3 hb4
  ((conv=>whnf);repeat((first|(with_reducible first|refine Z1 ?_|refine Z2 ?_|refine Z3 ?_|refine Z4 ?_|refine Z5 ?_|refine Z9 (by assumption) rfl ?_|refine ZA (by assumption) rfl ?_|refine ZB (by assumption) rfl ?_|refine Z6 ?_|refine Z7 ?_|refine Z8 ?_|refine ZB (by assumption) (by assumption) ?_)|((with_reducible refine ZM ?_ ?_);(focus rfl)));(conv=>whnf)))
  refine HMust.mk hxl ?_
  refine store_new o4 hxl rx.one ?_
  intro h4 f4 z4 o4
  have xx : Ext h2 h4 := x3.offNew f4 (by omega)
  replace s1 := s1.ext xx
  replace x := x.ext xx
  replace x0c := x0c.trans xx
  replace rx := rx.ext xx
  clear xx x3 f4
  ((conv=>whnf);repeat((first|(with_reducible first|refine Z1 ?_|refine Z2 ?_|refine Z3 ?_|refine Z4 ?_|refine Z5 ?_|refine Z9 (by assumption) rfl ?_|refine ZA (by assumption) rfl ?_|refine ZB (by assumption) rfl ?_|refine Z6 ?_|refine Z7 ?_|refine Z8 ?_|refine ZB (by assumption) (by assumption) ?_)|((with_reducible refine ZM ?_ ?_);(focus rfl)));(conv=>whnf)))
  refine HCall.mk ((rdecodeN_spec x (by omega)).mono ?_)
  rintro e h5 ⟨ys, rfl, ny, xx⟩
  have ry : NRep h5 (rDec l).nd ys := ny.get
  have hyl := ry.len
  replace s1 := s1.ext xx
  replace x := x.ext xx
  replace x0c := x0c.trans xx
  replace rx := rx.ext xx
  replace o4 := o4.ext xx
  clear xx ny
  ((conv=>whnf);repeat((first|(with_reducible first|refine Z1 ?_|refine Z2 ?_|refine Z3 ?_|refine Z4 ?_|refine Z5 ?_|refine Z9 (by assumption) rfl ?_|refine ZA (by assumption) rfl ?_|refine ZB (by assumption) rfl ?_|refine Z6 ?_|refine Z7 ?_|refine Z8 ?_|refine ZB (by assumption) (by assumption) ?_)|((with_reducible refine ZM ?_ ?_);(focus rfl)));(conv=>whnf)))
  refine new_var (e := 25) zeroN rfl ?_
  intro h6 b6 o6 x6 z6 hb6
  ((conv=>whnf);repeat((first|(with_reducible first|refine Z1 ?_|refine Z2 ?_|refine Z3 ?_|refine Z4 ?_|refine Z5 ?_|refine Z9 (by assumption) rfl ?_|refine ZA (by assumption) rfl ?_|refine ZB (by assumption) rfl ?_|refine Z6 ?_|refine Z7 ?_|refine Z8 ?_|refine ZB (by assumption) (by assumption) ?_)|((with_reducible refine ZM ?_ ?_);(focus rfl)));(conv=>whnf)))
  refine HMust.mk hyl ?_
  refine store_new o6 hyl ry.one ?_
  intro h7 f7 z7 o6
  have xx : Ext h5 h7 := x6.offNew f7 (by omega)
  replace s1 := s1.ext xx
  replace x := x.ext xx
  replace x0c := x0c.trans xx
  replace rx := rx.ext xx
  replace ry := ry.ext xx
  replace o4 := o4.ext xx
  clear xx x6 f7
  ((conv=>whnf);repeat((first|(with_reducible first|refine Z1 ?_|refine Z2 ?_|refine Z3 ?_|refine Z4 ?_|refine Z5 ?_|refine Z9 (by assumption) rfl ?_|refine ZA (by assumption) rfl ?_|refine ZB (by assumption) rfl ?_|refine Z6 ?_|refine Z7 ?_|refine Z8 ?_|refine ZB (by assumption) (by assumption) ?_)|((with_reducible refine ZM ?_ ?_);(focus rfl)));(conv=>whnf)))
  refine HCall.mk ((live_spec _).mono ?_)
  rintro e hA ⟨rfl, xx⟩
  replace s1 := s1.ext xx
  replace x := x.ext xx
  replace x0c := x0c.trans xx
  replace rx := rx.ext xx
  replace ry := ry.ext xx
  replace o4 := o4.ext xx
  replace o6 := o6.ext xx
  clear xx
  have one : decide ((rDec l).nd = (rDec l).nd) = true := decide_eq_true rfl
  have hq : (((rDec l).er : Int) == ((rDec l).er : Int)) = true := beq_self_eq_true _
  have hz : (bif false then true else true) = true := rfl
  ((conv=>whnf);repeat((first|(with_reducible first|refine Z1 ?_|refine Z2 ?_|refine Z3 ?_|refine Z4 ?_|refine Z5 ?_|refine Z9 (by assumption) rfl ?_|refine ZA (by assumption) rfl ?_|refine ZB (by assumption) rfl ?_|refine Z6 ?_|refine Z7 ?_|refine Z8 ?_|refine ZB (by assumption) (by assumption) ?_)|((with_reducible refine ZM ?_ ?_);(focus rfl)));(conv=>whnf)))
  refine HAlt.mk ?_ ?_
  all_goals
    ((conv=>whnf);repeat((first|(with_reducible first|refine Z1 ?_|refine Z2 ?_|refine Z3 ?_|refine Z4 ?_|refine Z5 ?_|refine Z9 (by assumption) rfl ?_|refine ZA (by assumption) rfl ?_|refine ZB (by assumption) rfl ?_|refine Z6 ?_|refine Z7 ?_|refine Z8 ?_|refine ZB (by assumption) (by assumption) ?_)|((with_reducible refine ZM ?_ ?_);(focus rfl)));(conv=>whnf)))
    refine HCall.mk ((toldN_spec rx).mono ?_)
    rintro e hB ⟨rfl, xx⟩
    replace s1 := s1.ext xx
    replace x := x.ext xx
    replace x0c := x0c.trans xx
    replace rx := rx.ext xx
    replace ry := ry.ext xx
    replace o6 := o6.ext xx
    clear xx
    ((conv=>whnf);repeat((first|(with_reducible first|refine Z1 ?_|refine Z2 ?_|refine Z3 ?_|refine Z4 ?_|refine Z5 ?_|refine Z9 (by assumption) rfl ?_|refine ZA (by assumption) rfl ?_|refine ZB (by assumption) rfl ?_|refine Z6 ?_|refine Z7 ?_|refine Z8 ?_|refine ZB (by assumption) (by assumption) ?_)|((with_reducible refine ZM ?_ ?_);(focus rfl)));(conv=>whnf)))
    refine HCall.mk ((rsameN_spec rx ry).mono ?_)
    rintro e hC ⟨he, xx⟩
    rw [one] at he
    subst he
    replace s1 := s1.ext xx
    replace x := x.ext xx
    replace x0c := x0c.trans xx
    clear xx
    ((conv=>whnf);repeat((first|(with_reducible first|refine Z1 ?_|refine Z2 ?_|refine Z3 ?_|refine Z4 ?_|refine Z5 ?_|refine Z9 (by assumption) rfl ?_|refine ZA (by assumption) rfl ?_|refine ZB (by assumption) rfl ?_|refine Z6 ?_|refine Z7 ?_|refine Z8 ?_|refine ZB (by assumption) (by assumption) ?_)|((with_reducible refine ZM ?_ ?_);(focus rfl)));(conv=>whnf)))
    refine HCall.mk ((same_spec s1 x).mono ?_)
    rintro e hD ⟨rfl, he⟩
    rw [beq_self_eq_true] at he
    subst he
    ((conv=>whnf);repeat((first|(with_reducible first|refine Z1 ?_|refine Z2 ?_|refine Z3 ?_|refine Z4 ?_|refine Z5 ?_|refine Z9 (by assumption) rfl ?_|refine ZA (by assumption) rfl ?_|refine ZB (by assumption) rfl ?_|refine Z6 ?_|refine Z7 ?_|refine Z8 ?_|refine ZB (by assumption) (by assumption) ?_)|((with_reducible refine ZM ?_ ?_);(focus rfl)));(conv=>whnf)))
    exact ⟨rfl, x0c⟩

theorem nodeFrames_spec {h : Heap} {a : Option Addr} {n c : Nat} {l : List UInt8} (x : Sl h 1 a n c (l.map byteV)) (hn : n ≤ 1048576) :
    HCalls Try.prog 5 #[.slice a n c] h fun e h' => e = .returned (.bool true) ∧ Ext h h' := by
  have hl : l.length = n := by simpa using x.1
  refine c5 (by simp) ?_
  ((conv=>whnf);repeat((first|(with_reducible first|refine Z1 ?_|refine Z2 ?_|refine Z3 ?_|refine Z4 ?_|refine Z5 ?_|refine Z9 (by assumption) rfl ?_|refine ZA (by assumption) rfl ?_|refine ZB (by assumption) rfl ?_|refine Z6 ?_|refine Z7 ?_|refine Z8 ?_|refine ZB (by assumption) (by assumption) ?_)|((with_reducible refine ZM ?_ ?_);(focus rfl)));(conv=>whnf)))
  refine HCall.mk ((live_spec _).mono ?_)
  rintro e h1 ⟨rfl, x0c⟩
  replace x := x.ext x0c
  by_cases hbig : n > 4088
  · have q : decide ((n : Int) > 4088) = true := decide_eq_true (by omega)
    ((conv=>whnf);repeat((first|(with_reducible first|refine Z1 ?_|refine Z2 ?_|refine Z3 ?_|refine Z4 ?_|refine Z5 ?_|refine Z9 (by assumption) rfl ?_|refine ZA (by assumption) rfl ?_|refine ZB (by assumption) rfl ?_|refine Z6 ?_|refine Z7 ?_|refine Z8 ?_|refine ZB (by assumption) (by assumption) ?_)|((with_reducible refine ZM ?_ ?_);(focus rfl)));(conv=>whnf)))
    exact ⟨rfl, x0c⟩
  have q : decide ((n : Int) > 4088) = false := decide_eq_false (by omega)
  ((conv=>whnf);repeat((first|(with_reducible first|refine Z1 ?_|refine Z2 ?_|refine Z3 ?_|refine Z4 ?_|refine Z5 ?_|refine Z9 (by assumption) rfl ?_|refine ZA (by assumption) rfl ?_|refine ZB (by assumption) rfl ?_|refine Z6 ?_|refine Z7 ?_|refine Z8 ?_|refine ZB (by assumption) (by assumption) ?_)|((with_reducible refine ZM ?_ ?_);(focus rfl)));(conv=>whnf)))
  refine HCall.mk ((rframe_spec x (by omega)).mono ?_)
  rintro e h2 ⟨a2, c2, rfl, w2, x2⟩
  ((conv=>whnf);repeat((first|(with_reducible first|refine Z1 ?_|refine Z2 ?_|refine Z3 ?_|refine Z4 ?_|refine Z5 ?_|refine Z9 (by assumption) rfl ?_|refine ZA (by assumption) rfl ?_|refine ZB (by assumption) rfl ?_|refine Z6 ?_|refine Z7 ?_|refine Z8 ?_|refine ZB (by assumption) (by assumption) ?_)|((with_reducible refine ZM ?_ ?_);(focus rfl)));(conv=>whnf)))
  refine HBound.mk (4088 - n) (by omega) (by omega) ?_
  refine HMust.mk (by omega) ?_
  have e1 : (Builtin.zeroCells [Value.int .u8 0].toArray (4088 - n)).toList = (List.replicate (4088 - n) (0 : UInt8)).map byteV := by
    rw [zeroCells_one]; simp [byteV]
  rw [e1]
  refine Own.append w2 (by have := x2.1; omega) rfl (by simp) bytesV_one (by omega) ?_
  intro h3 a3 c3 w3 k3 _ _
  have e2 : 8 + n + (4088 - n) = 4096 := by omega
  have e3 : (frameL l).map byteV ++ (List.replicate (4088 - n) (0 : UInt8)).map byteV = (secL l).map byteV := by rw [← List.map_append]; unfold secL; rw [hl]
  rw [e2, e3] at w3
  rw [e2]
  have x3 : Ext h h3 := x0c.trans (x2.keep k3)
  have s3 := w3.sl
  replace x0c := x3
  clear x2 k3 w3 w2 x3
  ((conv=>whnf);repeat((first|(with_reducible first|refine Z1 ?_|refine Z2 ?_|refine Z3 ?_|refine Z4 ?_|refine Z5 ?_|refine Z9 (by assumption) rfl ?_|refine ZA (by assumption) rfl ?_|refine ZB (by assumption) rfl ?_|refine Z6 ?_|refine Z7 ?_|refine Z8 ?_|refine ZB (by assumption) (by assumption) ?_)|((with_reducible refine ZM ?_ ?_);(focus rfl)));(conv=>whnf)))
  refine HCall.mk ((decodeN_spec s3 (by omega)).mono ?_)
  rintro e h4 ⟨xs, rfl, nx, xx⟩
  generalize hrd : rDec (secL l) = rd at nx ⊢
  have rx : NRep h4 rd.nd xs := nx.get
  have hxl := rx.len
  replace s3 := s3.ext xx
  replace x0c := x0c.trans xx
  clear xx nx
  ((conv=>whnf);repeat((first|(with_reducible first|refine Z1 ?_|refine Z2 ?_|refine Z3 ?_|refine Z4 ?_|refine Z5 ?_|refine Z9 (by assumption) rfl ?_|refine ZA (by assumption) rfl ?_|refine ZB (by assumption) rfl ?_|refine Z6 ?_|refine Z7 ?_|refine Z8 ?_|refine ZB (by assumption) (by assumption) ?_)|((with_reducible refine ZM ?_ ?_);(focus rfl)));(conv=>whnf)))
  refine new_var (e := 26) zeroN rfl ?_
  intro h5 b5 o5 x5 z5 hb5
  ((conv=>whnf);repeat((first|(with_reducible first|refine Z1 ?_|refine Z2 ?_|refine Z3 ?_|refine Z4 ?_|refine Z5 ?_|refine Z9 (by assumption) rfl ?_|refine ZA (by assumption) rfl ?_|refine ZB (by assumption) rfl ?_|refine Z6 ?_|refine Z7 ?_|refine Z8 ?_|refine ZB (by assumption) (by assumption) ?_)|((with_reducible refine ZM ?_ ?_);(focus rfl)));(conv=>whnf)))
  refine HMust.mk hxl ?_
  refine store_new o5 hxl rx.one ?_
  intro h6 f6 z6 o5
  have xx : Ext h4 h6 := x5.offNew f6 (by omega)
  replace s3 := s3.ext xx
  replace x0c := x0c.trans xx
  replace rx := rx.ext xx
  clear xx x5 f6
  ((conv=>whnf);repeat((first|(with_reducible first|refine Z1 ?_|refine Z2 ?_|refine Z3 ?_|refine Z4 ?_|refine Z5 ?_|refine Z9 (by assumption) rfl ?_|refine ZA (by assumption) rfl ?_|refine ZB (by assumption) rfl ?_|refine Z6 ?_|refine Z7 ?_|refine Z8 ?_|refine ZB (by assumption) (by assumption) ?_)|((with_reducible refine ZM ?_ ?_);(focus rfl)));(conv=>whnf)))
  refine HCall.mk ((rdecodeN_spec s3 (by omega)).mono ?_)
  rintro e h7 ⟨ys, rfl, ny, xx⟩
  rw [hrd] at ny ⊢
  have ry : NRep h7 rd.nd ys := ny.get
  have hyl := ry.len
  replace s3 := s3.ext xx
  replace x0c := x0c.trans xx
  replace rx := rx.ext xx
  replace o5 := o5.ext xx
  clear xx ny
  ((conv=>whnf);repeat((first|(with_reducible first|refine Z1 ?_|refine Z2 ?_|refine Z3 ?_|refine Z4 ?_|refine Z5 ?_|refine Z9 (by assumption) rfl ?_|refine ZA (by assumption) rfl ?_|refine ZB (by assumption) rfl ?_|refine Z6 ?_|refine Z7 ?_|refine Z8 ?_|refine ZB (by assumption) (by assumption) ?_)|((with_reducible refine ZM ?_ ?_);(focus rfl)));(conv=>whnf)))
  refine new_var (e := 25) zeroN rfl ?_
  intro h8 b8 o8 x8 z8 hb8
  ((conv=>whnf);repeat((first|(with_reducible first|refine Z1 ?_|refine Z2 ?_|refine Z3 ?_|refine Z4 ?_|refine Z5 ?_|refine Z9 (by assumption) rfl ?_|refine ZA (by assumption) rfl ?_|refine ZB (by assumption) rfl ?_|refine Z6 ?_|refine Z7 ?_|refine Z8 ?_|refine ZB (by assumption) (by assumption) ?_)|((with_reducible refine ZM ?_ ?_);(focus rfl)));(conv=>whnf)))
  refine HMust.mk hyl ?_
  refine store_new o8 hyl ry.one ?_
  intro h9 f9 z9 o8
  have xx : Ext h7 h9 := x8.offNew f9 (by omega)
  replace x0c := x0c.trans xx
  replace rx := rx.ext xx
  replace ry := ry.ext xx
  replace o5 := o5.ext xx
  clear xx x8 f9
  have one : decide (rd.nd = rd.nd) = true := decide_eq_true rfl
  have hq : ((rd.er : Int) == (rd.er : Int)) = true := beq_self_eq_true _
  ((conv=>whnf);repeat((first|(with_reducible first|refine Z1 ?_|refine Z2 ?_|refine Z3 ?_|refine Z4 ?_|refine Z5 ?_|refine Z9 (by assumption) rfl ?_|refine ZA (by assumption) rfl ?_|refine ZB (by assumption) rfl ?_|refine Z6 ?_|refine Z7 ?_|refine Z8 ?_|refine ZB (by assumption) (by assumption) ?_)|((with_reducible refine ZM ?_ ?_);(focus rfl)));(conv=>whnf)))
  refine HAlt.mk ?_ ?_
  all_goals
    ((conv=>whnf);repeat((first|(with_reducible first|refine Z1 ?_|refine Z2 ?_|refine Z3 ?_|refine Z4 ?_|refine Z5 ?_|refine Z9 (by assumption) rfl ?_|refine ZA (by assumption) rfl ?_|refine ZB (by assumption) rfl ?_|refine Z6 ?_|refine Z7 ?_|refine Z8 ?_|refine ZB (by assumption) (by assumption) ?_)|((with_reducible refine ZM ?_ ?_);(focus rfl)));(conv=>whnf)))
    refine HCall.mk ((toldN_spec rx).mono ?_)
    rintro e hB ⟨rfl, xx⟩
    replace x0c := x0c.trans xx
    replace rx := rx.ext xx
    replace ry := ry.ext xx
    replace o8 := o8.ext xx
    clear xx
    ((conv=>whnf);repeat((first|(with_reducible first|refine Z1 ?_|refine Z2 ?_|refine Z3 ?_|refine Z4 ?_|refine Z5 ?_|refine Z9 (by assumption) rfl ?_|refine ZA (by assumption) rfl ?_|refine ZB (by assumption) rfl ?_|refine Z6 ?_|refine Z7 ?_|refine Z8 ?_|refine ZB (by assumption) (by assumption) ?_)|((with_reducible refine ZM ?_ ?_);(focus rfl)));(conv=>whnf)))
    refine HCall.mk ((rsameN_spec rx ry).mono ?_)
    rintro e hC ⟨he, xx⟩
    rw [one] at he
    subst he
    replace x0c := x0c.trans xx
    clear xx
    ((conv=>whnf);repeat((first|(with_reducible first|refine Z1 ?_|refine Z2 ?_|refine Z3 ?_|refine Z4 ?_|refine Z5 ?_|refine Z9 (by assumption) rfl ?_|refine ZA (by assumption) rfl ?_|refine ZB (by assumption) rfl ?_|refine Z6 ?_|refine Z7 ?_|refine Z8 ?_|refine ZB (by assumption) (by assumption) ?_)|((with_reducible refine ZM ?_ ?_);(focus rfl)));(conv=>whnf)))
    exact ⟨by show Ending.returned (.bool ((rd.er : Int) == (rd.er : Int))) = _; rw [hq], x0c⟩

theorem nodeChild_spec {d : ND} {h : Heap} {cs : List Value} (ra : NRep h d cs) (key : ByteArray) (wk : key.size ≤ 1048576) :
    HCalls Try.prog 7 #[.agg cs.toArray, .string key] h fun e h' => e = .returned (.bool true) ∧ Ext h h' := by
  have hcl := ra.len
  refine c7 (by simp) ?_
  (conv => whnf)
  refine new_var (e := 25) cs rfl ?_
  intro h1 b2 o2 x0c z1 hb2
  replace ra := ra.ext x0c
  ((conv=>whnf);repeat((first|(with_reducible first|refine Z1 ?_|refine Z2 ?_|refine Z3 ?_|refine Z4 ?_|refine Z5 ?_|refine Z9 (by assumption) rfl ?_|refine ZA (by assumption) rfl ?_|refine ZB (by assumption) rfl ?_|refine Z6 ?_|refine Z7 ?_|refine Z8 ?_|refine ZB (by assumption) (by assumption) ?_)|((with_reducible refine ZM ?_ ?_);(focus rfl)));(conv=>whnf)))
  refine HCall.mk ((live_spec _).mono ?_)
  rintro e h2 ⟨rfl, xx⟩
  replace ra := ra.ext xx
  replace o2 := o2.ext xx
  replace x0c := x0c.trans xx
  clear xx
  ((conv=>whnf);repeat((first|(with_reducible first|refine Z1 ?_|refine Z2 ?_|refine Z3 ?_|refine Z4 ?_|refine Z5 ?_|refine Z9 (by assumption) rfl ?_|refine ZA (by assumption) rfl ?_|refine ZB (by assumption) rfl ?_|refine Z6 ?_|refine Z7 ?_|refine Z8 ?_|refine ZB (by assumption) (by assumption) ?_)|((with_reducible refine ZM ?_ ?_);(focus rfl)));(conv=>whnf)))
  refine HCall.mk ((ownN_spec ra).mono ?_)
  rintro e h3 ⟨xs, rfl, rx, xx⟩
  replace ra := ra.ext xx
  replace o2 := o2.ext xx
  replace x0c := x0c.trans xx
  clear xx
  ((conv=>whnf);repeat((first|(with_reducible first|refine Z1 ?_|refine Z2 ?_|refine Z3 ?_|refine Z4 ?_|refine Z5 ?_|refine Z9 (by assumption) rfl ?_|refine ZA (by assumption) rfl ?_|refine ZB (by assumption) rfl ?_|refine Z6 ?_|refine Z7 ?_|refine Z8 ?_|refine ZB (by assumption) (by assumption) ?_)|((with_reducible refine ZM ?_ ?_);(focus rfl)));(conv=>whnf)))
  refine HCall.mk ((checkN_spec rx).mono ?_)
  rintro e h4 ⟨r, rfl, hr, xx⟩
  replace ra := ra.ext xx
  replace o2 := o2.ext xx
  replace x0c := x0c.trans xx
  clear xx
  cases r
  · ((conv=>whnf);repeat((first|(with_reducible first|refine Z1 ?_|refine Z2 ?_|refine Z3 ?_|refine Z4 ?_|refine Z5 ?_|refine Z9 (by assumption) rfl ?_|refine ZA (by assumption) rfl ?_|refine ZB (by assumption) rfl ?_|refine Z6 ?_|refine Z7 ?_|refine Z8 ?_|refine ZB (by assumption) (by assumption) ?_)|((with_reducible refine ZM ?_ ?_);(focus rfl)));(conv=>whnf)))
    exact ⟨rfl, x0c⟩
  have hm := hr.1 rfl
  have hkl := ra.1
  ((conv=>whnf);repeat((first|(with_reducible first|refine Z1 ?_|refine Z2 ?_|refine Z3 ?_|refine Z4 ?_|refine Z5 ?_|refine Z9 (by assumption) rfl ?_|refine ZA (by assumption) rfl ?_|refine ZB (by assumption) rfl ?_|refine Z6 ?_|refine Z7 ?_|refine Z8 ?_|refine ZB (by assumption) (by assumption) ?_)|((with_reducible refine ZM ?_ ?_);(focus rfl)));(conv=>whnf)))
  refine HCall.mk ((ownN_spec ra).mono ?_)
  rintro e h5 ⟨ys, rfl, ry, xx⟩
  replace ra := ra.ext xx
  replace o2 := o2.ext xx
  replace x0c := x0c.trans xx
  clear xx
  ((conv=>whnf);repeat((first|(with_reducible first|refine Z1 ?_|refine Z2 ?_|refine Z3 ?_|refine Z4 ?_|refine Z5 ?_|refine Z9 (by assumption) rfl ?_|refine ZA (by assumption) rfl ?_|refine ZB (by assumption) rfl ?_|refine Z6 ?_|refine Z7 ?_|refine Z8 ?_|refine ZB (by assumption) (by assumption) ?_)|((with_reducible refine ZM ?_ ?_);(focus rfl)));(conv=>whnf)))
  refine HCall.mk ((childN_spec key ry).mono ?_)
  rintro e h6 ⟨rfl, xx⟩
  replace ra := ra.ext xx
  replace o2 := o2.ext xx
  replace x0c := x0c.trans xx
  clear xx
  have hch := childN_le d.keys key
  have hiff := fun (i : Nat) (hi : i < d.keys.length) => childN_iff hm.rise key hi
  generalize childN d.keys key = cn at hch hiff ⊢
  obtain ⟨a1, a2, a3, a4, a5, a6, ka, kc, va, vc, ia, ic, rfl, s1, s2, s3⟩ := ra
  have q1 : decide ((cn : Int) ≥ 0) = true := decide_eq_true (by omega)
  have q2 : decide ((cn : Int) ≤ (d.keys.length : Int)) = true := decide_eq_true (by omega)
  ((conv=>whnf);repeat((first|(with_reducible first|refine Z1 ?_|refine Z2 ?_|refine Z3 ?_|refine Z4 ?_|refine Z5 ?_|refine Z9 (by assumption) rfl ?_|refine ZA (by assumption) rfl ?_|refine ZB (by assumption) rfl ?_|refine Z6 ?_|refine Z7 ?_|refine Z8 ?_|refine ZB (by assumption) (by assumption) ?_)|((with_reducible refine ZM ?_ ?_);(focus rfl)));(conv=>whnf)))
  refine loop_rule [22] (fun vs h' => ∃ (i : Nat), vs = [.int .i64 i] ∧ i ≤ d.keys.length ∧ h' = h6)
    (fun vs _ => match vs with | [.int _ i] => d.keys.length - i.toNat | _ => 0) rfl ?_ ?_
  · exact ⟨0, rfl, by omega, rfl⟩
  intro u h6 v22
  rintro ⟨i, e, hi, rfl⟩
  cases e
  ((conv=>whnf);repeat((first|(with_reducible first|refine Z1 ?_|refine Z2 ?_|refine Z3 ?_|refine Z4 ?_|refine Z5 ?_|refine Z9 (by assumption) rfl ?_|refine ZA (by assumption) rfl ?_|refine ZB (by assumption) rfl ?_|refine Z6 ?_|refine Z7 ?_|refine Z8 ?_|refine ZB (by assumption) (by assumption) ?_)|((with_reducible refine ZM ?_ ?_);(focus rfl)));(conv=>whnf)))
  refine HIf.mk (fun hlt => ?_) (fun hlt => ?_)
  · have hi1 : i < d.keys.length := by have := of_decide_eq_true hlt; omega
    have hmu : d.keys.length - ((i : Int) + 1).toNat < d.keys.length - ((i : Int)).toNat := by omega
    have e1 : (strLt d.keys[i] key || strEq d.keys[i] key) = decide ((i : Int) < (cn : Int)) := by
      rw [strLe_not]
      have := hiff i hi1
      unfold strLe at this
      rw [this]
      by_cases h : i < cn
      · rw [decide_eq_true h, decide_eq_true (by omega)]
      · rw [decide_eq_false h, decide_eq_false (by omega)]
    have q3 : (bif true then !((strLt d.keys[i] key || strEq d.keys[i] key) == decide ((i : Int) < (cn : Int))) else ((strLt d.keys[i] key || strEq d.keys[i] key) == decide ((i : Int) < (cn : Int)))) = false := by rw [e1]; simp
    ((conv=>whnf);repeat((first|(with_reducible first|refine Z1 ?_|refine Z2 ?_|refine Z3 ?_|refine Z4 ?_|refine Z5 ?_|refine Z9 (by assumption) rfl ?_|refine ZA (by assumption) rfl ?_|refine ZB (by assumption) rfl ?_|refine Z6 ?_|refine Z7 ?_|refine Z8 ?_|refine ZB (by assumption) (by assumption) ?_)|((with_reducible refine ZM ?_ ?_);(focus rfl)));(conv=>whnf)))
    refine HIdx.mk i rfl hi1 ?_
    refine sl_some s1 hi1 fun p ep => ?_
    ((conv=>whnf);repeat((first|(with_reducible first|refine Z1 ?_|refine Z2 ?_|refine Z3 ?_|refine Z4 ?_|refine Z5 ?_|refine Z9 (by assumption) rfl ?_|refine ZA (by assumption) rfl ?_|refine ZB (by assumption) rfl ?_|refine Z6 ?_|refine Z7 ?_|refine Z8 ?_|refine ZB (by assumption) (by assumption) ?_)|((with_reducible refine ZM ?_ ?_);(focus rfl)));(conv=>whnf)))
    refine s1.load ep (by simpa using hi1) ?_
    rw [List.getElem_map]
    ((conv=>whnf);repeat((first|(with_reducible first|refine Z1 ?_|refine Z2 ?_|refine Z3 ?_|refine Z4 ?_|refine Z5 ?_|refine Z9 (by assumption) rfl ?_|refine ZA (by assumption) rfl ?_|refine ZB (by assumption) rfl ?_|refine Z6 ?_|refine Z7 ?_|refine Z8 ?_|refine ZB (by assumption) (by assumption) ?_)|((with_reducible refine ZM ?_ ?_);(focus rfl)));(conv=>whnf)))
    exact ⟨⟨i + 1, rfl, by omega, rfl⟩, hmu⟩
  · ((conv=>whnf);repeat((first|(with_reducible first|refine Z1 ?_|refine Z2 ?_|refine Z3 ?_|refine Z4 ?_|refine Z5 ?_|refine Z9 (by assumption) rfl ?_|refine ZA (by assumption) rfl ?_|refine ZB (by assumption) rfl ?_|refine Z6 ?_|refine Z7 ?_|refine Z8 ?_|refine ZB (by assumption) (by assumption) ?_)|((with_reducible refine ZM ?_ ?_);(focus rfl)));(conv=>whnf)))
    exact ⟨by show Ending.returned (.bool (decide ((cn : Int) ≤ (d.keys.length : Int)))) = _; rw [q2], x0c⟩

theorem nodeBack_spec {d : ND} {h : Heap} {cs : List Value} (ra : NRep h d cs) {a : Option Addr} {n c : Nat} {l : List UInt8} (x : Sl h 1 a n c (l.map byteV)) (hn : n ≤ 1048576) :
    HCalls Try.prog 6 #[.agg cs.toArray, .slice a n c] h fun e h' => e = .returned (.bool true) ∧ Ext h h' := by
  have hl : l.length = n := by simpa using x.1
  have hcl := ra.len
  refine c6 (by simp) ?_
  (conv => whnf)
  refine new_var (e := 25) cs rfl ?_
  intro h1 b2 o2 x0c z1 hb2
  replace ra := ra.ext x0c
  replace x := x.ext x0c
  ((conv=>whnf);repeat((first|(with_reducible first|refine Z1 ?_|refine Z2 ?_|refine Z3 ?_|refine Z4 ?_|refine Z5 ?_|refine Z9 (by assumption) rfl ?_|refine ZA (by assumption) rfl ?_|refine ZB (by assumption) rfl ?_|refine Z6 ?_|refine Z7 ?_|refine Z8 ?_|refine ZB (by assumption) (by assumption) ?_)|((with_reducible refine ZM ?_ ?_);(focus rfl)));(conv=>whnf)))
  refine HCall.mk ((live_spec _).mono ?_)
  rintro e h2 ⟨rfl, xx⟩
  replace ra := ra.ext xx
  replace o2 := o2.ext xx
  replace x := x.ext xx
  replace x0c := x0c.trans xx
  clear xx
  ((conv=>whnf);repeat((first|(with_reducible first|refine Z1 ?_|refine Z2 ?_|refine Z3 ?_|refine Z4 ?_|refine Z5 ?_|refine Z9 (by assumption) rfl ?_|refine ZA (by assumption) rfl ?_|refine ZB (by assumption) rfl ?_|refine Z6 ?_|refine Z7 ?_|refine Z8 ?_|refine ZB (by assumption) (by assumption) ?_)|((with_reducible refine ZM ?_ ?_);(focus rfl)));(conv=>whnf)))
  refine HCall.mk ((ownN_spec ra).mono ?_)
  rintro e h3 ⟨xs, rfl, rx, xx⟩
  replace ra := ra.ext xx
  replace o2 := o2.ext xx
  replace x := x.ext xx
  replace x0c := x0c.trans xx
  clear xx
  ((conv=>whnf);repeat((first|(with_reducible first|refine Z1 ?_|refine Z2 ?_|refine Z3 ?_|refine Z4 ?_|refine Z5 ?_|refine Z9 (by assumption) rfl ?_|refine ZA (by assumption) rfl ?_|refine ZB (by assumption) rfl ?_|refine Z6 ?_|refine Z7 ?_|refine Z8 ?_|refine ZB (by assumption) (by assumption) ?_)|((with_reducible refine ZM ?_ ?_);(focus rfl)));(conv=>whnf)))
  refine HCall.mk ((encodeN_spec rx).mono ?_)
  rintro e h4 ⟨r, a4, c4, l4, rfl, hr, hl4, w4, xx⟩
  replace ra := ra.ext xx
  replace o2 := o2.ext xx
  replace x := x.ext xx
  replace x0c := x0c.trans xx
  have s4 := w4.sl
  clear xx w4 rx
  ((conv=>whnf);repeat((first|(with_reducible first|refine Z2 ?_|refine Z3 ?_|refine Z4 ?_|refine Z5 ?_|refine Z9 (by assumption) rfl ?_|refine ZA (by assumption) rfl ?_|refine ZB (by assumption) rfl ?_|refine Z6 ?_|refine Z7 ?_|refine Z8 ?_|refine ZB (by assumption) (by assumption) ?_)|((with_reducible refine ZM ?_ ?_);(focus rfl)));(conv=>whnf)))
  refine cut_rule [] (fun _ h' => Ext h4 h') rfl ?_ ?_
  · cases r
    · ((conv=>whnf);repeat((first|(with_reducible first|refine Z1 ?_|refine Z2 ?_|refine Z3 ?_|refine Z4 ?_|refine Z5 ?_|refine Z9 (by assumption) rfl ?_|refine ZA (by assumption) rfl ?_|refine ZB (by assumption) rfl ?_|refine Z6 ?_|refine Z7 ?_|refine Z8 ?_|refine ZB (by assumption) (by assumption) ?_)|((with_reducible refine ZM ?_ ?_);(focus rfl)));(conv=>whnf)))
      exact Ext.refl _
    · have hm := hr.1 rfl
      rw [if_pos rfl] at hl4
      subst hl4
      have hsl := secN_len hm
      ((conv=>whnf);repeat((first|(with_reducible first|refine Z1 ?_|refine Z2 ?_|refine Z3 ?_|refine Z4 ?_|refine Z5 ?_|refine Z9 (by assumption) rfl ?_|refine ZA (by assumption) rfl ?_|refine ZB (by assumption) rfl ?_|refine Z6 ?_|refine Z7 ?_|refine Z8 ?_|refine ZB (by assumption) (by assumption) ?_)|((with_reducible refine ZM ?_ ?_);(focus rfl)));(conv=>whnf)))
      refine HCall.mk ((decodeN_spec s4 (by omega)).mono ?_)
      rintro e h5 ⟨ys, rfl, ny, x5⟩
      rw [secN_eq, rDec_sec (encN_len hm), rNode_enc hm] at ny ⊢
      have ry : NRep h5 d ys := ny.get
      have hyl := ry.len
      replace ra := ra.ext x5
      replace o2 := o2.ext x5
      ((conv=>whnf);repeat((first|(with_reducible first|refine Z1 ?_|refine Z2 ?_|refine Z3 ?_|refine Z4 ?_|refine Z5 ?_|refine Z9 (by assumption) rfl ?_|refine ZA (by assumption) rfl ?_|refine ZB (by assumption) rfl ?_|refine Z6 ?_|refine Z7 ?_|refine Z8 ?_|refine ZB (by assumption) (by assumption) ?_)|((with_reducible refine ZM ?_ ?_);(focus rfl)));(conv=>whnf)))
      refine new_var (e := 26) zeroN rfl ?_
      intro h6 b6 o6 x6 z6 hb6
      ((conv=>whnf);repeat((first|(with_reducible first|refine Z1 ?_|refine Z2 ?_|refine Z3 ?_|refine Z4 ?_|refine Z5 ?_|refine Z9 (by assumption) rfl ?_|refine ZA (by assumption) rfl ?_|refine ZB (by assumption) rfl ?_|refine Z6 ?_|refine Z7 ?_|refine Z8 ?_|refine ZB (by assumption) (by assumption) ?_)|((with_reducible refine ZM ?_ ?_);(focus rfl)));(conv=>whnf)))
      refine HMust.mk hyl ?_
      refine store_new o6 hyl ry.one ?_
      intro h7 f7 z7 o6
      have xx : Ext h5 h7 := x6.offNew f7 (by omega)
      replace ra := ra.ext xx
      replace ry := ry.ext xx
      replace o2 := o2.ext xx
      replace x5 := x5.trans xx
      have one : decide (d = d) = true := decide_eq_true rfl
      have qe : ((Rd.er (Rd.ok d []) : Int) != 0) = false := rfl
      clear xx x6 f7
      ((conv=>whnf);repeat((first|(with_reducible first|refine Z2 ?_|refine Z3 ?_|refine Z4 ?_|refine Z5 ?_|refine Z9 (by assumption) rfl ?_|refine ZA (by assumption) rfl ?_|refine ZB (by assumption) rfl ?_|refine Z6 ?_|refine Z7 ?_|refine Z8 ?_|refine ZB (by assumption) (by assumption) ?_)|((with_reducible refine ZM ?_ ?_);(focus rfl)));(conv=>whnf)))
      refine cut_rule [37] (fun vs h' => vs = [.bool false] ∧ Ext h4 h') rfl ?_ ?_
      · ((conv=>whnf);repeat((first|(with_reducible first|refine Z1 ?_|refine Z2 ?_|refine Z3 ?_|refine Z4 ?_|refine Z5 ?_|refine Z9 (by assumption) rfl ?_|refine ZA (by assumption) rfl ?_|refine ZB (by assumption) rfl ?_|refine Z6 ?_|refine Z7 ?_|refine Z8 ?_|refine ZB (by assumption) (by assumption) ?_)|((with_reducible refine ZM ?_ ?_);(focus rfl)));(conv=>whnf)))
        refine HAlt.mk ?_ ?_
        all_goals
          ((conv=>whnf);repeat((first|(with_reducible first|refine Z1 ?_|refine Z2 ?_|refine Z3 ?_|refine Z4 ?_|refine Z5 ?_|refine Z9 (by assumption) rfl ?_|refine ZA (by assumption) rfl ?_|refine ZB (by assumption) rfl ?_|refine Z6 ?_|refine Z7 ?_|refine Z8 ?_|refine ZB (by assumption) (by assumption) ?_)|((with_reducible refine ZM ?_ ?_);(focus rfl)));(conv=>whnf)))
          refine HCall.mk ((toldN_spec ry).mono ?_)
          rintro e hB ⟨rfl, xx⟩
          replace x5 := x5.trans xx
          replace ra := ra.ext xx
          replace ry := ry.ext xx
          replace o2 := o2.ext xx
          clear xx
          ((conv=>whnf);repeat((first|(with_reducible first|refine Z1 ?_|refine Z2 ?_|refine Z3 ?_|refine Z4 ?_|refine Z5 ?_|refine Z9 (by assumption) rfl ?_|refine ZA (by assumption) rfl ?_|refine ZB (by assumption) rfl ?_|refine Z6 ?_|refine Z7 ?_|refine Z8 ?_|refine ZB (by assumption) (by assumption) ?_)|((with_reducible refine ZM ?_ ?_);(focus rfl)));(conv=>whnf)))
          refine HCall.mk ((rsameN_spec ry ra).mono ?_)
          rintro e hC ⟨he, xx⟩
          rw [one] at he
          subst he
          replace x5 := x5.trans xx
          clear xx
          ((conv=>whnf);repeat((first|(with_reducible first|refine Z1 ?_|refine Z2 ?_|refine Z3 ?_|refine Z4 ?_|refine Z5 ?_|refine Z9 (by assumption) rfl ?_|refine ZA (by assumption) rfl ?_|refine ZB (by assumption) rfl ?_|refine Z6 ?_|refine Z7 ?_|refine Z8 ?_|refine ZB (by assumption) (by assumption) ?_)|((with_reducible refine ZM ?_ ?_);(focus rfl)));(conv=>whnf)))
          exact ⟨rfl, x5⟩
      intro u h8 v37
      rintro ⟨e, x8⟩
      cases e
      ((conv=>whnf);repeat((first|(with_reducible first|refine Z1 ?_|refine Z2 ?_|refine Z3 ?_|refine Z4 ?_|refine Z5 ?_|refine Z9 (by assumption) rfl ?_|refine ZA (by assumption) rfl ?_|refine ZB (by assumption) rfl ?_|refine Z6 ?_|refine Z7 ?_|refine Z8 ?_|refine ZB (by assumption) (by assumption) ?_)|((with_reducible refine ZM ?_ ?_);(focus rfl)));(conv=>whnf)))
      exact x8
  intro u h5 xx
  replace ra := ra.ext xx
  replace o2 := o2.ext xx
  replace x := x.ext xx
  replace x0c := x0c.trans xx
  clear xx s4 hl4
  by_cases hbig : n > 4088
  · have q : decide ((n : Int) > 4088) = true := decide_eq_true (by omega)
    ((conv=>whnf);repeat((first|(with_reducible first|refine Z1 ?_|refine Z2 ?_|refine Z3 ?_|refine Z4 ?_|refine Z5 ?_|refine Z9 (by assumption) rfl ?_|refine ZA (by assumption) rfl ?_|refine ZB (by assumption) rfl ?_|refine Z6 ?_|refine Z7 ?_|refine Z8 ?_|refine ZB (by assumption) (by assumption) ?_)|((with_reducible refine ZM ?_ ?_);(focus rfl)));(conv=>whnf)))
    exact ⟨rfl, x0c⟩
  have q : decide ((n : Int) > 4088) = false := decide_eq_false (by omega)
  ((conv=>whnf);repeat((first|(with_reducible first|refine Z1 ?_|refine Z2 ?_|refine Z3 ?_|refine Z4 ?_|refine Z5 ?_|refine Z9 (by assumption) rfl ?_|refine ZA (by assumption) rfl ?_|refine ZB (by assumption) rfl ?_|refine Z6 ?_|refine Z7 ?_|refine Z8 ?_|refine ZB (by assumption) (by assumption) ?_)|((with_reducible refine ZM ?_ ?_);(focus rfl)));(conv=>whnf)))
  refine HCall.mk ((rframe_spec x (by omega)).mono ?_)
  rintro e h2 ⟨a2, c2, rfl, w2, x2⟩
  ((conv=>whnf);repeat((first|(with_reducible first|refine Z1 ?_|refine Z2 ?_|refine Z3 ?_|refine Z4 ?_|refine Z5 ?_|refine Z9 (by assumption) rfl ?_|refine ZA (by assumption) rfl ?_|refine ZB (by assumption) rfl ?_|refine Z6 ?_|refine Z7 ?_|refine Z8 ?_|refine ZB (by assumption) (by assumption) ?_)|((with_reducible refine ZM ?_ ?_);(focus rfl)));(conv=>whnf)))
  refine HBound.mk (4088 - n) (by omega) (by omega) ?_
  refine HMust.mk (by omega) ?_
  have e1 : (Builtin.zeroCells [Value.int .u8 0].toArray (4088 - n)).toList = (List.replicate (4088 - n) (0 : UInt8)).map byteV := by
    rw [zeroCells_one]; simp [byteV]
  rw [e1]
  refine Own.append w2 (by have := x2.1; omega) rfl (by simp) bytesV_one (by omega) ?_
  intro h3 a3 c3 w3 k3 _ _
  have e2 : 8 + n + (4088 - n) = 4096 := by omega
  have e3 : (frameL l).map byteV ++ (List.replicate (4088 - n) (0 : UInt8)).map byteV = (secL l).map byteV := by rw [← List.map_append]; unfold secL; rw [hl]
  rw [e2, e3] at w3
  rw [e2]
  have x3 : Ext h h3 := x0c.trans (x2.keep k3)
  have s3 := w3.sl
  replace x0c := x3
  clear x2 k3 w3 w2 x3
  ((conv=>whnf);repeat((first|(with_reducible first|refine Z1 ?_|refine Z2 ?_|refine Z3 ?_|refine Z4 ?_|refine Z5 ?_|refine Z9 (by assumption) rfl ?_|refine ZA (by assumption) rfl ?_|refine ZB (by assumption) rfl ?_|refine Z6 ?_|refine Z7 ?_|refine Z8 ?_|refine ZB (by assumption) (by assumption) ?_)|((with_reducible refine ZM ?_ ?_);(focus rfl)));(conv=>whnf)))
  refine HCall.mk ((decodeN_spec s3 (by omega)).mono ?_)
  rintro e h4 ⟨xs, rfl, nx, xx⟩
  rw [rDec_sec (by omega)] at nx ⊢
  replace s3 := s3.ext xx
  replace x0c := x0c.trans xx
  have hxl := nx.get.len
  have hxo := nx.get.one
  have rx0 := nx.get
  clear xx nx
  ((conv=>whnf);repeat((first|(with_reducible first|refine Z1 ?_|refine Z2 ?_|refine Z3 ?_|refine Z4 ?_|refine Z5 ?_|refine Z9 (by assumption) rfl ?_|refine ZA (by assumption) rfl ?_|refine ZB (by assumption) rfl ?_|refine Z6 ?_|refine Z7 ?_|refine Z8 ?_|refine ZB (by assumption) (by assumption) ?_)|((with_reducible refine ZM ?_ ?_);(focus rfl)));(conv=>whnf)))
  refine new_var (e := 26) zeroN rfl ?_
  intro h5 b5 o5 x5 z5 hb5
  ((conv=>whnf);repeat((first|(with_reducible first|refine Z1 ?_|refine Z2 ?_|refine Z3 ?_|refine Z4 ?_|refine Z5 ?_|refine Z9 (by assumption) rfl ?_|refine ZA (by assumption) rfl ?_|refine ZB (by assumption) rfl ?_|refine Z6 ?_|refine Z7 ?_|refine Z8 ?_|refine ZB (by assumption) (by assumption) ?_)|((with_reducible refine ZM ?_ ?_);(focus rfl)));(conv=>whnf)))
  refine HMust.mk hxl ?_
  refine store_new o5 hxl hxo ?_
  intro h6 f6 z6 o5
  have xx : Ext h4 h6 := x5.offNew f6 (by omega)
  replace s3 := s3.ext xx
  replace x0c := x0c.trans xx
  replace rx0 := rx0.ext xx
  clear xx x5 f6
  cases hrn : rNode l with
  | no k =>
    have hk := rNode_nz hrn
    have q2 : ((Rd.er (Rd.no (α := ND) k) : Int) != 0) = true := by rw [bne_iff_ne]; show (k : Int) ≠ 0; omega
    ((conv=>whnf);repeat((first|(with_reducible first|refine Z1 ?_|refine Z2 ?_|refine Z3 ?_|refine Z4 ?_|refine Z5 ?_|refine Z9 (by assumption) rfl ?_|refine ZA (by assumption) rfl ?_|refine ZB (by assumption) rfl ?_|refine Z6 ?_|refine Z7 ?_|refine Z8 ?_|refine ZB (by assumption) (by assumption) ?_)|((with_reducible refine ZM ?_ ?_);(focus rfl)));(conv=>whnf)))
    exact ⟨rfl, x0c⟩
  | ok m r =>
    obtain ⟨hm, he, _⟩ := rNode_right hrn
    rw [hrn] at rx0
    have rx : NRep h6 m xs := rx0
    have qe : ((Rd.er (Rd.ok m r) : Int) != 0) = false := rfl
    ((conv=>whnf);repeat((first|(with_reducible first|refine Z1 ?_|refine Z2 ?_|refine Z3 ?_|refine Z4 ?_|refine Z5 ?_|refine Z9 (by assumption) rfl ?_|refine ZA (by assumption) rfl ?_|refine ZB (by assumption) rfl ?_|refine Z6 ?_|refine Z7 ?_|refine Z8 ?_|refine ZB (by assumption) (by assumption) ?_)|((with_reducible refine ZM ?_ ?_);(focus rfl)));(conv=>whnf)))
    refine HCall.mk ((encodeN_spec rx).mono ?_)
    rintro e h7 ⟨r7, a7, c7, l7, rfl, hr7, hl7, w7, xx⟩
    obtain rfl := hr7.2 hm
    rw [if_pos rfl, secN_eq, he] at hl7
    subst hl7
    have s7 := w7.sl
    replace s3 := s3.ext xx
    replace x0c := x0c.trans xx
    ((conv=>whnf);repeat((first|(with_reducible first|refine Z1 ?_|refine Z2 ?_|refine Z3 ?_|refine Z4 ?_|refine Z5 ?_|refine Z9 (by assumption) rfl ?_|refine ZA (by assumption) rfl ?_|refine ZB (by assumption) rfl ?_|refine Z6 ?_|refine Z7 ?_|refine Z8 ?_|refine ZB (by assumption) (by assumption) ?_)|((with_reducible refine ZM ?_ ?_);(focus rfl)));(conv=>whnf)))
    have e4 : (secL l).length = 4096 := secL_len (by omega)
    refine HCall.mk ((same_spec s7 s3).mono ?_)
    rintro e h8 ⟨rfl, he8⟩
    rw [beq_self_eq_true] at he8
    subst he8
    ((conv=>whnf);repeat((first|(with_reducible first|refine Z1 ?_|refine Z2 ?_|refine Z3 ?_|refine Z4 ?_|refine Z5 ?_|refine Z9 (by assumption) rfl ?_|refine ZA (by assumption) rfl ?_|refine ZB (by assumption) rfl ?_|refine Z6 ?_|refine Z7 ?_|refine Z8 ?_|refine ZB (by assumption) (by assumption) ?_)|((with_reducible refine ZM ?_ ?_);(focus rfl)));(conv=>whnf)))
    exact ⟨rfl, x0c⟩

theorem xor_ne {a b : UInt8} (hb : b ≠ 0) : a ^^^ b ≠ a := by
  intro h
  apply hb
  have : a ^^^ (a ^^^ b) = a ^^^ a := by rw [h]
  rw [← UInt8.xor_assoc, UInt8.xor_self, UInt8.zero_xor] at this
  exact this
theorem xor8 (a b : UInt8) : ibits .xor .u8 (a.toNat : Int) (b.toNat : Int) = ((a ^^^ b).toNat : Nat) := by
  unfold ibits
  have e1 : BitVec.ofInt 8 (a.toNat : Int) = a.toBitVec := by rw [BitVec.ofInt_natCast]; exact BitVec.eq_of_toNat_eq (by simp)
  have e2 : BitVec.ofInt 8 (b.toNat : Int) = b.toBitVec := by rw [BitVec.ofInt_natCast]; exact BitVec.eq_of_toNat_eq (by simp)
  show IntKind.u8.wrap (((BitVec.ofInt 8 (a.toNat : Int)) ^^^ (BitVec.ofInt 8 (b.toNat : Int))).toNat : Int) = _
  rw [e1, e2, ← UInt8.toBitVec_xor]
  have := (a ^^^ b).toNat_lt
  exact wrap_u8 (by show (0 : Int) ≤ ((a ^^^ b).toNat : Int) ∧ ((a ^^^ b).toNat : Int) ≤ 255; omega)
theorem tmod_pos (at' : Int) : ∃ p : Nat, p < 4096 ∧ ((at'.tmod 4096 + 4096).tmod 4096) = (p : Int) := by
  have h1 := Int.tmod_lt_of_pos at' (b := 4096) (by omega)
  have h2 : -4096 < at'.tmod 4096 := by
    have e1 : (at'.tmod 4096).natAbs = at'.natAbs % 4096 := Int.natAbs_tmod at' 4096
    have e2 := Nat.mod_lt at'.natAbs (show 4096 > 0 by omega)
    omega
  refine ⟨((at'.tmod 4096 + 4096).tmod 4096).toNat, ?_, ?_⟩
  · have h3 := Int.tmod_lt_of_pos (at'.tmod 4096 + 4096) (b := 4096) (by omega)
    omega
  · have h4 := Int.tmod_nonneg (a := at'.tmod 4096 + 4096) 4096 (by omega)
    omega

theorem nodeTurns_spec {d : ND} {h : Heap} {cs : List Value} (ra : NRep h d cs) (at' : Int) (wa : (Lit.int .i64 at').wf = true) (by' : Int) (wb : (Lit.int .u8 by').wf = true) :
    HCalls Try.prog 8 #[.agg cs.toArray, .int .i64 at', .int .u8 by'] h fun e h' => e = .returned (.bool true) ∧ Ext h h' := by
  have hb : 0 ≤ by' ∧ by' ≤ 255 := by simpa [Lit.wf, IntKind.min, IntKind.max, IntKind.signed, IntKind.bits] using wb
  obtain ⟨bb, hbb⟩ : ∃ bb : UInt8, by' = (bb.toNat : Int) := ⟨UInt8.ofNat by'.toNat, by simp; omega⟩
  subst hbb
  have hcl := ra.len
  refine c8 (by simp) ?_
  (conv => whnf)
  refine new_var (e := 25) cs rfl ?_
  intro h1 b2 o2 x0c z1 hb2
  replace ra := ra.ext x0c
  ((conv=>whnf);repeat((first|(with_reducible first|refine Z1 ?_|refine Z2 ?_|refine Z3 ?_|refine Z4 ?_|refine Z5 ?_|refine Z9 (by assumption) rfl ?_|refine ZA (by assumption) rfl ?_|refine ZB (by assumption) rfl ?_|refine Z6 ?_|refine Z7 ?_|refine Z8 ?_|refine ZB (by assumption) (by assumption) ?_)|((with_reducible refine ZM ?_ ?_);(focus rfl)));(conv=>whnf)))
  refine HCall.mk ((live_spec _).mono ?_)
  rintro e h2 ⟨rfl, xx⟩
  replace ra := ra.ext xx
  replace o2 := o2.ext xx
  replace x0c := x0c.trans xx
  clear xx
  ((conv=>whnf);repeat((first|(with_reducible first|refine Z1 ?_|refine Z2 ?_|refine Z3 ?_|refine Z4 ?_|refine Z5 ?_|refine Z9 (by assumption) rfl ?_|refine ZA (by assumption) rfl ?_|refine ZB (by assumption) rfl ?_|refine Z6 ?_|refine Z7 ?_|refine Z8 ?_|refine ZB (by assumption) (by assumption) ?_)|((with_reducible refine ZM ?_ ?_);(focus rfl)));(conv=>whnf)))
  refine HCall.mk ((ownN_spec ra).mono ?_)
  rintro e h3 ⟨xs, rfl, rx, xx⟩
  replace x0c := x0c.trans xx
  clear xx
  ((conv=>whnf);repeat((first|(with_reducible first|refine Z1 ?_|refine Z2 ?_|refine Z3 ?_|refine Z4 ?_|refine Z5 ?_|refine Z9 (by assumption) rfl ?_|refine ZA (by assumption) rfl ?_|refine ZB (by assumption) rfl ?_|refine Z6 ?_|refine Z7 ?_|refine Z8 ?_|refine ZB (by assumption) (by assumption) ?_)|((with_reducible refine ZM ?_ ?_);(focus rfl)));(conv=>whnf)))
  refine HCall.mk ((encodeN_spec rx).mono ?_)
  rintro e h4 ⟨r, a4, c4, l4, rfl, hr, hl4, w4, xx⟩
  have hs3 := x0c.1
  replace x0c := x0c.trans xx
  clear xx rx ra o2
  cases r
  · ((conv=>whnf);repeat((first|(with_reducible first|refine Z1 ?_|refine Z2 ?_|refine Z3 ?_|refine Z4 ?_|refine Z5 ?_|refine Z9 (by assumption) rfl ?_|refine ZA (by assumption) rfl ?_|refine ZB (by assumption) rfl ?_|refine Z6 ?_|refine Z7 ?_|refine Z8 ?_|refine ZB (by assumption) (by assumption) ?_)|((with_reducible refine ZM ?_ ?_);(focus rfl)));(conv=>whnf)))
    exact ⟨rfl, x0c⟩
  have hm := hr.1 rfl
  rw [if_pos rfl] at hl4
  have hsl : l4.length = 4096 := by rw [hl4, secN_len hm]
  by_cases hz : bb = 0
  · have q : (((bb.toNat : Nat) : Int) == 0) = true := by rw [hz]; rfl
    ((conv=>whnf);repeat((first|(with_reducible first|refine Z1 ?_|refine Z2 ?_|refine Z3 ?_|refine Z4 ?_|refine Z5 ?_|refine Z9 (by assumption) rfl ?_|refine ZA (by assumption) rfl ?_|refine ZB (by assumption) rfl ?_|refine Z6 ?_|refine Z7 ?_|refine Z8 ?_|refine ZB (by assumption) (by assumption) ?_)|((with_reducible refine ZM ?_ ?_);(focus rfl)));(conv=>whnf)))
    exact ⟨rfl, x0c⟩
  have q : (((bb.toNat : Nat) : Int) == 0) = false := by
    rw [beq_eq_false_iff_ne]; intro e; apply hz; apply UInt8.toNat_inj.1; show bb.toNat = 0; omega
  have q2 : ((l4.length : Int) != 4096) = false := by rw [hsl]; rfl
  obtain ⟨p, hp, ep⟩ := tmod_pos at'
  have h1 := Int.tmod_lt_of_pos at' (b := 4096) (by omega)
  have h2' : -4096 < at'.tmod 4096 := by
    have e1 : (at'.tmod 4096).natAbs = at'.natAbs % 4096 := Int.natAbs_tmod at' 4096
    have e2 := Nat.mod_lt at'.natAbs (show 4096 > 0 by omega)
    omega
  have hpl : p < l4.length := by omega
  ((conv=>whnf);repeat((first|(with_reducible first|refine Z1 ?_|refine Z2 ?_|refine Z3 ?_|refine Z4 ?_|refine Z5 ?_|refine Z9 (by assumption) rfl ?_|refine ZA (by assumption) rfl ?_|refine ZB (by assumption) rfl ?_|refine Z6 ?_|refine Z7 ?_|refine Z8 ?_|refine ZB (by assumption) (by assumption) ?_)|((with_reducible refine ZM ?_ ?_);(focus rfl)));(conv=>whnf)))
  refine HIdx.mk p ep hpl ?_
  refine sl_some w4.sl hpl fun p' ep' => ?_
  ((conv=>whnf);repeat((first|(with_reducible first|refine Z1 ?_|refine Z2 ?_|refine Z3 ?_|refine Z4 ?_|refine Z5 ?_|refine Z9 (by assumption) rfl ?_|refine ZA (by assumption) rfl ?_|refine ZB (by assumption) rfl ?_|refine Z6 ?_|refine Z7 ?_|refine Z8 ?_|refine ZB (by assumption) (by assumption) ?_)|((with_reducible refine ZM ?_ ?_);(focus rfl)));(conv=>whnf)))
  refine w4.sl.load ep' (by simpa using hpl) ?_
  rw [List.getElem_map]
  unfold byteV
  ((conv=>whnf);repeat((first|(with_reducible first|refine Z1 ?_|refine Z2 ?_|refine Z3 ?_|refine Z4 ?_|refine Z5 ?_|refine Z9 (by assumption) rfl ?_|refine ZA (by assumption) rfl ?_|refine ZB (by assumption) rfl ?_|refine Z6 ?_|refine Z7 ?_|refine Z8 ?_|refine ZB (by assumption) (by assumption) ?_)|((with_reducible refine ZM ?_ ?_);(focus rfl)));(conv=>whnf)))
  refine HIdx.mk p ep hpl ?_
  refine sl_some w4.sl hpl fun p'' ep'' => ?_
  ((conv=>whnf);repeat((first|(with_reducible first|refine Z1 ?_|refine Z2 ?_|refine Z3 ?_|refine Z4 ?_|refine Z5 ?_|refine Z9 (by assumption) rfl ?_|refine ZA (by assumption) rfl ?_|refine ZB (by assumption) rfl ?_|refine Z6 ?_|refine Z7 ?_|refine Z8 ?_|refine ZB (by assumption) (by assumption) ?_)|((with_reducible refine ZM ?_ ?_);(focus rfl)));(conv=>whnf)))
  refine Own.store w4 ep'' hpl rfl ?_
  intro h5 f5 hge z5 w5
  have x05 : Ext h h5 := x0c.offNew f5 (by omega)
  have e5 : (l4.map byteV).set p (.int .u8 (ibits .xor .u8 (l4[p].toNat : Int) (bb.toNat : Int))) = (l4.set p (l4[p] ^^^ bb)).map byteV := by
    rw [xor8, List.map_set]; rfl
  replace w5 : Own h5 h3.size 5 1 a4 l4.length c4 ((l4.map byteV).set p (.int .u8 (ibits .xor .u8 (l4[p].toNat : Int) (bb.toNat : Int)))) := w5
  rw [e5] at w5
  have s5 := w5.sl
  ((conv=>whnf);repeat((first|(with_reducible first|refine Z1 ?_|refine Z2 ?_|refine Z3 ?_|refine Z4 ?_|refine Z5 ?_|refine Z9 (by assumption) rfl ?_|refine ZA (by assumption) rfl ?_|refine ZB (by assumption) rfl ?_|refine Z6 ?_|refine Z7 ?_|refine Z8 ?_|refine ZB (by assumption) (by assumption) ?_)|((with_reducible refine ZM ?_ ?_);(focus rfl)));(conv=>whnf)))
  refine HCall.mk ((decodeN_spec s5 (by omega)).mono ?_)
  rintro e h6 ⟨ys, rfl, ny, x6⟩
  have hyl := ny.get.len
  have hyo := ny.get.one
  have hturn : ∃ e, rDec (l4.set p (l4[p] ^^^ bb)) = .no e := by
    subst hl4
    exact rDec_turn hm hpl (xor_ne hz)
  obtain ⟨ek, hek⟩ := hturn
  have hne : (rDec (l4.set p (l4[p] ^^^ bb))).er ≠ 0 := by
    intro h0
    obtain ⟨d', r', h'⟩ := (rDec_er (by rw [List.length_set]; exact hsl)).1 h0
    rw [hek] at h'; cases h'
  generalize (rDec (l4.set p (l4[p] ^^^ bb))).er = er at hne ⊢
  have q3 : ((er : Int) != 0) = true := by rw [bne_iff_ne]; omega
  ((conv=>whnf);repeat((first|(with_reducible first|refine Z1 ?_|refine Z2 ?_|refine Z3 ?_|refine Z4 ?_|refine Z5 ?_|refine Z9 (by assumption) rfl ?_|refine ZA (by assumption) rfl ?_|refine ZB (by assumption) rfl ?_|refine Z6 ?_|refine Z7 ?_|refine Z8 ?_|refine ZB (by assumption) (by assumption) ?_)|((with_reducible refine ZM ?_ ?_);(focus rfl)));(conv=>whnf)))
  refine new_var (e := 26) zeroN rfl ?_
  intro h7 b7 o7 x7 z7 hb7
  ((conv=>whnf);repeat((first|(with_reducible first|refine Z1 ?_|refine Z2 ?_|refine Z3 ?_|refine Z4 ?_|refine Z5 ?_|refine Z9 (by assumption) rfl ?_|refine ZA (by assumption) rfl ?_|refine ZB (by assumption) rfl ?_|refine Z6 ?_|refine Z7 ?_|refine Z8 ?_|refine ZB (by assumption) (by assumption) ?_)|((with_reducible refine ZM ?_ ?_);(focus rfl)));(conv=>whnf)))
  refine HMust.mk hyl ?_
  refine store_new o7 hyl hyo ?_
  intro h8 f8 z8 o8
  have x08 : Ext h h8 := (x05.trans x6).trans (x7.offNew f8 (by omega))
  ((conv=>whnf);repeat((first|(with_reducible first|refine Z1 ?_|refine Z2 ?_|refine Z3 ?_|refine Z4 ?_|refine Z5 ?_|refine Z9 (by assumption) rfl ?_|refine ZA (by assumption) rfl ?_|refine ZB (by assumption) rfl ?_|refine Z6 ?_|refine Z7 ?_|refine Z8 ?_|refine ZB (by assumption) (by assumption) ?_)|((with_reducible refine ZM ?_ ?_);(focus rfl)));(conv=>whnf)))
  exact ⟨by show Ending.returned (.bool ((er : Int) != 0)) = _; rw [q3], x08⟩

end Go.Proofs.Ythagjflkdoafmaa.Hc
