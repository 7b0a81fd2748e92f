/- Proof texts, laid together. -/
import Derived.Test.YtlogpojkkbcpjaaPb
import Derived.Test.YtlogpojkkbcpjaaPa
import Derived.ChangeArms
import Derived.JoinedCond
import Derived.Shelf.Vars
/- The law ScopeJoins (printed by mkYL.py). -/
set_option linter.unusedVariables false
set_option linter.unusedSimpArgs false
namespace Go.Proofs.Ytlogpojkkbcpjaa.Hc
open Go Go.H Go.Proofs
set_option maxRecDepth 100000
set_option maxHeartbeats 8000000
theorem deepL_append : ∀ l m : List NT, deepL (l ++ m) = max (deepL l) (deepL m)
  | [], m => by simp [deepL]
  | d :: l, m => by simp only [List.cons_append, deepL, deepL_append l m]; omega
theorem cnts_append : ∀ l m : List NT, cnts (l ++ m) = cnts l + cnts m
  | [], m => by simp [cnts]
  | d :: l, m => by simp only [List.cons_append, cnts, cnts_append l m]; omega
theorem kidsB_one (c : UInt8) : ∀ (l : List NT) (i j : Nat), kidsB [c] l i = kidsB [c] l j
  | [], i, j => rfl
  | d :: l, i, j => by
    have e : ∀ i, letterAt [c] i = c := by intro i; unfold letterAt; simp
    simp only [kidsB, e, kidsB_one c l (i + 1) (j + 1)]
theorem empties_0 {k : Int} (h1 : k ≠ 35) (h2 : k ≠ 36) (l : List NT) : empties k l = 0 := by
  unfold empties
  have : l.filter (emptyKid k) = [] := by
    rw [List.filter_eq_nil_iff]
    intro d _
    unfold emptyKid
    simp [h1, h2]
  rw [this]; rfl
theorem lenOk_many {f : Form} (h1 : (cutF f.l).1.length = 0) (h2 : (cutF f.l).2.2 = true) (n : Nat) : lenOk f n = true := by
  unfold lenOk
  rw [h1, h2]
  have : decide ((n : Int) < ((0 : Nat) : Int)) = false := decide_eq_false (by omega)
  rw [this]; rfl
def progF : Form := ⟨⟨#[]⟩, 0, false, false, ⟨#[42, 120]⟩⟩
theorem may_prog (l : List NT) : mayT (progT l) = kidsB [120] l 0 := by
  have e : formOf 41 l.length = some progF := rfl
  have e1 : letters progF.l = [120] := by decide +kernel
  have e2 : lenOk progF l.length = true := lenOk_many (by decide +kernel) (by decide +kernel) _
  have e3 : headOk progF emp 0 emp [] l = true := by
    unfold headOk
    have h1 : namedB emp progF.name l = true := by
      unfold namedB
      have : strEq progF.name ⟨#[]⟩ = true := (strEq_iff _ _).2 rfl
      rw [if_pos this]; exact (strEq_iff _ _).2 rfl
    have h2 : strEq emp ⟨#[]⟩ = true := (strEq_iff _ _).2 rfl
    rw [h1, h2]; decide +kernel
  simp only [mayT, e, e1, e2, e3, empties_0 (k := 41) (by decide) (by decide)]
  simp
/-- A program that may be has nothing but its statements. -/
theorem prog_only {k : Int} {nm : ByteArray} {n : Int} {t : ByteArray} {ns : List ByteArray} {l : List NT} (h : tcheck (.mk k nm n t ns l) = 0) : mayT (progT l) = true ∧ k = 41 ∧ deepL l + 1 ≤ 64 := by
  unfold tcheck at h
  rw [show NT.kind (.mk k nm n t ns l) = k from rfl] at h
  split at h
  · cases h
  · rename_i hh
    have hk : k = 41 := by
      by_cases e : k = 41
      · exact e
      · exact absurd (Or.inl e) hh
    have hm : mayT (.mk k nm n t ns l) = true := by
      cases e : mayT (.mk k nm n t ns l)
      · exact absurd (Or.inr e) hh
      · rfl
    subst hk
    split at h
    · cases h
    · rename_i hd
      refine ⟨?_, rfl, by simp only [deepT] at hd; omega⟩
      have e : formOf 41 l.length = some progF := rfl
      have e1 : letters progF.l = [120] := by decide +kernel
      simp only [mayT, e, e1, Bool.and_eq_true] at hm
      rw [may_prog]
      exact hm.1.2
theorem early_prog (d : NT) (hk : d.kind = 41) (v : Env) : earlyB d v = false := by
  cases d with
  | mk k nm n t ns l =>
  simp only [NT.kind] at hk
  subst hk
  rw [earlyB_mk]; rfl
theorem inner_prog (d : NT) (hk : d.kind = 41) (v : Env) : innerV d v = v := by
  cases d with
  | mk k nm n t ns l =>
  simp only [NT.kind] at hk
  subst hk
  rw [innerV_mk]; rfl
theorem any_prog (k : Int) (nm : ByteArray) (n : Int) (t : ByteArray) (ns : List ByteArray) (l : List NT) (v : Env) (hk : k = 41) : anyT earlyB (.mk k nm n t ns l) v = anyL earlyB l v := by
  simp only [anyT]
  rw [early_prog (.mk k nm n t ns l) hk, inner_prog (.mk k nm n t ns l) hk]; rfl
theorem checkS_ok {k : Int} {nm : ByteArray} {n : Int} {t : ByteArray} {ns : List ByteArray} {l : List NT} (h : checkS (.mk k nm n t ns l) = 0) : mayT (progT l) = true ∧ k = 41 ∧ deepL l + 1 ≤ 64 ∧ anyL earlyB l env0 = false := by
  unfold checkS at h
  split at h
  · rename_i e; exact absurd h e
  · rename_i e
    have e : tcheck (.mk k nm n t ns l) = 0 := by omega
    obtain ⟨h1, h2, h3⟩ := prog_only e
    refine ⟨h1, h2, h3, ?_⟩
    rw [any_prog k nm n t ns l env0 h2] at h
    cases ha : anyL earlyB l env0
    · rfl
    · rw [ha, if_pos rfl] at h; cases h
theorem checkS_prog {l : List NT} (h1 : mayT (progT l) = true) (h2 : deepL l + 1 ≤ 64) (h3 : anyL earlyB l env0 = false) : checkS (progT l) = 0 := by
  have e : tcheck (progT l) = 0 := by
    unfold tcheck
    rw [if_neg (by rintro (h | h); exact h rfl; rw [h1] at h; cases h), if_neg (by simp only [deepT]; omega)]
  unfold checkS
  rw [e, if_neg (by simp), any_prog _ _ _ _ _ _ _ rfl, h3]; rfl
theorem joins_law {k k' : Int} {nm nm' : ByteArray} {n n' : Int} {t t' : ByteArray} {ns ns' : List ByteArray} {la lb : List NT} (ha : checkS (.mk k nm n t ns la) = 0) (hb : checkS (.mk k' nm' n' t' ns' lb) = 0) : checkS (progT (la ++ lb)) = 0 := by
  obtain ⟨a1, _, a3, a4⟩ := checkS_ok ha
  obtain ⟨b1, _, b3, b4⟩ := checkS_ok hb
  rw [may_prog] at a1 b1
  refine checkS_prog ?_ ?_ ?_
  · rw [may_prog, kidsB_append, a1, kidsB_one 120 lb _ 0, b1]; rfl
  · rw [deepL_append]; omega
  · rw [anyL_append, a4, b4]; rfl
theorem vars_join (la lb : List NT) : varsL (la ++ lb) [] = (varsL lb []).foldl addN (varsL la []) := by
  rw [varsL_decls, varsL_decls la, varsL_decls lb, fold_fold, declsL_append, List.foldl_append]; rfl
theorem putA_true {m : List (ByteArray × Bool)} {s : ByteArray} : (putA s true m).map (·.1) = addN (m.map (·.1)) s := by
  rw [putA_keys]
  unfold addN
  by_cases h : s ∈ m.map (·.1)
  · rw [if_pos h, if_pos (strIn_iff.2 h)]
  · rw [if_neg h, if_neg (fun e => h (strIn_iff.1 e))]
theorem putA_all {m : List (ByteArray × Bool)} {s : ByteArray} (h : ∀ p ∈ m, p.2 = true) : ∀ p ∈ putA s true m, p.2 = true := by
  induction m with
  | nil => intro p hp; simp only [putA, List.mem_singleton] at hp; subst hp; rfl
  | cons q r ih =>
    intro p hp
    simp only [putA] at hp
    split at hp
    · rcases List.mem_cons.1 hp with rfl | hp
      · rfl
      · exact h p (List.mem_cons_of_mem _ hp)
    · rcases List.mem_cons.1 hp with rfl | hp
      · exact h p (List.mem_cons_self ..)
      · exact ih (fun p hp => h p (List.mem_cons_of_mem _ hp)) p hp
theorem getA_true {m : List (ByteArray × Bool)} (h : ∀ p ∈ m, p.2 = true) {s : ByteArray} (hs : s ∈ m.map (·.1)) : getA s m = some true := by
  induction m with
  | nil => simp at hs
  | cons q r ih =>
    simp only [getA]
    split
    · rw [h q (List.mem_cons_self ..)]
    · rename_i hq
      simp only [List.map_cons, List.mem_cons] at hs
      rcases hs with rfl | hs
      · exact absurd rfl hq
      · exact ih (fun p hp => h p (List.mem_cons_of_mem _ hp)) hs
theorem funcsL_append (l m : List NT) : funcsL (l ++ m) = funcsL l ++ funcsL m := List.filter_append ..
theorem scopeJoins_spec {h : Heap} {da db : NT} {csa csb : List Value} (ra : TRep h da csa) (ca : cnt da ≤ 1048576) (rb : TRep h db csb) (cb : cnt db ≤ 1048576) (g : Glb h) :
    HCalls Try.prog 7 #[.agg csa.toArray, .agg csb.toArray] h fun e h' => e = .returned (.bool true) ∧ Ext h h' := by
  have rta := ra
  have rtb := rb
  cases da with
  | mk k nm n t ns la =>
  cases db with
  | mk k' nm' n' t' ns' lb =>
  simp only [TRep] at ra rb
  obtain ⟨_, _, _, _, _, b6, _, ka, kc, aa, ac, ys, rfl, _, sa, ra⟩ := ra
  obtain ⟨_, _, _, _, _, b6', _, ka', kc', ab, bc, ys', rfl, _, sb, rb⟩ := rb
  have cna : cnts la ≤ 1048576 := by simp only [cnt] at ca; omega
  have cnb : cnts lb ≤ 1048576 := by simp only [cnt] at cb; omega
  have lna := cnts_len la
  have lnb := cnts_len lb
  refine c7 (by simp) ?_
  ((conv=>whnf);repeat((first|(with_reducible first|refine Z1 ?_|refine Z2 ?_|refine Z3 ?_|refine Z4 ?_|refine Z5 ?_|refine Z9 (by assumption) rfl ?_|refine ZA (by assumption) rfl ?_|refine ZB (by assumption) rfl ?_|refine Z6 ?_|refine Z7 ?_|refine Z8 ?_)|((with_reducible refine ZM ?_ ?_);(focus rfl)));(conv=>whnf)))
  refine new_var (e := 26) [.int .i64 k, .string nm, .int .i64 n, .string t, .slice ka ns.length kc, .slice aa la.length ac] rfl ?_
  intro h1 pa oa x1 z1 hpa
  ((conv=>whnf);repeat((first|(with_reducible first|refine Z1 ?_|refine Z2 ?_|refine Z3 ?_|refine Z4 ?_|refine Z5 ?_|refine Z9 (by assumption) rfl ?_|refine ZA (by assumption) rfl ?_|refine ZB (by assumption) rfl ?_|refine Z6 ?_|refine Z7 ?_|refine Z8 ?_)|((with_reducible refine ZM ?_ ?_);(focus rfl)));(conv=>whnf)))
  refine new_var (e := 26) [.int .i64 k', .string nm', .int .i64 n', .string t', .slice ka' ns'.length kc', .slice ab lb.length bc] rfl ?_
  intro h2 pb ob x2 z2 hpb
  have oa := oa.ext x2
  have x02 := x1.trans x2
  ((conv=>whnf);repeat((first|(with_reducible first|refine Z1 ?_|refine Z2 ?_|refine Z3 ?_|refine Z4 ?_|refine Z5 ?_|refine Z9 (by assumption) rfl ?_|refine ZA (by assumption) rfl ?_|refine ZB (by assumption) rfl ?_|refine Z6 ?_|refine Z7 ?_|refine Z8 ?_|refine ZB (by assumption) (by assumption) ?_)|((with_reducible refine ZM ?_ ?_);(focus rfl)));(conv=>whnf)))
  refine HCall.mk ((live_spec (g.ext x02)).mono ?_)
  rintro e h3 ⟨rfl, x3⟩
  have oa := oa.ext x3
  have ob := ob.ext x3
  have x03 := x02.trans x3
  ((conv=>whnf);repeat((first|(with_reducible first|refine Z1 ?_|refine Z2 ?_|refine Z3 ?_|refine Z4 ?_|refine Z5 ?_|refine Z9 (by assumption) rfl ?_|refine ZA (by assumption) rfl ?_|refine ZB (by assumption) rfl ?_|refine Z6 ?_|refine Z7 ?_|refine Z8 ?_|refine ZB (by assumption) (by assumption) ?_)|((with_reducible refine ZM ?_ ?_);(focus rfl)));(conv=>whnf)))
  refine HCall.mk ((check_spec (rta.ext x03) (g.ext x03) (by omega)).mono ?_)
  rintro e h4 ⟨rfl, x4⟩
  have oa := oa.ext x4
  have ob := ob.ext x4
  have x04 := x03.trans x4
  by_cases qa : checkS (.mk k nm n t ns la) = 0
  rotate_left
  · have q : (checkS (.mk k nm n t ns la) != 0) = true := bne_iff_ne.2 qa
    ((conv=>whnf);repeat((first|(with_reducible first|refine Z1 ?_|refine Z2 ?_|refine Z3 ?_|refine Z4 ?_|refine Z5 ?_|refine Z9 (by assumption) rfl ?_|refine ZA (by assumption) rfl ?_|refine ZB (by assumption) rfl ?_|refine Z6 ?_|refine Z7 ?_|refine Z8 ?_)|((with_reducible refine ZM ?_ ?_);(focus rfl)));(conv=>whnf)))
    exact ⟨rfl, x04⟩
  have q : (checkS (.mk k nm n t ns la) != 0) = false := by rw [qa]; rfl
  ((conv=>whnf);repeat((first|(with_reducible first|refine Z1 ?_|refine Z2 ?_|refine Z3 ?_|refine Z4 ?_|refine Z5 ?_|refine Z9 (by assumption) rfl ?_|refine ZA (by assumption) rfl ?_|refine ZB (by assumption) rfl ?_|refine Z6 ?_|refine Z7 ?_|refine Z8 ?_|refine ZB (by assumption) (by assumption) ?_)|((with_reducible refine ZM ?_ ?_);(focus rfl)));(conv=>whnf)))
  refine HCall.mk ((check_spec (rtb.ext x04) (g.ext x04) (by omega)).mono ?_)
  rintro e h5 ⟨rfl, x5⟩
  have oa := oa.ext x5
  have ob := ob.ext x5
  have x05 := x04.trans x5
  by_cases qb : checkS (.mk k' nm' n' t' ns' lb) = 0
  rotate_left
  · have q : (checkS (.mk k' nm' n' t' ns' lb) != 0) = true := bne_iff_ne.2 qb
    ((conv=>whnf);repeat((first|(with_reducible first|refine Z1 ?_|refine Z2 ?_|refine Z3 ?_|refine Z4 ?_|refine Z5 ?_|refine Z9 (by assumption) rfl ?_|refine ZA (by assumption) rfl ?_|refine ZB (by assumption) rfl ?_|refine Z6 ?_|refine Z7 ?_|refine Z8 ?_)|((with_reducible refine ZM ?_ ?_);(focus rfl)));(conv=>whnf)))
    exact ⟨rfl, x05⟩
  have q2 : (checkS (.mk k' nm' n' t' ns' lb) != 0) = false := by rw [qb]; rfl
  obtain ⟨lj, hlj⟩ : ∃ lj : List NT, lj = la ++ lb := ⟨_, rfl⟩
  have jl : checkS (progT lj) = 0 := by rw [hlj]; exact joins_law qa qb
  have eln : la.length + lb.length = lj.length := by rw [hlj, List.length_append]
  have hll : lj.length ≤ 4194304 := by omega
  have cnl2 : cnts lj ≤ 2097152 := by rw [hlj, cnts_append]; omega
  have cnl : cnts lj ≤ 4194304 := by omega
  have vj : varsL lj [] = (varsL lb []).foldl addN (varsL la []) := by rw [hlj]; exact vars_join la lb
  have fj : (funcsL lj).length = (funcsL la).length + (funcsL lb).length := by rw [hlj, funcsL_append, List.length_append]
  have s5a := sa.ext x05
  have s5b := sb.ext x05
  ((conv=>whnf);repeat((first|(with_reducible first|refine Z1 ?_|refine Z2 ?_|refine Z3 ?_|refine Z4 ?_|refine Z5 ?_|refine Z9 (by assumption) rfl ?_|refine ZA (by assumption) rfl ?_|refine ZB (by assumption) rfl ?_|refine Z6 ?_|refine Z7 ?_|refine Z8 ?_)|((with_reducible refine ZM ?_ ?_);(focus rfl)));(conv=>whnf)))
  refine s5a.cells ?_
  refine Own.grow (Own.nil h5 h5.size 26 6) (Nat.le_refl _) rfl s5a.1 (ra.els.one_of fun _ _ r => r.one) (by omega) ?_
  intro h6 a6 c6 w6 g6
  rw [Nat.zero_add] at w6 ⊢
  rw [List.nil_append] at w6
  have x6 : Ext h5 h6 := g6.kept (Nat.le_refl _) fun p ep => by cases ep
  have w6lt := w6.lt
  have hx6 := x6.1
  ((conv=>whnf);repeat((first|(with_reducible first|refine Z1 ?_|refine Z2 ?_|refine Z3 ?_|refine Z4 ?_|refine Z5 ?_|refine Z9 (by assumption) rfl ?_|refine ZA (by assumption) rfl ?_|refine ZB (by assumption) rfl ?_|refine Z6 ?_|refine Z7 ?_|refine Z8 ?_)|((with_reducible refine ZM ?_ ?_);(focus rfl)));(conv=>whnf)))
  refine (s5b.ext x6).cells ?_
  refine Own.grow w6 hx6 rfl s5b.1 (rb.els.one_of fun _ _ r => r.one) (by omega) ?_
  intro h7 a7 c7 w7 g7
  rw [eln] at w7 ⊢
  have x57 : Ext h5 h7 := x6.keep (g7.kept hx6 fun p ep => (w6lt p ep).1)
  have w7lt := w7.lt
  have oa := oa.ext x57
  have ob := ob.ext x57
  have x07 := x05.trans x57
  have sl := w7.sl
  have rl : TReps h7 lj (ys ++ ys') := by rw [hlj]; exact (ra.ext x07).append (rb.ext x07)
  have la7 := oa.lt
  have lb7 := ob.lt
  have hx7 := x07.1
  ((conv=>whnf);repeat((first|(with_reducible first|refine Z1 ?_|refine Z2 ?_|refine Z3 ?_|refine Z4 ?_|refine Z5 ?_|refine Z9 (by assumption) rfl ?_|refine ZA (by assumption) rfl ?_|refine ZB (by assumption) rfl ?_|refine Z6 ?_|refine Z7 ?_|refine Z8 ?_)|((with_reducible refine ZM ?_ ?_);(focus rfl)));(conv=>whnf)))
  refine ⟨?_⟩
  have m8 := MapR.new h7 Value.string Value.bool
  have x8 : Ext h7 (h7.push (.map #[] 0)) := Ext.push _ _
  have z8 : (h7.push (.map #[] 0)).size = h7.size + 1 := by simp
  generalize h7.push (.map #[] 0) = h8 at m8 x8 z8
  have oa := oa.ext x8
  have ob := ob.ext x8
  have x08 := x07.trans x8
  have x78 := x8
  ((conv=>whnf);repeat((first|(with_reducible first|refine Z1 ?_|refine Z2 ?_|refine Z3 ?_|refine Z4 ?_|refine Z5 ?_|refine Z9 (by assumption) rfl ?_|refine ZA (by assumption) rfl ?_|refine ZB (by assumption) rfl ?_|refine Z6 ?_|refine Z7 ?_|refine Z8 ?_)|((with_reducible refine ZM ?_ ?_);(focus rfl)));(conv=>whnf)))
  refine HCall.mk ((vars_spec _ la rfl h8 _ _ _ (sa.ext x08) (ra.ext x08) (by omega)).mono ?_)
  rintro e h9 ⟨a9, c9, rfl, w9, x9⟩
  have hv1 := varsL_len la []
  simp only [List.length_nil, Nat.zero_add] at hv1
  have nd1 := varsL_nodup la
  have f1 : (varsL la []).foldl addN [] = varsL la [] := by
    have := fold_fold (declsL la) [] []
    rw [← varsL_decls, List.foldl_nil, ← varsL_decls] at this
    exact this
  generalize varsL la [] = ks1 at w9 hv1 vj nd1 f1
  have w9lt := w9.lt
  have m9 := m8.ext x9
  have x79 := x78.trans x9
  have hx9 := x9.1
  ((conv=>whnf);repeat((first|(with_reducible first|refine Z1 ?_|refine Z2 ?_|refine Z3 ?_|refine Z4 ?_|refine Z5 ?_|refine Z9 (by assumption) rfl ?_|refine ZA (by assumption) rfl ?_|refine ZB (by assumption) rfl ?_|refine Z6 ?_|refine Z7 ?_|refine Z8 ?_)|((with_reducible refine ZM ?_ ?_);(focus rfl)));(conv=>whnf)))
  refine loop_rule [35] (fun vs h' => ∃ (i : Nat) (m : List (ByteArray × Bool)), vs = [.int .i64 i] ∧ i ≤ ks1.length ∧ MapR h' h7.size Value.string Value.bool m ∧ m.map (·.1) = (ks1.take i).foldl addN [] ∧ (∀ p ∈ m, p.2 = true) ∧ Ext h7 h' ∧ SlS h' h8.size a9 c9 ks1)
    (fun vs _ => match vs with | [.int _ i] => ks1.length - i.toNat | _ => 0) rfl ?_ ?_
  · exact ⟨0, [], rfl, by omega, m9, rfl, by simp, x79, w9⟩
  intro u h10 v35
  rintro ⟨i, m, e, hi, m10, k10, t10, x10, w10⟩
  cases e
  have oa := oa.of (h' := h10) (by rw [x10.2 _ (by omega), x8.2 _ (by omega)])
  have ob := ob.of (h' := h10) (by rw [x10.2 _ (by omega), x8.2 _ (by omega)])
  ((conv=>whnf);repeat((first|(with_reducible first|refine Z1 ?_|refine Z2 ?_|refine Z3 ?_|refine Z4 ?_|refine Z5 ?_|refine Z9 (by assumption) rfl ?_|refine ZA (by assumption) rfl ?_|refine ZB (by assumption) rfl ?_|refine Z6 ?_|refine Z7 ?_|refine Z8 ?_)|((with_reducible refine ZM ?_ ?_);(focus rfl)));(conv=>whnf)))
  refine HIf.mk (fun hlt => ?_) (fun hlt => ?_)
  · have hi1 : i < ks1.length := by have := of_decide_eq_true hlt; omega
    have hmu : ks1.length - ((i : Int) + 1).toNat < ks1.length - ((i : Int)).toNat := by omega
    ((conv=>whnf);repeat((first|(with_reducible first|refine Z1 ?_|refine Z2 ?_|refine Z3 ?_|refine Z4 ?_|refine Z5 ?_|refine Z9 (by assumption) rfl ?_|refine ZA (by assumption) rfl ?_|refine ZB (by assumption) rfl ?_|refine Z6 ?_|refine Z7 ?_|refine Z8 ?_)|((with_reducible refine ZM ?_ ?_);(focus rfl)));(conv=>whnf)))
    refine HIdx.mk i rfl hi1 ?_
    refine sl_some w10.sl hi1 fun p ep => ?_
    ((conv=>whnf);repeat((first|(with_reducible first|refine Z1 ?_|refine Z2 ?_|refine Z3 ?_|refine Z4 ?_|refine Z5 ?_|refine Z9 (by assumption) rfl ?_|refine ZA (by assumption) rfl ?_|refine ZB (by assumption) rfl ?_|refine Z6 ?_|refine Z7 ?_|refine Z8 ?_)|((with_reducible refine ZM ?_ ?_);(focus rfl)));(conv=>whnf)))
    refine w10.sl.load ep (by simpa using hi1) ?_
    rw [List.getElem_map]
    ((conv=>whnf);repeat((first|(with_reducible first|refine Z1 ?_|refine Z2 ?_|refine Z3 ?_|refine Z4 ?_|refine Z5 ?_|refine Z9 (by assumption) rfl ?_|refine ZA (by assumption) rfl ?_|refine ZB (by assumption) rfl ?_|refine Z6 ?_|refine Z7 ?_|refine Z8 ?_)|((with_reducible refine ZM ?_ ?_);(focus rfl)));(conv=>whnf)))
    refine m10.set keyOk_string ks1[i] true (fun h11 f11 z11 m11 => ?_)
    ((conv=>whnf);repeat((first|(with_reducible first|refine Z1 ?_|refine Z2 ?_|refine Z3 ?_|refine Z4 ?_|refine Z5 ?_|refine Z9 (by assumption) rfl ?_|refine ZA (by assumption) rfl ?_|refine ZB (by assumption) rfl ?_|refine Z6 ?_|refine Z7 ?_|refine Z8 ?_)|((with_reducible refine ZM ?_ ?_);(focus rfl)));(conv=>whnf)))
    exact ⟨⟨i + 1, _, rfl, by omega, m11, by rw [putA_true, k10, take_succ' hi1, List.foldl_append]; rfl, putA_all t10, x10.offNew f11 (Nat.le_refl _), w10.off f11 (fun p ep => by have := w9lt p ep; omega)⟩, hmu⟩
  have hge := of_decide_eq_false hlt
  obtain rfl : i = ks1.length := by omega
  rw [List.take_length, f1] at k10
  have x010 := x07.trans x10
  ((conv=>whnf);repeat((first|(with_reducible first|refine Z1 ?_|refine Z2 ?_|refine Z3 ?_|refine Z4 ?_|refine Z5 ?_|refine Z9 (by assumption) rfl ?_|refine ZA (by assumption) rfl ?_|refine ZB (by assumption) rfl ?_|refine Z6 ?_|refine Z7 ?_|refine Z8 ?_)|((with_reducible refine ZM ?_ ?_);(focus rfl)));(conv=>whnf)))
  refine HCall.mk ((vars_spec _ lb rfl h10 _ _ _ (sb.ext x010) (rb.ext x010) (by omega)).mono ?_)
  rintro e h12 ⟨a12, c12, rfl, w12, x12⟩
  have hv2 := varsL_len lb []
  simp only [List.length_nil, Nat.zero_add] at hv2
  generalize varsL lb [] = ks2 at w12 hv2 vj
  have w12lt := w12.lt
  have x712 := x10.trans x12
  have mlt := m10.lt
  have hx10 := x10.1
  ((conv=>whnf);repeat((first|(with_reducible first|refine Z1 ?_|refine Z2 ?_|refine Z3 ?_|refine Z4 ?_|refine Z5 ?_|refine Z9 (by assumption) rfl ?_|refine ZA (by assumption) rfl ?_|refine ZB (by assumption) rfl ?_|refine Z6 ?_|refine Z7 ?_|refine Z8 ?_)|((with_reducible refine ZM ?_ ?_);(focus rfl)));(conv=>whnf)))
  refine loop_rule [46] (fun vs h' => ∃ (i : Nat) (m : List (ByteArray × Bool)), vs = [.int .i64 i] ∧ i ≤ ks2.length ∧ MapR h' h7.size Value.string Value.bool m ∧ m.map (·.1) = (ks2.take i).foldl addN ks1 ∧ (∀ p ∈ m, p.2 = true) ∧ Ext h7 h' ∧ SlS h' h10.size a12 c12 ks2)
    (fun vs _ => match vs with | [.int _ i] => ks2.length - i.toNat | _ => 0) rfl ?_ ?_
  · exact ⟨0, m, rfl, by omega, m10.ext x12, k10, t10, x712, w12⟩
  intro u h13 v46
  rintro ⟨i, m', e, hi, m13, k13, t13, x13, w13⟩
  cases e
  have oa := oa.of (h' := h13) (by rw [x13.2 _ (by omega), x10.2 _ (by omega)])
  have ob := ob.of (h' := h13) (by rw [x13.2 _ (by omega), x10.2 _ (by omega)])
  ((conv=>whnf);repeat((first|(with_reducible first|refine Z1 ?_|refine Z2 ?_|refine Z3 ?_|refine Z4 ?_|refine Z5 ?_|refine Z9 (by assumption) rfl ?_|refine ZA (by assumption) rfl ?_|refine ZB (by assumption) rfl ?_|refine Z6 ?_|refine Z7 ?_|refine Z8 ?_)|((with_reducible refine ZM ?_ ?_);(focus rfl)));(conv=>whnf)))
  refine HIf.mk (fun hlt => ?_) (fun hlt => ?_)
  · have hi1 : i < ks2.length := by have := of_decide_eq_true hlt; omega
    have hmu : ks2.length - ((i : Int) + 1).toNat < ks2.length - ((i : Int)).toNat := by omega
    ((conv=>whnf);repeat((first|(with_reducible first|refine Z1 ?_|refine Z2 ?_|refine Z3 ?_|refine Z4 ?_|refine Z5 ?_|refine Z9 (by assumption) rfl ?_|refine ZA (by assumption) rfl ?_|refine ZB (by assumption) rfl ?_|refine Z6 ?_|refine Z7 ?_|refine Z8 ?_)|((with_reducible refine ZM ?_ ?_);(focus rfl)));(conv=>whnf)))
    refine HIdx.mk i rfl hi1 ?_
    refine sl_some w13.sl hi1 fun p ep => ?_
    ((conv=>whnf);repeat((first|(with_reducible first|refine Z1 ?_|refine Z2 ?_|refine Z3 ?_|refine Z4 ?_|refine Z5 ?_|refine Z9 (by assumption) rfl ?_|refine ZA (by assumption) rfl ?_|refine ZB (by assumption) rfl ?_|refine Z6 ?_|refine Z7 ?_|refine Z8 ?_)|((with_reducible refine ZM ?_ ?_);(focus rfl)));(conv=>whnf)))
    refine w13.sl.load ep (by simpa using hi1) ?_
    rw [List.getElem_map]
    ((conv=>whnf);repeat((first|(with_reducible first|refine Z1 ?_|refine Z2 ?_|refine Z3 ?_|refine Z4 ?_|refine Z5 ?_|refine Z9 (by assumption) rfl ?_|refine ZA (by assumption) rfl ?_|refine ZB (by assumption) rfl ?_|refine Z6 ?_|refine Z7 ?_|refine Z8 ?_)|((with_reducible refine ZM ?_ ?_);(focus rfl)));(conv=>whnf)))
    refine m13.set keyOk_string ks2[i] true (fun h14 f14 z14 m14 => ?_)
    ((conv=>whnf);repeat((first|(with_reducible first|refine Z1 ?_|refine Z2 ?_|refine Z3 ?_|refine Z4 ?_|refine Z5 ?_|refine Z9 (by assumption) rfl ?_|refine ZA (by assumption) rfl ?_|refine ZB (by assumption) rfl ?_|refine Z6 ?_|refine Z7 ?_|refine Z8 ?_)|((with_reducible refine ZM ?_ ?_);(focus rfl)));(conv=>whnf)))
    exact ⟨⟨i + 1, _, rfl, by omega, m14, by rw [putA_true, k13, take_succ' hi1, List.foldl_append]; rfl, putA_all t13, x13.offNew f14 (Nat.le_refl _), w13.off f14 (fun p ep => by have := w12lt p ep; omega)⟩, hmu⟩
  have hge := of_decide_eq_false hlt
  obtain rfl : i = ks2.length := by omega
  rw [List.take_length, ← vj] at k13
  have x013 := x07.trans x13
  have sl13 := sl.ext x13
  have rl13 := rl.ext x13
  ((conv=>whnf);repeat((first|(with_reducible first|refine Z1 ?_|refine Z2 ?_|refine Z3 ?_|refine Z4 ?_|refine Z5 ?_|refine Z9 (by assumption) rfl ?_|refine ZA (by assumption) rfl ?_|refine ZB (by assumption) rfl ?_|refine Z6 ?_|refine Z7 ?_|refine Z8 ?_)|((with_reducible refine ZM ?_ ?_);(focus rfl)));(conv=>whnf)))
  have cv := vars_spec _ lj rfl h13 _ _ _ sl13 rl13 cnl
  refine HCall.mk (cv.mono ?_)
  rintro e h14 ⟨a14, c14, rfl, w14, x14⟩
  have hv3 := varsL_len lj []
  simp only [List.length_nil, Nat.zero_add] at hv3
  generalize hks : varsL lj [] = ks at w14 hv3 k13
  have m14 := m13.ext x14
  have x014 := x013.trans x14
  have oa := oa.ext x14
  have ob := ob.ext x14
  ((conv=>whnf);repeat((first|(with_reducible first|refine Z1 ?_|refine Z2 ?_|refine Z3 ?_|refine Z4 ?_|refine Z5 ?_|refine Z9 (by assumption) rfl ?_|refine ZA (by assumption) rfl ?_|refine ZB (by assumption) rfl ?_|refine Z6 ?_|refine Z7 ?_|refine Z8 ?_)|((with_reducible refine ZM ?_ ?_);(focus rfl)));(conv=>whnf)))
  refine loop_rule [56] (fun vs h' => ∃ (i : Nat), vs = [.int .i64 i] ∧ i ≤ ks.length ∧ h' = h14)
    (fun vs _ => match vs with | [.int _ i] => ks.length - i.toNat | _ => 0) rfl ?_ ?_
  · exact ⟨0, rfl, by omega, rfl⟩
  intro u h15 v56
  rintro ⟨i, e, hi, rfl⟩
  cases e
  ((conv=>whnf);repeat((first|(with_reducible first|refine Z1 ?_|refine Z2 ?_|refine Z3 ?_|refine Z4 ?_|refine Z5 ?_|refine Z9 (by assumption) rfl ?_|refine ZA (by assumption) rfl ?_|refine ZB (by assumption) rfl ?_|refine Z6 ?_|refine Z7 ?_|refine Z8 ?_)|((with_reducible refine ZM ?_ ?_);(focus rfl)));(conv=>whnf)))
  refine HIf.mk (fun hlt => ?_) (fun hlt => ?_)
  · have hi1 : i < ks.length := by have := of_decide_eq_true hlt; omega
    have hmu : ks.length - ((i : Int) + 1).toNat < ks.length - ((i : Int)).toNat := by omega
    have hg : getA ks[i] m' = some true := getA_true t13 (by rw [k13]; exact List.getElem_mem hi1)
    ((conv=>whnf);repeat((first|(with_reducible first|refine Z1 ?_|refine Z2 ?_|refine Z3 ?_|refine Z4 ?_|refine Z5 ?_|refine Z9 (by assumption) rfl ?_|refine ZA (by assumption) rfl ?_|refine ZB (by assumption) rfl ?_|refine Z6 ?_|refine Z7 ?_|refine Z8 ?_)|((with_reducible refine ZM ?_ ?_);(focus rfl)));(conv=>whnf)))
    refine HIdx.mk i rfl hi1 ?_
    refine sl_some w14.sl hi1 fun p ep => ?_
    ((conv=>whnf);repeat((first|(with_reducible first|refine Z1 ?_|refine Z2 ?_|refine Z3 ?_|refine Z4 ?_|refine Z5 ?_|refine Z9 (by assumption) rfl ?_|refine ZA (by assumption) rfl ?_|refine ZB (by assumption) rfl ?_|refine Z6 ?_|refine Z7 ?_|refine Z8 ?_)|((with_reducible refine ZM ?_ ?_);(focus rfl)));(conv=>whnf)))
    refine w14.sl.load ep (by simpa using hi1) ?_
    rw [List.getElem_map]
    ((conv=>whnf);repeat((first|(with_reducible first|refine Z1 ?_|refine Z2 ?_|refine Z3 ?_|refine Z4 ?_|refine Z5 ?_|refine Z9 (by assumption) rfl ?_|refine ZA (by assumption) rfl ?_|refine ZB (by assumption) rfl ?_|refine Z6 ?_|refine Z7 ?_|refine Z8 ?_)|((with_reducible refine ZM ?_ ?_);(focus rfl)));(conv=>whnf)))
    refine m14.look keyOk_string ks[i] (fun hv => by rw [hg] at hv; cases hv) (fun v hv es clock j => ?_)
    rw [hg] at hv
    cases hv
    ((conv=>whnf);repeat((first|(with_reducible first|refine Z1 ?_|refine Z2 ?_|refine Z3 ?_|refine Z4 ?_|refine Z5 ?_|refine Z9 (by assumption) rfl ?_|refine ZA (by assumption) rfl ?_|refine ZB (by assumption) rfl ?_|refine Z6 ?_|refine Z7 ?_|refine Z8 ?_)|((with_reducible refine ZM ?_ ?_);(focus rfl)));(conv=>whnf)))
    exact ⟨⟨i + 1, rfl, by omega, rfl⟩, hmu⟩
  have sl := sl13.ext x14
  have rl := rl13.ext x14
  have sa := sa.ext x014
  have sb := sb.ext x014
  have ra := ra.ext x014
  have rb := rb.ext x014
  have g15 := g.ext x014
  have ck := check_spec (d := progT lj) (trep_mk (h := h15) (k := 41) (n := 0) (nm := emp) (t := emp) (i64_small (by omega)) (i64_small (by omega)) (by decide) (by decide) hll sl rl) g15 (by simp only [cnt]; omega)
  rw [jl] at ck
  ((conv=>whnf);repeat((first|(with_reducible first|refine Z1 ?_|refine Z2 ?_|refine Z3 ?_|refine Z4 ?_|refine Z5 ?_|refine Z9 (by assumption) rfl ?_|refine ZA (by assumption) rfl ?_|refine ZB (by assumption) rfl ?_|refine Z6 ?_|refine Z7 ?_|refine Z8 ?_)|((with_reducible refine ZM ?_ ?_);(focus rfl)));(conv=>whnf)))
  refine HCall.mk (ck.mono ?_)
  rintro e h16 ⟨rfl, x16⟩
  have xall := x014.trans x16
  have sl := sl.ext x16
  have rl := rl.ext x16
  have sa := sa.ext x16
  have sb := sb.ext x16
  have ra := ra.ext x16
  have rb := rb.ext x16
  have oa := oa.ext x16
  have ob := ob.ext x16
  have m16 := m14.ext x16
  ((conv=>whnf);repeat((first|(with_reducible first|refine Z1 ?_|refine Z2 ?_|refine Z3 ?_|refine Z4 ?_|refine Z5 ?_|refine Z9 (by assumption) rfl ?_|refine ZA (by assumption) rfl ?_|refine ZB (by assumption) rfl ?_|refine Z6 ?_|refine Z7 ?_|refine Z8 ?_)|((with_reducible refine ZM ?_ ?_);(focus rfl)));(conv=>whnf)))
  have cv := vars_spec _ lj rfl h16 _ _ _ sl rl cnl
  rw [hks] at cv
  refine HCall.mk (cv.mono ?_)
  rintro e h17 ⟨a17, c17, rfl, w17, x17⟩
  have m17 := m16.ext x17
  have xall := xall.trans x17
  have sl := sl.ext x17
  have rl := rl.ext x17
  have sa := sa.ext x17
  have sb := sb.ext x17
  have ra := ra.ext x17
  have rb := rb.ext x17
  have oa := oa.ext x17
  have ob := ob.ext x17
  have eml : m'.length = ks.length := by have := congrArg List.length k13; simpa using this
  have q9 : ((ks.length : Int) == (ks.length : Int)) = true := by simp
  ((conv=>whnf);repeat((first|(with_reducible first|refine Z1 ?_|refine Z2 ?_|refine Z3 ?_|refine Z4 ?_|refine Z5 ?_|refine Z9 (by assumption) rfl ?_|refine ZA (by assumption) rfl ?_|refine ZB (by assumption) rfl ?_|refine Z6 ?_|refine Z7 ?_|refine Z8 ?_)|((with_reducible refine ZM ?_ ?_);(focus rfl)));(conv=>whnf)))
  refine m17.count ?_
  rw [eml]
  have fl1 := funcsL_len la
  have fl2 := funcsL_len lb
  have q10 : (((funcsL lj).length : Int) == ((funcsL la).length : Int) + ((funcsL lb).length : Int)) = true := by rw [fj]; simp
  ((conv=>whnf);repeat((first|(with_reducible first|refine Z1 ?_|refine Z2 ?_|refine Z3 ?_|refine Z4 ?_|refine Z5 ?_|refine Z9 (by assumption) rfl ?_|refine ZA (by assumption) rfl ?_|refine ZB (by assumption) rfl ?_|refine Z6 ?_|refine Z7 ?_|refine Z8 ?_)|((with_reducible refine ZM ?_ ?_);(focus rfl)));(conv=>whnf)))
  repeat' ((with_reducible refine HAlt.mk ?_ ?_) <;> ((conv=>whnf);repeat((first|(with_reducible first|refine Z1 ?_|refine Z2 ?_|refine Z3 ?_|refine Z4 ?_|refine Z5 ?_|refine Z9 (by assumption) rfl ?_|refine ZA (by assumption) rfl ?_|refine ZB (by assumption) rfl ?_|refine Z6 ?_|refine Z7 ?_|refine Z8 ?_)|((with_reducible refine ZM ?_ ?_);(focus rfl)));(conv=>whnf))))
  all_goals ((refine HCall.mk ((funcs_spec lj _ _ _ _ sl rl hll).mono ?_)); (rintro e hN ⟨aN, cN, ysN, rfl, wN, rN, xN⟩); (have sl := sl.ext xN); (have sa := sa.ext xN); (have sb := sb.ext xN); (have rl := rl.ext xN); (have ra := ra.ext xN); (have rb := rb.ext xN); (have oa := oa.ext xN); (have ob := ob.ext xN); (have xall := xall.trans xN); ((conv=>whnf);repeat((first|(with_reducible first|refine Z1 ?_|refine Z2 ?_|refine Z3 ?_|refine Z4 ?_|refine Z5 ?_|refine Z9 (by assumption) rfl ?_|refine ZA (by assumption) rfl ?_|refine ZB (by assumption) rfl ?_|refine Z6 ?_|refine Z7 ?_|refine Z8 ?_)|((with_reducible refine ZM ?_ ?_);(focus rfl)));(conv=>whnf))); (repeat' ((with_reducible refine HAlt.mk ?_ ?_) <;> ((conv=>whnf);repeat((first|(with_reducible first|refine Z1 ?_|refine Z2 ?_|refine Z3 ?_|refine Z4 ?_|refine Z5 ?_|refine Z9 (by assumption) rfl ?_|refine ZA (by assumption) rfl ?_|refine ZB (by assumption) rfl ?_|refine Z6 ?_|refine Z7 ?_|refine Z8 ?_)|((with_reducible refine ZM ?_ ?_);(focus rfl)));(conv=>whnf))))))
  all_goals ((refine HCall.mk ((funcs_spec la _ _ _ _ sa ra b6).mono ?_)); (rintro e hN ⟨aN, cN, ysN, rfl, wN, rN, xN⟩); (have sl := sl.ext xN); (have sa := sa.ext xN); (have sb := sb.ext xN); (have rl := rl.ext xN); (have ra := ra.ext xN); (have rb := rb.ext xN); (have oa := oa.ext xN); (have ob := ob.ext xN); (have xall := xall.trans xN); ((conv=>whnf);repeat((first|(with_reducible first|refine Z1 ?_|refine Z2 ?_|refine Z3 ?_|refine Z4 ?_|refine Z5 ?_|refine Z9 (by assumption) rfl ?_|refine ZA (by assumption) rfl ?_|refine ZB (by assumption) rfl ?_|refine Z6 ?_|refine Z7 ?_|refine Z8 ?_)|((with_reducible refine ZM ?_ ?_);(focus rfl)));(conv=>whnf))); (repeat' ((with_reducible refine HAlt.mk ?_ ?_) <;> ((conv=>whnf);repeat((first|(with_reducible first|refine Z1 ?_|refine Z2 ?_|refine Z3 ?_|refine Z4 ?_|refine Z5 ?_|refine Z9 (by assumption) rfl ?_|refine ZA (by assumption) rfl ?_|refine ZB (by assumption) rfl ?_|refine Z6 ?_|refine Z7 ?_|refine Z8 ?_)|((with_reducible refine ZM ?_ ?_);(focus rfl)));(conv=>whnf))))))
  all_goals ((refine HCall.mk ((funcs_spec lb _ _ _ _ sb rb b6').mono ?_)); (rintro e hN ⟨aN, cN, ysN, rfl, wN, rN, xN⟩); (have sl := sl.ext xN); (have sa := sa.ext xN); (have sb := sb.ext xN); (have rl := rl.ext xN); (have ra := ra.ext xN); (have rb := rb.ext xN); (have oa := oa.ext xN); (have ob := ob.ext xN); (have xall := xall.trans xN); ((conv=>whnf);repeat((first|(with_reducible first|refine Z1 ?_|refine Z2 ?_|refine Z3 ?_|refine Z4 ?_|refine Z5 ?_|refine Z9 (by assumption) rfl ?_|refine ZA (by assumption) rfl ?_|refine ZB (by assumption) rfl ?_|refine Z6 ?_|refine Z7 ?_|refine Z8 ?_)|((with_reducible refine ZM ?_ ?_);(focus rfl)));(conv=>whnf))); (repeat' ((with_reducible refine HAlt.mk ?_ ?_) <;> ((conv=>whnf);repeat((first|(with_reducible first|refine Z1 ?_|refine Z2 ?_|refine Z3 ?_|refine Z4 ?_|refine Z5 ?_|refine Z9 (by assumption) rfl ?_|refine ZA (by assumption) rfl ?_|refine ZB (by assumption) rfl ?_|refine Z6 ?_|refine Z7 ?_|refine Z8 ?_)|((with_reducible refine ZM ?_ ?_);(focus rfl)));(conv=>whnf))))))
  all_goals exact ⟨by show Ending.returned (.bool (((funcsL lj).length : Int) == ((funcsL la).length : Int) + ((funcsL lb).length : Int))) = _; rw [q10], xall⟩
end Go.Proofs.Ytlogpojkkbcpjaa.Hc
/- Trees of a program's text that came in; the wrap of the second form with the world's shape kept; what the library's own variable holds. -/
set_option linter.unusedVariables false
set_option linter.unusedSimpArgs false
namespace Go.Proofs.Ytlogpojkkbcpjaa.RU
open Go Go.H Go.Proofs Go.ChangeShapes Go.WideShapes Go.RowKit
set_option maxRecDepth 100000
theorem list_ex {α β : Type} : ∀ (l : List α) (R : Nat → α → β → Prop) (_ : ∀ i (hi : i < l.length), ∃ b, R i l[i] b), ∃ bs : List β, bs.length = l.length ∧ ∀ i (hi : i < l.length) (hb : i < bs.length), R i l[i] bs[i]
  | [], R, h => ⟨[], rfl, fun i hi => by simp at hi⟩
  | a :: l, R, h => by
    obtain ⟨b, hb⟩ := h 0 (by simp)
    obtain ⟨bs, h1, h2⟩ := list_ex l (fun i => R (i + 1)) fun i hi => h (i + 1) (by simpa using hi)
    refine ⟨b :: bs, by simp [h1], fun i hi hj => ?_⟩
    cases i with
    | zero => exact hb
    | succ i => exact h2 i (by simpa using hi) (by simpa using hj)
theorem sum_le {α β : Type} (f : β → Nat) (g : α → Nat) : ∀ (l : List α) (bs : List β), bs.length = l.length → (∀ i (hi : i < l.length) (hb : i < bs.length), f bs[i] ≤ g l[i]) → (bs.map f).sum ≤ (l.map g).sum
  | [], [], _, _ => by simp
  | a :: l, b :: bs, hl, h => by
    have h0 := h 0 (by simp) (by simp)
    have h1 := sum_le f g l bs (by simpa using hl) fun i hi hb => h (i + 1) (by simpa using hi) (by simpa using hb)
    simp only [List.map_cons, List.sum_cons, List.getElem_cons_zero] at h0 ⊢; omega
  | [], _ :: _, h, _ => by simp at h
  | _ :: _, [], h, _ => by simp at h
theorem bulk_sum {H : Type} : ∀ l : List (DataW H), Rows.uptoBulkAll l = (l.map Rows.uptoBulk).sum
  | [] => rfl
  | d :: r => by simp only [Rows.uptoBulkAll, List.map_cons, List.sum_cons, bulk_sum r]
theorem bulk_mem' {H : Type} : ∀ (l : List (DataW H)) (d : DataW H), d ∈ l → Rows.uptoBulk d ≤ Rows.uptoBulkAll l
  | [], d, h => by cases h
  | e :: r, d, h => by
    simp only [Rows.uptoBulkAll]
    rcases List.mem_cons.1 h with rfl | h
    · omega
    · have := bulk_mem' r d h; omega
theorem flat_get {α : Type} {n : Nat} : ∀ (l : List (List α)) (_ : ∀ x ∈ l, x.length = n) (i j : Nat) (hi : i < l.length) (_ : j < n), l.flatten[i * n + j]? = l[i][j]?
  | [], _, i, _, hi, _ => by simp at hi
  | a :: l, h, i, j, hi, hj => by
    have ha := h a (by simp)
    cases i with
    | zero => rw [List.flatten_cons, Nat.zero_mul, Nat.zero_add, List.getElem?_append_left (by omega)]; rfl
    | succ i =>
      rw [List.flatten_cons, List.getElem?_append_right (by rw [ha, Nat.add_mul]; omega), List.getElem_cons_succ, ← flat_get l (fun x hx => h x (by simp [hx])) i j (by simpa using hi) hj]
      congr 1; rw [ha, Nat.add_mul]; omega
theorem flat_len {α : Type} {n : Nat} : ∀ (l : List (List α)) (_ : ∀ x ∈ l, x.length = n), l.flatten.length = l.length * n
  | [], _ => by simp
  | a :: l, h => by rw [List.flatten_cons, List.length_append, h a (by simp), flat_len l (fun x hx => h x (by simp [hx])), List.length_cons, Nat.add_mul]; omega
end Go.Proofs.Ytlogpojkkbcpjaa.RU
namespace Go.Proofs.Ytlogpojkkbcpjaa.Hc
open Go Go.H Go.Proofs Go.ChangeShapes Go.WideShapes Go.RowKit
set_option maxRecDepth 100000
theorem treps_flat {h : Heap} : ∀ (l : List NT) (cs : List (List Value)), cs.length = l.length → (∀ i (hi : i < l.length) (hc : i < cs.length), TRep h l[i] cs[i]) → TReps h l cs.flatten
  | [], [], _, _ => by simp [TReps]
  | d :: l, c :: cs, hl, hr => by
    simp only [TReps]
    exact ⟨c, cs.flatten, by simp, hr 0 (by simp) (by simp), treps_flat l cs (by simpa using hl) fun i hi hc => hr (i + 1) (by simpa using hi) (by simpa using hc)⟩
  | [], _ :: _, h, _ => by simp at h
  | _ :: _, [], h, _ => by simp at h
theorem cnts_sum : ∀ l : List NT, cnts l = (l.map cnt).sum
  | [] => rfl
  | d :: r => by simp only [cnts, List.map_cons, List.sum_cons, cnts_sum r]
theorem ksum_len : ∀ ks : List ByteArray, ks.length ≤ (ks.map fun k => k.size + 1).sum
  | [] => by simp
  | k :: r => by have := ksum_len r; simp only [List.length_cons, List.map_cons, List.sum_cons]; omega
theorem ksum_mem : ∀ (ks : List ByteArray) (k : ByteArray), k ∈ ks → k.size ≤ (ks.map fun k => k.size + 1).sum
  | [], k, h => by cases h
  | e :: r, k, h => by
    simp only [List.map_cons, List.sum_cons]
    rcases List.mem_cons.1 h with rfl | h
    · omega
    · have := ksum_mem r k h; omega
section
variable {H : Type} {enc : TypeId × Value → H} {W : World} {base : Nat} {spare : Nat → Bool} {held : Bool}
theorem open_names {fuel : Nat} {cs : List Value} {x : DataW H × List MemPlace} (h : DataW.trod enc Try.prog W base spare held fuel 23 cs = some x) :
    ∃ (a : Option Addr) (ks : List ByteArray) (c : Nat), cs = [.slice a ks.length c] ∧ Sl W.heap 1 a ks.length c (ks.map .string) ∧ (ks.map fun k => k.size + 1).sum + 1 ≤ Rows.uptoBulk x.1 := by
  rcases DataW.trod_slice Try.underlying23 h with ⟨rfl, rfl⟩ | ⟨a, len, cap, elems, rest, n, _, rfl, rfl, hb, hl, hm, hlen, hel, _, _⟩
  · exact ⟨none, [], 0, rfl, Sl.nil _ _, by simp [Rows.uptoBulk]⟩
  have hc : Try.prog.cellsOf 9 = 1 := by kernel_rfl
  rw [hc] at hel
  have each : ∀ i (hi : i < elems.length), ∃ s : ByteArray, W.cell? (a.add i) = some (.string s) ∧ elems[i].1 = .lit (.string s.data.toList) ∧ s.size ≤ maxLen := by
    intro i hi
    have h1 := hel i (by omega)
    rw [List.getElem?_eq_getElem hi, Option.bind_eq_some_iff] at h1
    obtain ⟨cs, h2, h3⟩ := h1
    obtain ⟨s, rfl, h4, h5⟩ := DataW.trod_string Try.underlying9 h3
    have := cell_of_cells?_one h2
    rw [Nat.mul_one] at this
    exact ⟨s, this, by rw [h4], h5⟩
  obtain ⟨ks, k1, k2⟩ := RU.list_ex elems (fun i y s => W.cell? (a.add i) = some (.string s) ∧ y.1 = .lit (.string s.data.toList) ∧ s.size ≤ maxLen) each
  refine ⟨some a, ks, cap, by rw [k1, hlen], ⟨by simp, by omega, fun e => (by cases e), ?_⟩, ?_⟩
  · intro p ep i hi
    cases ep
    rw [Nat.mul_one] at hi
    have := (k2 i (by omega) hi).1
    rw [cell_eq] at this
    rw [this, List.getElem?_map, List.getElem?_eq_getElem hi]; rfl
  · have := RU.sum_le (fun k : ByteArray => k.size + 1) (fun y : DataW H × List MemPlace => Rows.uptoBulk y.1) elems ks k1 fun i hi hb => by
      rw [(k2 i hi hb).2.1]; simp only [Rows.uptoBulk]; exact Nat.le_refl _
    simp only [Rows.uptoBulk]
    rw [RU.bulk_sum, List.map_map]
    simp only [Function.comp_def]
    omega
theorem open_treesF {fuel : Nat} (ih : ∀ m, m < fuel → ∀ (cs : List Value) (x : DataW H × List MemPlace), DataW.trod enc Try.prog W base spare held m 26 cs = some x → Rows.uptoBulk x.1 ≤ 1048576 → ∃ t : NT, TRep W.heap t cs ∧ cnt t ≤ Rows.uptoBulk x.1)
    {cs : List Value} {x : DataW H × List MemPlace} (h : DataW.trod enc Try.prog W base spare held fuel 24 cs = some x) (hbk : Rows.uptoBulk x.1 ≤ 1048576) :
    ∃ (a : Option Addr) (l : List NT) (c : Nat) (xs : List Value), cs = [.slice a l.length c] ∧ Sl W.heap 6 a l.length c xs ∧ TReps W.heap l xs ∧ cnts l + 1 ≤ Rows.uptoBulk x.1 ∧ l.length ≤ 1048576 := by
  have hc : Try.prog.cellsOf 26 = 6 := by kernel_rfl
  rcases DataW.trod_slice Try.underlying24 h with ⟨rfl, rfl⟩ | ⟨a, len, cap, elems, rest, n', rfl, rfl, rfl, hb, hlc, hm, hlen, hel, _, _⟩
  · exact ⟨none, [], 0, [], rfl, Sl.nil _ _, by simp only [TReps], by simp [cnts, Rows.uptoBulk], by simp⟩
  rw [hc] at hel
  simp only [Rows.uptoBulk] at hbk
  have hle : len ≤ 1048576 := by have := RU.length_le (elems.map (·.1)); rw [List.length_map] at this; omega
  have each : ∀ i (hi : i < elems.length), ∃ y : NT × List Value, TRep W.heap y.1 y.2 ∧ (∀ j, j < 6 → hcell W.heap ((a.add (i * 6)).add j) = y.2[j]?) ∧ cnt y.1 ≤ Rows.uptoBulk elems[i].1 := by
    intro i hi
    have h1 := hel i (by omega)
    rw [List.getElem?_eq_getElem hi, Option.bind_eq_some_iff] at h1
    obtain ⟨cs, h2, h3⟩ := h1
    have hbi : Rows.uptoBulk elems[i].1 ≤ 1048576 := by
      have := RU.bulk_mem' (elems.map (·.1)) elems[i].1 (List.mem_map.2 ⟨_, List.getElem_mem hi, rfl⟩)
      omega
    obtain ⟨t, r, hv⟩ := ih n' (by omega) cs _ h3 hbi
    have h4 := World.cells?_some h2
    refine ⟨(t, cs), r, fun j hj => ?_, hv⟩
    have := h4.2.2 j hj
    rw [cell_eq] at this
    rw [this]
  obtain ⟨ys, k1, k2⟩ := RU.list_ex elems (fun i y (z : NT × List Value) => TRep W.heap z.1 z.2 ∧ (∀ j, j < 6 → hcell W.heap ((a.add (i * 6)).add j) = z.2[j]?) ∧ cnt z.1 ≤ Rows.uptoBulk y.1) each
  have hall : ∀ x ∈ ys.map (·.2), x.length = 6 := by
    intro x hx
    obtain ⟨z, hz, rfl⟩ := List.mem_map.1 hx
    obtain ⟨i, hi, rfl⟩ := List.getElem_of_mem hz
    exact (k2 i (by omega) hi).1.len
  have hyl : (ys.map (·.1)).length = len := by rw [List.length_map]; omega
  refine ⟨some a, ys.map (·.1), cap, (ys.map (·.2)).flatten, by rw [hyl], ⟨by rw [RU.flat_len _ hall]; simp, by omega, fun e => (by cases e), ?_⟩, treps_flat (ys.map (·.1)) (ys.map (·.2)) (by simp) ?_, ?_, by omega⟩
  · intro p ep i hi
    cases ep
    rw [hyl] at hi
    have hq : i / 6 < ys.length := by omega
    have h5 := (k2 (i / 6) (by omega) hq).2.1 (i % 6) (by omega)
    rw [add_add, show i / 6 * 6 + i % 6 = i by omega] at h5
    have h6 := RU.flat_get (ys.map (·.2)) hall (i / 6) (i % 6) (by simpa using hq) (by omega)
    rw [show i / 6 * 6 + i % 6 = i by omega, List.getElem_map] at h6
    rw [h5, h6]
  · intro i hi hc'
    rw [List.getElem_map, List.getElem_map]
    exact (k2 i (by simpa [k1] using hi) (by simpa using hi)).1
  · have := RU.sum_le (fun z : NT × List Value => cnt z.1) (fun y : DataW H × List MemPlace => Rows.uptoBulk y.1) elems ys k1 fun i hi hb => (k2 i hi hb).2.2
    rw [cnts_sum, List.map_map]
    simp only [Rows.uptoBulk]
    rw [RU.bulk_sum, List.map_map]
    simp only [Function.comp_def] at this ⊢
    omega
theorem open_tree : ∀ (fuel : Nat) (cs : List Value) (x : DataW H × List MemPlace), DataW.trod enc Try.prog W base spare held fuel 26 cs = some x → Rows.uptoBulk x.1 ≤ 1048576 → ∃ t : NT, TRep W.heap t cs ∧ cnt t ≤ Rows.uptoBulk x.1 := by
  intro fuel
  induction fuel using Nat.strongRecOn with
  | ind fuel ih =>
  intro cs x h hbk
  obtain ⟨xs, n, rfl, rfl, hl, hx, hf⟩ := DataW.trod_struct Try.underlying26 h
  have hc : Try.prog.cellsOf 26 = 6 := by kernel_rfl
  have c1 : Try.prog.cellsOf 3 = 1 := by kernel_rfl
  have c2 : Try.prog.cellsOf 2 = 1 := by kernel_rfl
  have c3 : Try.prog.cellsOf 9 = 1 := by kernel_rfl
  have c4 : Try.prog.cellsOf 23 = 1 := by kernel_rfl
  have c5 : Try.prog.cellsOf 24 = 1 := by kernel_rfl
  rw [hc] at hl
  have f0 := hf 0 _ rfl
  have f1 := hf 1 _ rfl
  have f2 := hf 2 _ rfl
  have f3 := hf 3 _ rfl
  have f4 := hf 4 _ rfl
  have f5 := hf 5 _ rfl
  match cs, hl with
  | [v0, v1, v2, v3, v4, v5], _ =>
  match xs, hx with
  | [x0, x1, x2, x3, x4, x5], _ =>
  simp only [c1, c2, c3, c4, c5, List.drop_zero, List.drop_succ_cons, List.take_succ_cons, List.take_zero, List.getElem?_cons_zero, List.getElem?_cons_succ] at f0 f1 f2 f3 f4 f5
  obtain ⟨k, e0, d0, w0⟩ := DataW.trod_int Try.underlying3 f0
  obtain ⟨nm, e1, d1, w1⟩ := DataW.trod_string Try.underlying9 f1
  obtain ⟨m, e2, d2, w2⟩ := DataW.trod_int Try.underlying2 f2
  obtain ⟨s, e3, d3, w3⟩ := DataW.trod_string Try.underlying9 f3
  obtain ⟨ka, ks, kc, e4, s4, b4⟩ := open_names f4
  cases e0; cases e1; cases e2; cases e3; cases e4
  have wb : ∀ {k : Int}, (Lit.int .i64 k).wf = true → i64 k := fun {k} h => by unfold i64; simpa [Lit.wf, IntKind.min, IntKind.max, IntKind.signed, IntKind.bits] using h
  have h1 : nm.size + 1 ≤ Rows.uptoBulk x1.1 := by rw [d1]; simp only [Rows.uptoBulk]; exact Nat.le_refl _
  have h3 : s.size + 1 ≤ Rows.uptoBulk x3.1 := by rw [d3]; simp only [Rows.uptoBulk]; exact Nat.le_refl _
  simp only [Rows.uptoBulk, List.map_cons, List.map_nil, Rows.uptoBulkAll] at hbk
  have l4 := ksum_len ks
  have m4 : ∀ x ∈ ks, x.size ≤ 4194304 := fun x hx => by have := ksum_mem ks x hx; omega
  obtain ⟨la, l, lc, ys, e5, s5, t5, b5, l5⟩ := open_treesF (fun m hm => ih m (by omega)) f5 (by omega)
  cases e5
  refine ⟨.mk k nm m s ks l, ?_, ?_⟩
  · simp only [TRep]
    exact ⟨wb w0, wb w2, by omega, by omega, by omega, by omega, m4, ka, kc, la, lc, ys, rfl, s4, s5, t5⟩
  · simp only [cnt, Rows.uptoBulk, List.map_cons, List.map_nil, Rows.uptoBulkAll]; omega
/-- One tree, some trees. -/
theorem open_trees {a : Option Addr} {len cap : Nat} {d : DataW H} {ps : List MemPlace} (h : DataW.Trod enc Try.prog W base spare held 24 (.slice a len cap) d ps) (hbk : Rows.uptoBulk d ≤ 1048576) :
    ∃ (l : List NT) (xs : List Value), len = l.length ∧ Sl W.heap 6 a l.length cap xs ∧ TReps W.heap l xs ∧ cnts l ≤ 1048576 := by
  obtain ⟨fuel, hf⟩ := h
  obtain ⟨a', l, c, xs, e, s, t, b, _⟩ := open_treesF (fun m _ => open_tree m) hf hbk
  simp only [Value.cells] at e
  cases e
  exact ⟨l, xs, rfl, s, t, by simp only at b; omega⟩
end
end Go.Proofs.Ytlogpojkkbcpjaa.Hc
namespace Go.Proofs.Ytlogpojkkbcpjaa.Hc
open Go Go.H Go.Proofs Go.ChangeShapes
set_option maxRecDepth 100000
theorem glob_of_shape {W : World} (h : W.ShapedOpen Try.prog) : Glb W.heap := by
  obtain ⟨m, e⟩ := cell_of_shapedOpen_int (P := Try.prog) (g := 0) (t := 3) (zero := #[.int .i64 0]) (k := .i64) h (of_decide_eq_true (by kernel_rfl)) (by kernel_rfl) rfl (by kernel_rfl) (by kernel_rfl) Try.underlying3
  exact ⟨m, e⟩
theorem handed_shaped {H : Type} {enc : TypeId × Value → H} {a : Assume} {C : Checked} {os : Os} {f : FuncId} {fn : Func} {s : OpenSpec} {k : (H : Type) → List (DataW H) → Bool} (hk : s.cond = some k) {F : Stop.Interp} {conds : List PathCond} {apart fresh handsOn again : Bool}
    (own : ownKnob C.prog.godebug = none) (started : os.Started) (noInit : C.prog.inits.idxOf? f = none) (hfn : C.prog.funcs[f]? = some fn)
    (witness : ∃ (w : World) (tape : Tape) (i : Input), w.os = os ∧ (w.forCall tape i).Shaped C.prog ∧ i.vars = [] ∧ Input.okWide C.prog (w.forCall tape i) .any w.heap.size f i ∧
      s.pre6 enc C.prog fn conds apart (w.forCall tape i).memory i.args ∧ a.holds C.prog (lone (Frame.enter C.prog f i.args .normal) [] (w.forCall tape i)))
    (contract : ∀ (W : World) (base : Nat) (args : Array Value) (ds gs : List (DataW H)) (before : List MemPlace), W.ShapedOpen C.prog →
      (∀ (j : Nat) t v, fn.params[j]? = some t → args[j]? = some v → Value.okWide C.prog W .any base t v) →
      DataW.Whole enc C.prog fn.params.toList s.vars apart W args.toList ds gs before →
      conds.all (PathCond.test C.prog ⟨fn.params.toList, ds, s.bare.plain.varTypes C.prog, gs⟩) = true → k H (ds ++ gs) = true →
      a.holds C.prog (lone (Frame.enter C.prog f args .normal) [] W) →
      Calls C.prog f args W fun e W' => ∃ v, e = .returned v ∧ (s.at F).post enc C.prog fn apart fresh handsOn again W args v W') :
    ReturnsInHanded a C os f .any (s.pre6 enc C.prog fn conds apart) ((s.at F).post enc C.prog fn apart fresh handsOn again) := by
  refine returnsInHanded_of_calls own started noInit witness ?_
  intro w tape i _ hsh _ hok hpre hholds
  obtain ⟨_, _, _, fn', hfn', _, _, _, _, hval⟩ := hok
  have e : fn' = fn := Option.some.inj (hfn'.symm.trans hfn)
  subst e
  obtain ⟨ds, gs, before, hw, hc, hkk⟩ := (OpenSpec.pre_some hk conds apart _ _).1 hpre.1
  have hw' := DataW.Whole.of_heap (w' := w.forCall tape i) (by rfl) hw
  refine (contract (w.forCall tape i) w.heap.size i.args ds gs before hsh hval hw' hc hkk hholds).mono fun e W' ⟨v, he, hp⟩ => ?_
  subst he
  exact ChangeSpec.post_blind hp
end Go.Proofs.Ytlogpojkkbcpjaa.Hc
