/- scope.walk: all places of a tree are told, until one is enough. -/
import Derived.Test.YtlogpojkkbcpjaaYE
import Derived.Test.YtlogpojkkbcpjaaHS
set_option linter.unusedVariables false
set_option linter.unusedSimpArgs false
namespace Go.Proofs.Ytlogpojkkbcpjaa.Hc
open Go Go.H Go.Proofs
set_option maxRecDepth 100000
set_option maxHeartbeats 8000000
mutual
/-- What a label's statement is, without its labels. -/
def bottomK : NT → Int
  | .mk k _ _ _ _ l => if k = 38 then bottomL l else k
def bottomL : List NT → Int
  | [] => 38
  | d :: _ => bottomK d
end
theorem bottomL_0 {l : List NT} (hl : 0 < l.length) : bottomL l = bottomK l[0] := by cases l with
  | nil => simp at hl
  | cons d r => rfl
def innerV (d : NT) (v : Env) : Env :=
  if d.kind = 39 ∨ d.kind = 10 then ⟨[], false, false, true⟩ else
  if loopK d.kind = true then ⟨v.labels, true, true, v.inside⟩ else
  if d.kind = 36 then ⟨v.labels, true, v.goes, v.inside⟩ else
  if d.kind = 38 then ⟨(d.name, loopK (bottomK d)) :: v.labels, v.breaks, v.goes, v.inside⟩ else v
theorem innerV_mk (k : Int) (nm : ByteArray) (n : Int) (t : ByteArray) (ns : List ByteArray) (l : List NT) (v : Env) : innerV (.mk k nm n t ns l) v = (
  if k = 39 ∨ k = 10 then ⟨[], false, false, true⟩ else
  if loopK k = true then ⟨v.labels, true, true, v.inside⟩ else
  if k = 36 then ⟨v.labels, true, v.goes, v.inside⟩ else
  if k = 38 then ⟨(nm, loopK (bottomK (.mk k nm n t ns l))) :: v.labels, v.breaks, v.goes, v.inside⟩ else v) := rfl
mutual
/-- Whether there is such a place. -/
def anyT (q : NT → Env → Bool) : NT → Env → Bool
  | .mk k nm n t ns l, v => q (.mk k nm n t ns l) v || anyL q l (innerV (.mk k nm n t ns l) v)
def anyL (q : NT → Env → Bool) : List NT → Env → Bool
  | [], v => false
  | d :: r, v => anyT q d v || anyL q r v
end
theorem anyL_append (q : NT → Env → Bool) (v : Env) : ∀ l m : List NT, anyL q (l ++ m) v = (anyL q l v || anyL q m v)
  | [], m => by simp [anyL]
  | d :: l, m => by simp only [List.cons_append, anyL, anyL_append q v l m, Bool.or_assoc]
theorem anyL_take (q : NT → Env → Bool) (v : Env) (l : List NT) (i : Nat) (hi : i < l.length) : anyL q (l.take (i + 1)) v = (anyL q (l.take i) v || anyT q l[i] v) := by
  rw [take_succ' hi, anyL_append]; simp [anyL]
theorem anyL_yes {q : NT → Env → Bool} {v : Env} {l : List NT} {i : Nat} (h : anyL q (l.take i) v = true) : anyL q l v = true := by
  rw [← List.take_append_drop i l, anyL_append, h]; rfl
theorem KeepC.offNew {a b c : Heap} {k : Nat} (x : KeepC a b) (o : Off k b c) (hk : a.size ≤ k) : KeepC a c :=
  ⟨Nat.le_trans x.1 o.1, fun i cs e f z => by
    have h1 := x.2 i cs e f z
    have hi : i < a.size := by
      rcases Nat.lt_or_ge i a.size with hl | hl
      · exact hl
      · rw [Array.getElem?_eq_none hl] at z; cases z
    rw [o.2 i (Nat.lt_of_lt_of_le hi x.1) (by omega)]; exact h1⟩
theorem KeepC.ext {a b c : Heap} (x : KeepC a b) (o : Ext b c) : KeepC a c := x.trans (.of_ext o)
theorem tloadK {h h1 : Heap} {a : Option Addr} {c : Nat} {xs : List Value} {l : List NT} {p : Addr} {i : Nat} {K : Value → Prop} (x : Sl h 6 a l.length c xs) (r : TReps h l xs) (e1 : KeepC h h1) (ep : a = some p) (hi : i < l.length)
    (k : ∀ cs, TRep h l[i] cs → K (.agg cs.toArray)) : HLoadN h1 (p.add (i * 6)) 6 K := by
  obtain ⟨cs, r1, r2⟩ := r.els.get (fun _ _ r => r.len) i hi
  refine ⟨cs, r1.len, fun j hj => ?_, k cs r1⟩
  rw [← r2 j hj, add_add, (x.keepC e1).2.2.2 p ep (i * 6 + j) (by omega)]
theorem ld2 {h : Heap} {b e o1 o2 : Nat} {cs : List Value} {v : Value} {K : Value → Prop} (x : BlkW h b e cs) (hv : cs[o1 + o2]? = some v) (k : K v) : HLoad h (((⟨b, 0, none⟩ : Addr).add o1).add o2) K := by
  rw [add_mk, add_mk, Nat.zero_add]
  exact ⟨v, by rw [x.blk.cell]; exact hv, k⟩
theorem stP {h : Heap} {b e o : Nat} {cs vs : List Value} {K : Heap → Prop} (x : BlkW h b e cs) (hl : o + vs.length ≤ cs.length) (one : ∀ v ∈ vs, isOne v = true)
    (k : ∀ h', Off b h h' → h'.size = h.size → BlkW h' b e (cs.take o ++ (vs ++ cs.drop (o + vs.length))) → K h') : HStore h ((⟨b, 0, none⟩ : Addr).add o) vs K := by
  rw [add_mk, Nat.zero_add]; exact store_blk x hl one k
theorem BlkW.same {h : Heap} {b e e' : Nat} {cs cs' : List Value} (x : BlkW h b e cs) (y : BlkW h b e' cs') : cs = cs' := by
  obtain ⟨f, x, _⟩ := x
  obtain ⟨f', y, _⟩ := y
  rw [x] at y
  injection y with y
  injection y with y _ _
  simpa using congrArg Array.toList y
/-- Labels stay where something longer is written. -/
theorem LRep.offk {h h' : Heap} {b e : Nat} {cs : List Value} (o : BlkW h b e cs) (hc : cs.length = 10) (f : Off b h h') : ∀ {l : List (ByteArray × Bool)} {a : Option Addr}, LRep h l a → LRep h' l a
  | [], a, r => r
  | x :: r, a, ⟨b', up, e, o', hu, r2⟩ => ⟨b', up, e, o'.offk f (by rintro rfl; have := congrArg List.length (BlkW.same o o'); rw [hc] at this; simp at this), hu, LRep.offk o hc f r2⟩
/-- What is told of each place. -/
structure Seen (q : NT → Env → Bool) (l B : Nat) (Inv Fin : Heap → Prop) : Prop where
  stay : ∀ h h', Inv h → Kept B h h' → Inv h'
  told : ∀ h d v cs, Inv h → B ≤ h.size → okT d = true → PRep h d v cs → HYield Try.prog l #[.agg cs.toArray] h fun e h' => (q d v = false ∧ e = .returned (.bool true) ∧ Inv h' ∧ KeepC h h') ∨ (q d v = true ∧ e = .returned (.bool false) ∧ Fin h')
theorem walk_spec {q : NT → Env → Bool} {lp B : Nat} {Inv Fin : Heap → Prop} (S : Seen q lp B Inv Fin) : ∀ (m : Nat) (d : NT) (_ : cnt d = m) (h : Heap) (v : Env) (cs : List Value) (_ : Inv h) (_ : B ≤ h.size) (_ : PRep h d v cs) (_ : okT d = true),
    HCalls Try.prog 34 #[.agg cs.toArray, .func (.yield lp) #[] #[]] h fun e h' => (anyT q d v = false ∧ e = .returned (.bool true) ∧ Inv h' ∧ KeepC h h') ∨ (anyT q d v = true ∧ e = .returned (.bool false) ∧ Fin h') := by
  intro m
  induction m using Nat.strongRecOn with
  | ind m ih =>
  intro d hm h v cs hI hB r hk
  have r0 := r
  cases d with
  | mk k nm n t ns l =>
  obtain ⟨ncs, lb, rfl, r, rl⟩ := r
  have rt := r
  simp only [TRep] at r
  obtain ⟨b1, b2, b3, b4, b5, b6, b7, ka, kc, la, lc, ys, rfl, s1, s2, s3⟩ := r
  simp only [List.cons_append, List.nil_append] at r0 ⊢
  have hz : anyT q (.mk k nm n t ns l) v = (q (.mk k nm n t ns l) v || anyL q l (innerV (.mk k nm n t ns l) v)) := rfl
  generalize anyT q (.mk k nm n t ns l) v = z at hz
  refine c34 (by simp) ?_
  ((conv=>whnf);repeat((first|(with_reducible first|refine Z1 ?_|refine Z2 ?_|refine Z3 ?_|refine Z4 ?_|refine Z5 ?_|refine Z9 (by assumption) rfl ?_|refine ZA (by assumption) rfl ?_|refine ZB (by assumption) rfl ?_|refine Z6 ?_|refine Z7 ?_|refine Z8 ?_)|((with_reducible refine ZM ?_ ?_);(focus rfl)));(conv=>whnf)))
  refine new_var (e := 45) [.int .i64 k, .string nm, .int .i64 n, .string t, .slice ka ns.length kc, .slice la l.length lc, .pointer lb, .bool v.breaks, .bool v.goes, .bool v.inside] rfl ?_
  intro h1 bp o1 x1 z1 hbp
  ((conv=>whnf);repeat((first|(with_reducible first|refine Z1 ?_|refine Z2 ?_|refine Z3 ?_|refine Z4 ?_|refine Z5 ?_|refine Z9 (by assumption) rfl ?_|refine ZA (by assumption) rfl ?_|refine ZB (by assumption) rfl ?_|refine Z6 ?_|refine Z7 ?_|refine Z8 ?_)|((with_reducible refine ZM ?_ ?_);(focus rfl)));(conv=>whnf)))
  refine yield_call (S.told h1 (.mk k nm n t ns l) v _ (S.stay _ _ hI (x1.kept hB)) (by omega) hk ⟨_, lb, rfl, TRep.ext x1 rt, rl.ext x1⟩) ?_
  rintro e h2 hh
  rcases hh with ⟨q1, rfl, i2, k2⟩ | ⟨q1, rfl, i2⟩
  · rw [q1, Bool.false_or] at hz
    have o1 := o1.keepC k2
    have k02 : KeepC h h2 := (KeepC.of_ext x1).trans k2
    ((conv=>whnf);repeat((first|(with_reducible first|refine Z1 ?_|refine Z2 ?_|refine Z3 ?_|refine Z4 ?_|refine Z5 ?_|refine Z9 (by assumption) rfl ?_|refine ZA (by assumption) rfl ?_|refine ZB (by assumption) rfl ?_|refine Z6 ?_|refine Z7 ?_|refine Z8 ?_)|((with_reducible refine ZM ?_ ?_);(focus rfl)));(conv=>whnf)))
    refine new_var (e := 45) zeroP rfl ?_
    intro h3 b5 o3 x3 z3 hb5
    have o1 := o1.ext x3
    ((conv=>whnf);repeat((first|(with_reducible first|refine Z1 ?_|refine Z2 ?_|refine Z3 ?_|refine Z4 ?_|refine Z5 ?_|refine Z9 (by assumption) rfl ?_|refine ZA (by assumption) rfl ?_|refine ZB (by assumption) rfl ?_|refine Z6 ?_|refine Z7 ?_|refine Z8 ?_)|((with_reducible refine ZM ?_ ?_);(focus rfl)));(conv=>whnf)))
    refine store_blk o3 (by simp) (by simp [isOne]) ?_
    intro h4 f4 z4 o4
    replace o4 : BlkW h4 b5 45 [.int .i64 k, .string nm, .int .i64 n, .string t, .slice ka ns.length kc, .slice la l.length lc, .pointer lb, .bool v.breaks, .bool v.goes, .bool v.inside] := by simpa using o4
    have hb := o1.lt
    have hb1 := x1.1
    have hb2 := k2.1
    have hb3 := x3.1
    have o1 := o1.offk f4 (by omega)
    have k4 : KeepC h h4 := (k02.ext x3).offNew f4 (by omega)
    have i4 : Inv h4 := S.stay _ _ (S.stay _ _ i2 (x3.kept (by omega))) (f4.kept (by omega) (by omega))
    have rt4 := TRep.keepC k4 _ _ rt
    have rl4 := rl.keepC k4
    have z4' : h4.size = h3.size := z4
    clear o3 i2 f4 z4
    generalize hw : innerV (.mk k nm n t ns l) v = w at hz
    rw [innerV_mk] at hw
    ((conv=>whnf);repeat((first|(with_reducible first|refine Z2 ?_|refine Z3 ?_|refine Z4 ?_|refine Z5 ?_|refine Z9 (by assumption) rfl ?_|refine ZA (by assumption) rfl ?_|refine ZB (by assumption) rfl ?_|refine Z6 ?_|refine Z7 ?_|refine Z8 ?_)|((with_reducible refine ZM ?_ ?_);(focus rfl)));(conv=>whnf)))
    refine cut_rule [] (fun vs h' => ∃ (ncs' : List Value) (lb' : Option Addr), ncs'.length = 6 ∧ BlkW h' b5 45 (ncs' ++ [.pointer lb', .bool w.breaks, .bool w.goes, .bool w.inside]) ∧ LRep h' w.labels lb' ∧ BlkW h' bp 45 [.int .i64 k, .string nm, .int .i64 n, .string t, .slice ka ns.length kc, .slice la l.length lc, .pointer lb, .bool v.breaks, .bool v.goes, .bool v.inside] ∧ KeepC h h' ∧ Inv h') rfl ?_ ?_
    · by_cases hA : k = 39 ∨ k = 10
      · rw [if_pos hA] at hw
        subst hw
        have qs : (k == 39) = true ∨ ((k == 39) = false ∧ (k == 10) = true) := by rcases hA with rfl | rfl <;> decide
        rcases qs with q | ⟨q, q2⟩
        all_goals
          ((conv=>whnf);repeat((first|(with_reducible first|refine Z1 ?_|refine Z2 ?_|refine Z3 ?_|refine Z4 ?_|refine Z5 ?_|refine Z9 (by assumption) rfl ?_|refine ZA (by assumption) rfl ?_|refine ZB (by assumption) rfl ?_|refine Z6 ?_|refine Z7 ?_|refine Z8 ?_)|((with_reducible refine ZM ?_ ?_);(focus rfl)));(conv=>whnf)))
          refine ld2 (o1 := 0) (o2 := 0) o1 rfl ?_
          ((conv=>whnf);repeat((first|(with_reducible first|refine Z1 ?_|refine Z2 ?_|refine Z3 ?_|refine Z4 ?_|refine Z5 ?_|refine Z9 (by assumption) rfl ?_|refine ZA (by assumption) rfl ?_|refine ZB (by assumption) rfl ?_|refine Z6 ?_|refine Z7 ?_|refine Z8 ?_)|((with_reducible refine ZM ?_ ?_);(focus rfl)));(conv=>whnf)))
          refine store_blk o4 (by simp) (by simp [isOne]) ?_
          intro h5 f5 z5 o5
          ((conv=>whnf);repeat((first|(with_reducible first|refine Z1 ?_|refine Z2 ?_|refine Z3 ?_|refine Z4 ?_|refine Z5 ?_|refine Z9 (by assumption) rfl ?_|refine ZA (by assumption) rfl ?_|refine ZB (by assumption) rfl ?_|refine Z6 ?_|refine Z7 ?_|refine Z8 ?_)|((with_reducible refine ZM ?_ ?_);(focus rfl)));(conv=>whnf)))
          exact ⟨[.int .i64 0, .string ⟨#[]⟩, .int .i64 0, .string ⟨#[]⟩, .slice none 0 0, .slice none 0 0], none, rfl, by simpa using o5, rfl, o1.offk f5 (by omega), k4.offNew f5 (by omega), S.stay _ _ i4 (f5.kept (by omega) (by omega))⟩
      rw [if_neg hA] at hw
      have qA1 : (k == 39) = false := beq_eq_false_iff_ne.2 fun e => hA (.inl e)
      have qA2 : (k == 10) = false := beq_eq_false_iff_ne.2 fun e => hA (.inr e)
      clear hA
      ((conv=>whnf);repeat((first|(with_reducible first|refine Z1 ?_|refine Z2 ?_|refine Z3 ?_|refine Z4 ?_|refine Z5 ?_|refine Z9 (by assumption) rfl ?_|refine ZA (by assumption) rfl ?_|refine ZB (by assumption) rfl ?_|refine Z6 ?_|refine Z7 ?_|refine Z8 ?_)|((with_reducible refine ZM ?_ ?_);(focus rfl)));(conv=>whnf)))
      refine ld2 (o1 := 0) (o2 := 0) o1 rfl ?_
      ((conv=>whnf);repeat((first|(with_reducible first|refine Z1 ?_|refine Z2 ?_|refine Z3 ?_|refine Z4 ?_|refine Z5 ?_|refine Z9 (by assumption) rfl ?_|refine ZA (by assumption) rfl ?_|refine ZB (by assumption) rfl ?_|refine Z6 ?_|refine Z7 ?_|refine Z8 ?_)|((with_reducible refine ZM ?_ ?_);(focus rfl)));(conv=>whnf)))
      refine ldP o1 rfl rfl ?_
      ((conv=>whnf);repeat((first|(with_reducible first|refine Z1 ?_|refine Z2 ?_|refine Z3 ?_|refine Z4 ?_|refine Z5 ?_|refine Z9 (by assumption) rfl ?_|refine ZA (by assumption) rfl ?_|refine ZB (by assumption) rfl ?_|refine Z6 ?_|refine Z7 ?_|refine Z8 ?_)|((with_reducible refine ZM ?_ ?_);(focus rfl)));(conv=>whnf)))
      refine HCall.mk ((loopk_spec rt4).mono ?_)
      rintro e h5 ⟨rfl, x5⟩
      have hb5' := x5.1
      have o1 := o1.ext x5
      have o4 := o4.ext x5
      have k5 := k4.ext x5
      have i5 : Inv h5 := S.stay _ _ i4 (x5.kept (by omega))
      have rt5 := rt4.ext x5
      have rl5 := rl4.ext x5
      rw [show NT.kind (.mk k nm n t ns l) = k from rfl]
      clear rt4 rl4 i4 k4
      cases qL : loopK k
      · rw [qL, if_neg (by simp)] at hw
        by_cases hC : k = 36
        · rw [if_pos hC] at hw
          subst hw
          have q : (k == 36) = true := beq_iff_eq.2 hC
          ((conv=>whnf);repeat((first|(with_reducible first|refine Z1 ?_|refine Z2 ?_|refine Z3 ?_|refine Z4 ?_|refine Z5 ?_|refine Z9 (by assumption) rfl ?_|refine ZA (by assumption) rfl ?_|refine ZB (by assumption) rfl ?_|refine Z6 ?_|refine Z7 ?_|refine Z8 ?_)|((with_reducible refine ZM ?_ ?_);(focus rfl)));(conv=>whnf)))
          refine blk_st (o := 7) o4 (by simp) rfl ?_
          intro h6 f6 z6 o6
          ((conv=>whnf);repeat((first|(with_reducible first|refine Z1 ?_|refine Z2 ?_|refine Z3 ?_|refine Z4 ?_|refine Z5 ?_|refine Z9 (by assumption) rfl ?_|refine ZA (by assumption) rfl ?_|refine ZB (by assumption) rfl ?_|refine Z6 ?_|refine Z7 ?_|refine Z8 ?_)|((with_reducible refine ZM ?_ ?_);(focus rfl)));(conv=>whnf)))
          exact ⟨[.int .i64 k, .string nm, .int .i64 n, .string t, .slice ka ns.length kc, .slice la l.length lc], lb, rfl, o6, LRep.keepC (.refl _) (rl.keepC (k5.offNew f6 (by omega))), o1.offk f6 (by omega), k5.offNew f6 (by omega), S.stay _ _ i5 (f6.kept (by omega) (by omega))⟩
        · rw [if_neg hC] at hw
          have q : (k == 36) = false := beq_eq_false_iff_ne.2 hC
          clear hC
          by_cases hD : k = 38
          · rw [if_pos hD] at hw
            have q : (k == 38) = true := beq_iff_eq.2 hD
            ((conv=>whnf);repeat((first|(with_reducible first|refine Z1 ?_|refine Z2 ?_|refine Z3 ?_|refine Z4 ?_|refine Z5 ?_|refine Z9 (by assumption) rfl ?_|refine ZA (by assumption) rfl ?_|refine ZB (by assumption) rfl ?_|refine Z6 ?_|refine Z7 ?_|refine Z8 ?_)|((with_reducible refine ZM ?_ ?_);(focus rfl)));(conv=>whnf)))
            refine ldP o1 rfl rfl ?_
            ((conv=>whnf);repeat((first|(with_reducible first|refine Z1 ?_|refine Z2 ?_|refine Z3 ?_|refine Z4 ?_|refine Z5 ?_|refine Z9 (by assumption) rfl ?_|refine ZA (by assumption) rfl ?_|refine ZB (by assumption) rfl ?_|refine Z6 ?_|refine Z7 ?_|refine Z8 ?_)|((with_reducible refine ZM ?_ ?_);(focus rfl)));(conv=>whnf)))
            refine new_var (e := 26) zeroT rfl ?_
            intro h6 b7 o6 x6 z6 hb7
            have o1 := o1.ext x6
            have o4 := o4.ext x6
            have hb6 := x6.1
            ((conv=>whnf);repeat((first|(with_reducible first|refine Z1 ?_|refine Z2 ?_|refine Z3 ?_|refine Z4 ?_|refine Z5 ?_|refine Z9 (by assumption) rfl ?_|refine ZA (by assumption) rfl ?_|refine ZB (by assumption) rfl ?_|refine Z6 ?_|refine Z7 ?_|refine Z8 ?_)|((with_reducible refine ZM ?_ ?_);(focus rfl)));(conv=>whnf)))
            refine store_blk o6 (by simp) (by simp [isOne]) ?_
            intro h7 f7 z7 o7
            replace o7 : BlkW h7 b7 26 [.int .i64 k, .string nm, .int .i64 n, .string t, .slice ka ns.length kc, .slice la l.length lc] := by simpa using o7
            have o1 := o1.offk f7 (by omega)
            have o4 := o4.offk f7 (by omega)
            have k57 : KeepC h5 h7 := (KeepC.of_ext x6).offNew f7 (by omega)
            have k7 := k5.trans k57
            have i7 : Inv h7 := S.stay _ _ (S.stay _ _ i5 (x6.kept (by omega))) (f7.kept (by omega) (by omega))
            have hs7 : h7.size = h6.size := z7
            clear o6 x6 f7 z7
            ((conv=>whnf);repeat((first|(with_reducible first|refine Z1 ?_|refine Z2 ?_|refine Z3 ?_|refine Z4 ?_|refine Z5 ?_|refine Z9 (by assumption) rfl ?_|refine ZA (by assumption) rfl ?_|refine ZB (by assumption) rfl ?_|refine Z6 ?_|refine Z7 ?_|refine Z8 ?_)|((with_reducible refine ZM ?_ ?_);(focus rfl)));(conv=>whnf)))
            refine loop_ghost [] (fun (d' : NT) vs h' => ∃ cs', TRep h5 d' cs' ∧ BlkW h' b7 26 cs' ∧ okT d' = true ∧ bottomK d' = bottomK (.mk k nm n t ns l) ∧ Off b7 h7 h' ∧ h'.size = h7.size) cnt rfl ?_ ?_
            · exact ⟨.mk k nm n t ns l, _, rt5, o7, hk, rfl, ⟨Nat.le_refl _, fun _ _ _ => rfl⟩, rfl⟩
            intro d' u8 h8
            rintro ⟨cs', r8, o8, hk8, hbk, f8, z8⟩
            have k8 : KeepC h5 h8 := k57.offNew f8 (by omega)
            have o1 := o1.offk f8 (by omega)
            have o4 := o4.offk f8 (by omega)
            have kk8 := k7.offNew f8 (by omega)
            have i8 : Inv h8 := S.stay _ _ i7 (f8.kept (by omega) (by omega))
            have lb8 := rl5.keepC k8
            cases d' with
            | mk k' nm' n' t' ns' l' =>
            have rr0 := r8
            simp only [TRep] at r8
            obtain ⟨_, _, _, _, _, _, _, ka', kc', la', lc', ys', rfl, t1, t2, t3⟩ := r8
            by_cases hk' : k' = 38
            · have qk : (k' == 38) = true := beq_iff_eq.2 hk'
              have hl' : 0 < l'.length := by
                simp only [okT, Bool.and_eq_true] at hk8
                have := hk8.1
                rw [hk', show needs 38 = true from rfl, Bool.not_true, Bool.false_or] at this
                have := of_decide_eq_true this
                omega
              have hbot : bottomK (.mk k' nm' n' t' ns' l') = bottomK l'[0] := by simp only [bottomK]; rw [if_pos hk', bottomL_0 hl']
              have hcg := cnts_get l' 0 hl'
              ((conv=>whnf);repeat((first|(with_reducible first|refine Z1 ?_|refine Z2 ?_|refine Z3 ?_|refine Z4 ?_|refine Z5 ?_|refine Z9 (by assumption) rfl ?_|refine ZA (by assumption) rfl ?_|refine ZB (by assumption) rfl ?_|refine Z6 ?_|refine Z7 ?_|refine Z8 ?_)|((with_reducible refine ZM ?_ ?_);(focus rfl)));(conv=>whnf)))
              refine HIdx.mk 0 rfl hl' ?_
              refine sl_some t2 hl' fun p ep => ?_
              ((conv=>whnf);repeat((first|(with_reducible first|refine Z1 ?_|refine Z2 ?_|refine Z3 ?_|refine Z4 ?_|refine Z5 ?_|refine Z9 (by assumption) rfl ?_|refine ZA (by assumption) rfl ?_|refine ZB (by assumption) rfl ?_|refine Z6 ?_|refine Z7 ?_|refine Z8 ?_)|((with_reducible refine ZM ?_ ?_);(focus rfl)));(conv=>whnf)))
              refine tloadK t2 t3 k8 ep hl' fun cs rt8 => ?_
              have hcl := rt8.len
              ((conv=>whnf);repeat((first|(with_reducible first|refine Z1 ?_|refine Z2 ?_|refine Z3 ?_|refine Z4 ?_|refine Z5 ?_|refine Z9 (by assumption) rfl ?_|refine ZA (by assumption) rfl ?_|refine ZB (by assumption) rfl ?_|refine Z6 ?_|refine Z7 ?_|refine Z8 ?_)|((with_reducible refine ZM ?_ ?_);(focus rfl)));(conv=>whnf)))
              refine HMust.mk (by simpa using hcl) ?_
              refine store_blk o8 (by simp [hcl]) (by simpa using rt8.one) ?_
              intro h9 f9 z9 o9
              have o9' : BlkW h9 b7 26 cs := by simpa [hcl] using o9
              ((conv=>whnf);repeat((first|(with_reducible first|refine Z1 ?_|refine Z2 ?_|refine Z3 ?_|refine Z4 ?_|refine Z5 ?_|refine Z9 (by assumption) rfl ?_|refine ZA (by assumption) rfl ?_|refine ZB (by assumption) rfl ?_|refine Z6 ?_|refine Z7 ?_|refine Z8 ?_)|((with_reducible refine ZM ?_ ?_);(focus rfl)));(conv=>whnf)))
              exact ⟨l'[0], ⟨cs, rt8, o9', okL_get (by simp only [okT, Bool.and_eq_true] at hk8; exact hk8.2) 0 hl', by rw [← hbk, hbot], f8.trans f9, by rw [z9, z8]⟩, by show cnt l'[0] < cnt (.mk k' nm' n' t' ns' l'); simp only [cnt]; omega⟩
            · have qk : (k' == 38) = false := beq_eq_false_iff_ne.2 hk'
              have hbot : bottomK (.mk k' nm' n' t' ns' l') = k' := by simp only [bottomK]; rw [if_neg hk']
              rw [← hbk, hbot] at hw
              have rr9 := TRep.keepC k8 _ _ rr0
              ((conv=>whnf);repeat((first|(with_reducible first|refine Z1 ?_|refine Z2 ?_|refine Z3 ?_|refine Z4 ?_|refine Z5 ?_|refine Z9 (by assumption) rfl ?_|refine ZA (by assumption) rfl ?_|refine ZB (by assumption) rfl ?_|refine Z6 ?_|refine Z7 ?_|refine Z8 ?_)|((with_reducible refine ZM ?_ ?_);(focus rfl)));(conv=>whnf)))
              repeat' (first | ((with_reducible refine HAlt.mk ?_ ?_) <;> ((conv=>whnf);repeat((first|(with_reducible first|refine Z1 ?_|refine Z2 ?_|refine Z3 ?_|refine Z4 ?_|refine Z5 ?_|refine Z9 (by assumption) rfl ?_|refine ZA (by assumption) rfl ?_|refine ZB (by assumption) rfl ?_|refine Z6 ?_|refine Z7 ?_|refine Z8 ?_)|((with_reducible refine ZM ?_ ?_);(focus rfl)));(conv=>whnf)))) | ((with_reducible refine ld2 (o1 := 0) (o2 := 1) o1 rfl ?_); ((conv=>whnf);repeat((first|(with_reducible first|refine Z1 ?_|refine Z2 ?_|refine Z3 ?_|refine Z4 ?_|refine Z5 ?_|refine Z9 (by assumption) rfl ?_|refine ZA (by assumption) rfl ?_|refine ZB (by assumption) rfl ?_|refine Z6 ?_|refine Z7 ?_|refine Z8 ?_)|((with_reducible refine ZM ?_ ?_);(focus rfl)));(conv=>whnf)))))
              all_goals
                refine HCall.mk ((loopk_spec rr9).mono ?_)
                rintro e h9 ⟨rfl, x9⟩
                have o1 := o1.ext x9
                have o4 := o4.ext x9
                have kk9 := kk8.ext x9
                have hb9 := x9.1
                have i9 : Inv h9 := S.stay _ _ i8 (x9.kept (by omega))
                have lb9 := lb8.ext x9
                ((conv=>whnf);repeat((first|(with_reducible first|refine Z1 ?_|refine Z2 ?_|refine Z3 ?_|refine Z4 ?_|refine Z5 ?_|refine Z9 (by assumption) rfl ?_|refine ZA (by assumption) rfl ?_|refine ZB (by assumption) rfl ?_|refine Z6 ?_|refine Z7 ?_|refine Z8 ?_)|((with_reducible refine ZM ?_ ?_);(focus rfl)));(conv=>whnf)))
                repeat' ((with_reducible refine ld2 (o1 := 0) (o2 := 1) o1 rfl ?_); ((conv=>whnf);repeat((first|(with_reducible first|refine Z1 ?_|refine Z2 ?_|refine Z3 ?_|refine Z4 ?_|refine Z5 ?_|refine Z9 (by assumption) rfl ?_|refine ZA (by assumption) rfl ?_|refine ZB (by assumption) rfl ?_|refine Z6 ?_|refine Z7 ?_|refine Z8 ?_)|((with_reducible refine ZM ?_ ?_);(focus rfl)));(conv=>whnf))))
                refine new_var (e := 55) [.string nm, .bool (loopK k'), .pointer lb] rfl ?_
                intro h10 bl o10 x10 z10 hbl
                have o1 := o1.ext x10
                have o4 := o4.ext x10
                have kk10 := kk9.ext x10
                have lb10 := lb9.ext x10
                have hb10 := x10.1
                have i10 : Inv h10 := S.stay _ _ i9 (x10.kept (by omega))
                have lbl := lb9.lt
                ((conv=>whnf);repeat((first|(with_reducible first|refine Z1 ?_|refine Z2 ?_|refine Z3 ?_|refine Z4 ?_|refine Z5 ?_|refine Z9 (by assumption) rfl ?_|refine ZA (by assumption) rfl ?_|refine ZB (by assumption) rfl ?_|refine Z6 ?_|refine Z7 ?_|refine Z8 ?_)|((with_reducible refine ZM ?_ ?_);(focus rfl)));(conv=>whnf)))
                refine blk_st (o := 6) o4 (by simp) rfl ?_
                intro h11 f11 z11 o11
                ((conv=>whnf);repeat((first|(with_reducible first|refine Z1 ?_|refine Z2 ?_|refine Z3 ?_|refine Z4 ?_|refine Z5 ?_|refine Z9 (by assumption) rfl ?_|refine ZA (by assumption) rfl ?_|refine ZB (by assumption) rfl ?_|refine Z6 ?_|refine Z7 ?_|refine Z8 ?_)|((with_reducible refine ZM ?_ ?_);(focus rfl)));(conv=>whnf)))
                rw [← hw]
                exact ⟨[.int .i64 k, .string nm, .int .i64 n, .string t, .slice ka ns.length kc, .slice la l.length lc], some ⟨bl, 0, none⟩, rfl, o11, ⟨bl, lb, rfl, o10.offk f11 (by omega), fun p ep => by have := lbl p ep; omega, rl.keepC (kk10.offNew f11 (by omega))⟩, o1.offk f11 (by omega), kk10.offNew f11 (by omega), S.stay _ _ i10 (f11.kept (by omega) (by omega))⟩
          · rw [if_neg hD] at hw
            subst hw
            have q : (k == 38) = false := beq_eq_false_iff_ne.2 hD
            ((conv=>whnf);repeat((first|(with_reducible first|refine Z1 ?_|refine Z2 ?_|refine Z3 ?_|refine Z4 ?_|refine Z5 ?_|refine Z9 (by assumption) rfl ?_|refine ZA (by assumption) rfl ?_|refine ZB (by assumption) rfl ?_|refine Z6 ?_|refine Z7 ?_|refine Z8 ?_)|((with_reducible refine ZM ?_ ?_);(focus rfl)));(conv=>whnf)))
            exact ⟨[.int .i64 k, .string nm, .int .i64 n, .string t, .slice ka ns.length kc, .slice la l.length lc], lb, rfl, o4, rl5, o1, k5, i5⟩
      · rw [qL, if_pos rfl] at hw
        subst hw
        ((conv=>whnf);repeat((first|(with_reducible first|refine Z1 ?_|refine Z2 ?_|refine Z3 ?_|refine Z4 ?_|refine Z5 ?_|refine Z9 (by assumption) rfl ?_|refine ZA (by assumption) rfl ?_|refine ZB (by assumption) rfl ?_|refine Z6 ?_|refine Z7 ?_|refine Z8 ?_)|((with_reducible refine ZM ?_ ?_);(focus rfl)));(conv=>whnf)))
        refine blk_st (o := 7) o4 (by simp) rfl ?_
        intro h6 f6 z6 o6
        replace o6 : BlkW h6 b5 45 [.int .i64 k, .string nm, .int .i64 n, .string t, .slice ka ns.length kc, .slice la l.length lc, .pointer lb, .bool true, .bool v.goes, .bool v.inside] := o6
        have k6 := k5.offNew f6 (by omega)
        have i6 : Inv h6 := S.stay _ _ i5 (f6.kept (by omega) (by omega))
        have o1 := o1.offk f6 (by omega)
        ((conv=>whnf);repeat((first|(with_reducible first|refine Z1 ?_|refine Z2 ?_|refine Z3 ?_|refine Z4 ?_|refine Z5 ?_|refine Z9 (by assumption) rfl ?_|refine ZA (by assumption) rfl ?_|refine ZB (by assumption) rfl ?_|refine Z6 ?_|refine Z7 ?_|refine Z8 ?_)|((with_reducible refine ZM ?_ ?_);(focus rfl)));(conv=>whnf)))
        refine blk_st (o := 8) o6 (by simp) rfl ?_
        intro h7 f7 z7 o7
        ((conv=>whnf);repeat((first|(with_reducible first|refine Z1 ?_|refine Z2 ?_|refine Z3 ?_|refine Z4 ?_|refine Z5 ?_|refine Z9 (by assumption) rfl ?_|refine ZA (by assumption) rfl ?_|refine ZB (by assumption) rfl ?_|refine Z6 ?_|refine Z7 ?_|refine Z8 ?_)|((with_reducible refine ZM ?_ ?_);(focus rfl)));(conv=>whnf)))
        exact ⟨[.int .i64 k, .string nm, .int .i64 n, .string t, .slice ka ns.length kc, .slice la l.length lc], lb, rfl, o7, rl.keepC (k6.offNew f7 (by omega)), o1.offk f7 (by omega), k6.offNew f7 (by omega), S.stay _ _ i6 (f7.kept (by omega) (by omega))⟩
    · intro u h5
      rintro ⟨ncs', lb', hn', o5, l5, o1, k5, i5⟩
      have hb5' := k5.1
      ((conv=>whnf);repeat((first|(with_reducible first|refine Z1 ?_|refine Z2 ?_|refine Z3 ?_|refine Z4 ?_|refine Z5 ?_|refine Z9 (by assumption) rfl ?_|refine ZA (by assumption) rfl ?_|refine ZB (by assumption) rfl ?_|refine Z6 ?_|refine Z7 ?_|refine Z8 ?_)|((with_reducible refine ZM ?_ ?_);(focus rfl)));(conv=>whnf)))
      refine ld2 (o1 := 0) (o2 := 5) o1 rfl ?_
      ((conv=>whnf);repeat((first|(with_reducible first|refine Z1 ?_|refine Z2 ?_|refine Z3 ?_|refine Z4 ?_|refine Z5 ?_|refine Z9 (by assumption) rfl ?_|refine ZA (by assumption) rfl ?_|refine ZB (by assumption) rfl ?_|refine Z6 ?_|refine Z7 ?_|refine Z8 ?_)|((with_reducible refine ZM ?_ ?_);(focus rfl)));(conv=>whnf)))
      refine loop_rule [62] (fun vs h' => ∃ (i : Nat) (ncs' : List Value), vs = [.int .i64 i] ∧ i ≤ l.length ∧ ncs'.length = 6 ∧ BlkW h' b5 45 (ncs' ++ [.pointer lb', .bool w.breaks, .bool w.goes, .bool w.inside]) ∧ LRep h' w.labels lb' ∧ KeepC h h' ∧ Inv h' ∧ anyL q (l.take i) w = false)
        (fun vs _ => match vs with | [.int _ i] => l.length - i.toNat | _ => 0) rfl ?_ ?_
      · exact ⟨0, ncs', rfl, by omega, hn', o5, l5, k5, i5, rfl⟩
      intro u6 h6 v62
      rintro ⟨i, ncs6, e, hi, hn6, o6, l6, k6, i6, a6⟩
      cases e
      ((conv=>whnf);repeat((first|(with_reducible first|refine Z1 ?_|refine Z2 ?_|refine Z3 ?_|refine Z4 ?_|refine Z5 ?_|refine Z9 (by assumption) rfl ?_|refine ZA (by assumption) rfl ?_|refine ZB (by assumption) rfl ?_|refine Z6 ?_|refine Z7 ?_|refine Z8 ?_)|((with_reducible refine ZM ?_ ?_);(focus rfl)));(conv=>whnf)))
      refine HIf.mk (fun hlt => ?_) (fun hlt => ?_)
      · have hi1 : i < l.length := by have := of_decide_eq_true hlt; omega
        have hmu : l.length - ((i : Int) + 1).toNat < l.length - ((i : Int)).toNat := by omega
        have at1 := anyL_take q w l i hi1
        have hcg := cnts_get l i hi1
        simp only [cnt] at hm
        have hokl : okT l[i] = true := okL_get (by simp only [okT, Bool.and_eq_true] at hk; exact hk.2) i hi1
        ((conv=>whnf);repeat((first|(with_reducible first|refine Z1 ?_|refine Z2 ?_|refine Z3 ?_|refine Z4 ?_|refine Z5 ?_|refine Z9 (by assumption) rfl ?_|refine ZA (by assumption) rfl ?_|refine ZB (by assumption) rfl ?_|refine Z6 ?_|refine Z7 ?_|refine Z8 ?_)|((with_reducible refine ZM ?_ ?_);(focus rfl)));(conv=>whnf)))
        refine HIdx.mk i rfl hi1 ?_
        refine sl_some s2 hi1 fun p ep => ?_
        ((conv=>whnf);repeat((first|(with_reducible first|refine Z1 ?_|refine Z2 ?_|refine Z3 ?_|refine Z4 ?_|refine Z5 ?_|refine Z9 (by assumption) rfl ?_|refine ZA (by assumption) rfl ?_|refine ZB (by assumption) rfl ?_|refine Z6 ?_|refine Z7 ?_|refine Z8 ?_)|((with_reducible refine ZM ?_ ?_);(focus rfl)));(conv=>whnf)))
        refine tloadK s2 s3 k6 ep hi1 fun cs rt6 => ?_
        have hcl := rt6.len
        ((conv=>whnf);repeat((first|(with_reducible first|refine Z1 ?_|refine Z2 ?_|refine Z3 ?_|refine Z4 ?_|refine Z5 ?_|refine Z9 (by assumption) rfl ?_|refine ZA (by assumption) rfl ?_|refine ZB (by assumption) rfl ?_|refine Z6 ?_|refine Z7 ?_|refine Z8 ?_)|((with_reducible refine ZM ?_ ?_);(focus rfl)));(conv=>whnf)))
        refine new_var (e := 26) zeroT rfl ?_
        intro h7 b9 o7 x7 z7 hb9
        have o6l := o6.lt
        have o6 := o6.ext x7
        have hb6 := k6.1
        have hb7 := x7.1
        ((conv=>whnf);repeat((first|(with_reducible first|refine Z1 ?_|refine Z2 ?_|refine Z3 ?_|refine Z4 ?_|refine Z5 ?_|refine Z9 (by assumption) rfl ?_|refine ZA (by assumption) rfl ?_|refine ZB (by assumption) rfl ?_|refine Z6 ?_|refine Z7 ?_|refine Z8 ?_)|((with_reducible refine ZM ?_ ?_);(focus rfl)));(conv=>whnf)))
        refine HMust.mk (by simpa using hcl) ?_
        refine store_blk o7 (by simp [hcl]) (by simpa using rt6.one) ?_
        intro h8 f8 z8 o8
        have o8' : BlkW h8 b9 26 cs := by simpa [hcl] using o8
        have o6 := o6.offk f8 (by omega)
        have k8 := (k6.ext x7).offNew f8 (by omega)
        have i8 : Inv h8 := S.stay _ _ (S.stay _ _ i6 (x7.kept (by omega))) (f8.kept (by omega) (by omega))
        have l8 := l6.keepC ((KeepC.of_ext x7).offNew f8 (by omega))
        ((conv=>whnf);repeat((first|(with_reducible first|refine Z1 ?_|refine Z2 ?_|refine Z3 ?_|refine Z4 ?_|refine Z5 ?_|refine Z9 (by assumption) rfl ?_|refine ZA (by assumption) rfl ?_|refine ZB (by assumption) rfl ?_|refine Z6 ?_|refine Z7 ?_|refine Z8 ?_)|((with_reducible refine ZM ?_ ?_);(focus rfl)));(conv=>whnf)))
        refine blk_ldN o8' hcl ?_
        ((conv=>whnf);repeat((first|(with_reducible first|refine Z1 ?_|refine Z2 ?_|refine Z3 ?_|refine Z4 ?_|refine Z5 ?_|refine Z9 (by assumption) rfl ?_|refine ZA (by assumption) rfl ?_|refine ZB (by assumption) rfl ?_|refine Z6 ?_|refine Z7 ?_|refine Z8 ?_)|((with_reducible refine ZM ?_ ?_);(focus rfl)));(conv=>whnf)))
        refine HMust.mk (by simpa using hcl) ?_
        refine stP o6 (by simp [hcl, hn6]) (by simpa using rt6.one) ?_
        intro h9 f9 z9 o9
        have o9' : BlkW h9 b5 45 (cs ++ [.pointer lb', .bool w.breaks, .bool w.goes, .bool w.inside]) := by simpa [hcl, hn6] using o9
        have l9 := LRep.offk o6 (by simp [hn6]) f9 l8
        have k9 := k8.offNew f9 (by omega)
        have i9 : Inv h9 := S.stay _ _ i8 (f9.kept (by omega) (by omega))
        clear o9
        ((conv=>whnf);repeat((first|(with_reducible first|refine Z1 ?_|refine Z2 ?_|refine Z3 ?_|refine Z4 ?_|refine Z5 ?_|refine Z9 (by assumption) rfl ?_|refine ZA (by assumption) rfl ?_|refine ZB (by assumption) rfl ?_|refine Z6 ?_|refine Z7 ?_|refine Z8 ?_)|((with_reducible refine ZM ?_ ?_);(focus rfl)));(conv=>whnf)))
        refine blk_ldN o9' (by simp [hcl]) ?_
        ((conv=>whnf);repeat((first|(with_reducible first|refine Z1 ?_|refine Z2 ?_|refine Z3 ?_|refine Z4 ?_|refine Z5 ?_|refine Z9 (by assumption) rfl ?_|refine ZA (by assumption) rfl ?_|refine ZB (by assumption) rfl ?_|refine Z6 ?_|refine Z7 ?_|refine Z8 ?_)|((with_reducible refine ZM ?_ ?_);(focus rfl)));(conv=>whnf)))
        refine HCall.mk ((ih (cnt l[i]) (by omega) l[i] rfl h9 w _ i9 (by have := f9.1; omega) ⟨cs, lb', rfl, TRep.keepC k9 _ _ rt6, l9⟩ hokl).mono ?_)
        rintro e h10 hh
        rcases hh with ⟨q1, rfl, i10, k10⟩ | ⟨q1, rfl, i10⟩
        · ((conv=>whnf);repeat((first|(with_reducible first|refine Z1 ?_|refine Z2 ?_|refine Z3 ?_|refine Z4 ?_|refine Z5 ?_|refine Z9 (by assumption) rfl ?_|refine ZA (by assumption) rfl ?_|refine ZB (by assumption) rfl ?_|refine Z6 ?_|refine Z7 ?_|refine Z8 ?_)|((with_reducible refine ZM ?_ ?_);(focus rfl)));(conv=>whnf)))
          exact ⟨⟨i + 1, cs, rfl, by omega, hcl, o9'.keepC k10, l9.keepC k10, k9.trans k10, i10, by rw [at1, a6, q1]; rfl⟩, hmu⟩
        · ((conv=>whnf);repeat((first|(with_reducible first|refine Z1 ?_|refine Z2 ?_|refine Z3 ?_|refine Z4 ?_|refine Z5 ?_|refine Z9 (by assumption) rfl ?_|refine ZA (by assumption) rfl ?_|refine ZB (by assumption) rfl ?_|refine Z6 ?_|refine Z7 ?_|refine Z8 ?_)|((with_reducible refine ZM ?_ ?_);(focus rfl)));(conv=>whnf)))
          refine .inr ⟨?_, rfl, i10⟩
          rw [hz]
          exact anyL_yes (i := i + 1) (by rw [at1, q1]; simp)
      · have hge := of_decide_eq_false hlt
        obtain rfl : i = l.length := by omega
        rw [List.take_length] at a6
        ((conv=>whnf);repeat((first|(with_reducible first|refine Z1 ?_|refine Z2 ?_|refine Z3 ?_|refine Z4 ?_|refine Z5 ?_|refine Z9 (by assumption) rfl ?_|refine ZA (by assumption) rfl ?_|refine ZB (by assumption) rfl ?_|refine Z6 ?_|refine Z7 ?_|refine Z8 ?_)|((with_reducible refine ZM ?_ ?_);(focus rfl)));(conv=>whnf)))
        exact .inl ⟨by rw [hz, a6], rfl, i6, k6⟩
  · ((conv=>whnf);repeat((first|(with_reducible first|refine Z1 ?_|refine Z2 ?_|refine Z3 ?_|refine Z4 ?_|refine Z5 ?_|refine Z9 (by assumption) rfl ?_|refine ZA (by assumption) rfl ?_|refine ZB (by assumption) rfl ?_|refine Z6 ?_|refine Z7 ?_|refine Z8 ?_)|((with_reducible refine ZM ?_ ?_);(focus rfl)));(conv=>whnf)))
    exact .inr ⟨by rw [hz, q1]; rfl, rfl, i2⟩
end Go.Proofs.Ytlogpojkkbcpjaa.Hc
