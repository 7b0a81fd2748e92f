import Derived.Test.YthagjflkdoafmaaN3
import Derived.Test.YthagjflkdoafmaaG0
set_option linter.unusedVariables false
set_option linter.unusedSimpArgs false
namespace Go.Proofs.Ythagjflkdoafmaa.Hc
open Go Go.H Go.Proofs
set_option maxRecDepth 100000
set_option maxHeartbeats 4000000

/-- What Encode answers. -/
def EncN (d : ND) (h : Heap) (e : Ending) (h' : Heap) : Prop := ∃ (r : Bool) (a : Option Addr) (c : Nat) (l : List UInt8),
  e = .returned (.tuple #[.slice a l.length c, .int .i64 (errN r)]) ∧ (r = true ↔ NMay d) ∧ l = (if r = true then secN d else []) ∧ Own h' h.size 5 1 a l.length c (l.map byteV) ∧ Ext h h'

theorem encodeN_spec {d : ND} {h : Heap} {cs : List Value} (ra : NRep h d cs) : HCalls Try.prog 10 #[.agg cs.toArray] h (EncN d h) := by
  have hlen := ra.len
  have ra0 := ra
  obtain ⟨a1, a2, a3, a4, a5, a6, ka, kc, va, vc, ia, ic, rfl, s1, s2, s3⟩ := ra
  refine c10 (by simp) ?_
  (conv => whnf)
  refine new_var (e := 26) [.slice ka d.keys.length kc, .slice va d.vals.length vc, .slice ia d.kids.length ic] rfl ?_
  intro h1 bx ox x1 z1 hbx
  ((conv=>whnf);repeat((first|(with_reducible first|refine Z1 ?_|refine Z2 ?_|refine Z3 ?_|refine Z4 ?_|refine Z5 ?_|refine Z9 (by assumption) rfl ?_|refine ZA (by assumption) rfl ?_|refine ZB (by assumption) rfl ?_|refine Z6 ?_|refine Z7 ?_|refine Z8 ?_)|(with_reducible refine ZM ?_ ?_;(focus rfl)));(conv=>whnf)))
  refine HCall.mk ((checkN_spec (ra0.ext x1)).mono ?_)
  rintro e h2 ⟨r, rfl, hr, x2⟩
  have x02 := x1.trans x2
  have ox2 := ox.ext x2
  cases r
  · ((conv=>whnf);repeat((first|(with_reducible first|refine Z1 ?_|refine Z2 ?_|refine Z3 ?_|refine Z4 ?_|refine Z5 ?_|refine Z9 (by assumption) rfl ?_|refine ZA (by assumption) rfl ?_|refine ZB (by assumption) rfl ?_|refine Z6 ?_|refine Z7 ?_|refine Z8 ?_)|(with_reducible refine ZM ?_ ?_;(focus rfl)));(conv=>whnf)))
    exact ⟨false, none, 0, [], rfl, hr, rfl, Own.nil _ _ _ _, x02⟩
  have hm := hr.1 rfl
  have hmany := hm.1
  have hkl : d.keys.length ≤ 12 ∧ d.kids.length ≤ 12 := by
    unfold Many at hmany
    rcases hmany with ⟨h0, h5, h6⟩ | ⟨h5, h6, h7, h8⟩
    · rw [h0]; simp; omega
    · omega
  ((conv=>whnf);repeat((first|(with_reducible first|refine Z2 ?_|refine Z3 ?_|refine Z4 ?_|refine Z5 ?_|refine Z9 (by assumption) rfl ?_|refine ZA (by assumption) rfl ?_|refine ZB (by assumption) rfl ?_|refine Z6 ?_|refine Z7 ?_|refine Z8 ?_)|(with_reducible refine ZM ?_ ?_;(focus rfl)));(conv=>whnf)))
  refine new_own (e := 5) 1 2 [byteV 0, byteV (UInt8.ofNat d.keys.length)] (by rw [byteV_ofNat, Nat.mod_eq_of_lt (by omega)]; rfl) rfl ?_
  intro h3 b3 o3 x3 z3 hb3
  have ox3 := ox2.ext x3
  have hs2 := x02.1
  ((conv=>whnf);repeat((first|(with_reducible first|refine Z2 ?_|refine Z3 ?_|refine Z4 ?_|refine Z5 ?_|refine Z9 (by assumption) rfl ?_|refine ZA (by assumption) rfl ?_|refine ZB (by assumption) rfl ?_|refine Z6 ?_|refine Z7 ?_|refine Z8 ?_)|(with_reducible refine ZM ?_ ?_;(focus rfl)));(conv=>whnf)))
  generalize hb0 : (if d.kids = [] then 0 :: leb d.keys.length else 1 :: leb d.kids.length) = bs0
  have hbl : bs0.length = 2 := by
    subst hb0
    split
    · rw [leb_small (by omega)]; rfl
    · rw [leb_small (by omega)]; rfl
  refine cut_rule [5] (fun vs h' => ∃ a c, vs = [.slice a bs0.length c] ∧ Own h' h2.size 5 1 a bs0.length c (bs0.map byteV) ∧ Ext h2 h') rfl ?_ ?_
  · ((conv=>whnf);repeat((first|(with_reducible first|refine Z1 ?_|refine Z2 ?_|refine Z3 ?_|refine Z4 ?_|refine Z5 ?_|refine Z9 (by assumption) rfl ?_|refine ZA (by assumption) rfl ?_|refine ZB (by assumption) rfl ?_|refine Z6 ?_|refine Z7 ?_|refine Z8 ?_)|(with_reducible refine ZM ?_ ?_;(focus rfl)));(conv=>whnf)))
    refine HIf.mk (fun hk => ?_) (fun hk => ?_)
    · have hk' := of_decide_eq_true hk
      have hne : d.kids ≠ [] := by intro e; rw [e] at hk'; simp at hk'
      ((conv=>whnf);repeat((first|(with_reducible first|refine Z1 ?_|refine Z2 ?_|refine Z3 ?_|refine Z4 ?_|refine Z5 ?_|refine Z9 (by assumption) rfl ?_|refine ZA (by assumption) rfl ?_|refine ZB (by assumption) rfl ?_|refine Z6 ?_|refine Z7 ?_|refine Z8 ?_)|(with_reducible refine ZM ?_ ?_;(focus rfl)));(conv=>whnf)))
      refine new_own (e := 5) 1 2 [byteV 1, byteV (UInt8.ofNat d.kids.length)] (by rw [byteV_ofNat, Nat.mod_eq_of_lt (by omega)]; rfl) rfl ?_
      intro h4 b4 o4 x4 z4 hb4
      ((conv=>whnf);repeat((first|(with_reducible first|refine Z1 ?_|refine Z2 ?_|refine Z3 ?_|refine Z4 ?_|refine Z5 ?_|refine Z9 (by assumption) rfl ?_|refine ZA (by assumption) rfl ?_|refine ZB (by assumption) rfl ?_|refine Z6 ?_|refine Z7 ?_|refine Z8 ?_)|(with_reducible refine ZM ?_ ?_;(focus rfl)));(conv=>whnf)))
      have e0 : bs0 = [1, UInt8.ofNat d.kids.length] := by subst hb0; rw [if_neg hne, leb_small (by omega)]
      subst e0
      exact ⟨_, _, rfl, o4.lower x3.1, x3.trans x4⟩
    · have hk' := of_decide_eq_false hk
      have hz : d.kids = [] := List.length_eq_zero_iff.1 (by omega)
      ((conv=>whnf);repeat((first|(with_reducible first|refine Z1 ?_|refine Z2 ?_|refine Z3 ?_|refine Z4 ?_|refine Z5 ?_|refine Z9 (by assumption) rfl ?_|refine ZA (by assumption) rfl ?_|refine ZB (by assumption) rfl ?_|refine Z6 ?_|refine Z7 ?_|refine Z8 ?_)|(with_reducible refine ZM ?_ ?_;(focus rfl)));(conv=>whnf)))
      have e0 : bs0 = [0, UInt8.ofNat d.keys.length] := by subst hb0; rw [if_pos hz, leb_small (by omega)]
      subst e0
      exact ⟨_, _, rfl, o3, x3⟩
  intro u h4 v5
  rintro ⟨a4, c4, e, o4, x4⟩
  cases e
  have x04 := x02.trans x4
  have ox4 := ox2.ext x4
  have hkids := hm.2.2.2
  have hkeys := hm.keys
  have hvals := hm.2.2.1
  have he1 := encI_len d.kids hkids
  ((conv=>whnf);repeat((first|(with_reducible first|refine Z2 ?_|refine Z3 ?_|refine Z4 ?_|refine Z5 ?_|refine Z9 (by assumption) rfl ?_|refine ZA (by assumption) rfl ?_|refine ZB (by assumption) rfl ?_|refine Z6 ?_|refine Z7 ?_|refine Z8 ?_)|(with_reducible refine ZM ?_ ?_;(focus rfl)));(conv=>whnf)))
  refine cut_rule [5] (fun vs h' => ∃ a c, vs = [.slice a (bs0 ++ encI d.kids).length c] ∧ Own h' h2.size 5 1 a (bs0 ++ encI d.kids).length c ((bs0 ++ encI d.kids).map byteV) ∧ Ext h2 h') rfl ?_ ?_
  · ((conv=>whnf);repeat((first|(with_reducible first|refine Z1 ?_|refine Z2 ?_|refine Z3 ?_|refine Z4 ?_|refine Z5 ?_|refine Z9 (by assumption) rfl ?_|refine ZA (by assumption) rfl ?_|refine ZB (by assumption) rfl ?_|refine Z6 ?_|refine Z7 ?_|refine Z8 ?_)|(with_reducible refine ZM ?_ ?_;(focus rfl)));(conv=>whnf)))
    refine loop_rule [5, 33] (fun vs h' => ∃ (i : Nat) (a : Option Addr) (c : Nat) (bs : List UInt8), vs = [.slice a bs.length c, .int .i64 i] ∧ i ≤ d.kids.length ∧ bs = bs0 ++ encI (d.kids.take i) ∧ Own h' h2.size 5 1 a bs.length c (bs.map byteV) ∧ Ext h2 h')
      (fun vs _ => match vs with | [_, .int _ i] => d.kids.length - i.toNat | _ => 0) rfl ?_ ?_
    · exact ⟨0, a4, c4, bs0, rfl, by omega, by simp [encI], o4, x4⟩
    · intro u h5 v5 v33
      rintro ⟨i, a5, c5, bs, e, hi, hbs, o5, x5⟩
      cases e
      have x05 := x02.trans x5
      ((conv=>whnf);repeat((first|(with_reducible first|refine Z1 ?_|refine Z2 ?_|refine Z3 ?_|refine Z4 ?_|refine Z5 ?_|refine Z9 (by assumption) rfl ?_|refine ZA (by assumption) rfl ?_|refine ZB (by assumption) rfl ?_|refine Z6 ?_|refine Z7 ?_|refine Z8 ?_)|(with_reducible refine ZM ?_ ?_;(focus rfl)));(conv=>whnf)))
      refine HIf.mk (fun hlt => ?_) (fun hlt => ?_)
      · have hi1 : i < d.kids.length := by have := of_decide_eq_true hlt; omega
        have hmu : d.kids.length - ((i : Int) + 1).toNat < d.kids.length - ((i : Int)).toNat := by omega
        have hki := hkids _ (List.getElem_mem hi1)
        have htk : d.kids.take (i + 1) = d.kids.take i ++ [d.kids[i]] := by rw [List.take_add_one, List.getElem?_eq_getElem hi1]; rfl
        have hl := encI_len (d.kids.take i) (fun k hk => hkids k (List.mem_of_mem_take hk))
        have hl2 : bs.length ≤ 2 + 60 := by rw [hbs, List.length_append, hbl]; rw [List.length_take] at hl; omega
        have hl3 := leb_five d.kids[i].toNat (by omega)
        ((conv=>whnf);repeat((first|(with_reducible first|refine Z1 ?_|refine Z2 ?_|refine Z3 ?_|refine Z4 ?_|refine Z5 ?_|refine Z9 (by assumption) rfl ?_|refine ZA (by assumption) rfl ?_|refine ZB (by assumption) rfl ?_|refine Z6 ?_|refine Z7 ?_|refine Z8 ?_)|(with_reducible refine ZM ?_ ?_;(focus rfl)));(conv=>whnf)))
        refine HIdx.mk i rfl hi1 ?_
        refine sl_some s3 hi1 fun p ep => ?_
        ((conv=>whnf);repeat((first|(with_reducible first|refine Z1 ?_|refine Z2 ?_|refine Z3 ?_|refine Z4 ?_|refine Z5 ?_|refine Z9 (by assumption) rfl ?_|refine ZA (by assumption) rfl ?_|refine ZB (by assumption) rfl ?_|refine Z6 ?_|refine Z7 ?_|refine Z8 ?_)|(with_reducible refine ZM ?_ ?_;(focus rfl)));(conv=>whnf)))
        refine (s3.ext x05).load ep (by simpa using hi1) ?_
        rw [List.getElem_map]
        ((conv=>whnf);repeat((first|(with_reducible first|refine Z1 ?_|refine Z2 ?_|refine Z3 ?_|refine Z4 ?_|refine Z5 ?_|refine Z9 (by assumption) rfl ?_|refine ZA (by assumption) rfl ?_|refine ZB (by assumption) rfl ?_|refine Z6 ?_|refine Z7 ?_|refine Z8 ?_)|(with_reducible refine ZM ?_ ?_;(focus rfl)));(conv=>whnf)))
        refine HCall.to #[.int .u64 (d.kids[i].toNat : Nat)] (by show #[Value.int .u64 d.kids[i]] = _; rw [Int.toNat_of_nonneg (by omega)]) ((num_spec d.kids[i].toNat (by omega) h5).mono ?_)
        rintro e h6 ⟨a6, c6, rfl, o6, x6⟩
        ((conv=>whnf);repeat((first|(with_reducible first|refine Z1 ?_|refine Z2 ?_|refine Z3 ?_|refine Z4 ?_|refine Z5 ?_|refine Z9 (by assumption) rfl ?_|refine ZA (by assumption) rfl ?_|refine ZB (by assumption) rfl ?_|refine Z6 ?_|refine Z7 ?_|refine Z8 ?_)|(with_reducible refine ZM ?_ ?_;(focus rfl)));(conv=>whnf)))
        refine o6.sl.cells ?_
        refine Own.bytes (more := leb d.kids[i].toNat) (o5.ext x6) (by have := x6.1; have := x5.1; omega) (by omega) ?_
        intro h7 a7 c7 o7 g7
        ((conv=>whnf);repeat((first|(with_reducible first|refine Z1 ?_|refine Z2 ?_|refine Z3 ?_|refine Z4 ?_|refine Z5 ?_|refine Z9 (by assumption) rfl ?_|refine ZA (by assumption) rfl ?_|refine ZB (by assumption) rfl ?_|refine Z6 ?_|refine Z7 ?_|refine Z8 ?_)|(with_reducible refine ZM ?_ ?_;(focus rfl)));(conv=>whnf)))
        refine ⟨⟨i + 1, a7, c7, _, rfl, by omega, ?_, o7, (x5.trans x6).keep (g7.kept (by have := x5.1; have := x6.1; omega) fun p ep => (o5.lt p ep).1)⟩, hmu⟩
        rw [hbs, htk, encI_snoc, List.append_assoc]
      · have hge := of_decide_eq_false hlt
        obtain rfl : i = d.kids.length := by omega
        rw [List.take_length] at hbs
        subst hbs
        ((conv=>whnf);repeat((first|(with_reducible first|refine Z1 ?_|refine Z2 ?_|refine Z3 ?_|refine Z4 ?_|refine Z5 ?_|refine Z9 (by assumption) rfl ?_|refine ZA (by assumption) rfl ?_|refine ZB (by assumption) rfl ?_|refine Z6 ?_|refine Z7 ?_|refine Z8 ?_)|(with_reducible refine ZM ?_ ?_;(focus rfl)));(conv=>whnf)))
        exact ⟨a5, c5, rfl, o5, x5⟩
  intro u h5 v5
  rintro ⟨a5, c5, e, o5, x5⟩
  cases e
  have ox5 := ox2.ext x5
  generalize hb1 : bs0 ++ encI d.kids = bs1 at o5 ⊢
  have hbl1 : bs1.length ≤ 62 := by subst hb1; rw [List.length_append, hbl]; omega
  have hp := encP_len d.keys d.vals hkeys hvals
  have ht := encT_len d.keys hkeys
  have hfin : bs1 ++ (if d.kids = [] then encP d.keys d.vals else encT d.keys) = encN d := by
    subst hb1 hb0
    unfold encN
    by_cases hz : d.kids = []
    · rw [if_pos hz, if_pos hz, if_pos hz, hz]; simp [encI]
    · rw [if_neg hz, if_neg hz, if_neg hz]; simp
  have hel := encN_len hm
  ((conv=>whnf);repeat((first|(with_reducible first|refine Z2 ?_|refine Z3 ?_|refine Z4 ?_|refine Z5 ?_|refine Z9 (by assumption) rfl ?_|refine ZA (by assumption) rfl ?_|refine ZB (by assumption) rfl ?_|refine Z6 ?_|refine Z7 ?_|refine Z8 ?_)|(with_reducible refine ZM ?_ ?_;(focus rfl)));(conv=>whnf)))
  refine cut_rule [5] (fun vs h' => ∃ a c, vs = [.slice a (encN d).length c] ∧ Own h' h2.size 5 1 a (encN d).length c ((encN d).map byteV) ∧ Ext h2 h') rfl ?_ ?_
  · ((conv=>whnf);repeat((first|(with_reducible first|refine Z1 ?_|refine Z2 ?_|refine Z3 ?_|refine Z4 ?_|refine Z5 ?_|refine Z9 (by assumption) rfl ?_|refine ZA (by assumption) rfl ?_|refine ZB (by assumption) rfl ?_|refine Z6 ?_|refine Z7 ?_|refine Z8 ?_)|(with_reducible refine ZM ?_ ?_;(focus rfl)));(conv=>whnf)))
    refine loop_rule [5, 46] (fun vs h' => ∃ (i : Nat) (a : Option Addr) (c : Nat) (bs : List UInt8), vs = [.slice a bs.length c, .int .i64 i] ∧ i ≤ d.keys.length ∧ bs = bs1 ++ (if d.kids = [] then encP (d.keys.take i) (d.vals.take i) else encT (d.keys.take i)) ∧ Own h' h2.size 5 1 a bs.length c (bs.map byteV) ∧ Ext h2 h')
      (fun vs _ => match vs with | [_, .int _ i] => d.keys.length - i.toNat | _ => 0) rfl ?_ ?_
    · exact ⟨0, a5, c5, bs1, rfl, by omega, by split <;> simp [encP, encT], o5, x5⟩
    · intro u h6 v5 v46
      rintro ⟨i, a6, c6, bs, e, hi, hbs, o6, x6⟩
      cases e
      have x06 := x02.trans x6
      have ox6 := ox2.ext x6
      ((conv=>whnf);repeat((first|(with_reducible first|refine Z1 ?_|refine Z2 ?_|refine Z3 ?_|refine Z4 ?_|refine Z5 ?_|refine Z9 (by assumption) rfl ?_|refine ZA (by assumption) rfl ?_|refine ZB (by assumption) rfl ?_|refine Z6 ?_|refine Z7 ?_|refine Z8 ?_)|(with_reducible refine ZM ?_ ?_;(focus rfl)));(conv=>whnf)))
      refine HIf.mk (fun hlt => ?_) (fun hlt => ?_)
      · have hi1 : i < d.keys.length := by have := of_decide_eq_true hlt; omega
        have hmu : d.keys.length - ((i : Int) + 1).toNat < d.keys.length - ((i : Int)).toNat := by omega
        have hki := hkeys _ (List.getElem_mem hi1)
        have htk : d.keys.take (i + 1) = d.keys.take i ++ [d.keys[i]] := by rw [List.take_add_one, List.getElem?_eq_getElem hi1]; rfl
        have hl := encT_len (d.keys.take i) (fun k hk => hkeys k (List.mem_of_mem_take hk))
        have hl1 := encP_len (d.keys.take i) (d.vals.take i) (fun k hk => hkeys k (List.mem_of_mem_take hk)) (fun k hk => hvals k (List.mem_of_mem_take hk))
        have hl2 : bs.length ≤ 62 + 1284 * 12 := by
          rw [hbs, List.length_append]; rw [List.length_take] at hl hl1; split <;> omega
        have hl3 := ntxt_len d.keys[i] (by omega)
        ((conv=>whnf);repeat((first|(with_reducible first|refine Z1 ?_|refine Z2 ?_|refine Z3 ?_|refine Z4 ?_|refine Z5 ?_|refine Z9 (by assumption) rfl ?_|refine ZA (by assumption) rfl ?_|refine ZB (by assumption) rfl ?_|refine Z6 ?_|refine Z7 ?_|refine Z8 ?_)|(with_reducible refine ZM ?_ ?_;(focus rfl)));(conv=>whnf)))
        refine HIdx.mk i rfl hi1 ?_
        refine sl_some s1 hi1 fun p ep => ?_
        ((conv=>whnf);repeat((first|(with_reducible first|refine Z1 ?_|refine Z2 ?_|refine Z3 ?_|refine Z4 ?_|refine Z5 ?_|refine Z9 (by assumption) rfl ?_|refine ZA (by assumption) rfl ?_|refine ZB (by assumption) rfl ?_|refine Z6 ?_|refine Z7 ?_|refine Z8 ?_)|(with_reducible refine ZM ?_ ?_;(focus rfl)));(conv=>whnf)))
        refine (s1.ext x06).load ep (by simpa using hi1) ?_
        rw [List.getElem_map]
        ((conv=>whnf);repeat((first|(with_reducible first|refine Z1 ?_|refine Z2 ?_|refine Z3 ?_|refine Z4 ?_|refine Z5 ?_|refine Z9 (by assumption) rfl ?_|refine ZA (by assumption) rfl ?_|refine ZB (by assumption) rfl ?_|refine Z6 ?_|refine Z7 ?_|refine Z8 ?_)|(with_reducible refine ZM ?_ ?_;(focus rfl)));(conv=>whnf)))
        refine HCall.mk ((ntext_spec d.keys[i] (by omega) h6).mono ?_)
        rintro e h7 ⟨a7, c7, rfl, o7, x7⟩
        ((conv=>whnf);repeat((first|(with_reducible first|refine Z1 ?_|refine Z2 ?_|refine Z3 ?_|refine Z4 ?_|refine Z5 ?_|refine Z9 (by assumption) rfl ?_|refine ZA (by assumption) rfl ?_|refine ZB (by assumption) rfl ?_|refine Z6 ?_|refine Z7 ?_|refine Z8 ?_)|(with_reducible refine ZM ?_ ?_;(focus rfl)));(conv=>whnf)))
        refine o7.sl.cells ?_
        refine Own.bytes (more := ntxt d.keys[i]) (o6.ext x7) (by have := x7.1; have := x6.1; omega) (by omega) ?_
        intro h8 a8 c8 o8 g8
        have x28 : Ext h2 h8 := (x6.trans x7).keep (g8.kept (by have := x6.1; have := x7.1; omega) fun p ep => (o6.lt p ep).1)
        have ox8 := ox2.ext x28
        have x08 := x02.trans x28
        ((conv=>whnf);repeat((first|(with_reducible first|refine Z1 ?_|refine Z2 ?_|refine Z3 ?_|refine Z4 ?_|refine Z5 ?_|refine Z9 (by assumption) rfl ?_|refine ZA (by assumption) rfl ?_|refine ZB (by assumption) rfl ?_|refine Z6 ?_|refine Z7 ?_|refine Z8 ?_)|(with_reducible refine ZM ?_ ?_;(focus rfl)));(conv=>whnf)))
        by_cases hz : d.kids = []
        · have q0 : ((d.kids.length : Int) == 0) = true := by rw [hz]; rfl
          have hvk : d.vals.length = d.keys.length := by
            unfold Many at hmany; rcases hmany with ⟨_, _, h⟩ | ⟨h5, _⟩
            · exact h
            · rw [hz] at h5; simp at h5
          have hi2 : i < d.vals.length := by omega
          have htv : d.vals.take (i + 1) = d.vals.take i ++ [d.vals[i]] := by rw [List.take_add_one, List.getElem?_eq_getElem hi2]; rfl
          have hvi := hvals _ (List.getElem_mem hi2)
          have hl4 := ntxt_len d.vals[i] (by omega)
          ((conv=>whnf);repeat((first|(with_reducible first|refine Z1 ?_|refine Z2 ?_|refine Z3 ?_|refine Z4 ?_|refine Z5 ?_|refine Z9 (by assumption) rfl ?_|refine ZA (by assumption) rfl ?_|refine ZB (by assumption) rfl ?_|refine Z6 ?_|refine Z7 ?_|refine Z8 ?_)|(with_reducible refine ZM ?_ ?_;(focus rfl)));(conv=>whnf)))
          refine HIdx.mk i rfl hi2 ?_
          refine sl_some s2 hi2 fun p ep => ?_
          ((conv=>whnf);repeat((first|(with_reducible first|refine Z1 ?_|refine Z2 ?_|refine Z3 ?_|refine Z4 ?_|refine Z5 ?_|refine Z9 (by assumption) rfl ?_|refine ZA (by assumption) rfl ?_|refine ZB (by assumption) rfl ?_|refine Z6 ?_|refine Z7 ?_|refine Z8 ?_)|(with_reducible refine ZM ?_ ?_;(focus rfl)));(conv=>whnf)))
          refine (s2.ext x08).load ep (by simpa using hi2) ?_
          rw [List.getElem_map]
          ((conv=>whnf);repeat((first|(with_reducible first|refine Z1 ?_|refine Z2 ?_|refine Z3 ?_|refine Z4 ?_|refine Z5 ?_|refine Z9 (by assumption) rfl ?_|refine ZA (by assumption) rfl ?_|refine ZB (by assumption) rfl ?_|refine Z6 ?_|refine Z7 ?_|refine Z8 ?_)|(with_reducible refine ZM ?_ ?_;(focus rfl)));(conv=>whnf)))
          refine HCall.mk ((ntext_spec d.vals[i] (by omega) h8).mono ?_)
          rintro e h9 ⟨a9, c9, rfl, o9, x9⟩
          ((conv=>whnf);repeat((first|(with_reducible first|refine Z1 ?_|refine Z2 ?_|refine Z3 ?_|refine Z4 ?_|refine Z5 ?_|refine Z9 (by assumption) rfl ?_|refine ZA (by assumption) rfl ?_|refine ZB (by assumption) rfl ?_|refine Z6 ?_|refine Z7 ?_|refine Z8 ?_)|(with_reducible refine ZM ?_ ?_;(focus rfl)));(conv=>whnf)))
          refine o9.sl.cells ?_
          refine Own.bytes (more := ntxt d.vals[i]) (o8.ext x9) (by have := x9.1; have := x28.1; omega) (by rw [List.length_append]; omega) ?_
          intro h10 a10 c10 o10 g10
          ((conv=>whnf);repeat((first|(with_reducible first|refine Z1 ?_|refine Z2 ?_|refine Z3 ?_|refine Z4 ?_|refine Z5 ?_|refine Z9 (by assumption) rfl ?_|refine ZA (by assumption) rfl ?_|refine ZB (by assumption) rfl ?_|refine Z6 ?_|refine Z7 ?_|refine Z8 ?_)|(with_reducible refine ZM ?_ ?_;(focus rfl)));(conv=>whnf)))
          refine ⟨⟨i + 1, a10, c10, _, rfl, by omega, ?_, o10, (x28.trans x9).keep (g10.kept (by have := x28.1; have := x9.1; omega) fun p ep => (o8.lt p ep).1)⟩, hmu⟩
          rw [hbs, if_pos hz, if_pos hz, htk, htv, encP_snoc _ _ _ _ (by simp; omega)]
          simp
        · have q0 : ((d.kids.length : Int) == 0) = false := by
            rw [beq_eq_false_iff_ne]
            intro e
            exact hz (List.length_eq_zero_iff.1 (by omega))
          ((conv=>whnf);repeat((first|(with_reducible first|refine Z1 ?_|refine Z2 ?_|refine Z3 ?_|refine Z4 ?_|refine Z5 ?_|refine Z9 (by assumption) rfl ?_|refine ZA (by assumption) rfl ?_|refine ZB (by assumption) rfl ?_|refine Z6 ?_|refine Z7 ?_|refine Z8 ?_)|(with_reducible refine ZM ?_ ?_;(focus rfl)));(conv=>whnf)))
          refine ⟨⟨i + 1, a8, c8, _, rfl, by omega, ?_, o8, x28⟩, hmu⟩
          rw [hbs, if_neg hz, if_neg hz, htk, encT_snoc, List.append_assoc]
      · have hge := of_decide_eq_false hlt
        obtain rfl : i = d.keys.length := by omega
        have e1 : bs = encN d := by
          rw [hbs, ← hfin, List.take_length]
          by_cases hz : d.kids = []
          · rw [if_pos hz, if_pos hz]
            have hvk : d.vals.length = d.keys.length := by
              unfold Many at hmany; rcases hmany with ⟨_, _, h⟩ | ⟨h5, _⟩
              · exact h
              · rw [hz] at h5; simp at h5
            rw [← hvk, List.take_length]
          · rw [if_neg hz, if_neg hz]
        subst e1
        ((conv=>whnf);repeat((first|(with_reducible first|refine Z1 ?_|refine Z2 ?_|refine Z3 ?_|refine Z4 ?_|refine Z5 ?_|refine Z9 (by assumption) rfl ?_|refine ZA (by assumption) rfl ?_|refine ZB (by assumption) rfl ?_|refine Z6 ?_|refine Z7 ?_|refine Z8 ?_)|(with_reducible refine ZM ?_ ?_;(focus rfl)));(conv=>whnf)))
        exact ⟨a6, c6, rfl, o6, x6⟩
  intro u h6 v5
  rintro ⟨a6, c6, e, o6, x6⟩
  cases e
  have x06 := x02.trans x6
  ((conv=>whnf);repeat((first|(with_reducible first|refine Z1 ?_|refine Z2 ?_|refine Z3 ?_|refine Z4 ?_|refine Z5 ?_|refine Z9 (by assumption) rfl ?_|refine ZA (by assumption) rfl ?_|refine ZB (by assumption) rfl ?_|refine Z6 ?_|refine Z7 ?_|refine Z8 ?_)|(with_reducible refine ZM ?_ ?_;(focus rfl)));(conv=>whnf)))
  refine HBound.mk 4096 rfl (by omega) ?_
  refine HBound.mk 4096 rfl (by omega) ?_
  ((conv=>whnf);repeat((first|(with_reducible first|refine Z1 ?_|refine Z2 ?_|refine Z3 ?_|refine Z4 ?_|refine Z5 ?_|refine Z9 (by assumption) rfl ?_|refine ZA (by assumption) rfl ?_|refine ZB (by assumption) rfl ?_|refine Z6 ?_|refine Z7 ?_|refine Z8 ?_)|(with_reducible refine ZM ?_ ?_;(focus rfl)));(conv=>whnf)))
  refine new_var (e := 5) (List.replicate 4096 (.int .u8 0)) (by rw [zeroCells_one]) ?_
  intro h7 b7 o7 x7 z7 hb7
  ((conv=>whnf);repeat((first|(with_reducible first|refine Z1 ?_|refine Z2 ?_|refine Z3 ?_|refine Z4 ?_|refine Z5 ?_|refine Z9 (by assumption) rfl ?_|refine ZA (by assumption) rfl ?_|refine ZB (by assumption) rfl ?_|refine Z6 ?_|refine Z7 ?_|refine Z8 ?_)|(with_reducible refine ZM ?_ ?_;(focus rfl)));(conv=>whnf)))
  refine HCall.mk ((frame_spec (o6.sl.ext x7) (by omega)).mono ?_)
  rintro e h8 ⟨b8, rfl, hb8, o8, x8⟩
  ((conv=>whnf);repeat((first|(with_reducible first|refine Z1 ?_|refine Z2 ?_|refine Z3 ?_|refine Z4 ?_|refine Z5 ?_|refine Z9 (by assumption) rfl ?_|refine ZA (by assumption) rfl ?_|refine ZB (by assumption) rfl ?_|refine Z6 ?_|refine Z7 ?_|refine Z8 ?_)|(with_reducible refine ZM ?_ ?_;(focus rfl)));(conv=>whnf)))
  have hfl : ((frameL (encN d)).map byteV).length = 8 + (encN d).length := by rw [List.length_map, frameL_len]
  have em : Nat.min (8 + (encN d).length) 4096 = 8 + (encN d).length := Nat.min_eq_left (by omega)
  rw [em]
  have sf := o8.sl
  rw [hfl] at sf
  refine sf.cells ?_
  refine HStoreO.mk _ rfl ?_
  refine store_blk (o := 0) (o7.ext x8) (by rw [hfl]; simp; omega) bytesV_one ?_
  intro h9 f9 z9 o9
  have e9 : (List.replicate 4096 (Value.int .u8 0)).take 0 ++ ((frameL (encN d)).map byteV ++ (List.replicate 4096 (Value.int .u8 0)).drop (0 + ((frameL (encN d)).map byteV).length)) = (secN d).map byteV := by
    rw [List.take_zero, List.nil_append, hfl, Nat.zero_add, List.drop_replicate]
    unfold secN
    rw [List.map_append, List.map_replicate, show 4096 - (8 + (encN d).length) = 4088 - (encN d).length by omega]
    rfl
  rw [e9] at o9
  have hs06 := x06.1
  have hs7 := x7.1
  have hs8 := x8.1
  ((conv=>whnf);repeat((first|(with_reducible first|refine Z1 ?_|refine Z2 ?_|refine Z3 ?_|refine Z4 ?_|refine Z5 ?_|refine Z9 (by assumption) rfl ?_|refine ZA (by assumption) rfl ?_|refine ZB (by assumption) rfl ?_|refine Z6 ?_|refine Z7 ?_|refine Z8 ?_)|(with_reducible refine ZM ?_ ?_;(focus rfl)));(conv=>whnf)))
  have ow := o9.own (B := h.size) (by omega)
  have e10 : ((secN d).map byteV).length = 4096 := by rw [List.length_map, secN_len hm]
  have e11 := secN_len hm
  rw [e10] at ow
  refine ⟨true, some ⟨b7, 0, none⟩, 4096, secN d, by rw [e11]; rfl, hr, rfl, by rw [e11]; exact ow, (x06.trans (x7.trans x8)).offNew f9 (by omega)⟩

end Go.Proofs.Ythagjflkdoafmaa.Hc
