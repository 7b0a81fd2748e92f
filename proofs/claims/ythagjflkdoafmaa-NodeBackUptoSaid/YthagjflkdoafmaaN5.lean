import Derived.Test.YthagjflkdoafmaaN4
set_option linter.unusedVariables false
set_option linter.unusedSimpArgs false
namespace Go.Proofs.Ythagjflkdoafmaa.Hc
open Go Go.H Go.Proofs
set_option maxRecDepth 100000
set_option maxHeartbeats 4000000

theorem bytesN_spec {d : ND} {h : Heap} {cs : List Value} (ra : NRep h d cs) (hm : NMay d) : HCalls Try.prog 28 #[.agg cs.toArray] h fun e h' =>
    ∃ a c, e = .returned (.slice a (encN d).length c) ∧ Own h' h.size 5 1 a (encN d).length c ((encN d).map byteV) ∧ Ext h h' := by
  have ra0 := ra
  obtain ⟨a1, a2, a3, a4, a5, a6, ka, kc, va, vc, ia, ic, rfl, s1, s2, s3⟩ := ra
  have hmany := hm.1
  have hkids := hm.2.2.2
  have hkeys := hm.keys
  have hvals := hm.2.2.1
  have hkl : d.keys.length ≤ 12 ∧ d.kids.length ≤ 12 := by
    unfold Many at hmany
    rcases hmany with ⟨h0, h5, h6⟩ | ⟨h5, h6, h7, h8⟩
    · rw [h0]; simp; omega
    · omega
  refine c28 (by simp) ?_
  (conv => whnf)
  refine new_var (e := 25) [.slice ka d.keys.length kc, .slice va d.vals.length vc, .slice ia d.kids.length ic] rfl ?_
  intro h1 bx ox x1 z1 hbx
  by_cases hz : d.kids = []
  · have q0 : ((d.kids.length : Int) == 0) = true := by rw [hz]; rfl
    have hvk : d.vals.length = d.keys.length := by
      unfold Many at hmany; rcases hmany with ⟨_, _, h⟩ | ⟨h5, _⟩
      · exact h
      · rw [hz] at h5; simp at h5
    have hlb := leb_two d.keys.length (by omega)
    ((conv=>whnf);repeat((first|(with_reducible first|refine Z1 ?_|refine Z2 ?_|refine Z3 ?_|refine Z4 ?_|refine Z5 ?_|refine Z9 (by assumption) rfl ?_|refine ZA (by assumption) rfl ?_|refine ZB (by assumption) rfl ?_|refine Z6 ?_|refine Z7 ?_|refine Z8 ?_)|(with_reducible refine ZM ?_ ?_;(focus rfl)));(conv=>whnf)))
    refine new_own (e := 5) 1 1 [byteV 0] rfl rfl ?_
    intro h2 b2 o2 x2 z2 hb2
    have ox2 := ox.ext x2
    ((conv=>whnf);repeat((first|(with_reducible first|refine Z1 ?_|refine Z2 ?_|refine Z3 ?_|refine Z4 ?_|refine Z5 ?_|refine Z9 (by assumption) rfl ?_|refine ZA (by assumption) rfl ?_|refine ZB (by assumption) rfl ?_|refine Z6 ?_|refine Z7 ?_|refine Z8 ?_)|(with_reducible refine ZM ?_ ?_;(focus rfl)));(conv=>whnf)))
    refine HCall.mk ((rnum_spec d.keys.length (by omega) h2).mono ?_)
    rintro e h3 ⟨a3', c3, rfl, o3, x3⟩
    ((conv=>whnf);repeat((first|(with_reducible first|refine Z1 ?_|refine Z2 ?_|refine Z3 ?_|refine Z4 ?_|refine Z5 ?_|refine Z9 (by assumption) rfl ?_|refine ZA (by assumption) rfl ?_|refine ZB (by assumption) rfl ?_|refine Z6 ?_|refine Z7 ?_|refine Z8 ?_)|(with_reducible refine ZM ?_ ?_;(focus rfl)));(conv=>whnf)))
    refine o3.sl.cells ?_
    refine Own.bytes (l0 := [0]) (more := leb d.keys.length) (o2.ext x3) (by have := x2.1; have := x3.1; omega) (by simp; omega) ?_
    intro h4 a4' c4 o4 g4
    have x14 : Ext h1 h4 := (x2.trans x3).keep (g4.kept (by have := x2.1; have := x3.1; omega) fun p ep => (o2.lt p ep).1)
    have ox4 := ox.ext x14
    ((conv=>whnf);repeat((first|(with_reducible first|refine Z1 ?_|refine Z2 ?_|refine Z3 ?_|refine Z4 ?_|refine Z5 ?_|refine Z9 (by assumption) rfl ?_|refine ZA (by assumption) rfl ?_|refine ZB (by assumption) rfl ?_|refine Z6 ?_|refine Z7 ?_|refine Z8 ?_)|(with_reducible refine ZM ?_ ?_;(focus rfl)));(conv=>whnf)))
    refine loop_rule [3, 25] (fun vs h' => ∃ (i : Nat) (a : Option Addr) (c : Nat) (bs : List UInt8), vs = [.slice a bs.length c, .int .i64 i] ∧ i ≤ d.keys.length ∧ bs = [0] ++ leb d.keys.length ++ encP (d.keys.take i) (d.vals.take i) ∧ Own h' h1.size 5 1 a bs.length c (bs.map byteV) ∧ Ext h1 h')
      (fun vs _ => match vs with | [_, .int _ i] => d.keys.length - i.toNat | _ => 0) rfl ?_ ?_
    · exact ⟨0, a4', c4, _, rfl, by omega, by simp [encP], o4, x14⟩
    · intro u hS v3 v25
      rintro ⟨i, aS, cS, bs, e, hi, hbs, oS, xS⟩
      cases e
      have oxS := ox.ext xS
      ((conv=>whnf);repeat((first|(with_reducible first|refine Z1 ?_|refine Z2 ?_|refine Z3 ?_|refine Z4 ?_|refine Z5 ?_|refine Z9 (by assumption) rfl ?_|refine ZA (by assumption) rfl ?_|refine ZB (by assumption) rfl ?_|refine Z6 ?_|refine Z7 ?_|refine Z8 ?_)|(with_reducible refine ZM ?_ ?_;(focus rfl)));(conv=>whnf)))
      refine HIf.mk (fun hlt => ?_) (fun hlt => ?_)
      · have hi1 : i < d.keys.length := by have := of_decide_eq_true hlt; omega
        have hi2 : i < d.vals.length := by omega
        have hmu : d.keys.length - ((i : Int) + 1).toNat < d.keys.length - ((i : Int)).toNat := by omega
        have hki := hkeys _ (List.getElem_mem hi1)
        have hvi := hvals _ (List.getElem_mem hi2)
        have htk : d.keys.take (i + 1) = d.keys.take i ++ [d.keys[i]] := by rw [List.take_add_one, List.getElem?_eq_getElem hi1]; rfl
        have htv : d.vals.take (i + 1) = d.vals.take i ++ [d.vals[i]] := by rw [List.take_add_one, List.getElem?_eq_getElem hi2]; rfl
        have hl1 := encP_len (d.keys.take i) (d.vals.take i) (fun k hk => hkeys k (List.mem_of_mem_take hk)) (fun k hk => hvals k (List.mem_of_mem_take hk))
        have hl2 : bs.length ≤ 62 + 1284 * 12 := by
          rw [hbs]; simp only [List.length_append, List.length_singleton]; rw [List.length_take] at hl1; omega
        have hl3 := ntxt_len d.keys[i] (by omega)
        have hl4 := ntxt_len d.vals[i] (by omega)
        have fin : ∀ (hD : Heap) (aD : Option Addr) (cD : Nat), Own hD h1.size 5 1 aD (bs ++ (ntxt d.keys[i] ++ ntxt d.vals[i])).length cD ((bs ++ (ntxt d.keys[i] ++ ntxt d.vals[i])).map byteV) → Ext h1 hD →
            (∃ (j : Nat) (a : Option Addr) (c : Nat) (bs' : List UInt8), [Value.slice aD ((bs ++ ntxt d.keys[i]) ++ ntxt d.vals[i]).length cD, Value.int .i64 ((i : Int) + 1)] = [.slice a bs'.length c, .int .i64 j] ∧ j ≤ d.keys.length ∧ bs' = [0] ++ leb d.keys.length ++ encP (d.keys.take j) (d.vals.take j) ∧ Own hD h1.size 5 1 a bs'.length c (bs'.map byteV) ∧ Ext h1 hD) ∧
              d.keys.length - ((i : Int) + 1).toNat < d.keys.length - ((i : Int)).toNat := by
          intro hD aD cD oD xD
          refine ⟨⟨i + 1, aD, cD, bs ++ (ntxt d.keys[i] ++ ntxt d.vals[i]), by rw [List.append_assoc]; rfl, by omega, ?_, oD, xD⟩, hmu⟩
          rw [hbs, htk, htv, encP_snoc _ _ _ _ (by simp; omega)]
          simp
        ((conv=>whnf);repeat((first|(with_reducible first|refine Z1 ?_|refine Z2 ?_|refine Z3 ?_|refine Z4 ?_|refine Z5 ?_|refine Z9 (by assumption) rfl ?_|refine ZA (by assumption) rfl ?_|refine ZB (by assumption) rfl ?_|refine Z6 ?_|refine Z7 ?_|refine Z8 ?_)|(with_reducible refine ZM ?_ ?_;(focus rfl)));(conv=>whnf)))
        refine HIdx.mk i rfl hi1 ?_
        refine sl_some s1 hi1 fun p ep => ?_
        ((conv=>whnf);repeat((first|(with_reducible first|refine Z1 ?_|refine Z2 ?_|refine Z3 ?_|refine Z4 ?_|refine Z5 ?_|refine Z9 (by assumption) rfl ?_|refine ZA (by assumption) rfl ?_|refine ZB (by assumption) rfl ?_|refine Z6 ?_|refine Z7 ?_|refine Z8 ?_)|(with_reducible refine ZM ?_ ?_;(focus rfl)));(conv=>whnf)))
        refine (s1.ext (x1.trans xS)).load ep (by simpa using hi1) ?_
        rw [List.getElem_map]
        ((conv=>whnf);repeat((first|(with_reducible first|refine Z1 ?_|refine Z2 ?_|refine Z3 ?_|refine Z4 ?_|refine Z5 ?_|refine Z9 (by assumption) rfl ?_|refine ZA (by assumption) rfl ?_|refine ZB (by assumption) rfl ?_|refine Z6 ?_|refine Z7 ?_|refine Z8 ?_)|(with_reducible refine ZM ?_ ?_;(focus rfl)));(conv=>whnf)))
        refine HAlt.mk ?_ ?_
        · ((conv=>whnf);repeat((first|(with_reducible first|refine Z1 ?_|refine Z2 ?_|refine Z3 ?_|refine Z4 ?_|refine Z5 ?_|refine Z9 (by assumption) rfl ?_|refine ZA (by assumption) rfl ?_|refine ZB (by assumption) rfl ?_|refine Z6 ?_|refine Z7 ?_|refine Z8 ?_)|(with_reducible refine ZM ?_ ?_;(focus rfl)));(conv=>whnf)))
          refine HCall.mk ((rntext_spec d.keys[i] (by omega) hS).mono ?_)
          rintro e hA ⟨aA, cA, rfl, oA, xA⟩
          have oxA := oxS.ext xA
          ((conv=>whnf);repeat((first|(with_reducible first|refine Z1 ?_|refine Z2 ?_|refine Z3 ?_|refine Z4 ?_|refine Z5 ?_|refine Z9 (by assumption) rfl ?_|refine ZA (by assumption) rfl ?_|refine ZB (by assumption) rfl ?_|refine Z6 ?_|refine Z7 ?_|refine Z8 ?_)|(with_reducible refine ZM ?_ ?_;(focus rfl)));(conv=>whnf)))
          refine HAlt.mk ?_ ?_
          · ((conv=>whnf);repeat((first|(with_reducible first|refine Z1 ?_|refine Z2 ?_|refine Z3 ?_|refine Z4 ?_|refine Z5 ?_|refine Z9 (by assumption) rfl ?_|refine ZA (by assumption) rfl ?_|refine ZB (by assumption) rfl ?_|refine Z6 ?_|refine Z7 ?_|refine Z8 ?_)|(with_reducible refine ZM ?_ ?_;(focus rfl)));(conv=>whnf)))
            refine oA.sl.cells ?_
            refine Own.bytes (more := ntxt d.keys[i]) (oS.ext xA) (by have := xA.1; have := xS.1; omega) (by omega) ?_
            intro hB aB cB oB gB
            have xB : Ext h1 hB := (xS.trans xA).keep (gB.kept (by have := xS.1; have := xA.1; omega) fun p ep => (oS.lt p ep).1)
            have oxB := ox.ext xB
            ((conv=>whnf);repeat((first|(with_reducible first|refine Z1 ?_|refine Z2 ?_|refine Z3 ?_|refine Z4 ?_|refine Z5 ?_|refine Z9 (by assumption) rfl ?_|refine ZA (by assumption) rfl ?_|refine ZB (by assumption) rfl ?_|refine Z6 ?_|refine Z7 ?_|refine Z8 ?_)|(with_reducible refine ZM ?_ ?_;(focus rfl)));(conv=>whnf)))
            refine HIdx.mk i rfl hi2 ?_
            refine sl_some s2 hi2 fun pv epv => ?_
            ((conv=>whnf);repeat((first|(with_reducible first|refine Z1 ?_|refine Z2 ?_|refine Z3 ?_|refine Z4 ?_|refine Z5 ?_|refine Z9 (by assumption) rfl ?_|refine ZA (by assumption) rfl ?_|refine ZB (by assumption) rfl ?_|refine Z6 ?_|refine Z7 ?_|refine Z8 ?_)|(with_reducible refine ZM ?_ ?_;(focus rfl)));(conv=>whnf)))
            refine (s2.ext (x1.trans xB)).load epv (by simpa using hi2) ?_
            rw [List.getElem_map]
            ((conv=>whnf);repeat((first|(with_reducible first|refine Z1 ?_|refine Z2 ?_|refine Z3 ?_|refine Z4 ?_|refine Z5 ?_|refine Z9 (by assumption) rfl ?_|refine ZA (by assumption) rfl ?_|refine ZB (by assumption) rfl ?_|refine Z6 ?_|refine Z7 ?_|refine Z8 ?_)|(with_reducible refine ZM ?_ ?_;(focus rfl)));(conv=>whnf)))
            refine HCall.mk ((rntext_spec d.vals[i] (by omega) hB).mono ?_)
            rintro e hC ⟨aC, cC, rfl, oC, xC⟩
            ((conv=>whnf);repeat((first|(with_reducible first|refine Z1 ?_|refine Z2 ?_|refine Z3 ?_|refine Z4 ?_|refine Z5 ?_|refine Z9 (by assumption) rfl ?_|refine ZA (by assumption) rfl ?_|refine ZB (by assumption) rfl ?_|refine Z6 ?_|refine Z7 ?_|refine Z8 ?_)|(with_reducible refine ZM ?_ ?_;(focus rfl)));(conv=>whnf)))
            refine oC.sl.cells ?_
            refine Own.bytes (more := ntxt d.vals[i]) (oB.ext xC) (by have := xC.1; have := xB.1; omega) (by rw [List.length_append]; omega) ?_
            intro hD aD cD oD gD
            ((conv=>whnf);repeat((first|(with_reducible first|refine Z1 ?_|refine Z2 ?_|refine Z3 ?_|refine Z4 ?_|refine Z5 ?_|refine Z9 (by assumption) rfl ?_|refine ZA (by assumption) rfl ?_|refine ZB (by assumption) rfl ?_|refine Z6 ?_|refine Z7 ?_|refine Z8 ?_)|(with_reducible refine ZM ?_ ?_;(focus rfl)));(conv=>whnf)))
            exact fin hD aD cD (by rw [List.append_assoc] at oD; exact oD) ((xB.trans xC).keep (gD.kept (by have := xB.1; have := xC.1; omega) fun p ep => (oB.lt p ep).1))
          · ((conv=>whnf);repeat((first|(with_reducible first|refine Z1 ?_|refine Z2 ?_|refine Z3 ?_|refine Z4 ?_|refine Z5 ?_|refine Z9 (by assumption) rfl ?_|refine ZA (by assumption) rfl ?_|refine ZB (by assumption) rfl ?_|refine Z6 ?_|refine Z7 ?_|refine Z8 ?_)|(with_reducible refine ZM ?_ ?_;(focus rfl)));(conv=>whnf)))
            refine HIdx.mk i rfl hi2 ?_
            refine sl_some s2 hi2 fun pv epv => ?_
            ((conv=>whnf);repeat((first|(with_reducible first|refine Z1 ?_|refine Z2 ?_|refine Z3 ?_|refine Z4 ?_|refine Z5 ?_|refine Z9 (by assumption) rfl ?_|refine ZA (by assumption) rfl ?_|refine ZB (by assumption) rfl ?_|refine Z6 ?_|refine Z7 ?_|refine Z8 ?_)|(with_reducible refine ZM ?_ ?_;(focus rfl)));(conv=>whnf)))
            refine HAlt.mk ?_ ?_
            · ((conv=>whnf);repeat((first|(with_reducible first|refine Z1 ?_|refine Z2 ?_|refine Z3 ?_|refine Z4 ?_|refine Z5 ?_|refine Z9 (by assumption) rfl ?_|refine ZA (by assumption) rfl ?_|refine ZB (by assumption) rfl ?_|refine Z6 ?_|refine Z7 ?_|refine Z8 ?_)|(with_reducible refine ZM ?_ ?_;(focus rfl)));(conv=>whnf)))
              refine oA.sl.cells ?_
              refine Own.bytes (more := ntxt d.keys[i]) (oS.ext xA) (by have := xA.1; have := xS.1; omega) (by omega) ?_
              intro hB aB cB oB gB
              have xB : Ext h1 hB := (xS.trans xA).keep (gB.kept (by have := xS.1; have := xA.1; omega) fun p ep => (oS.lt p ep).1)
              have oxB := ox.ext xB
              ((conv=>whnf);repeat((first|(with_reducible first|refine Z1 ?_|refine Z2 ?_|refine Z3 ?_|refine Z4 ?_|refine Z5 ?_|refine Z9 (by assumption) rfl ?_|refine ZA (by assumption) rfl ?_|refine ZB (by assumption) rfl ?_|refine Z6 ?_|refine Z7 ?_|refine Z8 ?_)|(with_reducible refine ZM ?_ ?_;(focus rfl)));(conv=>whnf)))
              refine (s2.ext (x1.trans xB)).load epv (by simpa using hi2) ?_
              rw [List.getElem_map]
              ((conv=>whnf);repeat((first|(with_reducible first|refine Z1 ?_|refine Z2 ?_|refine Z3 ?_|refine Z4 ?_|refine Z5 ?_|refine Z9 (by assumption) rfl ?_|refine ZA (by assumption) rfl ?_|refine ZB (by assumption) rfl ?_|refine Z6 ?_|refine Z7 ?_|refine Z8 ?_)|(with_reducible refine ZM ?_ ?_;(focus rfl)));(conv=>whnf)))
              refine HCall.mk ((rntext_spec d.vals[i] (by omega) hB).mono ?_)
              rintro e hC ⟨aC, cC, rfl, oC, xC⟩
              ((conv=>whnf);repeat((first|(with_reducible first|refine Z1 ?_|refine Z2 ?_|refine Z3 ?_|refine Z4 ?_|refine Z5 ?_|refine Z9 (by assumption) rfl ?_|refine ZA (by assumption) rfl ?_|refine ZB (by assumption) rfl ?_|refine Z6 ?_|refine Z7 ?_|refine Z8 ?_)|(with_reducible refine ZM ?_ ?_;(focus rfl)));(conv=>whnf)))
              refine oC.sl.cells ?_
              refine Own.bytes (more := ntxt d.vals[i]) (oB.ext xC) (by have := xC.1; have := xB.1; omega) (by rw [List.length_append]; omega) ?_
              intro hD aD cD oD gD
              ((conv=>whnf);repeat((first|(with_reducible first|refine Z1 ?_|refine Z2 ?_|refine Z3 ?_|refine Z4 ?_|refine Z5 ?_|refine Z9 (by assumption) rfl ?_|refine ZA (by assumption) rfl ?_|refine ZB (by assumption) rfl ?_|refine Z6 ?_|refine Z7 ?_|refine Z8 ?_)|(with_reducible refine ZM ?_ ?_;(focus rfl)));(conv=>whnf)))
              exact fin hD aD cD (by rw [List.append_assoc] at oD; exact oD) ((xB.trans xC).keep (gD.kept (by have := xB.1; have := xC.1; omega) fun p ep => (oB.lt p ep).1))
            · ((conv=>whnf);repeat((first|(with_reducible first|refine Z1 ?_|refine Z2 ?_|refine Z3 ?_|refine Z4 ?_|refine Z5 ?_|refine Z9 (by assumption) rfl ?_|refine ZA (by assumption) rfl ?_|refine ZB (by assumption) rfl ?_|refine Z6 ?_|refine Z7 ?_|refine Z8 ?_)|(with_reducible refine ZM ?_ ?_;(focus rfl)));(conv=>whnf)))
              refine (s2.ext (x1.trans (xS.trans xA))).load epv (by simpa using hi2) ?_
              rw [List.getElem_map]
              ((conv=>whnf);repeat((first|(with_reducible first|refine Z1 ?_|refine Z2 ?_|refine Z3 ?_|refine Z4 ?_|refine Z5 ?_|refine Z9 (by assumption) rfl ?_|refine ZA (by assumption) rfl ?_|refine ZB (by assumption) rfl ?_|refine Z6 ?_|refine Z7 ?_|refine Z8 ?_)|(with_reducible refine ZM ?_ ?_;(focus rfl)));(conv=>whnf)))
              refine oA.sl.cells ?_
              refine Own.bytes (more := ntxt d.keys[i]) (oS.ext xA) (by have := xA.1; have := xS.1; omega) (by omega) ?_
              intro hB aB cB oB gB
              have xB : Ext h1 hB := (xS.trans xA).keep (gB.kept (by have := xS.1; have := xA.1; omega) fun p ep => (oS.lt p ep).1)
              have oxB := ox.ext xB
              ((conv=>whnf);repeat((first|(with_reducible first|refine Z1 ?_|refine Z2 ?_|refine Z3 ?_|refine Z4 ?_|refine Z5 ?_|refine Z9 (by assumption) rfl ?_|refine ZA (by assumption) rfl ?_|refine ZB (by assumption) rfl ?_|refine Z6 ?_|refine Z7 ?_|refine Z8 ?_)|(with_reducible refine ZM ?_ ?_;(focus rfl)));(conv=>whnf)))
              refine HCall.mk ((rntext_spec d.vals[i] (by omega) hB).mono ?_)
              rintro e hC ⟨aC, cC, rfl, oC, xC⟩
              ((conv=>whnf);repeat((first|(with_reducible first|refine Z1 ?_|refine Z2 ?_|refine Z3 ?_|refine Z4 ?_|refine Z5 ?_|refine Z9 (by assumption) rfl ?_|refine ZA (by assumption) rfl ?_|refine ZB (by assumption) rfl ?_|refine Z6 ?_|refine Z7 ?_|refine Z8 ?_)|(with_reducible refine ZM ?_ ?_;(focus rfl)));(conv=>whnf)))
              refine oC.sl.cells ?_
              refine Own.bytes (more := ntxt d.vals[i]) (oB.ext xC) (by have := xC.1; have := xB.1; omega) (by rw [List.length_append]; omega) ?_
              intro hD aD cD oD gD
              ((conv=>whnf);repeat((first|(with_reducible first|refine Z1 ?_|refine Z2 ?_|refine Z3 ?_|refine Z4 ?_|refine Z5 ?_|refine Z9 (by assumption) rfl ?_|refine ZA (by assumption) rfl ?_|refine ZB (by assumption) rfl ?_|refine Z6 ?_|refine Z7 ?_|refine Z8 ?_)|(with_reducible refine ZM ?_ ?_;(focus rfl)));(conv=>whnf)))
              exact fin hD aD cD (by rw [List.append_assoc] at oD; exact oD) ((xB.trans xC).keep (gD.kept (by have := xB.1; have := xC.1; omega) fun p ep => (oB.lt p ep).1))
        · ((conv=>whnf);repeat((first|(with_reducible first|refine Z1 ?_|refine Z2 ?_|refine Z3 ?_|refine Z4 ?_|refine Z5 ?_|refine Z9 (by assumption) rfl ?_|refine ZA (by assumption) rfl ?_|refine ZB (by assumption) rfl ?_|refine Z6 ?_|refine Z7 ?_|refine Z8 ?_)|(with_reducible refine ZM ?_ ?_;(focus rfl)));(conv=>whnf)))
          refine HIdx.mk i rfl hi2 ?_
          refine sl_some s2 hi2 fun pv epv => ?_
          ((conv=>whnf);repeat((first|(with_reducible first|refine Z1 ?_|refine Z2 ?_|refine Z3 ?_|refine Z4 ?_|refine Z5 ?_|refine Z9 (by assumption) rfl ?_|refine ZA (by assumption) rfl ?_|refine ZB (by assumption) rfl ?_|refine Z6 ?_|refine Z7 ?_|refine Z8 ?_)|(with_reducible refine ZM ?_ ?_;(focus rfl)));(conv=>whnf)))
          refine HAlt.mk ?_ ?_
          · ((conv=>whnf);repeat((first|(with_reducible first|refine Z1 ?_|refine Z2 ?_|refine Z3 ?_|refine Z4 ?_|refine Z5 ?_|refine Z9 (by assumption) rfl ?_|refine ZA (by assumption) rfl ?_|refine ZB (by assumption) rfl ?_|refine Z6 ?_|refine Z7 ?_|refine Z8 ?_)|(with_reducible refine ZM ?_ ?_;(focus rfl)));(conv=>whnf)))
            refine HCall.mk ((rntext_spec d.keys[i] (by omega) hS).mono ?_)
            rintro e hA ⟨aA, cA, rfl, oA, xA⟩
            have oxA := oxS.ext xA
            ((conv=>whnf);repeat((first|(with_reducible first|refine Z1 ?_|refine Z2 ?_|refine Z3 ?_|refine Z4 ?_|refine Z5 ?_|refine Z9 (by assumption) rfl ?_|refine ZA (by assumption) rfl ?_|refine ZB (by assumption) rfl ?_|refine Z6 ?_|refine Z7 ?_|refine Z8 ?_)|(with_reducible refine ZM ?_ ?_;(focus rfl)));(conv=>whnf)))
            refine HAlt.mk ?_ ?_
            · ((conv=>whnf);repeat((first|(with_reducible first|refine Z1 ?_|refine Z2 ?_|refine Z3 ?_|refine Z4 ?_|refine Z5 ?_|refine Z9 (by assumption) rfl ?_|refine ZA (by assumption) rfl ?_|refine ZB (by assumption) rfl ?_|refine Z6 ?_|refine Z7 ?_|refine Z8 ?_)|(with_reducible refine ZM ?_ ?_;(focus rfl)));(conv=>whnf)))
              refine oA.sl.cells ?_
              refine Own.bytes (more := ntxt d.keys[i]) (oS.ext xA) (by have := xA.1; have := xS.1; omega) (by omega) ?_
              intro hB aB cB oB gB
              have xB : Ext h1 hB := (xS.trans xA).keep (gB.kept (by have := xS.1; have := xA.1; omega) fun p ep => (oS.lt p ep).1)
              have oxB := ox.ext xB
              ((conv=>whnf);repeat((first|(with_reducible first|refine Z1 ?_|refine Z2 ?_|refine Z3 ?_|refine Z4 ?_|refine Z5 ?_|refine Z9 (by assumption) rfl ?_|refine ZA (by assumption) rfl ?_|refine ZB (by assumption) rfl ?_|refine Z6 ?_|refine Z7 ?_|refine Z8 ?_)|(with_reducible refine ZM ?_ ?_;(focus rfl)));(conv=>whnf)))
              refine (s2.ext (x1.trans xB)).load epv (by simpa using hi2) ?_
              rw [List.getElem_map]
              ((conv=>whnf);repeat((first|(with_reducible first|refine Z1 ?_|refine Z2 ?_|refine Z3 ?_|refine Z4 ?_|refine Z5 ?_|refine Z9 (by assumption) rfl ?_|refine ZA (by assumption) rfl ?_|refine ZB (by assumption) rfl ?_|refine Z6 ?_|refine Z7 ?_|refine Z8 ?_)|(with_reducible refine ZM ?_ ?_;(focus rfl)));(conv=>whnf)))
              refine HCall.mk ((rntext_spec d.vals[i] (by omega) hB).mono ?_)
              rintro e hC ⟨aC, cC, rfl, oC, xC⟩
              ((conv=>whnf);repeat((first|(with_reducible first|refine Z1 ?_|refine Z2 ?_|refine Z3 ?_|refine Z4 ?_|refine Z5 ?_|refine Z9 (by assumption) rfl ?_|refine ZA (by assumption) rfl ?_|refine ZB (by assumption) rfl ?_|refine Z6 ?_|refine Z7 ?_|refine Z8 ?_)|(with_reducible refine ZM ?_ ?_;(focus rfl)));(conv=>whnf)))
              refine oC.sl.cells ?_
              refine Own.bytes (more := ntxt d.vals[i]) (oB.ext xC) (by have := xC.1; have := xB.1; omega) (by rw [List.length_append]; omega) ?_
              intro hD aD cD oD gD
              ((conv=>whnf);repeat((first|(with_reducible first|refine Z1 ?_|refine Z2 ?_|refine Z3 ?_|refine Z4 ?_|refine Z5 ?_|refine Z9 (by assumption) rfl ?_|refine ZA (by assumption) rfl ?_|refine ZB (by assumption) rfl ?_|refine Z6 ?_|refine Z7 ?_|refine Z8 ?_)|(with_reducible refine ZM ?_ ?_;(focus rfl)));(conv=>whnf)))
              exact fin hD aD cD (by rw [List.append_assoc] at oD; exact oD) ((xB.trans xC).keep (gD.kept (by have := xB.1; have := xC.1; omega) fun p ep => (oB.lt p ep).1))
            · ((conv=>whnf);repeat((first|(with_reducible first|refine Z1 ?_|refine Z2 ?_|refine Z3 ?_|refine Z4 ?_|refine Z5 ?_|refine Z9 (by assumption) rfl ?_|refine ZA (by assumption) rfl ?_|refine ZB (by assumption) rfl ?_|refine Z6 ?_|refine Z7 ?_|refine Z8 ?_)|(with_reducible refine ZM ?_ ?_;(focus rfl)));(conv=>whnf)))
              refine (s2.ext (x1.trans (xS.trans xA))).load epv (by simpa using hi2) ?_
              rw [List.getElem_map]
              ((conv=>whnf);repeat((first|(with_reducible first|refine Z1 ?_|refine Z2 ?_|refine Z3 ?_|refine Z4 ?_|refine Z5 ?_|refine Z9 (by assumption) rfl ?_|refine ZA (by assumption) rfl ?_|refine ZB (by assumption) rfl ?_|refine Z6 ?_|refine Z7 ?_|refine Z8 ?_)|(with_reducible refine ZM ?_ ?_;(focus rfl)));(conv=>whnf)))
              refine oA.sl.cells ?_
              refine Own.bytes (more := ntxt d.keys[i]) (oS.ext xA) (by have := xA.1; have := xS.1; omega) (by omega) ?_
              intro hB aB cB oB gB
              have xB : Ext h1 hB := (xS.trans xA).keep (gB.kept (by have := xS.1; have := xA.1; omega) fun p ep => (oS.lt p ep).1)
              have oxB := ox.ext xB
              ((conv=>whnf);repeat((first|(with_reducible first|refine Z1 ?_|refine Z2 ?_|refine Z3 ?_|refine Z4 ?_|refine Z5 ?_|refine Z9 (by assumption) rfl ?_|refine ZA (by assumption) rfl ?_|refine ZB (by assumption) rfl ?_|refine Z6 ?_|refine Z7 ?_|refine Z8 ?_)|(with_reducible refine ZM ?_ ?_;(focus rfl)));(conv=>whnf)))
              refine HCall.mk ((rntext_spec d.vals[i] (by omega) hB).mono ?_)
              rintro e hC ⟨aC, cC, rfl, oC, xC⟩
              ((conv=>whnf);repeat((first|(with_reducible first|refine Z1 ?_|refine Z2 ?_|refine Z3 ?_|refine Z4 ?_|refine Z5 ?_|refine Z9 (by assumption) rfl ?_|refine ZA (by assumption) rfl ?_|refine ZB (by assumption) rfl ?_|refine Z6 ?_|refine Z7 ?_|refine Z8 ?_)|(with_reducible refine ZM ?_ ?_;(focus rfl)));(conv=>whnf)))
              refine oC.sl.cells ?_
              refine Own.bytes (more := ntxt d.vals[i]) (oB.ext xC) (by have := xC.1; have := xB.1; omega) (by rw [List.length_append]; omega) ?_
              intro hD aD cD oD gD
              ((conv=>whnf);repeat((first|(with_reducible first|refine Z1 ?_|refine Z2 ?_|refine Z3 ?_|refine Z4 ?_|refine Z5 ?_|refine Z9 (by assumption) rfl ?_|refine ZA (by assumption) rfl ?_|refine ZB (by assumption) rfl ?_|refine Z6 ?_|refine Z7 ?_|refine Z8 ?_)|(with_reducible refine ZM ?_ ?_;(focus rfl)));(conv=>whnf)))
              exact fin hD aD cD (by rw [List.append_assoc] at oD; exact oD) ((xB.trans xC).keep (gD.kept (by have := xB.1; have := xC.1; omega) fun p ep => (oB.lt p ep).1))
          · ((conv=>whnf);repeat((first|(with_reducible first|refine Z1 ?_|refine Z2 ?_|refine Z3 ?_|refine Z4 ?_|refine Z5 ?_|refine Z9 (by assumption) rfl ?_|refine ZA (by assumption) rfl ?_|refine ZB (by assumption) rfl ?_|refine Z6 ?_|refine Z7 ?_|refine Z8 ?_)|(with_reducible refine ZM ?_ ?_;(focus rfl)));(conv=>whnf)))
            refine (s2.ext (x1.trans xS)).load epv (by simpa using hi2) ?_
            rw [List.getElem_map]
            ((conv=>whnf);repeat((first|(with_reducible first|refine Z1 ?_|refine Z2 ?_|refine Z3 ?_|refine Z4 ?_|refine Z5 ?_|refine Z9 (by assumption) rfl ?_|refine ZA (by assumption) rfl ?_|refine ZB (by assumption) rfl ?_|refine Z6 ?_|refine Z7 ?_|refine Z8 ?_)|(with_reducible refine ZM ?_ ?_;(focus rfl)));(conv=>whnf)))
            refine HCall.mk ((rntext_spec d.keys[i] (by omega) hS).mono ?_)
            rintro e hA ⟨aA, cA, rfl, oA, xA⟩
            have oxA := oxS.ext xA
            ((conv=>whnf);repeat((first|(with_reducible first|refine Z1 ?_|refine Z2 ?_|refine Z3 ?_|refine Z4 ?_|refine Z5 ?_|refine Z9 (by assumption) rfl ?_|refine ZA (by assumption) rfl ?_|refine ZB (by assumption) rfl ?_|refine Z6 ?_|refine Z7 ?_|refine Z8 ?_)|(with_reducible refine ZM ?_ ?_;(focus rfl)));(conv=>whnf)))
            refine oA.sl.cells ?_
            refine Own.bytes (more := ntxt d.keys[i]) (oS.ext xA) (by have := xA.1; have := xS.1; omega) (by omega) ?_
            intro hB aB cB oB gB
            have xB : Ext h1 hB := (xS.trans xA).keep (gB.kept (by have := xS.1; have := xA.1; omega) fun p ep => (oS.lt p ep).1)
            have oxB := ox.ext xB
            ((conv=>whnf);repeat((first|(with_reducible first|refine Z1 ?_|refine Z2 ?_|refine Z3 ?_|refine Z4 ?_|refine Z5 ?_|refine Z9 (by assumption) rfl ?_|refine ZA (by assumption) rfl ?_|refine ZB (by assumption) rfl ?_|refine Z6 ?_|refine Z7 ?_|refine Z8 ?_)|(with_reducible refine ZM ?_ ?_;(focus rfl)));(conv=>whnf)))
            refine HCall.mk ((rntext_spec d.vals[i] (by omega) hB).mono ?_)
            rintro e hC ⟨aC, cC, rfl, oC, xC⟩
            ((conv=>whnf);repeat((first|(with_reducible first|refine Z1 ?_|refine Z2 ?_|refine Z3 ?_|refine Z4 ?_|refine Z5 ?_|refine Z9 (by assumption) rfl ?_|refine ZA (by assumption) rfl ?_|refine ZB (by assumption) rfl ?_|refine Z6 ?_|refine Z7 ?_|refine Z8 ?_)|(with_reducible refine ZM ?_ ?_;(focus rfl)));(conv=>whnf)))
            refine oC.sl.cells ?_
            refine Own.bytes (more := ntxt d.vals[i]) (oB.ext xC) (by have := xC.1; have := xB.1; omega) (by rw [List.length_append]; omega) ?_
            intro hD aD cD oD gD
            ((conv=>whnf);repeat((first|(with_reducible first|refine Z1 ?_|refine Z2 ?_|refine Z3 ?_|refine Z4 ?_|refine Z5 ?_|refine Z9 (by assumption) rfl ?_|refine ZA (by assumption) rfl ?_|refine ZB (by assumption) rfl ?_|refine Z6 ?_|refine Z7 ?_|refine Z8 ?_)|(with_reducible refine ZM ?_ ?_;(focus rfl)));(conv=>whnf)))
            exact fin hD aD cD (by rw [List.append_assoc] at oD; exact oD) ((xB.trans xC).keep (gD.kept (by have := xB.1; have := xC.1; omega) fun p ep => (oB.lt p ep).1))
      · have hge := of_decide_eq_false hlt
        obtain rfl : i = d.keys.length := by omega
        have e1 : bs = encN d := by
          rw [hbs, List.take_length, ← hvk, List.take_length]
          unfold encN
          rw [if_pos hz, hvk]; simp
        subst e1
        ((conv=>whnf);repeat((first|(with_reducible first|refine Z1 ?_|refine Z2 ?_|refine Z3 ?_|refine Z4 ?_|refine Z5 ?_|refine Z9 (by assumption) rfl ?_|refine ZA (by assumption) rfl ?_|refine ZB (by assumption) rfl ?_|refine Z6 ?_|refine Z7 ?_|refine Z8 ?_)|(with_reducible refine ZM ?_ ?_;(focus rfl)));(conv=>whnf)))
        exact ⟨aS, cS, rfl, oS.lower x1.1, x1.trans xS⟩
  · have q0 : ((d.kids.length : Int) == 0) = false := by
      rw [beq_eq_false_iff_ne]
      intro e
      exact hz (List.length_eq_zero_iff.1 (by omega))
    have hlb := leb_two d.kids.length (by omega)
    have he1 := encI_len d.kids hkids
    have ht := encT_len d.keys hkeys
    ((conv=>whnf);repeat((first|(with_reducible first|refine Z1 ?_|refine Z2 ?_|refine Z3 ?_|refine Z4 ?_|refine Z5 ?_|refine Z9 (by assumption) rfl ?_|refine ZA (by assumption) rfl ?_|refine ZB (by assumption) rfl ?_|refine Z6 ?_|refine Z7 ?_|refine Z8 ?_)|(with_reducible refine ZM ?_ ?_;(focus rfl)));(conv=>whnf)))
    refine new_own (e := 5) 1 1 [byteV 1] rfl rfl ?_
    intro h2 b2 o2 x2 z2 hb2
    have ox2 := ox.ext x2
    ((conv=>whnf);repeat((first|(with_reducible first|refine Z1 ?_|refine Z2 ?_|refine Z3 ?_|refine Z4 ?_|refine Z5 ?_|refine Z9 (by assumption) rfl ?_|refine ZA (by assumption) rfl ?_|refine ZB (by assumption) rfl ?_|refine Z6 ?_|refine Z7 ?_|refine Z8 ?_)|(with_reducible refine ZM ?_ ?_;(focus rfl)));(conv=>whnf)))
    refine HCall.mk ((rnum_spec d.kids.length (by omega) h2).mono ?_)
    rintro e h3 ⟨a3', c3, rfl, o3, x3⟩
    ((conv=>whnf);repeat((first|(with_reducible first|refine Z1 ?_|refine Z2 ?_|refine Z3 ?_|refine Z4 ?_|refine Z5 ?_|refine Z9 (by assumption) rfl ?_|refine ZA (by assumption) rfl ?_|refine ZB (by assumption) rfl ?_|refine Z6 ?_|refine Z7 ?_|refine Z8 ?_)|(with_reducible refine ZM ?_ ?_;(focus rfl)));(conv=>whnf)))
    refine o3.sl.cells ?_
    refine Own.bytes (l0 := [1]) (more := leb d.kids.length) (o2.ext x3) (by have := x2.1; have := x3.1; omega) (by simp; omega) ?_
    intro h4 a4' c4 o4 g4
    have x14 : Ext h1 h4 := (x2.trans x3).keep (g4.kept (by have := x2.1; have := x3.1; omega) fun p ep => (o2.lt p ep).1)
    have ox4 := ox.ext x14
    generalize hb0 : [1] ++ leb d.kids.length = bs0 at o4 ⊢
    have hbl : bs0.length ≤ 3 := by subst hb0; simp; omega
    ((conv=>whnf);repeat((first|(with_reducible first|refine Z1 ?_|refine Z2 ?_|refine Z3 ?_|refine Z4 ?_|refine Z5 ?_|refine Z9 (by assumption) rfl ?_|refine ZA (by assumption) rfl ?_|refine ZB (by assumption) rfl ?_|refine Z6 ?_|refine Z7 ?_|refine Z8 ?_)|(with_reducible refine ZM ?_ ?_;(focus rfl)));(conv=>whnf)))
    refine loop_rule [6, 53] (fun vs h' => ∃ (i : Nat) (a : Option Addr) (c : Nat) (bs : List UInt8), vs = [.slice a bs.length c, .int .i64 i] ∧ i ≤ d.kids.length ∧ bs = bs0 ++ encI (d.kids.take i) ∧ Own h' h1.size 5 1 a bs.length c (bs.map byteV) ∧ Ext h1 h')
      (fun vs _ => match vs with | [_, .int _ i] => d.kids.length - i.toNat | _ => 0) rfl ?_ ?_
    · exact ⟨0, a4', c4, bs0, rfl, by omega, by simp [encI], o4, x14⟩
    intro u h5 v6 v53
    rintro ⟨i, a5, c5, bs, e, hi, hbs, o5, x5⟩
    cases e
    have ox5 := ox.ext x5
    ((conv=>whnf);repeat((first|(with_reducible first|refine Z1 ?_|refine Z2 ?_|refine Z3 ?_|refine Z4 ?_|refine Z5 ?_|refine Z9 (by assumption) rfl ?_|refine ZA (by assumption) rfl ?_|refine ZB (by assumption) rfl ?_|refine Z6 ?_|refine Z7 ?_|refine Z8 ?_)|(with_reducible refine ZM ?_ ?_;(focus rfl)));(conv=>whnf)))
    refine HIf.mk (fun hlt => ?_) (fun hlt => ?_)
    · have hi1 : i < d.kids.length := by have := of_decide_eq_true hlt; omega
      have hmu : d.kids.length - ((i : Int) + 1).toNat < d.kids.length - ((i : Int)).toNat := by omega
      have hki := hkids _ (List.getElem_mem hi1)
      have htk : d.kids.take (i + 1) = d.kids.take i ++ [d.kids[i]] := by rw [List.take_add_one, List.getElem?_eq_getElem hi1]; rfl
      have hl := encI_len (d.kids.take i) (fun k hk => hkids k (List.mem_of_mem_take hk))
      have hl2 : bs.length ≤ 3 + 60 := by rw [hbs, List.length_append]; rw [List.length_take] at hl; omega
      have hl3 := leb_five d.kids[i].toNat (by omega)
      ((conv=>whnf);repeat((first|(with_reducible first|refine Z1 ?_|refine Z2 ?_|refine Z3 ?_|refine Z4 ?_|refine Z5 ?_|refine Z9 (by assumption) rfl ?_|refine ZA (by assumption) rfl ?_|refine ZB (by assumption) rfl ?_|refine Z6 ?_|refine Z7 ?_|refine Z8 ?_)|(with_reducible refine ZM ?_ ?_;(focus rfl)));(conv=>whnf)))
      refine HIdx.mk i rfl hi1 ?_
      refine sl_some s3 hi1 fun p ep => ?_
      ((conv=>whnf);repeat((first|(with_reducible first|refine Z1 ?_|refine Z2 ?_|refine Z3 ?_|refine Z4 ?_|refine Z5 ?_|refine Z9 (by assumption) rfl ?_|refine ZA (by assumption) rfl ?_|refine ZB (by assumption) rfl ?_|refine Z6 ?_|refine Z7 ?_|refine Z8 ?_)|(with_reducible refine ZM ?_ ?_;(focus rfl)));(conv=>whnf)))
      refine (s3.ext (x1.trans x5)).load ep (by simpa using hi1) ?_
      rw [List.getElem_map]
      ((conv=>whnf);repeat((first|(with_reducible first|refine Z1 ?_|refine Z2 ?_|refine Z3 ?_|refine Z4 ?_|refine Z5 ?_|refine Z9 (by assumption) rfl ?_|refine ZA (by assumption) rfl ?_|refine ZB (by assumption) rfl ?_|refine Z6 ?_|refine Z7 ?_|refine Z8 ?_)|(with_reducible refine ZM ?_ ?_;(focus rfl)));(conv=>whnf)))
      refine HCall.to #[.int .u64 (d.kids[i].toNat : Nat)] (by show #[Value.int .u64 d.kids[i]] = _; rw [Int.toNat_of_nonneg (by omega)]) ((rnum_spec d.kids[i].toNat (by omega) h5).mono ?_)
      rintro e h6 ⟨a6, c6, rfl, o6, x6⟩
      ((conv=>whnf);repeat((first|(with_reducible first|refine Z1 ?_|refine Z2 ?_|refine Z3 ?_|refine Z4 ?_|refine Z5 ?_|refine Z9 (by assumption) rfl ?_|refine ZA (by assumption) rfl ?_|refine ZB (by assumption) rfl ?_|refine Z6 ?_|refine Z7 ?_|refine Z8 ?_)|(with_reducible refine ZM ?_ ?_;(focus rfl)));(conv=>whnf)))
      refine o6.sl.cells ?_
      refine Own.bytes (more := leb d.kids[i].toNat) (o5.ext x6) (by have := x6.1; have := x5.1; omega) (by omega) ?_
      intro h7 a7 c7 o7 g7
      ((conv=>whnf);repeat((first|(with_reducible first|refine Z1 ?_|refine Z2 ?_|refine Z3 ?_|refine Z4 ?_|refine Z5 ?_|refine Z9 (by assumption) rfl ?_|refine ZA (by assumption) rfl ?_|refine ZB (by assumption) rfl ?_|refine Z6 ?_|refine Z7 ?_|refine Z8 ?_)|(with_reducible refine ZM ?_ ?_;(focus rfl)));(conv=>whnf)))
      refine ⟨⟨i + 1, a7, c7, _, rfl, by omega, ?_, o7, (x5.trans x6).keep (g7.kept (by have := x5.1; have := x6.1; omega) fun p ep => (o5.lt p ep).1)⟩, hmu⟩
      rw [hbs, htk, encI_snoc, List.append_assoc]
    · have hge := of_decide_eq_false hlt
      obtain rfl : i = d.kids.length := by omega
      rw [List.take_length] at hbs
      have hbl1 : bs.length ≤ 63 := by subst hbs; rw [List.length_append]; omega
      ((conv=>whnf);repeat((first|(with_reducible first|refine Z1 ?_|refine Z2 ?_|refine Z3 ?_|refine Z4 ?_|refine Z5 ?_|refine Z9 (by assumption) rfl ?_|refine ZA (by assumption) rfl ?_|refine ZB (by assumption) rfl ?_|refine Z6 ?_|refine Z7 ?_|refine Z8 ?_)|(with_reducible refine ZM ?_ ?_;(focus rfl)));(conv=>whnf)))
      refine loop_rule [6, 66] (fun vs h' => ∃ (i : Nat) (a : Option Addr) (c : Nat) (bs' : List UInt8), vs = [.slice a bs'.length c, .int .i64 i] ∧ i ≤ d.keys.length ∧ bs' = bs ++ encT (d.keys.take i) ∧ Own h' h1.size 5 1 a bs'.length c (bs'.map byteV) ∧ Ext h1 h')
        (fun vs _ => match vs with | [_, .int _ i] => d.keys.length - i.toNat | _ => 0) rfl ?_ ?_
      · exact ⟨0, a5, c5, bs, rfl, by omega, by simp [encT], o5, x5⟩
      intro u h6 v6 v66
      rintro ⟨i, a6, c6, bs', e, hi, hbs', o6, x6⟩
      cases e
      have ox6 := ox.ext x6
      ((conv=>whnf);repeat((first|(with_reducible first|refine Z1 ?_|refine Z2 ?_|refine Z3 ?_|refine Z4 ?_|refine Z5 ?_|refine Z9 (by assumption) rfl ?_|refine ZA (by assumption) rfl ?_|refine ZB (by assumption) rfl ?_|refine Z6 ?_|refine Z7 ?_|refine Z8 ?_)|(with_reducible refine ZM ?_ ?_;(focus rfl)));(conv=>whnf)))
      refine HIf.mk (fun hlt => ?_) (fun hlt => ?_)
      · have hi1 : i < d.keys.length := by have := of_decide_eq_true hlt; omega
        have hmu : d.keys.length - ((i : Int) + 1).toNat < d.keys.length - ((i : Int)).toNat := by omega
        have hki := hkeys _ (List.getElem_mem hi1)
        have htk : d.keys.take (i + 1) = d.keys.take i ++ [d.keys[i]] := by rw [List.take_add_one, List.getElem?_eq_getElem hi1]; rfl
        have hl := encT_len (d.keys.take i) (fun k hk => hkeys k (List.mem_of_mem_take hk))
        have hl2 : bs'.length ≤ 63 + 258 * 12 := by rw [hbs', List.length_append]; rw [List.length_take] at hl; omega
        have hl3 := ntxt_len d.keys[i] (by omega)
        ((conv=>whnf);repeat((first|(with_reducible first|refine Z1 ?_|refine Z2 ?_|refine Z3 ?_|refine Z4 ?_|refine Z5 ?_|refine Z9 (by assumption) rfl ?_|refine ZA (by assumption) rfl ?_|refine ZB (by assumption) rfl ?_|refine Z6 ?_|refine Z7 ?_|refine Z8 ?_)|(with_reducible refine ZM ?_ ?_;(focus rfl)));(conv=>whnf)))
        refine HIdx.mk i rfl hi1 ?_
        refine sl_some s1 hi1 fun p ep => ?_
        ((conv=>whnf);repeat((first|(with_reducible first|refine Z1 ?_|refine Z2 ?_|refine Z3 ?_|refine Z4 ?_|refine Z5 ?_|refine Z9 (by assumption) rfl ?_|refine ZA (by assumption) rfl ?_|refine ZB (by assumption) rfl ?_|refine Z6 ?_|refine Z7 ?_|refine Z8 ?_)|(with_reducible refine ZM ?_ ?_;(focus rfl)));(conv=>whnf)))
        refine (s1.ext (x1.trans x6)).load ep (by simpa using hi1) ?_
        rw [List.getElem_map]
        ((conv=>whnf);repeat((first|(with_reducible first|refine Z1 ?_|refine Z2 ?_|refine Z3 ?_|refine Z4 ?_|refine Z5 ?_|refine Z9 (by assumption) rfl ?_|refine ZA (by assumption) rfl ?_|refine ZB (by assumption) rfl ?_|refine Z6 ?_|refine Z7 ?_|refine Z8 ?_)|(with_reducible refine ZM ?_ ?_;(focus rfl)));(conv=>whnf)))
        refine HCall.mk ((rntext_spec d.keys[i] (by omega) h6).mono ?_)
        rintro e h7 ⟨a7, c7, rfl, o7, x7⟩
        ((conv=>whnf);repeat((first|(with_reducible first|refine Z1 ?_|refine Z2 ?_|refine Z3 ?_|refine Z4 ?_|refine Z5 ?_|refine Z9 (by assumption) rfl ?_|refine ZA (by assumption) rfl ?_|refine ZB (by assumption) rfl ?_|refine Z6 ?_|refine Z7 ?_|refine Z8 ?_)|(with_reducible refine ZM ?_ ?_;(focus rfl)));(conv=>whnf)))
        refine o7.sl.cells ?_
        refine Own.bytes (more := ntxt d.keys[i]) (o6.ext x7) (by have := x7.1; have := x6.1; omega) (by omega) ?_
        intro h8 a8 c8 o8 g8
        ((conv=>whnf);repeat((first|(with_reducible first|refine Z1 ?_|refine Z2 ?_|refine Z3 ?_|refine Z4 ?_|refine Z5 ?_|refine Z9 (by assumption) rfl ?_|refine ZA (by assumption) rfl ?_|refine ZB (by assumption) rfl ?_|refine Z6 ?_|refine Z7 ?_|refine Z8 ?_)|(with_reducible refine ZM ?_ ?_;(focus rfl)));(conv=>whnf)))
        refine ⟨⟨i + 1, a8, c8, _, rfl, by omega, ?_, o8, (x6.trans x7).keep (g8.kept (by have := x6.1; have := x7.1; omega) fun p ep => (o6.lt p ep).1)⟩, hmu⟩
        rw [hbs', htk, encT_snoc, List.append_assoc]
      · have hge := of_decide_eq_false hlt
        obtain rfl : i = d.keys.length := by omega
        have e1 : bs' = encN d := by
          rw [hbs', List.take_length, hbs, ← hb0]
          unfold encN
          rw [if_neg hz]; simp
        subst e1
        ((conv=>whnf);repeat((first|(with_reducible first|refine Z1 ?_|refine Z2 ?_|refine Z3 ?_|refine Z4 ?_|refine Z5 ?_|refine Z9 (by assumption) rfl ?_|refine ZA (by assumption) rfl ?_|refine ZB (by assumption) rfl ?_|refine Z6 ?_|refine Z7 ?_|refine Z8 ?_)|(with_reducible refine ZM ?_ ?_;(focus rfl)));(conv=>whnf)))
        exact ⟨a6, c6, rfl, o6.lower x1.1, x1.trans x6⟩

end Go.Proofs.Ythagjflkdoafmaa.Hc
