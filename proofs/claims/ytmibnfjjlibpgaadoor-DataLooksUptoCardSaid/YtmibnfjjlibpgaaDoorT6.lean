/- Text, and the reference's. -/
import Derived.Test.YtmibnfjjlibpgaaDoorT5
set_option linter.unusedVariables false
set_option linter.unusedSimpArgs false
namespace Go.Proofs.YtmibnfjjlibpgaaDoor.Hc
open Go Go.H Go.Proofs
set_option maxRecDepth 100000
set_option maxHeartbeats 8000000

theorem dec_ne (n : Nat) : Lib.decDigits n ≠ [] := by
  rw [Lib.decDigits]; split <;> simp
theorem itoa_ne (n : Int) : Lib.itoa n ≠ [] := by
  unfold Lib.itoa; split
  · simp
  · exact dec_ne _
theorem txt_ne (d : DT) : txt d ≠ [] := by
  cases d with
  | mk k n s ks l =>
    simp only [txt]
    repeat' split
    all_goals first | exact itoa_ne _ | simp [quoteL]
theorem Bld.nonempty {h : Heap} {b : Nat} {a : Option Addr} {bs : List UInt8} (w : Bld h b a bs) (hb : bs ≠ []) : a ≠ none := by
  rintro rfl
  obtain ⟨p, c, hp, o, own⟩ := w
  have h1 := own.2.1
  have h2 := own.2.2.1 rfl
  have := List.length_pos_iff.2 hb
  omega
/-- What Text answers. -/
def TxtR (d : DT) (n : Int) (s : ByteArray) : Prop := Chk d n ∧ s = if n = 0 then ⟨(txt d).toArray⟩ else ⟨#[]⟩
theorem text_spec (d : DT) (h : Heap) (cs : List Value) (ra : Rep h d cs) (hvol : vol d ≤ 2097152) (hdeep : deep d ≤ 4611686018427387904) (gl : Glob h) :
    HCalls Tryd.prog 19 #[.agg cs.toArray] h fun e h' => ∃ (n : Int) (s : ByteArray), e = .returned (.tuple #[.string s, .int .i64 n]) ∧ TxtR d n s ∧ Ext h h' := by
  refine c19 (by simp) ?_
  ((conv=>whnf);repeat((first|(with_reducible first|refine Z1 ?_|refine Z2 ?_|refine Z3 ?_|refine Z4 ?_|refine Z5 ?_|refine Z9 (by assumption) rfl ?_|refine ZA (by assumption) rfl ?_|refine ZB (by assumption) rfl ?_|refine Z6 ?_|refine Z7 ?_|refine Z8 ?_)|((with_reducible refine ZM ?_ ?_);(focus rfl)));(conv=>whnf)))
  refine new_var (e := 25) cs rfl ?_
  intro h1 bx ox x1 z1 hbx
  ((conv=>whnf);repeat((first|(with_reducible first|refine Z1 ?_|refine Z2 ?_|refine Z3 ?_|refine Z4 ?_|refine Z5 ?_|refine Z9 (by assumption) rfl ?_|refine ZA (by assumption) rfl ?_|refine ZB (by assumption) rfl ?_|refine Z6 ?_|refine Z7 ?_|refine Z8 ?_)|((with_reducible refine ZM ?_ ?_);(focus rfl)));(conv=>whnf)))
  refine blk_ldN ox ra.len ?_
  ((conv=>whnf);repeat((first|(with_reducible first|refine Z1 ?_|refine Z2 ?_|refine Z3 ?_|refine Z4 ?_|refine Z5 ?_|refine Z9 (by assumption) rfl ?_|refine ZA (by assumption) rfl ?_|refine ZB (by assumption) rfl ?_|refine Z6 ?_|refine Z7 ?_|refine Z8 ?_)|((with_reducible refine ZM ?_ ?_);(focus rfl)));(conv=>whnf)))
  refine HCall.mk ((check17_spec d h1 cs (Rep.ext x1 _ _ ra) hdeep).mono ?_)
  rintro e h2 ⟨n, rfl, hc, x2⟩
  have x02 := x1.trans x2
  have ox2 := ox.ext x2
  ((conv=>whnf);repeat((first|(with_reducible first|refine Z1 ?_|refine Z2 ?_|refine Z3 ?_|refine Z4 ?_|refine Z5 ?_|refine Z9 (by assumption) rfl ?_|refine ZA (by assumption) rfl ?_|refine ZB (by assumption) rfl ?_|refine Z6 ?_|refine Z7 ?_|refine Z8 ?_)|((with_reducible refine ZM ?_ ?_);(focus rfl)));(conv=>whnf)))
  by_cases hn : n = 0
  · have q : ((n : Int) != 0) = false := by rw [hn]; rfl
    have hm : may d ∧ deep d ≤ 20 := by rcases hc with h | h | h <;> first | exact ⟨h.1, h.2.1⟩ | (have := h.2.2; omega) | (have := h.2; omega)
    ((conv=>whnf);repeat((first|(with_reducible first|refine Z1 ?_|refine Z2 ?_|refine Z3 ?_|refine Z4 ?_|refine Z5 ?_|refine Z9 (by assumption) rfl ?_|refine ZA (by assumption) rfl ?_|refine ZB (by assumption) rfl ?_|refine Z6 ?_|refine Z7 ?_|refine Z8 ?_)|((with_reducible refine ZM ?_ ?_);(focus rfl)));(conv=>whnf)))
    refine new_var (e := 49) [.pointer none, .slice none 0 0] rfl ?_
    intro h3 b o3 x3 z3 hb3
    have w3 : Bld h3 b none [] := ⟨none, 0, .inl rfl, o3, Own.nil _ _ _ _⟩
    have x03 := x02.trans x3
    have hs2 := x02.1
    ((conv=>whnf);repeat((first|(with_reducible first|refine Z1 ?_|refine Z2 ?_|refine Z3 ?_|refine Z4 ?_|refine Z5 ?_|refine Z9 (by assumption) rfl ?_|refine ZA (by assumption) rfl ?_|refine ZB (by assumption) rfl ?_|refine Z6 ?_|refine Z7 ?_|refine Z8 ?_)|((with_reducible refine ZM ?_ ?_);(focus rfl)));(conv=>whnf)))
    refine blk_ldN (ox2.ext x3) ra.len ?_
    ((conv=>whnf);repeat((first|(with_reducible first|refine Z1 ?_|refine Z2 ?_|refine Z3 ?_|refine Z4 ?_|refine Z5 ?_|refine Z9 (by assumption) rfl ?_|refine ZA (by assumption) rfl ?_|refine ZB (by assumption) rfl ?_|refine Z6 ?_|refine Z7 ?_|refine Z8 ?_)|((with_reducible refine ZM ?_ ?_);(focus rfl)));(conv=>whnf)))
    have htl := txt_len d hm.1
    refine HCall.mk ((value_spec d h cs ra hm.1 hvol gl h3 b none [] (by omega) x03 w3 (by simp; omega)).mono ?_)
    rintro e h4 ⟨rfl, a4, w4, g4⟩
    have x04 := g4.keep x03 w3 (by omega)
    rw [List.nil_append] at w4
    have w4lt := w4.lt
    ((conv=>whnf);repeat((first|(with_reducible first|refine Z1 ?_|refine Z2 ?_|refine Z3 ?_|refine Z4 ?_|refine Z5 ?_|refine Z9 (by assumption) rfl ?_|refine ZA (by assumption) rfl ?_|refine ZB (by assumption) rfl ?_|refine Z6 ?_|refine Z7 ?_|refine Z8 ?_)|((with_reducible refine ZM ?_ ?_);(focus rfl)));(conv=>whnf)))
    refine HCall.to #[.pointer (some ⟨b, 0, none⟩)] rfl ((string_spec w4 (txt_ne d) (by omega)).mono ?_)
    rintro e h5 ⟨rfl, ho⟩
    ((conv=>whnf);repeat((first|(with_reducible first|refine Z1 ?_|refine Z2 ?_|refine Z3 ?_|refine Z4 ?_|refine Z5 ?_|refine Z9 (by assumption) rfl ?_|refine ZA (by assumption) rfl ?_|refine ZB (by assumption) rfl ?_|refine Z6 ?_|refine Z7 ?_|refine Z8 ?_)|((with_reducible refine ZM ?_ ?_);(focus rfl)));(conv=>whnf)))
    refine ⟨0, _, rfl, ⟨by rw [← hn]; exact hc, by rw [if_pos rfl]⟩, ?_⟩
    cases a4 with
    | none => exact absurd rfl (w4.nonempty (txt_ne d))
    | some p => exact x04.offNew (ho p rfl) (by have := w4lt p rfl; omega)
  · have q : ((n : Int) != 0) = true := bne_iff_ne.2 hn
    ((conv=>whnf);repeat((first|(with_reducible first|refine Z1 ?_|refine Z2 ?_|refine Z3 ?_|refine Z4 ?_|refine Z5 ?_|refine Z9 (by assumption) rfl ?_|refine ZA (by assumption) rfl ?_|refine ZB (by assumption) rfl ?_|refine Z6 ?_|refine Z7 ?_|refine Z8 ?_)|((with_reducible refine ZM ?_ ?_);(focus rfl)));(conv=>whnf)))
    exact ⟨n, _, rfl, ⟨hc, by rw [if_neg hn]⟩, x02⟩

theorem rtext_spec : ∀ (d : DT) (h : Heap) (cs : List Value), Rep h d cs → may d → vol d ≤ 2097152 →
    HCalls Tryd.prog 33 #[.agg cs.toArray] h fun e h' => e = .returned (.string ⟨(txt d).toArray⟩) ∧ Ext h h' := by
  intro d
  induction d using (measure (fun d : DT => SizeOf.sizeOf d)).wf.induction with
  | _ d ih =>
  intro h cs ra hm hvol
  have htl := txt_len d hm
  obtain ⟨k1, n1, s1, ks1, l1⟩ := d
  have hm0 := hm
  simp only [Rep] at ra
  obtain ⟨a1, a2, a3, a4, a5, a6, ka, kc, la, lc, xs, rfl, a7, a8, a9⟩ := ra
  simp only [may] at hm
  simp only [vol] at hvol htl
  refine c33 (by simp) ?_
  ((conv=>whnf);repeat((first|(with_reducible first|refine Z1 ?_|refine Z2 ?_|refine Z3 ?_|refine Z4 ?_|refine Z5 ?_|refine Z9 (by assumption) rfl ?_|refine ZA (by assumption) rfl ?_|refine ZB (by assumption) rfl ?_|refine Z6 ?_|refine Z7 ?_|refine Z8 ?_)|((with_reducible refine ZM ?_ ?_);(focus rfl)));(conv=>whnf)))
  refine new_var (e := 25) [.int .i64 k1, .int .i64 n1, .string s1, .slice ka ks1.length kc, .slice la l1.length lc] rfl ?_
  intro h1 bx ox x1 z1 hbx
  have hs1 := x1.1
  rcases hm.1 with ⟨hk | hk, hrest⟩ | ⟨hk, hn, hrest⟩ | ⟨hk, hn, hrest⟩ | ⟨hk, hn0, hev, hrest⟩ | ⟨hk, hrest⟩ | ⟨hk, hn0, hs0, hg⟩
  · subst hk
    ((conv=>whnf);repeat((first|(with_reducible first|refine Z1 ?_|refine Z2 ?_|refine Z3 ?_|refine Z4 ?_|refine Z5 ?_|refine Z9 (by assumption) rfl ?_|refine ZA (by assumption) rfl ?_|refine ZB (by assumption) rfl ?_|refine Z6 ?_|refine Z7 ?_|refine Z8 ?_)|((with_reducible refine ZM ?_ ?_);(focus rfl)));(conv=>whnf)))
    exact ⟨rfl, x1⟩
  · subst hk
    ((conv=>whnf);repeat((first|(with_reducible first|refine Z1 ?_|refine Z2 ?_|refine Z3 ?_|refine Z4 ?_|refine Z5 ?_|refine Z9 (by assumption) rfl ?_|refine ZA (by assumption) rfl ?_|refine ZB (by assumption) rfl ?_|refine Z6 ?_|refine Z7 ?_|refine Z8 ?_)|((with_reducible refine ZM ?_ ?_);(focus rfl)));(conv=>whnf)))
    exact ⟨rfl, x1⟩
  · subst hk
    rcases hn with rfl | rfl
    · ((conv=>whnf);repeat((first|(with_reducible first|refine Z1 ?_|refine Z2 ?_|refine Z3 ?_|refine Z4 ?_|refine Z5 ?_|refine Z9 (by assumption) rfl ?_|refine ZA (by assumption) rfl ?_|refine ZB (by assumption) rfl ?_|refine Z6 ?_|refine Z7 ?_|refine Z8 ?_)|((with_reducible refine ZM ?_ ?_);(focus rfl)));(conv=>whnf)))
      exact ⟨rfl, x1⟩
    · ((conv=>whnf);repeat((first|(with_reducible first|refine Z1 ?_|refine Z2 ?_|refine Z3 ?_|refine Z4 ?_|refine Z5 ?_|refine Z9 (by assumption) rfl ?_|refine ZA (by assumption) rfl ?_|refine ZB (by assumption) rfl ?_|refine Z6 ?_|refine Z7 ?_|refine Z8 ?_)|((with_reducible refine ZM ?_ ?_);(focus rfl)));(conv=>whnf)))
      exact ⟨rfl, x1⟩
  · subst hk
    ((conv=>whnf);repeat((first|(with_reducible first|refine Z1 ?_|refine Z2 ?_|refine Z3 ?_|refine Z4 ?_|refine Z5 ?_|refine Z9 (by assumption) rfl ?_|refine ZA (by assumption) rfl ?_|refine ZB (by assumption) rfl ?_|refine Z6 ?_|refine Z7 ?_|refine Z8 ?_)|((with_reducible refine ZM ?_ ?_);(focus rfl)));(conv=>whnf)))
    refine HCall.mk ((rdig_spec n1 hn.1 hn.2 h1).mono ?_)
    rintro e h2 ⟨rfl, x2⟩
    ((conv=>whnf);repeat((first|(with_reducible first|refine Z1 ?_|refine Z2 ?_|refine Z3 ?_|refine Z4 ?_|refine Z5 ?_|refine Z9 (by assumption) rfl ?_|refine ZA (by assumption) rfl ?_|refine ZB (by assumption) rfl ?_|refine Z6 ?_|refine Z7 ?_|refine Z8 ?_)|((with_reducible refine ZM ?_ ?_);(focus rfl)));(conv=>whnf)))
    exact ⟨rfl, x1.trans x2⟩
  · subst hk
    ((conv=>whnf);repeat((first|(with_reducible first|refine Z1 ?_|refine Z2 ?_|refine Z3 ?_|refine Z4 ?_|refine Z5 ?_|refine Z9 (by assumption) rfl ?_|refine ZA (by assumption) rfl ?_|refine ZB (by assumption) rfl ?_|refine Z6 ?_|refine Z7 ?_|refine Z8 ?_)|((with_reducible refine ZM ?_ ?_);(focus rfl)));(conv=>whnf)))
    refine HCall.mk ((rquote_spec s1.data.toList (by show s1.size ≤ _; omega) hev h1).mono ?_)
    rintro e h2 ⟨rfl, x2⟩
    ((conv=>whnf);repeat((first|(with_reducible first|refine Z1 ?_|refine Z2 ?_|refine Z3 ?_|refine Z4 ?_|refine Z5 ?_|refine Z9 (by assumption) rfl ?_|refine ZA (by assumption) rfl ?_|refine ZB (by assumption) rfl ?_|refine Z6 ?_|refine Z7 ?_|refine Z8 ?_)|((with_reducible refine ZM ?_ ?_);(focus rfl)));(conv=>whnf)))
    exact ⟨rfl, x1.trans x2⟩
  · subst hk

    have hit : (txts l1).length = l1.length := by exact txts_len l1
    have et : txt (.mk 5 n1 s1 ks1 l1) = 91 :: (commas (txts l1) ++ [93]) := by simp only [txt]; rfl
    rw [et] at htl ⊢
    simp only [List.length_cons, List.length_append, List.length_nil] at htl
    ((conv=>whnf);repeat((first|(with_reducible first|refine Z1 ?_|refine Z2 ?_|refine Z3 ?_|refine Z4 ?_|refine Z5 ?_|refine Z9 (by assumption) rfl ?_|refine ZA (by assumption) rfl ?_|refine ZB (by assumption) rfl ?_|refine Z6 ?_|refine Z7 ?_|refine Z8 ?_)|((with_reducible refine ZM ?_ ?_);(focus rfl)));(conv=>whnf)))
    refine loop_rule [5, 38] (fun vs h' => ∃ (i : Nat), vs = [.string ⟨(commas ((txts l1).take i)).toArray⟩, .int .i64 i] ∧ i ≤ l1.length ∧ Ext h1 h')
      (fun vs _ => match vs with | [_, .int _ i] => l1.length - i.toNat | _ => 0) rfl ?_ ?_
    · exact ⟨0, rfl, by omega, Ext.refl _⟩
    intro u h2 v5 v38
    rintro ⟨i, e, hi, x2⟩
    cases e
    have x02 := x1.trans x2
    have ox2 := ox.ext x2
    have hcm := commas_mono (txts l1) i
    ((conv=>whnf);repeat((first|(with_reducible first|refine Z1 ?_|refine Z2 ?_|refine Z3 ?_|refine Z4 ?_|refine Z5 ?_|refine Z9 (by assumption) rfl ?_|refine ZA (by assumption) rfl ?_|refine ZB (by assumption) rfl ?_|refine Z6 ?_|refine Z7 ?_|refine Z8 ?_)|((with_reducible refine ZM ?_ ?_);(focus rfl)));(conv=>whnf)))
    refine HIf.mk (fun hlt => ?_) (fun hlt => ?_)
    · have hi1 : i < l1.length := by have := of_decide_eq_true hlt; omega
      have hmu : l1.length - ((i : Int) + 1).toNat < l1.length - ((i : Int)).toNat := by omega
      have hvi := vols_mem l1 l1[i] (List.getElem_mem hi1)
      have hmi : may l1[i] := (mays_iff l1).1 hm.2 _ (List.getElem_mem hi1)
      have hti := txt_len l1[i] hmi
      have hct := commas_take (txts l1) i (by omega)
      have hcm1 := commas_mono (txts l1) (i + 1)
      rw [hct] at hcm1
      simp only [List.length_append] at hcm1
      ((conv=>whnf);repeat((first|(with_reducible first|refine Z1 ?_|refine Z2 ?_|refine Z3 ?_|refine Z4 ?_|refine Z5 ?_|refine Z9 (by assumption) rfl ?_|refine ZA (by assumption) rfl ?_|refine ZB (by assumption) rfl ?_|refine Z6 ?_|refine Z7 ?_|refine Z8 ?_)|((with_reducible refine ZM ?_ ?_);(focus rfl)));(conv=>whnf)))
      refine HIdx.mk i rfl hi1 ?_
      refine sl_some a8 hi1 fun p ep => ?_
      ((conv=>whnf);repeat((first|(with_reducible first|refine Z1 ?_|refine Z2 ?_|refine Z3 ?_|refine Z4 ?_|refine Z5 ?_|refine Z9 (by assumption) rfl ?_|refine ZA (by assumption) rfl ?_|refine ZB (by assumption) rfl ?_|refine Z6 ?_|refine Z7 ?_|refine Z8 ?_)|((with_reducible refine ZM ?_ ?_);(focus rfl)));(conv=>whnf)))
      refine (a8.ext x02).loadRep (Reps.ext x02 _ _ a9) ep hi1 fun as' ra1 => ?_
      ((conv=>whnf);repeat((first|(with_reducible first|refine Z1 ?_|refine Z2 ?_|refine Z3 ?_|refine Z4 ?_|refine Z5 ?_|refine Z9 (by assumption) rfl ?_|refine ZA (by assumption) rfl ?_|refine ZB (by assumption) rfl ?_|refine Z6 ?_|refine Z7 ?_|refine Z8 ?_)|((with_reducible refine ZM ?_ ?_);(focus rfl)));(conv=>whnf)))
      refine new_var (e := 25) zeroD rfl ?_
      intro h5 b5 o5 x5 z5 hb5
      ((conv=>whnf);repeat((first|(with_reducible first|refine Z1 ?_|refine Z2 ?_|refine Z3 ?_|refine Z4 ?_|refine Z5 ?_|refine Z9 (by assumption) rfl ?_|refine ZA (by assumption) rfl ?_|refine ZB (by assumption) rfl ?_|refine Z6 ?_|refine Z7 ?_|refine Z8 ?_)|((with_reducible refine ZM ?_ ?_);(focus rfl)));(conv=>whnf)))
      have hal := ra1.len
      refine HMust.mk (by simpa using hal) ?_
      refine store_new o5 (by simp [hal]) (by simpa using ra1.one) ?_
      intro h6 f6 z6 o6
      have x26 : Ext h2 h6 := x5.offNew f6 (by omega)
      have ox6 := ox2.ext x26
      have x06 := x02.trans x26
      ((conv=>whnf);repeat((first|(with_reducible first|refine Z2 ?_|refine Z3 ?_|refine Z4 ?_|refine Z5 ?_|refine Z9 (by assumption) rfl ?_|refine ZA (by assumption) rfl ?_|refine ZB (by assumption) rfl ?_|refine Z6 ?_|refine Z7 ?_|refine Z8 ?_)|((with_reducible refine ZM ?_ ?_);(focus rfl)));(conv=>whnf)))
      refine cut_rule [5] (fun vs h' => vs = [.string ⟨(commas ((txts l1).take i) ++ (if 0 < i then [44] else [])).toArray⟩] ∧ h' = h6) rfl ?_ ?_
      · by_cases hi0 : 0 < i
        · have q : decide ((i : Int) > 0) = true := decide_eq_true (by omega)
          ((conv=>whnf);repeat((first|(with_reducible first|refine Z1 ?_|refine Z2 ?_|refine Z3 ?_|refine Z4 ?_|refine Z5 ?_|refine Z9 (by assumption) rfl ?_|refine ZA (by assumption) rfl ?_|refine ZB (by assumption) rfl ?_|refine Z6 ?_|refine Z7 ?_|refine Z8 ?_)|((with_reducible refine ZM ?_ ?_);(focus rfl)));(conv=>whnf)))
          refine HMust.mk (by rw [ba_size]; show _ + 1 ≤ _; omega) ?_
          ((conv=>whnf);repeat((first|(with_reducible first|refine Z1 ?_|refine Z2 ?_|refine Z3 ?_|refine Z4 ?_|refine Z5 ?_|refine Z9 (by assumption) rfl ?_|refine ZA (by assumption) rfl ?_|refine ZB (by assumption) rfl ?_|refine Z6 ?_|refine Z7 ?_|refine Z8 ?_)|((with_reducible refine ZM ?_ ?_);(focus rfl)));(conv=>whnf)))
          rw [if_pos hi0, ← app_ba]
          exact ⟨rfl, rfl⟩
        · have q : decide ((i : Int) > 0) = false := decide_eq_false (by omega)
          ((conv=>whnf);repeat((first|(with_reducible first|refine Z1 ?_|refine Z2 ?_|refine Z3 ?_|refine Z4 ?_|refine Z5 ?_|refine Z9 (by assumption) rfl ?_|refine ZA (by assumption) rfl ?_|refine ZB (by assumption) rfl ?_|refine Z6 ?_|refine Z7 ?_|refine Z8 ?_)|((with_reducible refine ZM ?_ ?_);(focus rfl)));(conv=>whnf)))
          rw [if_neg hi0, List.append_nil]
          exact ⟨rfl, rfl⟩
      intro u h7 v5
      rintro ⟨e, rfl⟩
      cases e
      have hpg := txts_get l1 i hi1 (by omega)
      rw [hpg] at hcm1 hct
      ((conv=>whnf);repeat((first|(with_reducible first|refine Z1 ?_|refine Z2 ?_|refine Z3 ?_|refine Z4 ?_|refine Z5 ?_|refine Z9 (by assumption) rfl ?_|refine ZA (by assumption) rfl ?_|refine ZB (by assumption) rfl ?_|refine Z6 ?_|refine Z7 ?_|refine Z8 ?_)|((with_reducible refine ZM ?_ ?_);(focus rfl)));(conv=>whnf)))
      refine blk_ldN o6 (by simpa using hal) ?_
      ((conv=>whnf);repeat((first|(with_reducible first|refine Z1 ?_|refine Z2 ?_|refine Z3 ?_|refine Z4 ?_|refine Z5 ?_|refine Z9 (by assumption) rfl ?_|refine ZA (by assumption) rfl ?_|refine ZB (by assumption) rfl ?_|refine Z6 ?_|refine Z7 ?_|refine Z8 ?_)|((with_reducible refine ZM ?_ ?_);(focus rfl)));(conv=>whnf)))
      refine HCall.mk ((ih l1[i] (dt_lt hi1) h7 as' (Rep.ext x26 _ _ ra1) hmi (by omega)).mono ?_)
      rintro e h9 ⟨rfl, x9⟩
      ((conv=>whnf);repeat((first|(with_reducible first|refine Z1 ?_|refine Z2 ?_|refine Z3 ?_|refine Z4 ?_|refine Z5 ?_|refine Z9 (by assumption) rfl ?_|refine ZA (by assumption) rfl ?_|refine ZB (by assumption) rfl ?_|refine Z6 ?_|refine Z7 ?_|refine Z8 ?_)|((with_reducible refine ZM ?_ ?_);(focus rfl)));(conv=>whnf)))
      have ea : (⟨(commas ((txts l1).take i) ++ (if 0 < i then [44] else [])).toArray⟩ : ByteArray) ++ (⟨(txt l1[i]).toArray⟩ : ByteArray) = ⟨(commas ((txts l1).take (i + 1))).toArray⟩ := by
        rw [app_ba, hct]; congr 2; simp
      have el : (commas ((txts l1).take (i + 1))).length ≤ 9223372036854775807 := by rw [hct]; simp only [List.length_append, List.length_cons]; omega
      refine HMust.mk ?_ ?_
      · have e2 := congrArg ByteArray.size ea
        rw [ByteArray.size_append, ba_size (commas ((txts l1).take (i + 1)))] at e2
        show (⟨(commas ((txts l1).take i) ++ (if 0 < i then [44] else [])).toArray⟩ : ByteArray).size + (⟨(txt l1[i]).toArray⟩ : ByteArray).size ≤ _
        omega
      ((conv=>whnf);repeat((first|(with_reducible first|refine Z1 ?_|refine Z2 ?_|refine Z3 ?_|refine Z4 ?_|refine Z5 ?_|refine Z9 (by assumption) rfl ?_|refine ZA (by assumption) rfl ?_|refine ZB (by assumption) rfl ?_|refine Z6 ?_|refine Z7 ?_|refine Z8 ?_)|((with_reducible refine ZM ?_ ?_);(focus rfl)));(conv=>whnf)))
      refine ⟨⟨i + 1, ?_, by omega, x2.trans (x26.trans x9)⟩, hmu⟩
      rw [← ea]; rfl
    · have hge := of_decide_eq_false hlt
      obtain rfl : i = l1.length := by omega
      have hft : (txts l1).take l1.length = (txts l1) := by rw [← hit, List.take_length]
      rw [hft]
      rw [hft] at hcm
      ((conv=>whnf);repeat((first|(with_reducible first|refine Z1 ?_|refine Z2 ?_|refine Z3 ?_|refine Z4 ?_|refine Z5 ?_|refine Z9 (by assumption) rfl ?_|refine ZA (by assumption) rfl ?_|refine ZB (by assumption) rfl ?_|refine Z6 ?_|refine Z7 ?_|refine Z8 ?_)|((with_reducible refine ZM ?_ ?_);(focus rfl)));(conv=>whnf)))
      refine HMust.mk (by show 1 + (commas (txts l1)).length ≤ _; omega) ?_
      ((conv=>whnf);repeat((first|(with_reducible first|refine Z1 ?_|refine Z2 ?_|refine Z3 ?_|refine Z4 ?_|refine Z5 ?_|refine Z9 (by assumption) rfl ?_|refine ZA (by assumption) rfl ?_|refine ZB (by assumption) rfl ?_|refine Z6 ?_|refine Z7 ?_|refine Z8 ?_)|((with_reducible refine ZM ?_ ?_);(focus rfl)));(conv=>whnf)))
      refine HMust.mk (by show ((⟨[91].toArray⟩ : ByteArray) ++ (⟨(commas (txts l1)).toArray⟩ : ByteArray)).size + 1 ≤ _; rw [app_ba, ba_size]; simp only [List.length_append, List.length_cons, List.length_nil]; omega) ?_
      ((conv=>whnf);repeat((first|(with_reducible first|refine Z1 ?_|refine Z2 ?_|refine Z3 ?_|refine Z4 ?_|refine Z5 ?_|refine Z9 (by assumption) rfl ?_|refine ZA (by assumption) rfl ?_|refine ZB (by assumption) rfl ?_|refine Z6 ?_|refine Z7 ?_|refine Z8 ?_)|((with_reducible refine ZM ?_ ?_);(focus rfl)));(conv=>whnf)))
      refine ⟨?_, x02⟩
      have ea : ((⟨[91].toArray⟩ : ByteArray) ++ (⟨(commas (txts l1)).toArray⟩ : ByteArray)) ++ (⟨[93].toArray⟩ : ByteArray) = ⟨(91 :: (commas (txts l1) ++ [93])).toArray⟩ := by
        rw [app_ba, app_ba]; rfl
      rw [← ea]; rfl
  · subst hk
    have hgk : ks1.length = l1.length := hg.2.2
    have hit : (pairs ks1 (txts l1)).length = l1.length := by rw [pairs_len _ _ (by rw [txts_len]; exact hgk)]; exact txts_len l1
    have et : txt (.mk 6 n1 s1 ks1 l1) = 123 :: (commas (pairs ks1 (txts l1)) ++ [125]) := by simp only [txt]; rfl
    rw [et] at htl ⊢
    simp only [List.length_cons, List.length_append, List.length_nil] at htl
    ((conv=>whnf);repeat((first|(with_reducible first|refine Z1 ?_|refine Z2 ?_|refine Z3 ?_|refine Z4 ?_|refine Z5 ?_|refine Z9 (by assumption) rfl ?_|refine ZA (by assumption) rfl ?_|refine ZB (by assumption) rfl ?_|refine Z6 ?_|refine Z7 ?_|refine Z8 ?_)|((with_reducible refine ZM ?_ ?_);(focus rfl)));(conv=>whnf)))
    refine loop_rule [5, 38] (fun vs h' => ∃ (i : Nat), vs = [.string ⟨(commas ((pairs ks1 (txts l1)).take i)).toArray⟩, .int .i64 i] ∧ i ≤ l1.length ∧ Ext h1 h')
      (fun vs _ => match vs with | [_, .int _ i] => l1.length - i.toNat | _ => 0) rfl ?_ ?_
    · exact ⟨0, rfl, by omega, Ext.refl _⟩
    intro u h2 v5 v38
    rintro ⟨i, e, hi, x2⟩
    cases e
    have x02 := x1.trans x2
    have ox2 := ox.ext x2
    have hcm := commas_mono (pairs ks1 (txts l1)) i
    ((conv=>whnf);repeat((first|(with_reducible first|refine Z1 ?_|refine Z2 ?_|refine Z3 ?_|refine Z4 ?_|refine Z5 ?_|refine Z9 (by assumption) rfl ?_|refine ZA (by assumption) rfl ?_|refine ZB (by assumption) rfl ?_|refine Z6 ?_|refine Z7 ?_|refine Z8 ?_)|((with_reducible refine ZM ?_ ?_);(focus rfl)));(conv=>whnf)))
    refine HIf.mk (fun hlt => ?_) (fun hlt => ?_)
    · have hi1 : i < l1.length := by have := of_decide_eq_true hlt; omega
      have hmu : l1.length - ((i : Int) + 1).toNat < l1.length - ((i : Int)).toNat := by omega
      have hvi := vols_mem l1 l1[i] (List.getElem_mem hi1)
      have hmi : may l1[i] := (mays_iff l1).1 hm.2 _ (List.getElem_mem hi1)
      have hti := txt_len l1[i] hmi
      have hct := commas_take (pairs ks1 (txts l1)) i (by omega)
      have hcm1 := commas_mono (pairs ks1 (txts l1)) (i + 1)
      rw [hct] at hcm1
      simp only [List.length_append] at hcm1
      ((conv=>whnf);repeat((first|(with_reducible first|refine Z1 ?_|refine Z2 ?_|refine Z3 ?_|refine Z4 ?_|refine Z5 ?_|refine Z9 (by assumption) rfl ?_|refine ZA (by assumption) rfl ?_|refine ZB (by assumption) rfl ?_|refine Z6 ?_|refine Z7 ?_|refine Z8 ?_)|((with_reducible refine ZM ?_ ?_);(focus rfl)));(conv=>whnf)))
      refine HIdx.mk i rfl hi1 ?_
      refine sl_some a8 hi1 fun p ep => ?_
      ((conv=>whnf);repeat((first|(with_reducible first|refine Z1 ?_|refine Z2 ?_|refine Z3 ?_|refine Z4 ?_|refine Z5 ?_|refine Z9 (by assumption) rfl ?_|refine ZA (by assumption) rfl ?_|refine ZB (by assumption) rfl ?_|refine Z6 ?_|refine Z7 ?_|refine Z8 ?_)|((with_reducible refine ZM ?_ ?_);(focus rfl)));(conv=>whnf)))
      refine (a8.ext x02).loadRep (Reps.ext x02 _ _ a9) ep hi1 fun as' ra1 => ?_
      ((conv=>whnf);repeat((first|(with_reducible first|refine Z1 ?_|refine Z2 ?_|refine Z3 ?_|refine Z4 ?_|refine Z5 ?_|refine Z9 (by assumption) rfl ?_|refine ZA (by assumption) rfl ?_|refine ZB (by assumption) rfl ?_|refine Z6 ?_|refine Z7 ?_|refine Z8 ?_)|((with_reducible refine ZM ?_ ?_);(focus rfl)));(conv=>whnf)))
      refine new_var (e := 25) zeroD rfl ?_
      intro h5 b5 o5 x5 z5 hb5
      ((conv=>whnf);repeat((first|(with_reducible first|refine Z1 ?_|refine Z2 ?_|refine Z3 ?_|refine Z4 ?_|refine Z5 ?_|refine Z9 (by assumption) rfl ?_|refine ZA (by assumption) rfl ?_|refine ZB (by assumption) rfl ?_|refine Z6 ?_|refine Z7 ?_|refine Z8 ?_)|((with_reducible refine ZM ?_ ?_);(focus rfl)));(conv=>whnf)))
      have hal := ra1.len
      refine HMust.mk (by simpa using hal) ?_
      refine store_new o5 (by simp [hal]) (by simpa using ra1.one) ?_
      intro h6 f6 z6 o6
      have x26 : Ext h2 h6 := x5.offNew f6 (by omega)
      have ox6 := ox2.ext x26
      have x06 := x02.trans x26
      ((conv=>whnf);repeat((first|(with_reducible first|refine Z2 ?_|refine Z3 ?_|refine Z4 ?_|refine Z5 ?_|refine Z9 (by assumption) rfl ?_|refine ZA (by assumption) rfl ?_|refine ZB (by assumption) rfl ?_|refine Z6 ?_|refine Z7 ?_|refine Z8 ?_)|((with_reducible refine ZM ?_ ?_);(focus rfl)));(conv=>whnf)))
      refine cut_rule [5] (fun vs h' => vs = [.string ⟨(commas ((pairs ks1 (txts l1)).take i) ++ (if 0 < i then [44] else [])).toArray⟩] ∧ h' = h6) rfl ?_ ?_
      · by_cases hi0 : 0 < i
        · have q : decide ((i : Int) > 0) = true := decide_eq_true (by omega)
          ((conv=>whnf);repeat((first|(with_reducible first|refine Z1 ?_|refine Z2 ?_|refine Z3 ?_|refine Z4 ?_|refine Z5 ?_|refine Z9 (by assumption) rfl ?_|refine ZA (by assumption) rfl ?_|refine ZB (by assumption) rfl ?_|refine Z6 ?_|refine Z7 ?_|refine Z8 ?_)|((with_reducible refine ZM ?_ ?_);(focus rfl)));(conv=>whnf)))
          refine HMust.mk (by rw [ba_size]; show _ + 1 ≤ _; omega) ?_
          ((conv=>whnf);repeat((first|(with_reducible first|refine Z1 ?_|refine Z2 ?_|refine Z3 ?_|refine Z4 ?_|refine Z5 ?_|refine Z9 (by assumption) rfl ?_|refine ZA (by assumption) rfl ?_|refine ZB (by assumption) rfl ?_|refine Z6 ?_|refine Z7 ?_|refine Z8 ?_)|((with_reducible refine ZM ?_ ?_);(focus rfl)));(conv=>whnf)))
          rw [if_pos hi0, ← app_ba]
          exact ⟨rfl, rfl⟩
        · have q : decide ((i : Int) > 0) = false := decide_eq_false (by omega)
          ((conv=>whnf);repeat((first|(with_reducible first|refine Z1 ?_|refine Z2 ?_|refine Z3 ?_|refine Z4 ?_|refine Z5 ?_|refine Z9 (by assumption) rfl ?_|refine ZA (by assumption) rfl ?_|refine ZB (by assumption) rfl ?_|refine Z6 ?_|refine Z7 ?_|refine Z8 ?_)|((with_reducible refine ZM ?_ ?_);(focus rfl)));(conv=>whnf)))
          rw [if_neg hi0, List.append_nil]
          exact ⟨rfl, rfl⟩
      intro u h7 v5
      rintro ⟨e, rfl⟩
      cases e
      have hki : i < ks1.length := by omega
      have hkv := kvol_mem ks1 ks1[i] (List.getElem_mem hki)
      have hkev := hg.1 _ (List.getElem_mem hki)
      have hpg := pairs_get ks1 (txts l1) i (by omega) hki (by rw [txts_len]; omega)
      rw [txts_get l1 i hi1] at hpg
      rw [hpg] at hcm1 hct
      simp only [List.length_append, List.length_cons] at hcm1
      ((conv=>whnf);repeat((first|(with_reducible first|refine Z1 ?_|refine Z2 ?_|refine Z3 ?_|refine Z4 ?_|refine Z5 ?_|refine Z9 (by assumption) rfl ?_|refine ZA (by assumption) rfl ?_|refine ZB (by assumption) rfl ?_|refine Z6 ?_|refine Z7 ?_|refine Z8 ?_)|((with_reducible refine ZM ?_ ?_);(focus rfl)));(conv=>whnf)))
      refine HIdx.mk i rfl hki ?_
      refine sl_some a7 hki fun p2 ep2 => ?_
      ((conv=>whnf);repeat((first|(with_reducible first|refine Z1 ?_|refine Z2 ?_|refine Z3 ?_|refine Z4 ?_|refine Z5 ?_|refine Z9 (by assumption) rfl ?_|refine ZA (by assumption) rfl ?_|refine ZB (by assumption) rfl ?_|refine Z6 ?_|refine Z7 ?_|refine Z8 ?_)|((with_reducible refine ZM ?_ ?_);(focus rfl)));(conv=>whnf)))
      refine (a7.ext x06).load ep2 (by simpa using hki) ?_
      rw [List.getElem_map]
      ((conv=>whnf);repeat((first|(with_reducible first|refine Z1 ?_|refine Z2 ?_|refine Z3 ?_|refine Z4 ?_|refine Z5 ?_|refine Z9 (by assumption) rfl ?_|refine ZA (by assumption) rfl ?_|refine ZB (by assumption) rfl ?_|refine Z6 ?_|refine Z7 ?_|refine Z8 ?_)|((with_reducible refine ZM ?_ ?_);(focus rfl)));(conv=>whnf)))
      refine HCall.mk ((rquote_spec ks1[i].data.toList (by show ks1[i].size ≤ _; omega) hkev h7).mono ?_)
      rintro e h8 ⟨rfl, x8⟩
      have o8 := o6.ext x8
      have x08 := x06.trans x8
      ((conv=>whnf);repeat((first|(with_reducible first|refine Z1 ?_|refine Z2 ?_|refine Z3 ?_|refine Z4 ?_|refine Z5 ?_|refine Z9 (by assumption) rfl ?_|refine ZA (by assumption) rfl ?_|refine ZB (by assumption) rfl ?_|refine Z6 ?_|refine Z7 ?_|refine Z8 ?_)|((with_reducible refine ZM ?_ ?_);(focus rfl)));(conv=>whnf)))
      refine HMust.mk (by rw [ba_size]; show _ + 1 ≤ _; omega) ?_
      ((conv=>whnf);repeat((first|(with_reducible first|refine Z1 ?_|refine Z2 ?_|refine Z3 ?_|refine Z4 ?_|refine Z5 ?_|refine Z9 (by assumption) rfl ?_|refine ZA (by assumption) rfl ?_|refine ZB (by assumption) rfl ?_|refine Z6 ?_|refine Z7 ?_|refine Z8 ?_)|((with_reducible refine ZM ?_ ?_);(focus rfl)));(conv=>whnf)))
      refine HMust.mk (by show (_ : List UInt8).length + ((⟨(quoteL ks1[i].data.toList).toArray⟩ : ByteArray) ++ (⟨[58].toArray⟩ : ByteArray)).size ≤ _; rw [app_ba, ba_size]; simp only [List.length_append, List.length_cons, List.length_nil]; omega) ?_
      ((conv=>whnf);repeat((first|(with_reducible first|refine Z1 ?_|refine Z2 ?_|refine Z3 ?_|refine Z4 ?_|refine Z5 ?_|refine Z9 (by assumption) rfl ?_|refine ZA (by assumption) rfl ?_|refine ZB (by assumption) rfl ?_|refine Z6 ?_|refine Z7 ?_|refine Z8 ?_)|((with_reducible refine ZM ?_ ?_);(focus rfl)));(conv=>whnf)))
      refine blk_ldN o8 (by simpa using hal) ?_
      ((conv=>whnf);repeat((first|(with_reducible first|refine Z1 ?_|refine Z2 ?_|refine Z3 ?_|refine Z4 ?_|refine Z5 ?_|refine Z9 (by assumption) rfl ?_|refine ZA (by assumption) rfl ?_|refine ZB (by assumption) rfl ?_|refine Z6 ?_|refine Z7 ?_|refine Z8 ?_)|((with_reducible refine ZM ?_ ?_);(focus rfl)));(conv=>whnf)))
      refine HCall.mk ((ih l1[i] (dt_lt hi1) h8 as' (Rep.ext (x26.trans x8) _ _ ra1) hmi (by omega)).mono ?_)
      rintro e h9 ⟨rfl, x9⟩
      ((conv=>whnf);repeat((first|(with_reducible first|refine Z1 ?_|refine Z2 ?_|refine Z3 ?_|refine Z4 ?_|refine Z5 ?_|refine Z9 (by assumption) rfl ?_|refine ZA (by assumption) rfl ?_|refine ZB (by assumption) rfl ?_|refine Z6 ?_|refine Z7 ?_|refine Z8 ?_)|((with_reducible refine ZM ?_ ?_);(focus rfl)));(conv=>whnf)))
      have ea : ((⟨(commas ((pairs ks1 (txts l1)).take i) ++ (if 0 < i then [44] else [])).toArray⟩ : ByteArray) ++ ((⟨(quoteL ks1[i].data.toList).toArray⟩ : ByteArray) ++ (⟨[58].toArray⟩ : ByteArray))) ++ (⟨(txt l1[i]).toArray⟩ : ByteArray) = ⟨(commas ((pairs ks1 (txts l1)).take (i + 1))).toArray⟩ := by
        rw [app_ba, app_ba, app_ba, hct]; congr 2; simp
      have el : (commas ((pairs ks1 (txts l1)).take (i + 1))).length ≤ 9223372036854775807 := by rw [hct]; simp only [List.length_append, List.length_cons]; omega
      refine HMust.mk ?_ ?_
      · have e2 := congrArg ByteArray.size ea
        rw [ByteArray.size_append, ba_size (commas ((pairs ks1 (txts l1)).take (i + 1)))] at e2
        show ((⟨(commas ((pairs ks1 (txts l1)).take i) ++ (if 0 < i then [44] else [])).toArray⟩ : ByteArray) ++ ((⟨(quoteL ks1[i].data.toList).toArray⟩ : ByteArray) ++ (⟨[58].toArray⟩ : ByteArray))).size + (⟨(txt l1[i]).toArray⟩ : ByteArray).size ≤ _
        omega
      ((conv=>whnf);repeat((first|(with_reducible first|refine Z1 ?_|refine Z2 ?_|refine Z3 ?_|refine Z4 ?_|refine Z5 ?_|refine Z9 (by assumption) rfl ?_|refine ZA (by assumption) rfl ?_|refine ZB (by assumption) rfl ?_|refine Z6 ?_|refine Z7 ?_|refine Z8 ?_)|((with_reducible refine ZM ?_ ?_);(focus rfl)));(conv=>whnf)))
      refine ⟨⟨i + 1, ?_, by omega, x2.trans (x26.trans (x8.trans x9))⟩, hmu⟩
      rw [← ea]; rfl
    · have hge := of_decide_eq_false hlt
      obtain rfl : i = l1.length := by omega
      have hft : (pairs ks1 (txts l1)).take l1.length = (pairs ks1 (txts l1)) := by rw [← hit, List.take_length]
      rw [hft]
      rw [hft] at hcm
      ((conv=>whnf);repeat((first|(with_reducible first|refine Z1 ?_|refine Z2 ?_|refine Z3 ?_|refine Z4 ?_|refine Z5 ?_|refine Z9 (by assumption) rfl ?_|refine ZA (by assumption) rfl ?_|refine ZB (by assumption) rfl ?_|refine Z6 ?_|refine Z7 ?_|refine Z8 ?_)|((with_reducible refine ZM ?_ ?_);(focus rfl)));(conv=>whnf)))
      refine HMust.mk (by show 1 + (commas (pairs ks1 (txts l1))).length ≤ _; omega) ?_
      ((conv=>whnf);repeat((first|(with_reducible first|refine Z1 ?_|refine Z2 ?_|refine Z3 ?_|refine Z4 ?_|refine Z5 ?_|refine Z9 (by assumption) rfl ?_|refine ZA (by assumption) rfl ?_|refine ZB (by assumption) rfl ?_|refine Z6 ?_|refine Z7 ?_|refine Z8 ?_)|((with_reducible refine ZM ?_ ?_);(focus rfl)));(conv=>whnf)))
      refine HMust.mk (by show ((⟨[123].toArray⟩ : ByteArray) ++ (⟨(commas (pairs ks1 (txts l1))).toArray⟩ : ByteArray)).size + 1 ≤ _; rw [app_ba, ba_size]; simp only [List.length_append, List.length_cons, List.length_nil]; omega) ?_
      ((conv=>whnf);repeat((first|(with_reducible first|refine Z1 ?_|refine Z2 ?_|refine Z3 ?_|refine Z4 ?_|refine Z5 ?_|refine Z9 (by assumption) rfl ?_|refine ZA (by assumption) rfl ?_|refine ZB (by assumption) rfl ?_|refine Z6 ?_|refine Z7 ?_|refine Z8 ?_)|((with_reducible refine ZM ?_ ?_);(focus rfl)));(conv=>whnf)))
      refine ⟨?_, x02⟩
      have ea : ((⟨[123].toArray⟩ : ByteArray) ++ (⟨(commas (pairs ks1 (txts l1))).toArray⟩ : ByteArray)) ++ (⟨[125].toArray⟩ : ByteArray) = ⟨(123 :: (commas (pairs ks1 (txts l1)) ++ [125])).toArray⟩ := by
        rw [app_ba, app_ba]; rfl
      rw [← ea]; rfl

theorem rtextT_spec (d : DT) (h : Heap) (cs : List Value) (ra : Rep h d cs) (hvol : vol d ≤ 2097152) (hdeep : deep d ≤ 4611686018427387904) :
    HCalls Tryd.prog 20 #[.agg cs.toArray] h fun e h' => ∃ (n : Int) (s : ByteArray), e = .returned (.tuple #[.string s, .int .i64 n]) ∧ TxtR d n s ∧ Ext h h' := by
  refine c20 (by simp) ?_
  ((conv=>whnf);repeat((first|(with_reducible first|refine Z1 ?_|refine Z2 ?_|refine Z3 ?_|refine Z4 ?_|refine Z5 ?_|refine Z9 (by assumption) rfl ?_|refine ZA (by assumption) rfl ?_|refine ZB (by assumption) rfl ?_|refine Z6 ?_|refine Z7 ?_|refine Z8 ?_)|((with_reducible refine ZM ?_ ?_);(focus rfl)));(conv=>whnf)))
  refine new_var (e := 25) cs rfl ?_
  intro h1 bx ox x1 z1 hbx
  ((conv=>whnf);repeat((first|(with_reducible first|refine Z1 ?_|refine Z2 ?_|refine Z3 ?_|refine Z4 ?_|refine Z5 ?_|refine Z9 (by assumption) rfl ?_|refine ZA (by assumption) rfl ?_|refine ZB (by assumption) rfl ?_|refine Z6 ?_|refine Z7 ?_|refine Z8 ?_)|((with_reducible refine ZM ?_ ?_);(focus rfl)));(conv=>whnf)))
  refine blk_ldN ox ra.len ?_
  ((conv=>whnf);repeat((first|(with_reducible first|refine Z1 ?_|refine Z2 ?_|refine Z3 ?_|refine Z4 ?_|refine Z5 ?_|refine Z9 (by assumption) rfl ?_|refine ZA (by assumption) rfl ?_|refine ZB (by assumption) rfl ?_|refine Z6 ?_|refine Z7 ?_|refine Z8 ?_)|((with_reducible refine ZM ?_ ?_);(focus rfl)));(conv=>whnf)))
  refine HCall.mk ((rcheckD_spec d h1 cs (Rep.ext x1 _ _ ra) (by omega)).mono ?_)
  rintro e h2 ⟨n, rfl, hc, x2⟩
  have x02 := x1.trans x2
  have ox2 := ox.ext x2
  ((conv=>whnf);repeat((first|(with_reducible first|refine Z1 ?_|refine Z2 ?_|refine Z3 ?_|refine Z4 ?_|refine Z5 ?_|refine Z9 (by assumption) rfl ?_|refine ZA (by assumption) rfl ?_|refine ZB (by assumption) rfl ?_|refine Z6 ?_|refine Z7 ?_|refine Z8 ?_)|((with_reducible refine ZM ?_ ?_);(focus rfl)));(conv=>whnf)))
  by_cases hn : n = 0
  · have q : ((n : Int) != 0) = false := by rw [hn]; rfl
    have hm : may d ∧ deep d ≤ 20 := by rcases hc with h | h | h <;> first | exact ⟨h.1, h.2.1⟩ | (have := h.2.2; omega) | (have := h.2; omega)
    ((conv=>whnf);repeat((first|(with_reducible first|refine Z1 ?_|refine Z2 ?_|refine Z3 ?_|refine Z4 ?_|refine Z5 ?_|refine Z9 (by assumption) rfl ?_|refine ZA (by assumption) rfl ?_|refine ZB (by assumption) rfl ?_|refine Z6 ?_|refine Z7 ?_|refine Z8 ?_)|((with_reducible refine ZM ?_ ?_);(focus rfl)));(conv=>whnf)))
    refine blk_ldN ox2 ra.len ?_
    ((conv=>whnf);repeat((first|(with_reducible first|refine Z1 ?_|refine Z2 ?_|refine Z3 ?_|refine Z4 ?_|refine Z5 ?_|refine Z9 (by assumption) rfl ?_|refine ZA (by assumption) rfl ?_|refine ZB (by assumption) rfl ?_|refine Z6 ?_|refine Z7 ?_|refine Z8 ?_)|((with_reducible refine ZM ?_ ?_);(focus rfl)));(conv=>whnf)))
    refine HCall.mk ((rtext_spec d h2 cs (Rep.ext x02 _ _ ra) hm.1 hvol).mono ?_)
    rintro e h3 ⟨rfl, x3⟩
    ((conv=>whnf);repeat((first|(with_reducible first|refine Z1 ?_|refine Z2 ?_|refine Z3 ?_|refine Z4 ?_|refine Z5 ?_|refine Z9 (by assumption) rfl ?_|refine ZA (by assumption) rfl ?_|refine ZB (by assumption) rfl ?_|refine Z6 ?_|refine Z7 ?_|refine Z8 ?_)|((with_reducible refine ZM ?_ ?_);(focus rfl)));(conv=>whnf)))
    exact ⟨0, _, rfl, ⟨by rw [← hn]; exact hc, by rw [if_pos rfl]⟩, x02.trans x3⟩
  · have q : ((n : Int) != 0) = true := bne_iff_ne.2 hn
    ((conv=>whnf);repeat((first|(with_reducible first|refine Z1 ?_|refine Z2 ?_|refine Z3 ?_|refine Z4 ?_|refine Z5 ?_|refine Z9 (by assumption) rfl ?_|refine ZA (by assumption) rfl ?_|refine ZB (by assumption) rfl ?_|refine Z6 ?_|refine Z7 ?_|refine Z8 ?_)|((with_reducible refine ZM ?_ ?_);(focus rfl)));(conv=>whnf)))
    exact ⟨n, _, rfl, ⟨hc, by rw [if_neg hn]⟩, x02⟩

end Go.Proofs.YtmibnfjjlibpgaaDoor.Hc
