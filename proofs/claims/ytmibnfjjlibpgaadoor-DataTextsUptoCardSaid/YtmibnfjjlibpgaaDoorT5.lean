/- A value's text, by the program: the walk. -/
import Derived.Test.YtmibnfjjlibpgaaDoorT4
import Derived.Test.YtmibnfjjlibpgaaDoorAB
set_option linter.unusedVariables false
set_option linter.unusedSimpArgs false
namespace Go.Proofs.YtmibnfjjlibpgaaDoor.Hc
open Go Go.H Go.Proofs
set_option maxRecDepth 100000
set_option maxHeartbeats 8000000

theorem fbool_spec (t : Bool) (h : Heap) : HCalls Tryd.prog 40 #[.bool t] h fun e h' => e = .returned (.string ⟨(if t then [116, 114, 117, 101] else [102, 97, 108, 115, 101] : List UInt8).toArray⟩) ∧ h' = h := by
  refine c40 (by simp) ?_
  ((conv=>whnf);repeat((first|(with_reducible first|refine Z1 ?_|refine Z2 ?_|refine Z3 ?_|refine Z4 ?_|refine Z5 ?_|refine Z9 (by assumption) rfl ?_|refine ZA (by assumption) rfl ?_|refine ZB (by assumption) rfl ?_|refine Z6 ?_|refine Z7 ?_|refine Z8 ?_)|((with_reducible refine ZM ?_ ?_);(focus rfl)));(conv=>whnf)))
  refine HCall.mk (?_ : HCalls _ _ _ _ _)
  refine c48 (by simp) ?_
  cases t
  · ((conv=>whnf);repeat((first|(with_reducible first|refine Z1 ?_|refine Z2 ?_|refine Z3 ?_|refine Z4 ?_|refine Z5 ?_|refine Z9 (by assumption) rfl ?_|refine ZA (by assumption) rfl ?_|refine ZB (by assumption) rfl ?_|refine Z6 ?_|refine Z7 ?_|refine Z8 ?_)|((with_reducible refine ZM ?_ ?_);(focus rfl)));(conv=>whnf)))
    exact ⟨rfl, rfl⟩
  · ((conv=>whnf);repeat((first|(with_reducible first|refine Z1 ?_|refine Z2 ?_|refine Z3 ?_|refine Z4 ?_|refine Z5 ?_|refine Z9 (by assumption) rfl ?_|refine ZA (by assumption) rfl ?_|refine ZB (by assumption) rfl ?_|refine Z6 ?_|refine Z7 ?_|refine Z8 ?_)|((with_reducible refine ZM ?_ ?_);(focus rfl)));(conv=>whnf)))
    exact ⟨rfl, rfl⟩
theorem txts_get (l : List DT) (i : Nat) (hi : i < l.length) (h2 : i < (txts l).length) : (txts l)[i] = txt l[i] := by
  simp only [txts_map, List.getElem_map]

theorem vols_take : ∀ (l : List DT) (i : Nat) (hi : i < l.length), vols (l.take i) + vol l[i] ≤ vols l
  | [], i, hi => by simp at hi
  | d :: r, 0, _ => by simp [vols]
  | d :: r, i + 1, hi => by
    have := vols_take r i (by simpa using hi)
    simp only [List.take_succ_cons, vols, List.getElem_cons_succ]; omega
theorem kvol_take : ∀ (l : List ByteArray) (i : Nat) (hi : i < l.length), kvol (l.take i) + (l[i].size + 1) ≤ kvol l
  | [], i, hi => by simp at hi
  | d :: r, 0, _ => by simp [kvol]
  | d :: r, i + 1, hi => by
    have := kvol_take r i (by simpa using hi)
    simp only [List.take_succ_cons, kvol, List.getElem_cons_succ]; omega
theorem room_list (l : List DT) (hm : mays l) (i : Nat) (hi : i < l.length) : (commas ((txts l).take i)).length + 40 * vol l[i] ≤ 40 * vols l := by
  have e : (txts l).take i = txts (l.take i) := by rw [txts_map, txts_map, List.map_take]
  have hm' : mays (l.take i) := (mays_iff _).2 fun d hd => (mays_iff _).1 hm d (List.mem_of_mem_take hd)
  have h1 := commas_len (txts (l.take i))
  have h2 := txtsl_len (l.take i) hm'
  have h3 := txts_len (l.take i)
  have h4 := vols_take l i hi
  rw [e]; omega
theorem room_rec (ks : List ByteArray) (l : List DT) (hm : mays l) (i : Nat) (hi : i < l.length) (hk : i < ks.length) : (commas ((pairs ks (txts l)).take i)).length + (quoteL ks[i].data.toList).length + 1 + 40 * vol l[i] ≤ 40 * vols l + 3 * kvol ks := by
  have e : (pairs ks (txts l)).take i = pairs (ks.take i) (txts (l.take i)) := by unfold pairs; rw [List.take_zipWith, txts_map, txts_map, List.map_take]
  have hm' : mays (l.take i) := (mays_iff _).2 fun d hd => (mays_iff _).1 hm d (List.mem_of_mem_take hd)
  have h1 := commas_len (pairs (ks.take i) (txts (l.take i)))
  have h2 := txtsl_len (l.take i) hm'
  have h3 := txts_len (l.take i)
  have h4 := vols_take l i hi
  have h5 := kvol_take ks i hk
  have h6 := pairs_flat (ks.take i) (txts (l.take i))
  have h7 : (pairs (ks.take i) (txts (l.take i))).length ≤ (txts (l.take i)).length := by unfold pairs; rw [List.length_zipWith]; omega
  have h8 := quoteL_len ks[i].data.toList
  have h9 : ks[i].data.toList.length = ks[i].size := rfl
  rw [e]; omega

theorem value_spec : ∀ (d : DT) (h0 : Heap) (cs : List Value), Rep h0 d cs → may d → vol d ≤ 2097152 → Glob h0 → ∀ (h : Heap) (b : Nat) (a : Option Addr) (bs : List UInt8), h0.size ≤ b → Ext h0 h → Bld h b a bs → bs.length + 40 * vol d ≤ 140737488355328 →
    HCalls Tryd.prog 31 #[.pointer (some ⟨b, 0, none⟩), .agg cs.toArray] h fun e h' => e = .returned (.tuple #[]) ∧ ∃ a', Bld h' b a' (bs ++ txt d) ∧ GB b h a h' a' := by
  intro d
  induction d using (measure (fun d : DT => SizeOf.sizeOf d)).wf.induction with
  | _ d ih =>
  intro h0 cs ra hm hvol gl h b a bs hb x0 w hbs
  have htl := txt_len d hm
  obtain ⟨k1, n1, s1, ks1, l1⟩ := d
  have hm0 := hm
  simp only [Rep] at ra
  obtain ⟨a1, a2, a3, a4, a5, a6, ka, kc, la, lc, xs, rfl, a7, a8, a9⟩ := ra
  simp only [may] at hm
  simp only [vol] at hvol hbs htl
  have wlt := w.lt
  have wbl := w.blt
  refine c31 (by simp) ?_
  ((conv=>whnf);repeat((first|(with_reducible first|refine Z1 ?_|refine Z2 ?_|refine Z3 ?_|refine Z4 ?_|refine Z5 ?_|refine Z9 (by assumption) rfl ?_|refine ZA (by assumption) rfl ?_|refine ZB (by assumption) rfl ?_|refine Z6 ?_|refine Z7 ?_|refine Z8 ?_)|((with_reducible refine ZM ?_ ?_);(focus rfl)));(conv=>whnf)))
  refine new_var (e := 25) [.int .i64 k1, .int .i64 n1, .string s1, .slice ka ks1.length kc, .slice la l1.length lc] rfl ?_
  intro h1 bx ox x1 z1 hbx
  have x01 := x0.trans x1
  have w1 := w.ext x1
  have wlt1 := w1.lt
  have G1 : GB b h a h1 a := GB.of_ext x1 _
  have hsz := x0.1
  rcases hm.1 with ⟨hk | hk, hrest⟩ | ⟨hk, hn, hrest⟩ | ⟨hk, hn, hrest⟩ | ⟨hk, hn0, hev, hrest⟩ | ⟨hk, hrest⟩ | ⟨hk, hn0, hs0, hg⟩
  · subst hk
    ((conv=>whnf);repeat((first|(with_reducible first|refine Z1 ?_|refine Z2 ?_|refine Z3 ?_|refine Z4 ?_|refine Z5 ?_|refine Z9 (by assumption) rfl ?_|refine ZA (by assumption) rfl ?_|refine ZB (by assumption) rfl ?_|refine Z6 ?_|refine Z7 ?_|refine Z8 ?_)|((with_reducible refine ZM ?_ ?_);(focus rfl)));(conv=>whnf)))
    have bl10 := w1.blt
    have la10 := w1.lt
    refine new_var (e := 9) [.string ⟨([117, 110, 100, 101, 102, 105, 110, 101, 100] : List UInt8).toArray⟩] rfl ?_
    intro h10 k10 o10 x10 z10 hk10
    ((conv=>whnf);repeat((first|(with_reducible first|refine Z2 ?_|refine Z3 ?_|refine Z4 ?_|refine Z5 ?_|refine Z9 (by assumption) rfl ?_|refine ZA (by assumption) rfl ?_|refine ZB (by assumption) rfl ?_|refine Z6 ?_|refine Z7 ?_|refine Z8 ?_)|((with_reducible refine ZM ?_ ?_);(focus rfl)));(conv=>whnf)))
    refine HCall.mk ((lay_spec (w1.ext x10) [[117, 110, 100, 101, 102, 105, 110, 101, 100]] o10 (by omega) (fun p ep => by have := la10 p ep; omega) rfl (by simp) (by simp; omega)).mono ?_)
    rintro e h11 ⟨rfl, a11, w11, g11⟩
    replace g11 := (GB.of_ext (b := b) x10 _).trans g11
    ((conv=>whnf);repeat((first|(with_reducible first|refine Z1 ?_|refine Z2 ?_|refine Z3 ?_|refine Z4 ?_|refine Z5 ?_|refine Z9 (by assumption) rfl ?_|refine ZA (by assumption) rfl ?_|refine ZB (by assumption) rfl ?_|refine Z6 ?_|refine Z7 ?_|refine Z8 ?_)|((with_reducible refine ZM ?_ ?_);(focus rfl)));(conv=>whnf)))
    exact ⟨rfl, _, w11, G1.trans g11⟩
  · subst hk
    ((conv=>whnf);repeat((first|(with_reducible first|refine Z1 ?_|refine Z2 ?_|refine Z3 ?_|refine Z4 ?_|refine Z5 ?_|refine Z9 (by assumption) rfl ?_|refine ZA (by assumption) rfl ?_|refine ZB (by assumption) rfl ?_|refine Z6 ?_|refine Z7 ?_|refine Z8 ?_)|((with_reducible refine ZM ?_ ?_);(focus rfl)));(conv=>whnf)))
    have bl12 := w1.blt
    have la12 := w1.lt
    refine new_var (e := 9) [.string ⟨([110, 117, 108, 108] : List UInt8).toArray⟩] rfl ?_
    intro h12 k12 o12 x12 z12 hk12
    ((conv=>whnf);repeat((first|(with_reducible first|refine Z2 ?_|refine Z3 ?_|refine Z4 ?_|refine Z5 ?_|refine Z9 (by assumption) rfl ?_|refine ZA (by assumption) rfl ?_|refine ZB (by assumption) rfl ?_|refine Z6 ?_|refine Z7 ?_|refine Z8 ?_)|((with_reducible refine ZM ?_ ?_);(focus rfl)));(conv=>whnf)))
    refine HCall.mk ((lay_spec (w1.ext x12) [[110, 117, 108, 108]] o12 (by omega) (fun p ep => by have := la12 p ep; omega) rfl (by simp) (by simp; omega)).mono ?_)
    rintro e h13 ⟨rfl, a13, w13, g13⟩
    replace g13 := (GB.of_ext (b := b) x12 _).trans g13
    ((conv=>whnf);repeat((first|(with_reducible first|refine Z1 ?_|refine Z2 ?_|refine Z3 ?_|refine Z4 ?_|refine Z5 ?_|refine Z9 (by assumption) rfl ?_|refine ZA (by assumption) rfl ?_|refine ZB (by assumption) rfl ?_|refine Z6 ?_|refine Z7 ?_|refine Z8 ?_)|((with_reducible refine ZM ?_ ?_);(focus rfl)));(conv=>whnf)))
    exact ⟨rfl, _, w13, G1.trans g13⟩
  · subst hk
    ((conv=>whnf);repeat((first|(with_reducible first|refine Z1 ?_|refine Z2 ?_|refine Z3 ?_|refine Z4 ?_|refine Z5 ?_|refine Z9 (by assumption) rfl ?_|refine ZA (by assumption) rfl ?_|refine ZB (by assumption) rfl ?_|refine Z6 ?_|refine Z7 ?_|refine Z8 ?_)|((with_reducible refine ZM ?_ ?_);(focus rfl)));(conv=>whnf)))
    refine HCall.mk ((fbool_spec (n1 == 1) h1).mono ?_)
    rintro e h1 ⟨rfl, rfl⟩
    ((conv=>whnf);repeat((first|(with_reducible first|refine Z1 ?_|refine Z2 ?_|refine Z3 ?_|refine Z4 ?_|refine Z5 ?_|refine Z9 (by assumption) rfl ?_|refine ZA (by assumption) rfl ?_|refine ZB (by assumption) rfl ?_|refine Z6 ?_|refine Z7 ?_|refine Z8 ?_)|((with_reducible refine ZM ?_ ?_);(focus rfl)));(conv=>whnf)))
    have bl14 := w1.blt
    have la14 := w1.lt
    refine new_var (e := 9) [.string ⟨((if (n1 == 1) then [116, 114, 117, 101] else [102, 97, 108, 115, 101]) : List UInt8).toArray⟩] rfl ?_
    intro h14 k14 o14 x14 z14 hk14
    ((conv=>whnf);repeat((first|(with_reducible first|refine Z2 ?_|refine Z3 ?_|refine Z4 ?_|refine Z5 ?_|refine Z9 (by assumption) rfl ?_|refine ZA (by assumption) rfl ?_|refine ZB (by assumption) rfl ?_|refine Z6 ?_|refine Z7 ?_|refine Z8 ?_)|((with_reducible refine ZM ?_ ?_);(focus rfl)));(conv=>whnf)))
    refine HCall.mk ((lay_spec (w1.ext x14) [(if (n1 == 1) then [116, 114, 117, 101] else [102, 97, 108, 115, 101])] o14 (by omega) (fun p ep => by have := la14 p ep; omega) rfl (by simp) (by simp only [List.flatten_cons, List.flatten_nil, List.append_nil]; split <;> simp <;> omega)).mono ?_)
    rintro e h15 ⟨rfl, a15, w15, g15⟩
    replace g15 := (GB.of_ext (b := b) x14 _).trans g15
    ((conv=>whnf);repeat((first|(with_reducible first|refine Z1 ?_|refine Z2 ?_|refine Z3 ?_|refine Z4 ?_|refine Z5 ?_|refine Z9 (by assumption) rfl ?_|refine ZA (by assumption) rfl ?_|refine ZB (by assumption) rfl ?_|refine Z6 ?_|refine Z7 ?_|refine Z8 ?_)|((with_reducible refine ZM ?_ ?_);(focus rfl)));(conv=>whnf)))
    refine ⟨rfl, _, ?_, G1.trans g15⟩
    have et : txt (.mk 2 n1 s1 ks1 l1) = (if (n1 == 1) then [116, 114, 117, 101] else [102, 97, 108, 115, 101]) := by
      simp only [txt, beq_iff_eq]; rfl
    rw [et]
    simpa using w15
  · subst hk
    have hil := itoa_len n1 (by omega) (by omega)
    ((conv=>whnf);repeat((first|(with_reducible first|refine Z1 ?_|refine Z2 ?_|refine Z3 ?_|refine Z4 ?_|refine Z5 ?_|refine Z9 (by assumption) rfl ?_|refine ZA (by assumption) rfl ?_|refine ZB (by assumption) rfl ?_|refine Z6 ?_|refine Z7 ?_|refine Z8 ?_)|((with_reducible refine ZM ?_ ?_);(focus rfl)));(conv=>whnf)))
    refine HCall.mk ((fmt10_spec n1 (by omega) (by omega) h1 (gl.1.ext x01)).mono ?_)
    rintro e hq ⟨rfl, xq⟩
    have wq := w1.ext xq
    ((conv=>whnf);repeat((first|(with_reducible first|refine Z1 ?_|refine Z2 ?_|refine Z3 ?_|refine Z4 ?_|refine Z5 ?_|refine Z9 (by assumption) rfl ?_|refine ZA (by assumption) rfl ?_|refine ZB (by assumption) rfl ?_|refine Z6 ?_|refine Z7 ?_|refine Z8 ?_)|((with_reducible refine ZM ?_ ?_);(focus rfl)));(conv=>whnf)))
    have bl16 := wq.blt
    have la16 := wq.lt
    refine new_var (e := 9) [.string ⟨(Lib.itoa n1 : List UInt8).toArray⟩] rfl ?_
    intro h16 k16 o16 x16 z16 hk16
    ((conv=>whnf);repeat((first|(with_reducible first|refine Z2 ?_|refine Z3 ?_|refine Z4 ?_|refine Z5 ?_|refine Z9 (by assumption) rfl ?_|refine ZA (by assumption) rfl ?_|refine ZB (by assumption) rfl ?_|refine Z6 ?_|refine Z7 ?_|refine Z8 ?_)|((with_reducible refine ZM ?_ ?_);(focus rfl)));(conv=>whnf)))
    refine HCall.mk ((lay_spec (wq.ext x16) [Lib.itoa n1] o16 (by omega) (fun p ep => by have := la16 p ep; omega) rfl (by simp) (by simp only [List.flatten_cons, List.flatten_nil, List.append_nil]; omega)).mono ?_)
    rintro e h17 ⟨rfl, a17, w17, g17⟩
    replace g17 := (GB.of_ext (b := b) x16 _).trans g17
    ((conv=>whnf);repeat((first|(with_reducible first|refine Z1 ?_|refine Z2 ?_|refine Z3 ?_|refine Z4 ?_|refine Z5 ?_|refine Z9 (by assumption) rfl ?_|refine ZA (by assumption) rfl ?_|refine ZB (by assumption) rfl ?_|refine Z6 ?_|refine Z7 ?_|refine Z8 ?_)|((with_reducible refine ZM ?_ ?_);(focus rfl)));(conv=>whnf)))
    refine ⟨rfl, _, ?_, (G1.trans (GB.of_ext xq _)).trans g17⟩
    have et : txt (.mk 3 n1 s1 ks1 l1) = Lib.itoa n1 := by simp only [txt]; rfl
    rw [et]
    simpa using w17
  · subst hk
    have hql := quoteL_len s1.data.toList
    have hsl : s1.data.toList.length = s1.size := rfl
    ((conv=>whnf);repeat((first|(with_reducible first|refine Z1 ?_|refine Z2 ?_|refine Z3 ?_|refine Z4 ?_|refine Z5 ?_|refine Z9 (by assumption) rfl ?_|refine ZA (by assumption) rfl ?_|refine ZB (by assumption) rfl ?_|refine Z6 ?_|refine Z7 ?_|refine Z8 ?_)|((with_reducible refine ZM ?_ ?_);(focus rfl)));(conv=>whnf)))
    refine HCall.mk ((quoted_spec s1.data.toList (by omega) hev h1 (gl.2.ext x01)).mono ?_)
    rintro e hq ⟨rfl, xq⟩
    have wq := w1.ext xq
    ((conv=>whnf);repeat((first|(with_reducible first|refine Z1 ?_|refine Z2 ?_|refine Z3 ?_|refine Z4 ?_|refine Z5 ?_|refine Z9 (by assumption) rfl ?_|refine ZA (by assumption) rfl ?_|refine ZB (by assumption) rfl ?_|refine Z6 ?_|refine Z7 ?_|refine Z8 ?_)|((with_reducible refine ZM ?_ ?_);(focus rfl)));(conv=>whnf)))
    have bl18 := wq.blt
    have la18 := wq.lt
    refine new_var (e := 9) [.string ⟨(quoteL s1.data.toList : List UInt8).toArray⟩] rfl ?_
    intro h18 k18 o18 x18 z18 hk18
    ((conv=>whnf);repeat((first|(with_reducible first|refine Z2 ?_|refine Z3 ?_|refine Z4 ?_|refine Z5 ?_|refine Z9 (by assumption) rfl ?_|refine ZA (by assumption) rfl ?_|refine ZB (by assumption) rfl ?_|refine Z6 ?_|refine Z7 ?_|refine Z8 ?_)|((with_reducible refine ZM ?_ ?_);(focus rfl)));(conv=>whnf)))
    refine HCall.mk ((lay_spec (wq.ext x18) [quoteL s1.data.toList] o18 (by omega) (fun p ep => by have := la18 p ep; omega) rfl (by simp) (by simp only [List.flatten_cons, List.flatten_nil, List.append_nil]; omega)).mono ?_)
    rintro e h19 ⟨rfl, a19, w19, g19⟩
    replace g19 := (GB.of_ext (b := b) x18 _).trans g19
    ((conv=>whnf);repeat((first|(with_reducible first|refine Z1 ?_|refine Z2 ?_|refine Z3 ?_|refine Z4 ?_|refine Z5 ?_|refine Z9 (by assumption) rfl ?_|refine ZA (by assumption) rfl ?_|refine ZB (by assumption) rfl ?_|refine Z6 ?_|refine Z7 ?_|refine Z8 ?_)|((with_reducible refine ZM ?_ ?_);(focus rfl)));(conv=>whnf)))
    refine ⟨rfl, _, ?_, (G1.trans (GB.of_ext xq _)).trans g19⟩
    have et : txt (.mk 4 n1 s1 ks1 l1) = quoteL s1.data.toList := by simp only [txt]; rfl
    rw [et]
    simpa using w19
  · subst hk
    have hit : (txts l1).length = l1.length := by exact txts_len l1
    have et : txt (.mk 5 n1 s1 ks1 l1) = 91 :: (commas (txts l1) ++ [93]) := by simp only [txt]; rfl
    rw [et] at htl ⊢
    simp only [List.length_cons, List.length_append, List.length_nil] at htl
    ((conv=>whnf);repeat((first|(with_reducible first|refine Z1 ?_|refine Z2 ?_|refine Z3 ?_|refine Z4 ?_|refine Z5 ?_|refine Z9 (by assumption) rfl ?_|refine ZA (by assumption) rfl ?_|refine ZB (by assumption) rfl ?_|refine Z6 ?_|refine Z7 ?_|refine Z8 ?_)|((with_reducible refine ZM ?_ ?_);(focus rfl)));(conv=>whnf)))
    have bl20 := w1.blt
    have la20 := w1.lt
    refine new_var (e := 9) [.string ⟨([91] : List UInt8).toArray⟩] rfl ?_
    intro h20 k20 o20 x20 z20 hk20
    ((conv=>whnf);repeat((first|(with_reducible first|refine Z2 ?_|refine Z3 ?_|refine Z4 ?_|refine Z5 ?_|refine Z9 (by assumption) rfl ?_|refine ZA (by assumption) rfl ?_|refine ZB (by assumption) rfl ?_|refine Z6 ?_|refine Z7 ?_|refine Z8 ?_)|((with_reducible refine ZM ?_ ?_);(focus rfl)));(conv=>whnf)))
    refine HCall.mk ((lay_spec (w1.ext x20) [[91]] o20 (by omega) (fun p ep => by have := la20 p ep; omega) rfl (by simp) (by simp; omega)).mono ?_)
    rintro e h21 ⟨rfl, a21, w21, g21⟩
    replace g21 := (GB.of_ext (b := b) x20 _).trans g21
    have Gs := G1.trans g21
    have ws := w21
    simp only [List.flatten_cons, List.flatten_nil, List.append_nil] at ws
    have oxs := g21.blk ox (by omega) (fun p ep => by have := wlt p ep; omega)
    have gs := g21
    have xs0 := gs.keep x01 w1 hb
    ((conv=>whnf);repeat((first|(with_reducible first|refine Z1 ?_|refine Z2 ?_|refine Z3 ?_|refine Z4 ?_|refine Z5 ?_|refine Z9 (by assumption) rfl ?_|refine ZA (by assumption) rfl ?_|refine ZB (by assumption) rfl ?_|refine Z6 ?_|refine Z7 ?_|refine Z8 ?_)|((with_reducible refine ZM ?_ ?_);(focus rfl)));(conv=>whnf)))
    refine loop_rule [85] (fun vs h' => ∃ (i : Nat) (a' : Option Addr), vs = [.int .i64 i] ∧ i ≤ l1.length ∧ Bld h' b a' (bs ++ [91] ++ commas ((txts l1).take i)) ∧ GB b h1 a h' a')
      (fun vs _ => match vs with | [.int _ i] => l1.length - i.toNat | _ => 0) rfl ?_ ?_
    · exact ⟨0, _, rfl, by omega, by simpa [commas_nil] using ws, gs⟩
    intro u h2 v85
    rintro ⟨i, a2, e, hi, w2, g2⟩
    cases e
    have x02 := g2.keep x01 w1 hb
    have ox2 := g2.blk ox (by omega) (fun p ep => by have := wlt p ep; omega)
    have hcm := commas_mono (txts l1) i
    ((conv=>whnf);repeat((first|(with_reducible first|refine Z1 ?_|refine Z2 ?_|refine Z3 ?_|refine Z4 ?_|refine Z5 ?_|refine Z9 (by assumption) rfl ?_|refine ZA (by assumption) rfl ?_|refine ZB (by assumption) rfl ?_|refine Z6 ?_|refine Z7 ?_|refine Z8 ?_)|((with_reducible refine ZM ?_ ?_);(focus rfl)));(conv=>whnf)))
    refine HIf.mk (fun hlt => ?_) (fun hlt => ?_)
    · have hi1 : i < l1.length := by have := of_decide_eq_true hlt; omega
      have hmu : l1.length - ((i : Int) + 1).toNat < l1.length - ((i : Int)).toNat := by omega
      have hvi := vols_mem l1 l1[i] (List.getElem_mem hi1)
      have hmi : may l1[i] := (mays_iff l1).1 hm.2 _ (List.getElem_mem hi1)
      have hti := txt_len l1[i] hmi
      have hct := commas_take (txts l1) i (by omega)
      have hcm1 := commas_mono (txts l1) (i + 1)
      have hroom := room_list l1 hm.2 i hi1
      rw [hct] at hcm1
      simp only [List.length_append] at hcm1
      ((conv=>whnf);repeat((first|(with_reducible first|refine Z1 ?_|refine Z2 ?_|refine Z3 ?_|refine Z4 ?_|refine Z5 ?_|refine Z9 (by assumption) rfl ?_|refine ZA (by assumption) rfl ?_|refine ZB (by assumption) rfl ?_|refine Z6 ?_|refine Z7 ?_|refine Z8 ?_)|((with_reducible refine ZM ?_ ?_);(focus rfl)));(conv=>whnf)))
      refine HIdx.mk i rfl hi1 ?_
      refine sl_some a8 hi1 fun p ep => ?_
      ((conv=>whnf);repeat((first|(with_reducible first|refine Z1 ?_|refine Z2 ?_|refine Z3 ?_|refine Z4 ?_|refine Z5 ?_|refine Z9 (by assumption) rfl ?_|refine ZA (by assumption) rfl ?_|refine ZB (by assumption) rfl ?_|refine Z6 ?_|refine Z7 ?_|refine Z8 ?_)|((with_reducible refine ZM ?_ ?_);(focus rfl)));(conv=>whnf)))
      refine a8.loadRep0 a9 x02 ep hi1 fun as' ra1 => ?_
      ((conv=>whnf);repeat((first|(with_reducible first|refine Z1 ?_|refine Z2 ?_|refine Z3 ?_|refine Z4 ?_|refine Z5 ?_|refine Z9 (by assumption) rfl ?_|refine ZA (by assumption) rfl ?_|refine ZB (by assumption) rfl ?_|refine Z6 ?_|refine Z7 ?_|refine Z8 ?_)|((with_reducible refine ZM ?_ ?_);(focus rfl)));(conv=>whnf)))
      refine new_var (e := 25) zeroD rfl ?_
      intro h5 b5 o5 x5 z5 hb5
      ((conv=>whnf);repeat((first|(with_reducible first|refine Z1 ?_|refine Z2 ?_|refine Z3 ?_|refine Z4 ?_|refine Z5 ?_|refine Z9 (by assumption) rfl ?_|refine ZA (by assumption) rfl ?_|refine ZB (by assumption) rfl ?_|refine Z6 ?_|refine Z7 ?_|refine Z8 ?_)|((with_reducible refine ZM ?_ ?_);(focus rfl)));(conv=>whnf)))
      have hal := ra1.len
      refine HMust.mk (by simpa using hal) ?_
      refine store_new o5 (by simp [hal]) (by simpa using ra1.one) ?_
      intro h6 f6 z6 o6
      have x26 : Ext h2 h6 := x5.offNew f6 (by omega)
      have w6 := w2.ext x26
      have ox6 := ox2.ext x26
      have w6lt := w6.lt
      have w2lt := w2.lt
      have w2bl := w2.blt
      have ox2lt := ox2.lt
      have x06 := x02.trans x26
      have hs26 := x26.1
      have hx2 := x02.1
      ((conv=>whnf);repeat((first|(with_reducible first|refine Z2 ?_|refine Z3 ?_|refine Z4 ?_|refine Z5 ?_|refine Z9 (by assumption) rfl ?_|refine ZA (by assumption) rfl ?_|refine ZB (by assumption) rfl ?_|refine Z6 ?_|refine Z7 ?_|refine Z8 ?_)|((with_reducible refine ZM ?_ ?_);(focus rfl)));(conv=>whnf)))
      refine cut_rule [] (fun vs h' => vs = [] ∧ ∃ a', Bld h' b a' (bs ++ [91] ++ commas ((txts l1).take i) ++ (if 0 < i then [44] else [])) ∧ GB b h6 a2 h' a') rfl ?_ ?_
      · by_cases hi0 : 0 < i
        · have q : decide ((i : Int) > 0) = true := decide_eq_true (by omega)
          ((conv=>whnf);repeat((first|(with_reducible first|refine Z1 ?_|refine Z2 ?_|refine Z3 ?_|refine Z4 ?_|refine Z5 ?_|refine Z9 (by assumption) rfl ?_|refine ZA (by assumption) rfl ?_|refine ZB (by assumption) rfl ?_|refine Z6 ?_|refine Z7 ?_|refine Z8 ?_)|((with_reducible refine ZM ?_ ?_);(focus rfl)));(conv=>whnf)))
          have bl22 := w6.blt
          have la22 := w6.lt
          refine new_var (e := 9) [.string ⟨([44] : List UInt8).toArray⟩] rfl ?_
          intro h22 k22 o22 x22 z22 hk22
          ((conv=>whnf);repeat((first|(with_reducible first|refine Z2 ?_|refine Z3 ?_|refine Z4 ?_|refine Z5 ?_|refine Z9 (by assumption) rfl ?_|refine ZA (by assumption) rfl ?_|refine ZB (by assumption) rfl ?_|refine Z6 ?_|refine Z7 ?_|refine Z8 ?_)|((with_reducible refine ZM ?_ ?_);(focus rfl)));(conv=>whnf)))
          refine HCall.mk ((lay_spec (w6.ext x22) [[44]] o22 (by omega) (fun p ep => by have := la22 p ep; omega) rfl (by simp) (by simp only [List.length_append, List.length_cons, List.length_nil, List.flatten_cons, List.flatten_nil]; omega)).mono ?_)
          rintro e h23 ⟨rfl, a23, w23, g23⟩
          replace g23 := (GB.of_ext (b := b) x22 _).trans g23
          ((conv=>whnf);repeat((first|(with_reducible first|refine Z1 ?_|refine Z2 ?_|refine Z3 ?_|refine Z4 ?_|refine Z5 ?_|refine Z9 (by assumption) rfl ?_|refine ZA (by assumption) rfl ?_|refine ZB (by assumption) rfl ?_|refine Z6 ?_|refine Z7 ?_|refine Z8 ?_)|((with_reducible refine ZM ?_ ?_);(focus rfl)));(conv=>whnf)))
          rw [if_pos hi0]
          exact ⟨rfl, _, by simpa using w23, g23⟩
        · have q : decide ((i : Int) > 0) = false := decide_eq_false (by omega)
          ((conv=>whnf);repeat((first|(with_reducible first|refine Z1 ?_|refine Z2 ?_|refine Z3 ?_|refine Z4 ?_|refine Z5 ?_|refine Z9 (by assumption) rfl ?_|refine ZA (by assumption) rfl ?_|refine ZB (by assumption) rfl ?_|refine Z6 ?_|refine Z7 ?_|refine Z8 ?_)|((with_reducible refine ZM ?_ ?_);(focus rfl)));(conv=>whnf)))
          rw [if_neg hi0]
          exact ⟨rfl, _, by simpa using w6, GB.refl _ _ _⟩
      intro u h7
      rintro ⟨e, aa7, w7, g7⟩
      cases e
      have x07 := g7.keep x06 w6 hb
      have hna : ∀ p, a2 = some p → p.block ≠ bx := by
        intro p ep
        rcases g2.2.2 p ep with ⟨q, eq, hq⟩ | hq
        · have := wlt q eq; omega
        · omega
      have ox7 := g7.blk ox6 (by omega) hna
      have o7 := g7.blk o6 (by omega) (fun p ep => by have := w2lt p ep; omega)
      have g27 : GB b h2 a2 h7 aa7 := (GB.of_ext x26 _).trans g7
      have hx7 := x07.1
      have hpg := txts_get l1 i hi1 (by omega)
      rw [hpg] at hcm1 hct
      ((conv=>whnf);repeat((first|(with_reducible first|refine Z1 ?_|refine Z2 ?_|refine Z3 ?_|refine Z4 ?_|refine Z5 ?_|refine Z9 (by assumption) rfl ?_|refine ZA (by assumption) rfl ?_|refine ZB (by assumption) rfl ?_|refine Z6 ?_|refine Z7 ?_|refine Z8 ?_)|((with_reducible refine ZM ?_ ?_);(focus rfl)));(conv=>whnf)))
      have o9 := o7
      have wv := w7
      have gv := g27
      have x0v := x07
      refine blk_ldN o9 (by simpa using hal) ?_
      ((conv=>whnf);repeat((first|(with_reducible first|refine Z1 ?_|refine Z2 ?_|refine Z3 ?_|refine Z4 ?_|refine Z5 ?_|refine Z9 (by assumption) rfl ?_|refine ZA (by assumption) rfl ?_|refine ZB (by assumption) rfl ?_|refine Z6 ?_|refine Z7 ?_|refine Z8 ?_)|((with_reducible refine ZM ?_ ?_);(focus rfl)));(conv=>whnf)))
      refine HCall.mk ((ih l1[i] (dt_lt hi1) h0 as' ra1 hmi (by omega) gl _ b _ _ hb x0v wv ?_).mono ?_)
      · simp only [List.length_append, List.length_cons, List.length_nil]; split <;> simp only [List.length_cons, List.length_nil] <;> omega
      rintro e h9 ⟨rfl, a9', w9, g9⟩
      ((conv=>whnf);repeat((first|(with_reducible first|refine Z1 ?_|refine Z2 ?_|refine Z3 ?_|refine Z4 ?_|refine Z5 ?_|refine Z9 (by assumption) rfl ?_|refine ZA (by assumption) rfl ?_|refine ZB (by assumption) rfl ?_|refine Z6 ?_|refine Z7 ?_|refine Z8 ?_)|((with_reducible refine ZM ?_ ?_);(focus rfl)));(conv=>whnf)))
      refine ⟨⟨i + 1, _, rfl, by omega, ?_, g2.trans (gv.trans g9)⟩, hmu⟩
      rw [hct]
      simpa using w9
    · have hge := of_decide_eq_false hlt
      obtain rfl : i = l1.length := by omega
      rw [← hit, List.take_length] at w2
      ((conv=>whnf);repeat((first|(with_reducible first|refine Z1 ?_|refine Z2 ?_|refine Z3 ?_|refine Z4 ?_|refine Z5 ?_|refine Z9 (by assumption) rfl ?_|refine ZA (by assumption) rfl ?_|refine ZB (by assumption) rfl ?_|refine Z6 ?_|refine Z7 ?_|refine Z8 ?_)|((with_reducible refine ZM ?_ ?_);(focus rfl)));(conv=>whnf)))
      have bl24 := w2.blt
      have la24 := w2.lt
      refine new_var (e := 9) [.string ⟨([93] : List UInt8).toArray⟩] rfl ?_
      intro h24 k24 o24 x24 z24 hk24
      ((conv=>whnf);repeat((first|(with_reducible first|refine Z2 ?_|refine Z3 ?_|refine Z4 ?_|refine Z5 ?_|refine Z9 (by assumption) rfl ?_|refine ZA (by assumption) rfl ?_|refine ZB (by assumption) rfl ?_|refine Z6 ?_|refine Z7 ?_|refine Z8 ?_)|((with_reducible refine ZM ?_ ?_);(focus rfl)));(conv=>whnf)))
      refine HCall.mk ((lay_spec (w2.ext x24) [[93]] o24 (by omega) (fun p ep => by have := la24 p ep; omega) rfl (by simp) (by simp only [List.length_append, List.length_cons, List.length_nil, List.flatten_cons, List.flatten_nil]; omega)).mono ?_)
      rintro e h25 ⟨rfl, a25, w25, g25⟩
      replace g25 := (GB.of_ext (b := b) x24 _).trans g25
      ((conv=>whnf);repeat((first|(with_reducible first|refine Z1 ?_|refine Z2 ?_|refine Z3 ?_|refine Z4 ?_|refine Z5 ?_|refine Z9 (by assumption) rfl ?_|refine ZA (by assumption) rfl ?_|refine ZB (by assumption) rfl ?_|refine Z6 ?_|refine Z7 ?_|refine Z8 ?_)|((with_reducible refine ZM ?_ ?_);(focus rfl)));(conv=>whnf)))
      refine ⟨rfl, _, ?_, G1.trans (g2.trans g25)⟩
      simpa using w25
  · subst hk
    have hgk : ks1.length = l1.length := hg.2.2
    have hit : (pairs ks1 (txts l1)).length = l1.length := by rw [pairs_len _ _ (by rw [txts_len]; exact hgk)]; exact txts_len l1
    have et : txt (.mk 6 n1 s1 ks1 l1) = 123 :: (commas (pairs ks1 (txts l1)) ++ [125]) := by simp only [txt]; rfl
    rw [et] at htl ⊢
    simp only [List.length_cons, List.length_append, List.length_nil] at htl
    ((conv=>whnf);repeat((first|(with_reducible first|refine Z1 ?_|refine Z2 ?_|refine Z3 ?_|refine Z4 ?_|refine Z5 ?_|refine Z9 (by assumption) rfl ?_|refine ZA (by assumption) rfl ?_|refine ZB (by assumption) rfl ?_|refine Z6 ?_|refine Z7 ?_|refine Z8 ?_)|((with_reducible refine ZM ?_ ?_);(focus rfl)));(conv=>whnf)))
    have bl26 := w1.blt
    have la26 := w1.lt
    refine new_var (e := 9) [.string ⟨([123] : List UInt8).toArray⟩] rfl ?_
    intro h26 k26 o26 x26 z26 hk26
    ((conv=>whnf);repeat((first|(with_reducible first|refine Z2 ?_|refine Z3 ?_|refine Z4 ?_|refine Z5 ?_|refine Z9 (by assumption) rfl ?_|refine ZA (by assumption) rfl ?_|refine ZB (by assumption) rfl ?_|refine Z6 ?_|refine Z7 ?_|refine Z8 ?_)|((with_reducible refine ZM ?_ ?_);(focus rfl)));(conv=>whnf)))
    refine HCall.mk ((lay_spec (w1.ext x26) [[123]] o26 (by omega) (fun p ep => by have := la26 p ep; omega) rfl (by simp) (by simp; omega)).mono ?_)
    rintro e h27 ⟨rfl, a27, w27, g27⟩
    replace g27 := (GB.of_ext (b := b) x26 _).trans g27
    have Gs := G1.trans g27
    have ws := w27
    simp only [List.flatten_cons, List.flatten_nil, List.append_nil] at ws
    have oxs := g27.blk ox (by omega) (fun p ep => by have := wlt p ep; omega)
    have gs := g27
    have xs0 := gs.keep x01 w1 hb
    ((conv=>whnf);repeat((first|(with_reducible first|refine Z1 ?_|refine Z2 ?_|refine Z3 ?_|refine Z4 ?_|refine Z5 ?_|refine Z9 (by assumption) rfl ?_|refine ZA (by assumption) rfl ?_|refine ZB (by assumption) rfl ?_|refine Z6 ?_|refine Z7 ?_|refine Z8 ?_)|((with_reducible refine ZM ?_ ?_);(focus rfl)));(conv=>whnf)))
    refine loop_rule [16] (fun vs h' => ∃ (i : Nat) (a' : Option Addr), vs = [.int .i64 i] ∧ i ≤ l1.length ∧ Bld h' b a' (bs ++ [123] ++ commas ((pairs ks1 (txts l1)).take i)) ∧ GB b h1 a h' a')
      (fun vs _ => match vs with | [.int _ i] => l1.length - i.toNat | _ => 0) rfl ?_ ?_
    · exact ⟨0, _, rfl, by omega, by simpa [commas_nil] using ws, gs⟩
    intro u h2 v85
    rintro ⟨i, a2, e, hi, w2, g2⟩
    cases e
    have x02 := g2.keep x01 w1 hb
    have ox2 := g2.blk ox (by omega) (fun p ep => by have := wlt p ep; omega)
    have hcm := commas_mono (pairs ks1 (txts l1)) i
    ((conv=>whnf);repeat((first|(with_reducible first|refine Z1 ?_|refine Z2 ?_|refine Z3 ?_|refine Z4 ?_|refine Z5 ?_|refine Z9 (by assumption) rfl ?_|refine ZA (by assumption) rfl ?_|refine ZB (by assumption) rfl ?_|refine Z6 ?_|refine Z7 ?_|refine Z8 ?_)|((with_reducible refine ZM ?_ ?_);(focus rfl)));(conv=>whnf)))
    refine HIf.mk (fun hlt => ?_) (fun hlt => ?_)
    · have hi1 : i < l1.length := by have := of_decide_eq_true hlt; omega
      have hmu : l1.length - ((i : Int) + 1).toNat < l1.length - ((i : Int)).toNat := by omega
      have hvi := vols_mem l1 l1[i] (List.getElem_mem hi1)
      have hmi : may l1[i] := (mays_iff l1).1 hm.2 _ (List.getElem_mem hi1)
      have hti := txt_len l1[i] hmi
      have hct := commas_take (pairs ks1 (txts l1)) i (by omega)
      have hcm1 := commas_mono (pairs ks1 (txts l1)) (i + 1)
      have hroom := room_rec ks1 l1 hm.2 i hi1 (by omega)
      rw [hct] at hcm1
      simp only [List.length_append] at hcm1
      ((conv=>whnf);repeat((first|(with_reducible first|refine Z1 ?_|refine Z2 ?_|refine Z3 ?_|refine Z4 ?_|refine Z5 ?_|refine Z9 (by assumption) rfl ?_|refine ZA (by assumption) rfl ?_|refine ZB (by assumption) rfl ?_|refine Z6 ?_|refine Z7 ?_|refine Z8 ?_)|((with_reducible refine ZM ?_ ?_);(focus rfl)));(conv=>whnf)))
      refine HIdx.mk i rfl hi1 ?_
      refine sl_some a8 hi1 fun p ep => ?_
      ((conv=>whnf);repeat((first|(with_reducible first|refine Z1 ?_|refine Z2 ?_|refine Z3 ?_|refine Z4 ?_|refine Z5 ?_|refine Z9 (by assumption) rfl ?_|refine ZA (by assumption) rfl ?_|refine ZB (by assumption) rfl ?_|refine Z6 ?_|refine Z7 ?_|refine Z8 ?_)|((with_reducible refine ZM ?_ ?_);(focus rfl)));(conv=>whnf)))
      refine a8.loadRep0 a9 x02 ep hi1 fun as' ra1 => ?_
      ((conv=>whnf);repeat((first|(with_reducible first|refine Z1 ?_|refine Z2 ?_|refine Z3 ?_|refine Z4 ?_|refine Z5 ?_|refine Z9 (by assumption) rfl ?_|refine ZA (by assumption) rfl ?_|refine ZB (by assumption) rfl ?_|refine Z6 ?_|refine Z7 ?_|refine Z8 ?_)|((with_reducible refine ZM ?_ ?_);(focus rfl)));(conv=>whnf)))
      refine new_var (e := 25) zeroD rfl ?_
      intro h5 b5 o5 x5 z5 hb5
      ((conv=>whnf);repeat((first|(with_reducible first|refine Z1 ?_|refine Z2 ?_|refine Z3 ?_|refine Z4 ?_|refine Z5 ?_|refine Z9 (by assumption) rfl ?_|refine ZA (by assumption) rfl ?_|refine ZB (by assumption) rfl ?_|refine Z6 ?_|refine Z7 ?_|refine Z8 ?_)|((with_reducible refine ZM ?_ ?_);(focus rfl)));(conv=>whnf)))
      have hal := ra1.len
      refine HMust.mk (by simpa using hal) ?_
      refine store_new o5 (by simp [hal]) (by simpa using ra1.one) ?_
      intro h6 f6 z6 o6
      have x26 : Ext h2 h6 := x5.offNew f6 (by omega)
      have w6 := w2.ext x26
      have ox6 := ox2.ext x26
      have w6lt := w6.lt
      have w2lt := w2.lt
      have w2bl := w2.blt
      have ox2lt := ox2.lt
      have x06 := x02.trans x26
      have hs26 := x26.1
      have hx2 := x02.1
      ((conv=>whnf);repeat((first|(with_reducible first|refine Z2 ?_|refine Z3 ?_|refine Z4 ?_|refine Z5 ?_|refine Z9 (by assumption) rfl ?_|refine ZA (by assumption) rfl ?_|refine ZB (by assumption) rfl ?_|refine Z6 ?_|refine Z7 ?_|refine Z8 ?_)|((with_reducible refine ZM ?_ ?_);(focus rfl)));(conv=>whnf)))
      refine cut_rule [] (fun vs h' => vs = [] ∧ ∃ a', Bld h' b a' (bs ++ [123] ++ commas ((pairs ks1 (txts l1)).take i) ++ (if 0 < i then [44] else [])) ∧ GB b h6 a2 h' a') rfl ?_ ?_
      · by_cases hi0 : 0 < i
        · have q : decide ((i : Int) > 0) = true := decide_eq_true (by omega)
          ((conv=>whnf);repeat((first|(with_reducible first|refine Z1 ?_|refine Z2 ?_|refine Z3 ?_|refine Z4 ?_|refine Z5 ?_|refine Z9 (by assumption) rfl ?_|refine ZA (by assumption) rfl ?_|refine ZB (by assumption) rfl ?_|refine Z6 ?_|refine Z7 ?_|refine Z8 ?_)|((with_reducible refine ZM ?_ ?_);(focus rfl)));(conv=>whnf)))
          have bl28 := w6.blt
          have la28 := w6.lt
          refine new_var (e := 9) [.string ⟨([44] : List UInt8).toArray⟩] rfl ?_
          intro h28 k28 o28 x28 z28 hk28
          ((conv=>whnf);repeat((first|(with_reducible first|refine Z2 ?_|refine Z3 ?_|refine Z4 ?_|refine Z5 ?_|refine Z9 (by assumption) rfl ?_|refine ZA (by assumption) rfl ?_|refine ZB (by assumption) rfl ?_|refine Z6 ?_|refine Z7 ?_|refine Z8 ?_)|((with_reducible refine ZM ?_ ?_);(focus rfl)));(conv=>whnf)))
          refine HCall.mk ((lay_spec (w6.ext x28) [[44]] o28 (by omega) (fun p ep => by have := la28 p ep; omega) rfl (by simp) (by simp only [List.length_append, List.length_cons, List.length_nil, List.flatten_cons, List.flatten_nil]; omega)).mono ?_)
          rintro e h29 ⟨rfl, a29, w29, g29⟩
          replace g29 := (GB.of_ext (b := b) x28 _).trans g29
          ((conv=>whnf);repeat((first|(with_reducible first|refine Z1 ?_|refine Z2 ?_|refine Z3 ?_|refine Z4 ?_|refine Z5 ?_|refine Z9 (by assumption) rfl ?_|refine ZA (by assumption) rfl ?_|refine ZB (by assumption) rfl ?_|refine Z6 ?_|refine Z7 ?_|refine Z8 ?_)|((with_reducible refine ZM ?_ ?_);(focus rfl)));(conv=>whnf)))
          rw [if_pos hi0]
          exact ⟨rfl, _, by simpa using w29, g29⟩
        · have q : decide ((i : Int) > 0) = false := decide_eq_false (by omega)
          ((conv=>whnf);repeat((first|(with_reducible first|refine Z1 ?_|refine Z2 ?_|refine Z3 ?_|refine Z4 ?_|refine Z5 ?_|refine Z9 (by assumption) rfl ?_|refine ZA (by assumption) rfl ?_|refine ZB (by assumption) rfl ?_|refine Z6 ?_|refine Z7 ?_|refine Z8 ?_)|((with_reducible refine ZM ?_ ?_);(focus rfl)));(conv=>whnf)))
          rw [if_neg hi0]
          exact ⟨rfl, _, by simpa using w6, GB.refl _ _ _⟩
      intro u h7
      rintro ⟨e, aa7, w7, g7⟩
      cases e
      have x07 := g7.keep x06 w6 hb
      have hna : ∀ p, a2 = some p → p.block ≠ bx := by
        intro p ep
        rcases g2.2.2 p ep with ⟨q, eq, hq⟩ | hq
        · have := wlt q eq; omega
        · omega
      have ox7 := g7.blk ox6 (by omega) hna
      have o7 := g7.blk o6 (by omega) (fun p ep => by have := w2lt p ep; omega)
      have g27 : GB b h2 a2 h7 aa7 := (GB.of_ext x26 _).trans g7
      have hx7 := x07.1
      have hki : i < ks1.length := by omega
      have hkv := kvol_mem ks1 ks1[i] (List.getElem_mem hki)
      have hkev := hg.1 _ (List.getElem_mem hki)
      have hpg := pairs_get ks1 (txts l1) i (by omega) hki (by rw [txts_len]; omega)
      rw [txts_get l1 i hi1] at hpg
      rw [hpg] at hcm1 hct
      simp only [List.length_append, List.length_cons] at hcm1
      ((conv=>whnf);repeat((first|(with_reducible first|refine Z1 ?_|refine Z2 ?_|refine Z3 ?_|refine Z4 ?_|refine Z5 ?_|refine Z9 (by assumption) rfl ?_|refine ZA (by assumption) rfl ?_|refine ZB (by assumption) rfl ?_|refine Z6 ?_|refine Z7 ?_|refine Z8 ?_)|((with_reducible refine ZM ?_ ?_);(focus rfl)));(conv=>whnf)))
      refine HIdx.mk i rfl hki ?_
      refine sl_some a7 hki fun p2 ep2 => ?_
      ((conv=>whnf);repeat((first|(with_reducible first|refine Z1 ?_|refine Z2 ?_|refine Z3 ?_|refine Z4 ?_|refine Z5 ?_|refine Z9 (by assumption) rfl ?_|refine ZA (by assumption) rfl ?_|refine ZB (by assumption) rfl ?_|refine Z6 ?_|refine Z7 ?_|refine Z8 ?_)|((with_reducible refine ZM ?_ ?_);(focus rfl)));(conv=>whnf)))
      refine (a7.ext x07).load ep2 (by simpa using hki) ?_
      rw [List.getElem_map]
      ((conv=>whnf);repeat((first|(with_reducible first|refine Z1 ?_|refine Z2 ?_|refine Z3 ?_|refine Z4 ?_|refine Z5 ?_|refine Z9 (by assumption) rfl ?_|refine ZA (by assumption) rfl ?_|refine ZB (by assumption) rfl ?_|refine Z6 ?_|refine Z7 ?_|refine Z8 ?_)|((with_reducible refine ZM ?_ ?_);(focus rfl)));(conv=>whnf)))
      refine HCall.mk ((quoted_spec ks1[i].data.toList (by show ks1[i].size ≤ _; omega) hkev h7 (gl.2.ext x07)).mono ?_)
      rintro e h8 ⟨rfl, x8⟩
      have w8 := w7.ext x8
      have x08 := x07.trans x8
      have o8 := o7.ext x8
      have ox8 := ox7.ext x8
      have w7lt := w7.lt
      have w7bl := w7.blt
      have w8lt := w8.lt
      have w8bl := w8.blt
      have hs8 := x8.1
      have o7lt := o7.lt
      ((conv=>whnf);repeat((first|(with_reducible first|refine Z1 ?_|refine Z2 ?_|refine Z3 ?_|refine Z4 ?_|refine Z5 ?_|refine Z9 (by assumption) rfl ?_|refine ZA (by assumption) rfl ?_|refine ZB (by assumption) rfl ?_|refine Z6 ?_|refine Z7 ?_|refine Z8 ?_)|((with_reducible refine ZM ?_ ?_);(focus rfl)));(conv=>whnf)))
      have bl30 := w8.blt
      have la30 := w8.lt
      refine new_var (e := 9) [.string ⟨(quoteL ks1[i].data.toList : List UInt8).toArray⟩, .string ⟨([58] : List UInt8).toArray⟩] rfl ?_
      intro h30 k30 o30 x30 z30 hk30
      ((conv=>whnf);repeat((first|(with_reducible first|refine Z2 ?_|refine Z3 ?_|refine Z4 ?_|refine Z5 ?_|refine Z9 (by assumption) rfl ?_|refine ZA (by assumption) rfl ?_|refine ZB (by assumption) rfl ?_|refine Z6 ?_|refine Z7 ?_|refine Z8 ?_)|((with_reducible refine ZM ?_ ?_);(focus rfl)));(conv=>whnf)))
      refine HCall.mk ((lay_spec (w8.ext x30) [quoteL ks1[i].data.toList, [58]] o30 (by omega) (fun p ep => by have := la30 p ep; omega) rfl (by simp) (by simp only [List.length_append, List.length_cons, List.length_nil, List.flatten_cons, List.flatten_nil]; omega)).mono ?_)
      rintro e h31 ⟨rfl, a31, w31, g31⟩
      replace g31 := (GB.of_ext (b := b) x30 _).trans g31
      ((conv=>whnf);repeat((first|(with_reducible first|refine Z1 ?_|refine Z2 ?_|refine Z3 ?_|refine Z4 ?_|refine Z5 ?_|refine Z9 (by assumption) rfl ?_|refine ZA (by assumption) rfl ?_|refine ZB (by assumption) rfl ?_|refine Z6 ?_|refine Z7 ?_|refine Z8 ?_)|((with_reducible refine ZM ?_ ?_);(focus rfl)));(conv=>whnf)))
      have hna7 : ∀ p, aa7 = some p → p.block ≠ b5 := by
        intro p ep
        rcases g7.2.2 p ep with ⟨q, eq, hq⟩ | hq
        · have := w2lt q eq; omega
        · omega
      have o9 := g31.blk o8 (by omega) hna7
      have wv := w31
      have gv := (g27.trans (GB.of_ext x8 _)).trans g31
      have x0v := g31.keep x08 w8 hb
      simp only [List.flatten_cons, List.flatten_nil, List.append_nil] at wv
      refine blk_ldN o9 (by simpa using hal) ?_
      ((conv=>whnf);repeat((first|(with_reducible first|refine Z1 ?_|refine Z2 ?_|refine Z3 ?_|refine Z4 ?_|refine Z5 ?_|refine Z9 (by assumption) rfl ?_|refine ZA (by assumption) rfl ?_|refine ZB (by assumption) rfl ?_|refine Z6 ?_|refine Z7 ?_|refine Z8 ?_)|((with_reducible refine ZM ?_ ?_);(focus rfl)));(conv=>whnf)))
      refine HCall.mk ((ih l1[i] (dt_lt hi1) h0 as' ra1 hmi (by omega) gl _ b _ _ hb x0v wv ?_).mono ?_)
      · simp only [List.length_append, List.length_cons, List.length_nil]; split <;> simp only [List.length_cons, List.length_nil] <;> omega
      rintro e h9 ⟨rfl, a9', w9, g9⟩
      ((conv=>whnf);repeat((first|(with_reducible first|refine Z1 ?_|refine Z2 ?_|refine Z3 ?_|refine Z4 ?_|refine Z5 ?_|refine Z9 (by assumption) rfl ?_|refine ZA (by assumption) rfl ?_|refine ZB (by assumption) rfl ?_|refine Z6 ?_|refine Z7 ?_|refine Z8 ?_)|((with_reducible refine ZM ?_ ?_);(focus rfl)));(conv=>whnf)))
      refine ⟨⟨i + 1, _, rfl, by omega, ?_, g2.trans (gv.trans g9)⟩, hmu⟩
      rw [hct]
      simpa using w9
    · have hge := of_decide_eq_false hlt
      obtain rfl : i = l1.length := by omega
      rw [← hit, List.take_length] at w2
      ((conv=>whnf);repeat((first|(with_reducible first|refine Z1 ?_|refine Z2 ?_|refine Z3 ?_|refine Z4 ?_|refine Z5 ?_|refine Z9 (by assumption) rfl ?_|refine ZA (by assumption) rfl ?_|refine ZB (by assumption) rfl ?_|refine Z6 ?_|refine Z7 ?_|refine Z8 ?_)|((with_reducible refine ZM ?_ ?_);(focus rfl)));(conv=>whnf)))
      have bl32 := w2.blt
      have la32 := w2.lt
      refine new_var (e := 9) [.string ⟨([125] : List UInt8).toArray⟩] rfl ?_
      intro h32 k32 o32 x32 z32 hk32
      ((conv=>whnf);repeat((first|(with_reducible first|refine Z2 ?_|refine Z3 ?_|refine Z4 ?_|refine Z5 ?_|refine Z9 (by assumption) rfl ?_|refine ZA (by assumption) rfl ?_|refine ZB (by assumption) rfl ?_|refine Z6 ?_|refine Z7 ?_|refine Z8 ?_)|((with_reducible refine ZM ?_ ?_);(focus rfl)));(conv=>whnf)))
      refine HCall.mk ((lay_spec (w2.ext x32) [[125]] o32 (by omega) (fun p ep => by have := la32 p ep; omega) rfl (by simp) (by simp only [List.length_append, List.length_cons, List.length_nil, List.flatten_cons, List.flatten_nil]; omega)).mono ?_)
      rintro e h33 ⟨rfl, a33, w33, g33⟩
      replace g33 := (GB.of_ext (b := b) x32 _).trans g33
      ((conv=>whnf);repeat((first|(with_reducible first|refine Z1 ?_|refine Z2 ?_|refine Z3 ?_|refine Z4 ?_|refine Z5 ?_|refine Z9 (by assumption) rfl ?_|refine ZA (by assumption) rfl ?_|refine ZB (by assumption) rfl ?_|refine Z6 ?_|refine Z7 ?_|refine Z8 ?_)|((with_reducible refine ZM ?_ ?_);(focus rfl)));(conv=>whnf)))
      refine ⟨rfl, _, ?_, G1.trans (g2.trans g33)⟩
      simpa using w33

end Go.Proofs.YtmibnfjjlibpgaaDoor.Hc
