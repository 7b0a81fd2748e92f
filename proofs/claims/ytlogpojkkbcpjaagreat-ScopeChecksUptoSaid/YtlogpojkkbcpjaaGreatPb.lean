/- Proof texts, laid together. -/
import Derived.Test.YtlogpojkkbcpjaaGreatPa
/- The reference's names, words, operators: r06.IsIdent, IsWord, r07.has, operator, name; they say what the program's say. -/
set_option linter.unusedVariables false
set_option linter.unusedSimpArgs false
namespace Go.Proofs.YtlogpojkkbcpjaaGreat.Hc
open Go Go.H Go.Proofs
set_option maxRecDepth 100000
set_option maxHeartbeats 4000000

/-! ### Words with blanks between them -/
theorem cont_nil (m : List UInt8) : Lib.contains [] m = m.isEmpty := by
  unfold Lib.contains Lib.index
  cases m <;> rfl
theorem cont_cons (b : UInt8) (l m : List UInt8) : Lib.contains (b :: l) m = (m.isPrefixOf (b :: l) || Lib.contains l m) := by
  have h := Lib.index_ge l m
  have e : Lib.index (b :: l) m = if m.isPrefixOf (b :: l) = true then 0 else if (Lib.index l m == -1) = true then -1 else Lib.index l m + 1 := rfl
  have key : 0 ≤ Lib.index (b :: l) m ↔ m.isPrefixOf (b :: l) = true ∨ 0 ≤ Lib.index l m := by
    rw [e]
    by_cases hp : m.isPrefixOf (b :: l) = true
    · rw [if_pos hp]; exact ⟨fun _ => .inl hp, fun _ => by omega⟩
    · rw [if_neg hp]
      by_cases h1 : Lib.index l m = -1
      · rw [if_pos (beq_iff_eq.2 h1)]
        exact ⟨fun h => by omega, fun h => by rcases h with h | h; exact absurd h hp; omega⟩
      · rw [if_neg (fun h2 => h1 (beq_iff_eq.1 h2))]
        exact ⟨fun h => .inr (by omega), fun h => by rcases h with h | h; exact absurd h hp; omega⟩
  unfold Lib.contains
  rw [Bool.eq_iff_iff, decide_eq_true_iff, Bool.or_eq_true, decide_eq_true_iff]
  exact key
theorem cont_skip : ∀ (w r m : List UInt8), (32 : UInt8) ∉ w → Lib.contains (w ++ 32 :: r) (32 :: m) = Lib.contains (32 :: r) (32 :: m)
  | [], r, m, _ => rfl
  | b :: w, r, m, h => by
    simp only [List.mem_cons, not_or] at h
    rw [List.cons_append, cont_cons, cont_skip w r m h.2]
    have : (32 : UInt8) ≠ b := h.1
    simp [List.isPrefixOf, this]
theorem pre_same : ∀ (s w r : List UInt8), (32 : UInt8) ∉ s → (32 : UInt8) ∉ w → (s ++ [32]).isPrefixOf (w ++ 32 :: r) = decide (s = w)
  | [], [], r, _, _ => by simp [List.isPrefixOf]
  | [], b :: w, r, _, hw => by
    simp only [List.mem_cons, not_or] at hw
    have : (32 : UInt8) ≠ b := hw.1
    simp [List.isPrefixOf, this]
  | a :: s, [], r, hs, _ => by
    simp only [List.mem_cons, not_or] at hs
    have : a ≠ (32 : UInt8) := fun e => hs.1 e.symm
    simp [List.isPrefixOf, this]
  | a :: s, b :: w, r, hs, hw => by
    simp only [List.mem_cons, not_or] at hs hw
    have := pre_same s w r hs.2 hw.2
    simp only [List.cons_append, List.isPrefixOf, this, List.cons.injEq]
    by_cases h : a = b <;> simp [h]
def flatW : List (List UInt8) → List UInt8
  | [] => []
  | w :: ws => w ++ 32 :: flatW ws
theorem cont_words : ∀ (ws : List (List UInt8)) (s : List UInt8), (∀ w ∈ ws, (32 : UInt8) ∉ w) → (32 : UInt8) ∉ s → s ≠ [] → Lib.contains (32 :: flatW ws) (32 :: (s ++ [32])) = decide (s ∈ ws)
  | [], s, _, hs, h0 => by
    simp only [flatW]
    rw [cont_cons, cont_nil]
    cases s with
    | nil => exact absurd rfl h0
    | cons a s => simp [List.isPrefixOf]
  | w :: ws, s, hw, hs, h0 => by
    have ih := cont_words ws s (fun x hx => hw x (List.mem_cons_of_mem _ hx)) hs h0
    have h1 := hw w (List.mem_cons_self ..)
    simp only [flatW]
    rw [cont_cons, cont_skip w _ _ h1, ih]
    have : (32 :: (s ++ [32])).isPrefixOf (32 :: (w ++ 32 :: flatW ws)) = decide (s = w) := by
      rw [List.isPrefixOf, pre_same s w _ hs h1]; simp
    rw [this]
    by_cases h : s = w <;> simp [h]
theorem cont_blank : ∀ l : List UInt8, Lib.contains l [32] = decide ((32 : UInt8) ∈ l)
  | [] => by rw [cont_nil]; rfl
  | b :: l => by
    rw [cont_cons, cont_blank l]
    by_cases h : (32 : UInt8) = b <;> simp [List.isPrefixOf, h]
theorem among_law {ws : List ByteArray} {list : ByteArray} (hl : toL list = 32 :: flatW (ws.map toL)) (h1 : ∀ w ∈ ws, (32 : UInt8) ∉ toL w) (h2 : ∀ w ∈ ws, toL w ≠ []) (s : ByteArray) : amongB list s = strIn ws s := by
  have hm : strIn ws s = decide (toL s ∈ ws.map toL) := by
    rw [Bool.eq_iff_iff, strIn_iff, decide_eq_true_iff, List.mem_map]
    exact ⟨fun h => ⟨s, h, rfl⟩, fun ⟨x, hx, e⟩ => toL_inj e ▸ hx⟩
  rw [hm]
  unfold amongB hasSub
  have eb : (⟨#[32]⟩ : ByteArray).data.toList = [32] := rfl
  have es : s.data.toList = toL s := rfl
  have el : list.data.toList = 32 :: flatW (ws.map toL) := hl
  rw [eb, es, el, cont_blank]
  by_cases h0 : toL s = []
  · have : strEq s ⟨#[]⟩ = true := (strEq_iff _ _).2 (toL_inj (by rw [h0]; rfl))
    rw [this, h0]
    have : ([] : List UInt8) ∉ ws.map toL := by
      intro h
      obtain ⟨w, hw, e⟩ := List.mem_map.1 h
      exact h2 w hw e
    simp [this]
  · have : strEq s ⟨#[]⟩ = false := (strEq_no _ _).2 (by rintro rfl; exact h0 rfl)
    rw [this]
    by_cases hb : (32 : UInt8) ∈ toL s
    · have : toL s ∉ ws.map toL := by
        intro h
        obtain ⟨w, hw, e⟩ := List.mem_map.1 h
        rw [← e] at hb; exact h1 w hw hb
      simp [hb, this]
    · have ea : (⟨#[32]⟩ ++ s ++ ⟨#[32]⟩ : ByteArray).data.toList = 32 :: (toL s ++ [32]) := by
        rw [ByteArray.data_append, ByteArray.data_append, Array.toList_append, Array.toList_append]; rfl
      rw [ea, cont_words (ws.map toL) (toL s) (by intro w hw; obtain ⟨x, hx, rfl⟩ := List.mem_map.1 hw; exact h1 x hx) hb h0]
      simp [hb]
/-! ### The words -/
def wordsL : List ByteArray := [⟨#[98, 114, 101, 97, 107]⟩, ⟨#[99, 97, 115, 101]⟩, ⟨#[99, 97, 116, 99, 104]⟩, ⟨#[99, 108, 97, 115, 115]⟩, ⟨#[99, 111, 110, 115, 116]⟩, ⟨#[99, 111, 110, 116, 105, 110, 117, 101]⟩, ⟨#[100, 101, 98, 117, 103, 103, 101, 114]⟩, ⟨#[100, 101, 102, 97, 117, 108, 116]⟩, ⟨#[100, 101, 108, 101, 116, 101]⟩, ⟨#[100, 111]⟩, ⟨#[101, 108, 115, 101]⟩, ⟨#[101, 110, 117, 109]⟩, ⟨#[101, 120, 112, 111, 114, 116]⟩, ⟨#[101, 120, 116, 101, 110, 100, 115]⟩, ⟨#[102, 97, 108, 115, 101]⟩, ⟨#[102, 105, 110, 97, 108, 108, 121]⟩, ⟨#[102, 111, 114]⟩, ⟨#[102, 117, 110, 99, 116, 105, 111, 110]⟩, ⟨#[105, 102]⟩, ⟨#[105, 109, 112, 108, 101, 109, 101, 110, 116, 115]⟩, ⟨#[105, 109, 112, 111, 114, 116]⟩, ⟨#[105, 110]⟩, ⟨#[105, 110, 115, 116, 97, 110, 99, 101, 111, 102]⟩, ⟨#[105, 110, 116, 101, 114, 102, 97, 99, 101]⟩, ⟨#[108, 101, 116]⟩, ⟨#[110, 101, 119]⟩, ⟨#[110, 117, 108, 108]⟩, ⟨#[112, 97, 99, 107, 97, 103, 101]⟩, ⟨#[112, 114, 105, 118, 97, 116, 101]⟩, ⟨#[112, 114, 111, 116, 101, 99, 116, 101, 100]⟩, ⟨#[112, 117, 98, 108, 105, 99]⟩, ⟨#[114, 101, 116, 117, 114, 110]⟩, ⟨#[115, 116, 97, 116, 105, 99]⟩, ⟨#[115, 117, 112, 101, 114]⟩, ⟨#[115, 119, 105, 116, 99, 104]⟩, ⟨#[116, 104, 105, 115]⟩, ⟨#[116, 104, 114, 111, 119]⟩, ⟨#[116, 114, 117, 101]⟩, ⟨#[116, 114, 121]⟩, ⟨#[116, 121, 112, 101, 111, 102]⟩, ⟨#[118, 97, 114]⟩, ⟨#[118, 111, 105, 100]⟩, ⟨#[119, 104, 105, 108, 101]⟩, ⟨#[119, 105, 116, 104]⟩, ⟨#[121, 105, 101, 108, 100]⟩]
theorem word_law (s : ByteArray) : isWordB s = strIn wordsL s := among_law (ws := wordsL) (list := wordsB) (by decide +kernel) (by decide +kernel) (by decide +kernel) s
def ops15 : List ByteArray := [⟨#[45]⟩, ⟨#[43]⟩, ⟨#[33]⟩, ⟨#[116, 121, 112, 101, 111, 102]⟩, ⟨#[100, 101, 108, 101, 116, 101]⟩, ⟨#[118, 111, 105, 100]⟩]
def ops16 : List ByteArray := [⟨#[43, 43]⟩, ⟨#[45, 45]⟩]
def ops17 : List ByteArray := [⟨#[43]⟩, ⟨#[45]⟩, ⟨#[42]⟩, ⟨#[47]⟩, ⟨#[37]⟩, ⟨#[60]⟩, ⟨#[62]⟩, ⟨#[60, 61]⟩, ⟨#[62, 61]⟩, ⟨#[61, 61]⟩, ⟨#[33, 61]⟩, ⟨#[61, 61, 61]⟩, ⟨#[33, 61, 61]⟩, ⟨#[105, 110]⟩, ⟨#[105, 110, 115, 116, 97, 110, 99, 101, 111, 102]⟩]
def ops18 : List ByteArray := [⟨#[38, 38]⟩, ⟨#[124, 124]⟩]
def ops20 : List ByteArray := [⟨#[61]⟩, ⟨#[43, 61]⟩, ⟨#[45, 61]⟩, ⟨#[42, 61]⟩, ⟨#[47, 61]⟩, ⟨#[37, 61]⟩]
theorem op_law15 (s : ByteArray) : amongB ⟨#[32, 45, 32, 43, 32, 33, 32, 116, 121, 112, 101, 111, 102, 32, 100, 101, 108, 101, 116, 101, 32, 118, 111, 105, 100, 32]⟩ s = strIn ops15 s := among_law (ws := ops15) (list := ⟨#[32, 45, 32, 43, 32, 33, 32, 116, 121, 112, 101, 111, 102, 32, 100, 101, 108, 101, 116, 101, 32, 118, 111, 105, 100, 32]⟩) (by decide +kernel) (by decide +kernel) (by decide +kernel) s
theorem op_law16 (s : ByteArray) : amongB ⟨#[32, 43, 43, 32, 45, 45, 32]⟩ s = strIn ops16 s := among_law (ws := ops16) (list := ⟨#[32, 43, 43, 32, 45, 45, 32]⟩) (by decide +kernel) (by decide +kernel) (by decide +kernel) s
theorem op_law17 (s : ByteArray) : amongB ⟨#[32, 43, 32, 45, 32, 42, 32, 47, 32, 37, 32, 60, 32, 62, 32, 60, 61, 32, 62, 61, 32, 61, 61, 32, 33, 61, 32, 61, 61, 61, 32, 33, 61, 61, 32, 105, 110, 32, 105, 110, 115, 116, 97, 110, 99, 101, 111, 102, 32]⟩ s = strIn ops17 s := among_law (ws := ops17) (list := ⟨#[32, 43, 32, 45, 32, 42, 32, 47, 32, 37, 32, 60, 32, 62, 32, 60, 61, 32, 62, 61, 32, 61, 61, 32, 33, 61, 32, 61, 61, 61, 32, 33, 61, 61, 32, 105, 110, 32, 105, 110, 115, 116, 97, 110, 99, 101, 111, 102, 32]⟩) (by decide +kernel) (by decide +kernel) (by decide +kernel) s
theorem op_law18 (s : ByteArray) : amongB ⟨#[32, 38, 38, 32, 124, 124, 32]⟩ s = strIn ops18 s := among_law (ws := ops18) (list := ⟨#[32, 38, 38, 32, 124, 124, 32]⟩) (by decide +kernel) (by decide +kernel) (by decide +kernel) s
theorem op_law20 (s : ByteArray) : amongB ⟨#[32, 61, 32, 43, 61, 32, 45, 61, 32, 42, 61, 32, 47, 61, 32, 37, 61, 32]⟩ s = strIn ops20 s := among_law (ws := ops20) (list := ⟨#[32, 61, 32, 43, 61, 32, 45, 61, 32, 42, 61, 32, 47, 61, 32, 37, 61, 32]⟩) (by decide +kernel) (by decide +kernel) (by decide +kernel) s
/-! ### The walks -/
theorem rdigit_spec (c : UInt8) (h : Heap) : HCalls Tryz.prog 77 #[byteV c] h fun e h' => e = .returned (.bool (digitB c)) ∧ h' = h := by
  refine c77 (by simp) ?_
  unfold byteV digitB
  cases q1 : decide ((c.toNat : Int) ≥ 48)
  · refine gA ?_
    exact ⟨rfl, rfl⟩
  · refine gA ?_
    exact ⟨rfl, rfl⟩
def rletB (c : UInt8) : Bool := (decide ((c.toNat : Int) ≥ 97) && decide ((c.toNat : Int) ≤ 122)) || (decide ((c.toNat : Int) ≥ 65) && decide ((c.toNat : Int) ≤ 90)) || ((c.toNat : Int) == 95) || ((c.toNat : Int) == 36)
theorem rletter_spec (c : UInt8) (h : Heap) : HCalls Tryz.prog 78 #[byteV c] h fun e h' => e = .returned (.bool (rletB c)) ∧ h' = h := by
  refine c78 (by simp) ?_
  unfold byteV rletB
  cases q1 : decide ((c.toNat : Int) ≥ 97) <;> cases q2 : decide ((c.toNat : Int) ≤ 122) <;> cases q3 : decide ((c.toNat : Int) ≥ 65) <;> cases q4 : decide ((c.toNat : Int) ≤ 90) <;> cases q5 : ((c.toNat : Int) == 95) <;> (refine gA ?_; exact ⟨rfl, rfl⟩)
theorem let_law (c : UInt8) : rletB c = letterB c := by
  have : ∀ n : Fin 256, rletB (UInt8.ofNat n.val) = letterB (UInt8.ofNat n.val) := by decide +kernel
  have h := this ⟨c.toNat, c.toNat_lt⟩
  simpa using h
theorem digit_law (c : UInt8) : wordB c = true → letterB c = !digitB c := by
  have : ∀ n : Fin 256, wordB (UInt8.ofNat n.val) = true → letterB (UInt8.ofNat n.val) = !digitB (UInt8.ofNat n.val) := by decide +kernel
  have h := this ⟨c.toNat, c.toNat_lt⟩
  simpa using h
theorem rident_spec (s : ByteArray) (hl : s.size ≤ 140737488351232) (h : Heap) : HCalls Tryz.prog 59 #[.string s] h fun e h' => e = .returned (.bool (identB s)) ∧ h' = h := by
  obtain ⟨l, rfl⟩ : ∃ l : List UInt8, s = ⟨l.toArray⟩ := ⟨s.data.toList, rfl⟩
  have hs : (⟨l.toArray⟩ : ByteArray).size = l.length := by show l.toArray.size = _; simp
  have e0 : identB ⟨l.toArray⟩ = identL l := rfl
  have hl' : l.length ≤ 140737488351232 := by omega
  rw [e0]
  refine c59 (by simp) ?_
  by_cases hl0 : l.length = 0
  · have q : decide (((⟨l.toArray⟩ : ByteArray).size : Int) < 1) = true := decide_eq_true (by rw [hs, hl0]; omega)
    have : l = [] := List.length_eq_zero_iff.1 hl0
    have hz : identL l = false := by rw [this]; rfl
    refine gA ?_
    exact ⟨by rw [hz]; rfl, rfl⟩
  · have q : decide (((⟨l.toArray⟩ : ByteArray).size : Int) < 1) = false := decide_eq_false (by rw [hs]; omega)
    have hlen : 0 < l.length := by omega
    have hid : identL l = (decide (l.length ≤ 32) && letterB l[0] && l.all wordB) := by
      cases l with
      | nil => simp at hlen
      | cons c r => rfl
    have hmem : l[0] ∈ l := List.getElem_mem hlen
    generalize identL l = z at hid
    by_cases h32 : l.length ≤ 32
    · have q2 : decide (((⟨l.toArray⟩ : ByteArray).size : Int) > 32) = false := decide_eq_false (by rw [hs]; omega)
      rw [decide_eq_true h32, Bool.true_and] at hid
      refine gA ?_
      refine HIdx.mk 0 rfl hlen ?_
      rw [at_l hlen]
      refine gA ?_
      refine HCall.mk ((rdigit_spec l[0] h).mono ?_)
      rintro e h2 ⟨rfl, rfl⟩
      cases q3 : digitB l[0]
      · refine gA ?_
        refine loop_rule [3] (fun vs h' => ∃ (i : Nat), vs = [.int .i64 i] ∧ i ≤ l.length ∧ (l.take i).all wordB = true ∧ h' = h2)
          (fun vs _ => match vs with | [.int _ i] => l.length - i.toNat | _ => 0) rfl ?_ ?_
        · exact ⟨0, rfl, by omega, rfl, rfl⟩
        intro u h3 v3
        rintro ⟨i, e, hi, ha, rfl⟩
        cases e
        by_cases hlt : i < l.length
        · have q5 : decide ((i : Int) < ((⟨l.toArray⟩ : ByteArray).size : Int)) = true := decide_eq_true (by rw [hs]; omega)
          have hmu : l.length - ((i : Int) + 1).toNat < l.length - ((i : Int)).toNat := by omega
          have al := all_take hlt ha
          have no : wordB l[i] = false → z = false := by
            intro hw
            rw [hid]
            have : l.all wordB = false := by
              rw [List.all_eq_false]
              exact ⟨l[i], List.getElem_mem hlt, by rw [hw]; simp⟩
            rw [this, Bool.and_false]
          have hwb : wordB l[i] = (letterB l[i] || digitB l[i]) := rfl
          refine gA ?_
          refine HIdx.mk i rfl hlt ?_
          rw [at_l hlt]
          refine gA ?_
          refine HCall.mk ((rletter_spec l[i] h3).mono ?_)
          rintro e h4 ⟨rfl, rfl⟩
          rw [let_law]
          cases q6 : letterB l[i]
          · refine gA ?_
            refine HIdx.mk i rfl hlt ?_
            rw [at_l hlt]
            refine gA ?_
            refine HCall.mk ((rdigit_spec l[i] h4).mono ?_)
            rintro e h5 ⟨rfl, rfl⟩
            cases q7 : digitB l[i]
            · have := no (by rw [hwb, q6, q7]; rfl)
              refine gA ?_
              exact ⟨by rw [this]; rfl, rfl⟩
            · refine gA ?_
              exact ⟨⟨i + 1, rfl, by omega, by rw [al, hwb, q6, q7]; rfl, rfl⟩, hmu⟩
          · refine gA ?_
            exact ⟨⟨i + 1, rfl, by omega, by rw [al, hwb, q6]; rfl, rfl⟩, hmu⟩
        · have q5 : decide ((i : Int) < ((⟨l.toArray⟩ : ByteArray).size : Int)) = false := decide_eq_false (by rw [hs]; omega)
          obtain rfl : i = l.length := by omega
          rw [List.take_length] at ha
          have hw0 : wordB l[0] = true := List.all_eq_true.1 ha l[0] hmem
          have hz1 : z = true := by rw [hid, ha, digit_law l[0] hw0, q3]; rfl
          refine gA ?_
          exact ⟨by rw [hz1]; rfl, rfl⟩
      · have hz1 : z = false := by
          rw [hid]
          cases ha : l.all wordB
          · rw [Bool.and_false]
          · have hw0 : wordB l[0] = true := List.all_eq_true.1 ha l[0] hmem
            rw [digit_law l[0] hw0, q3]; rfl
        refine gA ?_
        exact ⟨by rw [hz1]; rfl, rfl⟩
    · have q2 : decide (((⟨l.toArray⟩ : ByteArray).size : Int) > 32) = true := decide_eq_true (by rw [hs]; omega)
      rw [decide_eq_false h32, Bool.false_and, Bool.false_and] at hid
      refine gA ?_
      exact ⟨by rw [hid]; rfl, rfl⟩
theorem rhas7_spec {h : Heap} {a : Option Addr} {c : Nat} {ks : List ByteArray} (x : Sl h 1 a ks.length c (ks.map .string)) (s : ByteArray) (hn : ks.length ≤ 17179869184) :
    HCalls Tryz.prog 79 #[.slice a ks.length c, .string s] h fun e h' => h' = h ∧ e = .returned (.bool (strIn ks s)) := by
  refine c79 (by simp) ?_
  refine gA ?_
  refine loop_rule [9] (fun vs h' => ∃ (i : Nat), vs = [.int .i64 i] ∧ i ≤ ks.length ∧ h' = h ∧ s ∉ ks.take i)
    (fun vs _ => match vs with | [.int _ i] => ks.length - i.toNat | _ => 0) rfl ?_ ?_
  · exact ⟨0, rfl, by omega, rfl, by simp⟩
  · intro u h v8
    rintro ⟨i, e, hi, rfl, hs⟩
    cases e
    refine gA ?_
    refine HIf.mk (fun hb => ?_) (fun hb => ?_)
    · have hi1 : i < ks.length := by have := of_decide_eq_true hb; omega
      have hmu : ks.length - ((i : Int) + 1).toNat < ks.length - ((i : Int)).toNat := by omega
      refine gA ?_
      refine HIdx.mk i rfl hi1 ?_
      refine sl_some x hi1 fun p ep => ?_
      refine gA ?_
      refine x.load ep (by simpa using hi1) ?_
      rw [List.getElem_map]
      cases q : strEq ks[i] s
      · have hne := (strEq_no _ _).1 q
        refine gA ?_
        refine ⟨⟨i + 1, rfl, by omega, rfl, ?_⟩, hmu⟩
        rw [take_succ' hi1, List.mem_append, List.mem_singleton]
        rintro (h | h)
        · exact hs h
        · exact hne h.symm
      · have heq := (strEq_iff _ _).1 q
        refine gA ?_
        have : strIn ks s = true := strIn_iff.2 (heq ▸ List.getElem_mem hi1)
        exact ⟨rfl, by rw [this]; rfl⟩
    · have hge := of_decide_eq_false hb
      rw [List.take_of_length_le (by omega)] at hs
      refine gA ?_
      have : strIn ks s = false := by rw [← Bool.not_eq_true, strIn_iff]; exact hs
      exact ⟨rfl, by rw [this]; rfl⟩
theorem rwords_spec (h : Heap) : HCalls Tryz.prog 80 #[] h fun e h' => ∃ b, e = .returned (.slice (some ⟨b, 0, none⟩) 45 45) ∧ Sl h' 1 (some ⟨b, 0, none⟩) wordsL.length 45 (wordsL.map .string) ∧ Ext h h' := by
  refine c80 (by simp) ?_
  refine gA ?_
  refine new_own (e := 9) 1 45 (wordsL.map .string) rfl rfl ?_
  intro h1 b1 w1 x1 z1 hb1
  refine gA ?_
  exact ⟨b1, rfl, w1.sl, x1⟩
theorem rword_spec (s : ByteArray) (h : Heap) : HCalls Tryz.prog 61 #[.string s] h fun e h' => e = .returned (.bool (isWordB s)) ∧ Ext h h' := by
  rw [word_law]
  refine c61 (by simp) ?_
  refine gA ?_
  refine HCall.mk ((rwords_spec h).mono ?_)
  rintro e h1 ⟨b, rfl, x, x1⟩
  have hlen : wordsL.length = 45 := rfl
  generalize wordsL = ks at x hlen
  rw [hlen] at x
  refine gA ?_
  refine loop_rule [7] (fun vs h' => ∃ (i : Nat), vs = [.int .i64 i] ∧ i ≤ 45 ∧ h' = h1 ∧ s ∉ ks.take i)
    (fun vs _ => match vs with | [.int _ i] => 45 - i.toNat | _ => 0) rfl ?_ ?_
  · exact ⟨0, rfl, by omega, rfl, by simp⟩
  intro u h2 v7
  rintro ⟨i, e, hi, rfl, hs⟩
  cases e
  refine gA ?_
  refine HIf.mk (fun hb => ?_) (fun hb => ?_)
  · have hi1 : i < 45 := by have := of_decide_eq_true hb; omega
    have hi2 : i < ks.length := by omega
    have hmu : 45 - ((i : Int) + 1).toNat < 45 - ((i : Int)).toNat := by omega
    refine gA ?_
    refine HIdx.mk i rfl hi1 ?_
    refine sl_some x hi1 fun p ep => ?_
    refine gA ?_
    refine x.load ep (by simpa using hi2) ?_
    rw [List.getElem_map]
    cases q : strEq s ks[i]
    · have hne := (strEq_no _ _).1 q
      refine gA ?_
      refine ⟨⟨i + 1, rfl, by omega, rfl, ?_⟩, hmu⟩
      rw [take_succ' hi2, List.mem_append, List.mem_singleton]
      rintro (h | h)
      · exact hs h
      · exact hne h
    · have heq := (strEq_iff _ _).1 q
      refine gA ?_
      have : strIn ks s = true := strIn_iff.2 (heq ▸ List.getElem_mem hi2)
      exact ⟨by rw [this]; rfl, x1⟩
  · have hge := of_decide_eq_false hb
    rw [List.take_of_length_le (by omega)] at hs
    refine gA ?_
    have : strIn ks s = false := by rw [← Bool.not_eq_true, strIn_iff]; exact hs
    exact ⟨by rw [this]; rfl, x1⟩
theorem rname_spec (s : ByteArray) (hs : s.size ≤ 4194304) (h : Heap) : HCalls Tryz.prog 43 #[.string s] h fun e h' => e = .returned (.bool (isNameB s)) ∧ Ext h h' := by
  refine c43 (by simp) ?_
  refine gA ?_
  refine HCall.mk ((rident_spec s (by omega) h).mono ?_)
  rintro e h1 ⟨rfl, rfl⟩
  unfold isNameB
  cases q : identB s
  · refine gA ?_
    exact ⟨rfl, Ext.refl _⟩
  · refine gA ?_
    refine HCall.mk ((rword_spec s h1).mono ?_)
    rintro e h2 ⟨rfl, x2⟩
    refine gA ?_
    exact ⟨rfl, x2⟩
/-- The operators of a kind. -/
def opsK (k : Int) : List ByteArray := if k = 15 then ops15 else if k = 16 then ops16 else if k = 17 then ops17 else if k = 18 then ops18 else if k = 20 then ops20 else []
theorem rop_spec (k : Int) (s : ByteArray) (h : Heap) : HCalls Tryz.prog 60 #[.int .i64 k, .string s] h fun e h' => e = .returned (.bool (strIn (opsK k) s)) ∧ Ext h h' := by
  refine c60 (by simp) ?_
  unfold opsK
  by_cases h15 : k = 15
  · subst h15
    rw [if_pos rfl]
    refine gA ?_
    refine new_own (e := 9) 1 6 (ops15.map .string) rfl rfl ?_
    intro h1 b1 w1 x1 z1 hb1
    refine gA ?_
    refine HCall.mk ((rhas7_spec (ks := ops15) w1.sl s (by decide)).mono ?_)
    rintro e h2 ⟨rfl, rfl⟩
    refine gA ?_
    exact ⟨rfl, x1⟩
  rw [if_neg h15]
  have q15 : (k == 15) = false := beq_eq_false_iff_ne.2 h15
  by_cases h16 : k = 16
  · subst h16
    rw [if_pos rfl]
    have e2 : strIn ops16 s = (strEq s ⟨#[43, 43]⟩ || strEq s ⟨#[45, 45]⟩) := by
      rw [Bool.eq_iff_iff, strIn_iff, Bool.or_eq_true, strEq_iff, strEq_iff]
      simp [ops16]
    rw [e2]
    cases q1 : strEq s ⟨#[43, 43]⟩
    · refine gA ?_
      exact ⟨rfl, Ext.refl _⟩
    · refine gA ?_
      exact ⟨rfl, Ext.refl _⟩
  rw [if_neg h16]
  have q16 : (k == 16) = false := beq_eq_false_iff_ne.2 h16
  by_cases h17 : k = 17
  · subst h17
    rw [if_pos rfl]
    refine gA ?_
    refine new_own (e := 9) 1 15 (ops17.map .string) rfl rfl ?_
    intro h1 b1 w1 x1 z1 hb1
    refine gA ?_
    refine HCall.mk ((rhas7_spec (ks := ops17) w1.sl s (by decide)).mono ?_)
    rintro e h2 ⟨rfl, rfl⟩
    refine gA ?_
    exact ⟨rfl, x1⟩
  rw [if_neg h17]
  have q17 : (k == 17) = false := beq_eq_false_iff_ne.2 h17
  by_cases h18 : k = 18
  · subst h18
    rw [if_pos rfl]
    have e2 : strIn ops18 s = (strEq s ⟨#[38, 38]⟩ || strEq s ⟨#[124, 124]⟩) := by
      rw [Bool.eq_iff_iff, strIn_iff, Bool.or_eq_true, strEq_iff, strEq_iff]
      simp [ops18]
    rw [e2]
    cases q1 : strEq s ⟨#[38, 38]⟩
    · refine gA ?_
      exact ⟨rfl, Ext.refl _⟩
    · refine gA ?_
      exact ⟨rfl, Ext.refl _⟩
  rw [if_neg h18]
  have q18 : (k == 18) = false := beq_eq_false_iff_ne.2 h18
  by_cases h20 : k = 20
  · subst h20
    rw [if_pos rfl]
    refine gA ?_
    refine new_own (e := 9) 1 6 (ops20.map .string) rfl rfl ?_
    intro h1 b1 w1 x1 z1 hb1
    refine gA ?_
    refine HCall.mk ((rhas7_spec (ks := ops20) w1.sl s (by decide)).mono ?_)
    rintro e h2 ⟨rfl, rfl⟩
    refine gA ?_
    exact ⟨rfl, x1⟩
  rw [if_neg h20]
  have q20 : (k == 20) = false := beq_eq_false_iff_ne.2 h20
  refine gA ?_
  exact ⟨rfl, Ext.refl _⟩
end Go.Proofs.YtlogpojkkbcpjaaGreat.Hc
/- r07.named, own; what may be, kind by kind (printed by tools/mkZB.py). -/
set_option linter.unusedVariables false
set_option linter.unusedSimpArgs false
namespace Go.Proofs.YtlogpojkkbcpjaaGreat.Hc
open Go Go.H Go.Proofs
set_option maxRecDepth 100000
set_option maxHeartbeats 8000000
theorem and1_64 {n : Nat} (hn : n < 2 ^ 63) : ibits .and .i64 (n : Int) 1 = ((n % 2 : Nat) : Int) := by
  unfold ibits
  have e1 : ((BitVec.ofInt 64 (n : Int)) &&& (BitVec.ofInt 64 1)).toNat = n % 2 := by
    rw [BitVec.toNat_and, BitVec.ofInt_natCast, show BitVec.ofInt 64 1 = 1#64 from rfl, BitVec.toNat_ofNat, BitVec.toNat_ofNat, Nat.mod_eq_of_lt (by omega : n < 2 ^ 64)]
    exact Nat.and_one_is_mod n
  show IntKind.i64.wrap (((BitVec.ofInt 64 (n : Int)) &&& (BitVec.ofInt 64 1)).toNat : Int) = _
  rw [e1]
  exact wrap_i64 (by omega)
def namedR (k : Int) (s : ByteArray) (l : List NT) : Bool :=
  if k = 3 ∨ k = 23 ∨ k = 38 ∨ k = 39 then isNameB s else
  if k = 10 ∨ k = 31 ∨ k = 32 then strEq s ⟨#[]⟩ || isNameB s else
  if k = 11 then identB s else
  if k = 35 then (if l.length = 3 ∧ kidKind l 1 = 25 then isNameB s else strEq s ⟨#[]⟩) else
  if k = 15 ∨ k = 16 ∨ k = 17 ∨ k = 18 ∨ k = 20 then strIn (opsK k) s else strEq s ⟨#[]⟩
theorem namedR_spec {h : Heap} {d : NT} {cs : List Value} (r : TRep h d cs) : HCalls Tryz.prog 41 #[.agg cs.toArray] h fun e h' => e = .returned (.bool (namedR d.kind d.name d.l)) ∧ Ext h h' := by
  cases d with
  | mk k nm n t ns l =>
  simp only [TRep] at r
  obtain ⟨b1, b2, b3, b4, b5, b6, b7, ka, kc, la, lc, ys, rfl, s1, s2, s3⟩ := r
  show HCalls Tryz.prog 41 _ h fun e h' => e = .returned (.bool (namedR k nm l)) ∧ Ext h h'
  generalize hz : namedR k nm l = z
  unfold namedR at hz
  refine c41 (by simp) ?_
  refine gA ?_
  refine new_var (e := 25) [.int .i64 k, .string nm, .int .i64 n, .string t, .slice ka ns.length kc, .slice la l.length lc] rfl ?_
  intro h1 bn o1 x1 z1 hbn
  by_cases hA : k = 3 ∨ k = 23 ∨ k = 38 ∨ k = 39
  · rw [if_pos hA] at hz
    cases q1 : (k == 3) <;> cases q2 : (k == 23) <;> cases q3 : (k == 38) <;> cases q4 : (k == 39)
    · rw [beq_eq_false_iff_ne] at q1 q2 q3 q4
      exact absurd hA (by rintro (h | h | h | h) <;> contradiction)
    all_goals
      refine gA ?_
      refine HCall.mk ((rname_spec nm b3 h1).mono ?_)
      rintro e h2 ⟨rfl, x2⟩
      refine gA ?_
      exact ⟨by rw [← hz]; rfl, x1.trans x2⟩
  rw [if_neg hA] at hz
  have qA1 : (k == 3) = false := beq_eq_false_iff_ne.2 fun e => hA (.inl e)
  have qA2 : (k == 23) = false := beq_eq_false_iff_ne.2 fun e => hA (.inr (.inl e))
  have qA3 : (k == 38) = false := beq_eq_false_iff_ne.2 fun e => hA (.inr (.inr (.inl e)))
  have qA4 : (k == 39) = false := beq_eq_false_iff_ne.2 fun e => hA (.inr (.inr (.inr e)))
  clear hA
  by_cases hB : k = 10 ∨ k = 31 ∨ k = 32
  · rw [if_pos hB] at hz
    cases q1 : (k == 10) <;> cases q2 : (k == 31) <;> cases q3 : (k == 32)
    · rw [beq_eq_false_iff_ne] at q1 q2 q3
      exact absurd hB (by rintro (h | h | h) <;> contradiction)
    all_goals
      cases e1 : strEq nm ⟨#[]⟩
      · refine gA ?_
        refine HCall.mk ((rname_spec nm b3 h1).mono ?_)
        rintro e h2 ⟨rfl, x2⟩
        refine gA ?_
        exact ⟨by rw [← hz, e1]; rfl, x1.trans x2⟩
      · refine gA ?_
        exact ⟨by rw [← hz, e1]; rfl, x1⟩
  rw [if_neg hB] at hz
  have qB1 : (k == 10) = false := beq_eq_false_iff_ne.2 fun e => hB (.inl e)
  have qB2 : (k == 31) = false := beq_eq_false_iff_ne.2 fun e => hB (.inr (.inl e))
  have qB3 : (k == 32) = false := beq_eq_false_iff_ne.2 fun e => hB (.inr (.inr e))
  clear hB
  by_cases hC : k = 11
  · rw [if_pos hC] at hz
    have q : (k == 11) = true := beq_iff_eq.2 hC
    refine gA ?_
    refine HCall.mk ((rident_spec nm (by omega) h1).mono ?_)
    rintro e h2 ⟨rfl, rfl⟩
    refine gA ?_
    exact ⟨by rw [← hz]; rfl, x1⟩
  rw [if_neg hC] at hz
  have qC : (k == 11) = false := beq_eq_false_iff_ne.2 hC
  by_cases hD : k = 35
  · rw [if_pos hD] at hz
    have q : (k == 35) = true := beq_iff_eq.2 hD
    by_cases hl : l.length = 3
    · have ql : ((l.length : Int) == 3) = true := by rw [hl]; rfl
      have hl1 : 1 < l.length := by omega
      have hkk := kidKind_in hl1
      by_cases hk : kidKind l 1 = 25
      · rw [if_pos ⟨hl, hk⟩] at hz
        rw [hkk] at hk
        have qk : (l[1].kind == 25) = true := beq_iff_eq.2 hk
        refine gA ?_
        refine HIdx.mk 1 rfl hl1 ?_
        refine sl_some s2 hl1 fun p ep => ?_
        refine gA ?_
        refine tkind (s2.ext x1) (s3.ext x1) ep hl1 ?_
        refine gA ?_
        refine HCall.mk ((rname_spec nm b3 h1).mono ?_)
        rintro e h2 ⟨rfl, x2⟩
        refine gA ?_
        exact ⟨by rw [← hz]; rfl, x1.trans x2⟩
      · rw [if_neg fun e => hk e.2] at hz
        rw [hkk] at hk
        have qk : (l[1].kind == 25) = false := beq_eq_false_iff_ne.2 hk
        refine gA ?_
        refine HIdx.mk 1 rfl hl1 ?_
        refine sl_some s2 hl1 fun p ep => ?_
        refine gA ?_
        refine tkind (s2.ext x1) (s3.ext x1) ep hl1 ?_
        refine gA ?_
        exact ⟨by rw [← hz]; rfl, x1⟩
    · rw [if_neg fun e => hl e.1] at hz
      have ql : ((l.length : Int) == 3) = false := beq_eq_false_iff_ne.2 (by omega)
      refine gA ?_
      exact ⟨by rw [← hz]; rfl, x1⟩
  rw [if_neg hD] at hz
  have qD : (k == 35) = false := beq_eq_false_iff_ne.2 hD
  by_cases hE : k = 15 ∨ k = 16 ∨ k = 17 ∨ k = 18 ∨ k = 20
  · rw [if_pos hE] at hz
    rcases hE with rfl | rfl | rfl | rfl | rfl
    all_goals
      refine gA ?_
      refine HCall.mk ((rop_spec _ nm h1).mono ?_)
      rintro e h2 ⟨rfl, x2⟩
      refine gA ?_
      exact ⟨by rw [← hz]; rfl, x1.trans x2⟩
  rw [if_neg hE] at hz
  have qE1 : (k == 15) = false := beq_eq_false_iff_ne.2 fun e => hE (.inl e)
  have qE2 : (k == 16) = false := beq_eq_false_iff_ne.2 fun e => hE (.inr (.inl e))
  have qE3 : (k == 17) = false := beq_eq_false_iff_ne.2 fun e => hE (.inr (.inr (.inl e)))
  have qE4 : (k == 18) = false := beq_eq_false_iff_ne.2 fun e => hE (.inr (.inr (.inr (.inl e))))
  have qE5 : (k == 20) = false := beq_eq_false_iff_ne.2 fun e => hE (.inr (.inr (.inr (.inr e))))
  refine gA ?_
  exact ⟨by rw [← hz]; rfl, x1⟩
theorem even_law (t : ByteArray) (h : t.size ≤ 4194304) : evenB t = (((t.size : Int).tmod 2) == 0) := by
  unfold evenB
  rw [and1_64 (by omega)]
  have : (t.size : Int).tmod 2 = ((t.size % 2 : Nat) : Int) := by rw [Int.tmod_eq_emod_of_nonneg (by omega)]; omega
  rw [this]
theorem reven_spec (t : ByteArray) (hs : t.size ≤ 4194304) (h : Heap) : HCalls Tryz.prog 42 #[.string t] h fun e h' => e = .returned (.bool (evenB t)) ∧ h' = h := by
  rw [even_law t hs]
  refine c42 (by simp) ?_
  refine gA ?_
  exact ⟨rfl, rfl⟩
def numR (k n : Int) : Bool := if k = 1 then !(decide (n < 0) || decide (n > 9007199254740991)) else if k = 6 ∨ k = 16 then !((n != 0) && (n != 1)) else !(n != 0)
def ownR (d : NT) : Bool := namedR d.kind d.name d.l && (!(!strEq d.text ⟨#[]⟩ && (d.kind != 2) && (d.kind != 9)) && (evenB d.text && (numR d.kind d.num && (!(decide ((d.names.length : Int) > 0) && (d.kind != 10) && (d.kind != 39)) && !(d.names.any fun s => !isNameB s)))))
theorem ownR_spec {h : Heap} {d : NT} {cs : List Value} (r : TRep h d cs) : HCalls Tryz.prog 23 #[.agg cs.toArray] h fun e h' => e = .returned (.bool (ownR d)) ∧ Ext h h' := by
  cases d with
  | mk k nm n t ns l =>
  have rt := r
  simp only [TRep] at r
  obtain ⟨b1, b2, b3, b4, b5, b6, b7, ka, kc, la, lc, ys, rfl, s1, s2, s3⟩ := r
  have hz : ownR (.mk k nm n t ns l) = (namedR k nm l && (!(!strEq t ⟨#[]⟩ && (k != 2) && (k != 9)) && (evenB t && (numR k n && (!(decide ((ns.length : Int) > 0) && (k != 10) && (k != 39)) && !(ns.any fun s => !isNameB s)))))) := rfl
  generalize ownR (.mk k nm n t ns l) = z at hz
  refine c23 (by simp) ?_
  refine gA ?_
  refine new_var (e := 25) [.int .i64 k, .string nm, .int .i64 n, .string t, .slice ka ns.length kc, .slice la l.length lc] rfl ?_
  intro h1 bn o1 x1 z1 hbn
  refine gN ?_
  refine HCall.mk ((namedR_spec (rt.ext x1)).mono ?_)
  rintro e h2 ⟨rfl, x2⟩
  have o1 := o1.ext x2
  have x02 := x1.trans x2
  rw [show namedR (NT.kind (.mk k nm n t ns l)) (NT.name (.mk k nm n t ns l)) (NT.l (.mk k nm n t ns l)) = namedR k nm l from rfl]
  cases q1 : namedR k nm l
  · refine gA ?_
    exact ⟨by rw [hz, q1]; rfl, x02⟩
  rw [q1, Bool.true_and] at hz
  have fin : ∀ (K : Prop), ((!(!strEq t ⟨#[]⟩ && (k != 2) && (k != 9))) = true → K) → ((!(!strEq t ⟨#[]⟩ && (k != 2) && (k != 9))) = false → K) → K := fun K h1 h2 => by
    cases hb : (!(!strEq t ⟨#[]⟩ && (k != 2) && (k != 9)))
    · exact h2 hb
    · exact h1 hb
  clear fin
  have cut : ∀ (R : Heap → Prop), True := fun _ => trivial
  clear cut
  have q2' : ∀ b, strEq t ⟨#[]⟩ = b → (!strEq t ⟨#[]⟩) = !b := fun b h => by rw [h]
  cases q2 : strEq t ⟨#[]⟩ <;> cases q3 : (k != 2) <;> cases q4 : (k != 9)
  all_goals
    have q2'' := q2' _ q2
    first | rw [Bool.not_false] at q2'' | rw [Bool.not_true] at q2''
    simp only [q2, q3, q4, Bool.not_false, Bool.not_true, Bool.true_and, Bool.false_and, Bool.and_false, Bool.and_true] at hz
    refine gA ?_
  case false.true.true => exact ⟨by rw [hz]; rfl, x02⟩
  all_goals
    refine HCall.mk ((reven_spec t b4 h2).mono ?_)
    rintro e h3 ⟨rfl, rfl⟩
    cases q5 : evenB t
    · refine gA ?_
      exact ⟨by rw [hz, q5]; rfl, x02⟩
    rw [q5, Bool.true_and] at hz
    refine gB ?_
    refine cut_rule [] (fun vs h' => numR k n = true ∧ h' = h3) rfl ?_ ?_
    · unfold numR at hz ⊢
      by_cases h1' : k = 1
      · have qk : (k == 1) = true := beq_iff_eq.2 h1'
        rw [if_pos h1'] at hz ⊢
        cases q6 : decide (n < 0) <;> cases q7 : decide (n > 9007199254740991)
        all_goals
          rw [q6, q7] at hz
          refine gA ?_
          first | exact ⟨rfl, rfl⟩ | exact ⟨by rw [hz]; rfl, x02⟩
      · have qk : (k == 1) = false := beq_eq_false_iff_ne.2 h1'
        rw [if_neg h1'] at hz ⊢
        by_cases h2' : k = 6 ∨ k = 16
        · rw [if_pos h2'] at hz ⊢
          have qs : (k == 6) = true ∨ ((k == 6) = false ∧ (k == 16) = true) := by rcases h2' with rfl | rfl <;> decide
          rcases qs with qk2 | ⟨qk2, qk3⟩
          all_goals
            cases q6 : (n != 0) <;> cases q7 : (n != 1)
            all_goals
              rw [q6, q7] at hz
              refine gA ?_
              first | exact ⟨rfl, rfl⟩ | exact ⟨by rw [hz]; rfl, x02⟩
        · rw [if_neg h2'] at hz ⊢
          have qk2 : (k == 6) = false := beq_eq_false_iff_ne.2 fun e => h2' (.inl e)
          have qk3 : (k == 16) = false := beq_eq_false_iff_ne.2 fun e => h2' (.inr e)
          cases q6 : (n != 0)
          all_goals
            rw [q6] at hz
            refine gA ?_
            first | exact ⟨rfl, rfl⟩ | exact ⟨by rw [hz]; rfl, x02⟩
    · intro u h4
      rintro ⟨q8, rfl⟩
      rw [q8, Bool.true_and] at hz
      cases q9 : decide ((ns.length : Int) > 0) <;> cases q10 : (k != 10) <;> cases q11 : (k != 39)
      all_goals
        simp only [q9, q10, q11, Bool.not_false, Bool.not_true, Bool.true_and, Bool.false_and, Bool.and_false, Bool.and_true] at hz
        refine gA ?_
        first | exact ⟨by rw [hz]; rfl, x02⟩ | skip
      all_goals
        refine loop_rule [72] (fun vs h' => ∃ (i : Nat), vs = [.int .i64 i] ∧ i ≤ ns.length ∧ ((ns.take i).any fun s => !isNameB s) = false ∧ Ext h h')
          (fun vs _ => match vs with | [.int _ i] => ns.length - i.toNat | _ => 0) rfl ?_ ?_
        · exact ⟨0, rfl, by omega, by simp, x02⟩
        intro u h5 v72
        rintro ⟨i, e, hi, ha, x5⟩
        cases e
        refine gA ?_
        refine HIf.mk (fun hlt => ?_) (fun hlt => ?_)
        · have hi1 : i < ns.length := by have := of_decide_eq_true hlt; omega
          have hmu : ns.length - ((i : Int) + 1).toNat < ns.length - ((i : Int)).toNat := by omega
          have at1 := any_take (q := fun s => !isNameB s) hi1
          refine gA ?_
          refine HIdx.mk i rfl hi1 ?_
          refine sl_some s1 hi1 fun p ep => ?_
          refine gA ?_
          refine (s1.ext x5).load ep (by simpa using hi1) ?_
          rw [List.getElem_map]
          refine gA ?_
          refine HCall.mk ((rname_spec ns[i] (b7 _ (List.getElem_mem hi1)) h5).mono ?_)
          rintro e h6 ⟨rfl, x6⟩
          cases q12 : isNameB ns[i]
          · have : (ns.any fun s => !isNameB s) = true := by
              rw [List.any_eq_true]
              exact ⟨ns[i], List.getElem_mem hi1, by rw [q12]; rfl⟩
            rw [this] at hz
            refine gA ?_
            exact ⟨by rw [hz]; rfl, x5.trans x6⟩
          · refine gA ?_
            exact ⟨⟨i + 1, rfl, by omega, by rw [at1, ha, q12]; rfl, x5.trans x6⟩, hmu⟩
        · have hge := of_decide_eq_false hlt
          rw [List.take_of_length_le (by omega)] at ha
          rw [ha] at hz
          refine gA ?_
          exact ⟨by rw [hz]; rfl, x5⟩
end Go.Proofs.YtlogpojkkbcpjaaGreat.Hc
/- What may be, kind by kind, in the reference's words (printed by tools/mkZC.py). -/
set_option linter.unusedVariables false
set_option linter.unusedSimpArgs false
namespace Go.Proofs.YtlogpojkkbcpjaaGreat.Hc
open Go Go.H Go.Proofs
set_option maxRecDepth 100000
set_option maxHeartbeats 8000000
def Ex (d : NT) : Bool := exprB d.kind && mayT d
def St (x : Bool) (d : NT) : Bool := stB d.kind x && mayT d
def Kk (k : Int) (d : NT) : Bool := (d.kind == k) && mayT d
def Tg (d : NT) : Bool := targetB d.kind
/-- A loop's variable, or a target. -/
def Wh (d : NT) : Bool := (targetB d.kind || ((d.kind == 22) && ((d.l.length : Int) == 1) && ((kidLen d.l : Int) == 0))) && mayT d
def at_ (f : NT → Bool) (l : List NT) (i : Nat) : Bool := match l[i]? with
  | some d => f d
  | none => false
theorem at_in {f : NT → Bool} {l : List NT} {i : Nat} (hi : i < l.length) : at_ f l i = f l[i] := by unfold at_; rw [List.getElem?_eq_getElem hi]
def sh (c : UInt8) (d : NT) : Bool := shapeB (exprB d.kind) d.kind d.l c.toNat && mayT d
theorem kidsB_cons (ls : List UInt8) (d : NT) (r : List NT) (i : Nat) : kidsB ls (d :: r) i = (sh (letterAt ls i) d && kidsB ls r (i + 1)) := by simp only [kidsB, sh]
theorem kidsB_nil (ls : List UInt8) (i : Nat) : kidsB ls [] i = true := rfl
theorem kids_all (c : UInt8) : ∀ (l : List NT) (i : Nat), kidsB [c] l i = l.all (sh c)
  | [], i => rfl
  | d :: r, i => by
    have e : letterAt [c] i = c := by unfold letterAt; simp
    rw [kidsB_cons, kids_all c r (i + 1), e, List.all_cons]
theorem kids_more (a c : UInt8) : ∀ (l : List NT) (i : Nat), kidsB [a, c] l (i + 1) = l.all (sh c)
  | [], i => rfl
  | d :: r, i => by
    have e : letterAt [a, c] (i + 1) = c := by
      unfold letterAt
      have : min (i + 1) ([a, c].length - 1) = 1 := by simp
      rw [this]; rfl
    rw [kidsB_cons, kids_more a c r (i + 1), e, List.all_cons]
theorem kids_same (c : UInt8) (l : List NT) : kidsB [c, c] l 0 = l.all (sh c) := by
  cases l with
  | nil => rfl
  | cons d r =>
    have e : letterAt [c, c] 0 = c := rfl
    rw [kidsB_cons, kids_more, e, List.all_cons]
theorem sh101 : sh 101 = Ex := rfl
theorem sh98 : sh 98 = Kk 25 := rfl
theorem sh112 : sh 112 = Kk 9 := rfl
theorem sh100 : sh 100 = Kk 23 := rfl
theorem sh107 : sh 107 = Kk 37 := rfl
theorem sh115 : sh 115 = St false := rfl
theorem sh120 : sh 120 = St true := rfl
theorem sh119 : sh 119 = Wh := rfl
theorem sh99 (d : NT) : sh 99 d = (Kk 25 d || Kk 42 d) := by
  show (((d.kind == 25) || (d.kind == 42)) && mayT d) = _
  unfold Kk; cases (d.kind == 25) <;> cases (d.kind == 42) <;> cases mayT d <;> rfl
theorem sh102 (d : NT) : sh 102 d = (Ex d || Kk 42 d) := by
  show ((exprB d.kind || (d.kind == 42)) && mayT d) = _
  unfold Kk Ex; cases exprB d.kind <;> cases (d.kind == 42) <;> cases mayT d <;> rfl
theorem sh118 (d : NT) : sh 118 d = ((Kk 22 d || Ex d) || Kk 42 d) := by
  show ((exprB d.kind || (d.kind == 42) || (d.kind == 22)) && mayT d) = _
  unfold Kk Ex; cases exprB d.kind <;> cases (d.kind == 42) <;> cases (d.kind == 22) <;> cases mayT d <;> rfl
theorem target_ex {k : Int} (h : targetB k = true) : exprB k = true := by
  unfold targetB at h
  simp only [Bool.or_eq_true, beq_iff_eq] at h
  rcases h with (rfl | rfl) | rfl <;> rfl
theorem sh116 (d : NT) : sh 116 d = (Tg d && Ex d) := by
  show (targetB d.kind && mayT d) = _
  unfold Tg Ex
  cases h : targetB d.kind
  · rfl
  · rw [target_ex h]; rfl
theorem lenOk_fix {f : Form} {m : Nat} (h1 : (cutF f.l).1.length = m) (h2 : (cutF f.l).2.2 = false) (n : Nat) : lenOk f n = decide (n = m) := by
  unfold lenOk
  rw [h1, h2, Bool.not_false, Bool.true_and, Bool.eq_iff_iff, decide_eq_true_iff, Bool.and_eq_true, Bool.not_eq_true', Bool.not_eq_true', decide_eq_false_iff_not, decide_eq_false_iff_not]
  omega
theorem lenOk_some {f : Form} {m : Nat} (h1 : (cutF f.l).1.length = m) (h2 : (cutF f.l).2.2 = true) (n : Nat) : lenOk f n = decide (m ≤ n) := by
  unfold lenOk
  rw [h1, h2, Bool.not_true, Bool.false_and, Bool.not_false, Bool.and_true, Bool.eq_iff_iff, decide_eq_true_iff, Bool.not_eq_true', decide_eq_false_iff_not]
  omega
theorem bools (A B C D F G L K M : Bool) : ((A && B && C && D && F && !G && L && K && M) = (A && (D && (C && (B && (F && !G))))  && (L && (K && M)))) := by
  revert A B C D F G L K M; decide
theorem may_split {k : Int} {nm : ByteArray} {n : Int} {t : ByteArray} {ns : List ByteArray} {l : List NT} {f : Form} (hf : formOf k l.length = some f) (h1 : namedB nm f.name l = namedR k nm l) (h2 : (!decide (n < 0) && !decide (n > f.num)) = numR k n)
    (h3 : (!f.text) = ((k != 2) && (k != 9))) (h4 : (!f.names) = ((k != 10) && (k != 39))) :
    mayT (.mk k nm n t ns l) = (ownR (.mk k nm n t ns l) && (lenOk f l.length && (kidsB (letters f.l) l 0 && decide ((empties k l : Int) < 2)))) := by
  have e1 : mayT (.mk k nm n t ns l) = (headOk f nm n t ns l && !(ns.any fun s => !isNameB s) && lenOk f l.length && kidsB (letters f.l) l 0 && decide ((empties k l : Int) < 2)) := by
    rw [mayT, hf]
  have e2 : ownR (.mk k nm n t ns l) = (namedR k nm l && (!(!strEq t ⟨#[]⟩ && (k != 2) && (k != 9)) && (evenB t && (numR k n && (!(decide ((ns.length : Int) > 0) && (k != 10) && (k != 39)) && !(ns.any fun s => !isNameB s)))))) := rfl
  rw [e1, e2]
  unfold headOk
  rw [h1, Bool.and_assoc (namedR k nm l), h2, h3, h4, ← Bool.and_assoc (!strEq t ⟨#[]⟩), ← Bool.and_assoc (decide ((ns.length : Int) > 0)), bools]
theorem num0 {k n : Int} (h1 : k ≠ 1) (h6 : k ≠ 6) (h16 : k ≠ 16) : (!decide (n < 0) && !decide (n > 0)) = numR k n := by
  unfold numR
  rw [if_neg h1, if_neg (by rintro (h | h); exact h6 h; exact h16 h), Bool.eq_iff_iff]
  simp only [Bool.and_eq_true, Bool.not_eq_true', decide_eq_false_iff_not, bne_eq_false_iff_eq]
  omega
theorem num1 {k n : Int} (h : k = 6 ∨ k = 16) : (!decide (n < 0) && !decide (n > 1)) = numR k n := by
  unfold numR
  rw [if_neg (by rcases h with rfl | rfl <;> decide), if_pos h, Bool.eq_iff_iff]
  simp only [Bool.and_eq_true, Bool.not_eq_true', decide_eq_false_iff_not, Bool.and_eq_false_iff, bne_eq_false_iff_eq]
  omega
theorem num9 {n : Int} : (!decide (n < 0) && !decide (n > 9007199254740991)) = numR 1 n := by
  unfold numR
  rw [if_pos rfl, Bool.not_or]
theorem named_0 (s : ByteArray) (l : List NT) : namedB s ⟨#[]⟩ l = strEq s ⟨#[]⟩ := by unfold namedB; rw [if_pos (by decide +kernel)]
theorem named_n (s : ByteArray) (l : List NT) : namedB s ⟨#[110]⟩ l = isNameB s := by unfold namedB; rw [if_neg (by decide +kernel), if_pos (by decide +kernel)]
theorem named_m (s : ByteArray) (l : List NT) : namedB s ⟨#[109]⟩ l = (strEq s ⟨#[]⟩ || isNameB s) := by unfold namedB; rw [if_neg (by decide +kernel), if_neg (by decide +kernel), if_pos (by decide +kernel)]
theorem named_i (s : ByteArray) (l : List NT) : namedB s ⟨#[105]⟩ l = identB s := by unfold namedB; rw [if_neg (by decide +kernel), if_neg (by decide +kernel), if_neg (by decide +kernel), if_pos (by decide +kernel)]
theorem named_c (s : ByteArray) (l : List NT) : namedB s ⟨#[99]⟩ l = (if 1 < l.length ∧ kidKind l 1 = 25 then isNameB s else strEq s ⟨#[]⟩) := by unfold namedB; rw [if_neg (by decide +kernel), if_neg (by decide +kernel), if_neg (by decide +kernel), if_neg (by decide +kernel), if_pos (by decide +kernel)]
theorem named_o {w : ByteArray} (h0 : strEq w ⟨#[]⟩ = false) (h1 : strEq w ⟨#[110]⟩ = false) (h2 : strEq w ⟨#[109]⟩ = false) (h3 : strEq w ⟨#[105]⟩ = false) (h4 : strEq w ⟨#[99]⟩ = false) (s : ByteArray) (l : List NT) : namedB s w l = amongB w s := by
  unfold namedB; rw [if_neg (by rw [h0]; simp), if_neg (by rw [h1]; simp), if_neg (by rw [h2]; simp), if_neg (by rw [h3]; simp), if_neg (by rw [h4]; simp)]
theorem emp_of {k : Int} (h1 : k ≠ 35) (h2 : k ≠ 36) (l : List NT) : decide ((empties k l : Int) < 2) = true := by
  have : empties k l = 0 := by
    unfold empties
    have : l.filter (emptyKid k) = [] := by
      rw [List.filter_eq_nil_iff]
      intro d _
      unfold emptyKid
      simp [h1, h2]
    rw [this]; rfl
  rw [this]; decide
theorem may_1 (nm : ByteArray) (n : Int) (t : ByteArray) (ns : List ByteArray) (l : List NT) : mayT (.mk 1 nm n t ns l) = (ownR (.mk 1 nm n t ns l) && (decide (l.length = 0))) := by
  rw [may_split (k := 1) (f := (⟨⟨#[]⟩, 9007199254740991, false, false, ⟨#[]⟩⟩ : Form)) rfl (named_0 nm l) num9 (by decide) (by decide)]
  congr 1
  rw [emp_of (by decide) (by decide), Bool.and_true]
  rw [lenOk_fix (m := 0) (by decide +kernel) (by decide +kernel)]
  cases l with
  | nil => rfl
  | cons d r => rw [decide_eq_false (by simp), Bool.false_and]
theorem may_2 (nm : ByteArray) (n : Int) (t : ByteArray) (ns : List ByteArray) (l : List NT) : mayT (.mk 2 nm n t ns l) = (ownR (.mk 2 nm n t ns l) && (decide (l.length = 0))) := by
  rw [may_split (k := 2) (f := (⟨⟨#[]⟩, 0, true, false, ⟨#[]⟩⟩ : Form)) rfl (named_0 nm l) (num0 (by decide) (by decide) (by decide)) (by decide) (by decide)]
  congr 1
  rw [emp_of (by decide) (by decide), Bool.and_true]
  rw [lenOk_fix (m := 0) (by decide +kernel) (by decide +kernel)]
  cases l with
  | nil => rfl
  | cons d r => rw [decide_eq_false (by simp), Bool.false_and]
theorem may_3 (nm : ByteArray) (n : Int) (t : ByteArray) (ns : List ByteArray) (l : List NT) : mayT (.mk 3 nm n t ns l) = (ownR (.mk 3 nm n t ns l) && (decide (l.length = 0))) := by
  rw [may_split (k := 3) (f := (⟨⟨#[110]⟩, 0, false, false, ⟨#[]⟩⟩ : Form)) rfl (named_n nm l) (num0 (by decide) (by decide) (by decide)) (by decide) (by decide)]
  congr 1
  rw [emp_of (by decide) (by decide), Bool.and_true]
  rw [lenOk_fix (m := 0) (by decide +kernel) (by decide +kernel)]
  cases l with
  | nil => rfl
  | cons d r => rw [decide_eq_false (by simp), Bool.false_and]
theorem may_4 (nm : ByteArray) (n : Int) (t : ByteArray) (ns : List ByteArray) (l : List NT) : mayT (.mk 4 nm n t ns l) = (ownR (.mk 4 nm n t ns l) && (decide (l.length = 0))) := by
  rw [may_split (k := 4) (f := (⟨⟨#[]⟩, 0, false, false, ⟨#[]⟩⟩ : Form)) rfl (named_0 nm l) (num0 (by decide) (by decide) (by decide)) (by decide) (by decide)]
  congr 1
  rw [emp_of (by decide) (by decide), Bool.and_true]
  rw [lenOk_fix (m := 0) (by decide +kernel) (by decide +kernel)]
  cases l with
  | nil => rfl
  | cons d r => rw [decide_eq_false (by simp), Bool.false_and]
theorem may_5 (nm : ByteArray) (n : Int) (t : ByteArray) (ns : List ByteArray) (l : List NT) : mayT (.mk 5 nm n t ns l) = (ownR (.mk 5 nm n t ns l) && (decide (l.length = 0))) := by
  rw [may_split (k := 5) (f := (⟨⟨#[]⟩, 0, false, false, ⟨#[]⟩⟩ : Form)) rfl (named_0 nm l) (num0 (by decide) (by decide) (by decide)) (by decide) (by decide)]
  congr 1
  rw [emp_of (by decide) (by decide), Bool.and_true]
  rw [lenOk_fix (m := 0) (by decide +kernel) (by decide +kernel)]
  cases l with
  | nil => rfl
  | cons d r => rw [decide_eq_false (by simp), Bool.false_and]
theorem may_6 (nm : ByteArray) (n : Int) (t : ByteArray) (ns : List ByteArray) (l : List NT) : mayT (.mk 6 nm n t ns l) = (ownR (.mk 6 nm n t ns l) && (decide (l.length = 0))) := by
  rw [may_split (k := 6) (f := (⟨⟨#[]⟩, 1, false, false, ⟨#[]⟩⟩ : Form)) rfl (named_0 nm l) (num1 (.inl rfl)) (by decide) (by decide)]
  congr 1
  rw [emp_of (by decide) (by decide), Bool.and_true]
  rw [lenOk_fix (m := 0) (by decide +kernel) (by decide +kernel)]
  cases l with
  | nil => rfl
  | cons d r => rw [decide_eq_false (by simp), Bool.false_and]
theorem may_31 (nm : ByteArray) (n : Int) (t : ByteArray) (ns : List ByteArray) (l : List NT) : mayT (.mk 31 nm n t ns l) = (ownR (.mk 31 nm n t ns l) && (decide (l.length = 0))) := by
  rw [may_split (k := 31) (f := (⟨⟨#[109]⟩, 0, false, false, ⟨#[]⟩⟩ : Form)) rfl (named_m nm l) (num0 (by decide) (by decide) (by decide)) (by decide) (by decide)]
  congr 1
  rw [emp_of (by decide) (by decide), Bool.and_true]
  rw [lenOk_fix (m := 0) (by decide +kernel) (by decide +kernel)]
  cases l with
  | nil => rfl
  | cons d r => rw [decide_eq_false (by simp), Bool.false_and]
theorem may_32 (nm : ByteArray) (n : Int) (t : ByteArray) (ns : List ByteArray) (l : List NT) : mayT (.mk 32 nm n t ns l) = (ownR (.mk 32 nm n t ns l) && (decide (l.length = 0))) := by
  rw [may_split (k := 32) (f := (⟨⟨#[109]⟩, 0, false, false, ⟨#[]⟩⟩ : Form)) rfl (named_m nm l) (num0 (by decide) (by decide) (by decide)) (by decide) (by decide)]
  congr 1
  rw [emp_of (by decide) (by decide), Bool.and_true]
  rw [lenOk_fix (m := 0) (by decide +kernel) (by decide +kernel)]
  cases l with
  | nil => rfl
  | cons d r => rw [decide_eq_false (by simp), Bool.false_and]
theorem may_40 (nm : ByteArray) (n : Int) (t : ByteArray) (ns : List ByteArray) (l : List NT) : mayT (.mk 40 nm n t ns l) = (ownR (.mk 40 nm n t ns l) && (decide (l.length = 0))) := by
  rw [may_split (k := 40) (f := (⟨⟨#[]⟩, 0, false, false, ⟨#[]⟩⟩ : Form)) rfl (named_0 nm l) (num0 (by decide) (by decide) (by decide)) (by decide) (by decide)]
  congr 1
  rw [emp_of (by decide) (by decide), Bool.and_true]
  rw [lenOk_fix (m := 0) (by decide +kernel) (by decide +kernel)]
  cases l with
  | nil => rfl
  | cons d r => rw [decide_eq_false (by simp), Bool.false_and]
theorem may_42 (nm : ByteArray) (n : Int) (t : ByteArray) (ns : List ByteArray) (l : List NT) : mayT (.mk 42 nm n t ns l) = (ownR (.mk 42 nm n t ns l) && (decide (l.length = 0))) := by
  rw [may_split (k := 42) (f := (⟨⟨#[]⟩, 0, false, false, ⟨#[]⟩⟩ : Form)) rfl (named_0 nm l) (num0 (by decide) (by decide) (by decide)) (by decide) (by decide)]
  congr 1
  rw [emp_of (by decide) (by decide), Bool.and_true]
  rw [lenOk_fix (m := 0) (by decide +kernel) (by decide +kernel)]
  cases l with
  | nil => rfl
  | cons d r => rw [decide_eq_false (by simp), Bool.false_and]
theorem may_7 (nm : ByteArray) (n : Int) (t : ByteArray) (ns : List ByteArray) (l : List NT) : mayT (.mk 7 nm n t ns l) = (ownR (.mk 7 nm n t ns l) && (l.all (Ex))) := by
  rw [may_split (k := 7) (f := (⟨⟨#[]⟩, 0, false, false, ⟨#[42, 101]⟩⟩ : Form)) rfl (named_0 nm l) (num0 (by decide) (by decide) (by decide)) (by decide) (by decide)]
  congr 1
  rw [emp_of (by decide) (by decide), Bool.and_true]
  rw [lenOk_some (m := 0) (by decide +kernel) (by decide +kernel)]
  rw [decide_eq_true (Nat.zero_le _), Bool.true_and, show letters ⟨#[42, 101]⟩ = [101] by decide +kernel, kids_all]
  rfl
theorem may_8 (nm : ByteArray) (n : Int) (t : ByteArray) (ns : List ByteArray) (l : List NT) : mayT (.mk 8 nm n t ns l) = (ownR (.mk 8 nm n t ns l) && (l.all (Kk 9))) := by
  rw [may_split (k := 8) (f := (⟨⟨#[]⟩, 0, false, false, ⟨#[42, 112]⟩⟩ : Form)) rfl (named_0 nm l) (num0 (by decide) (by decide) (by decide)) (by decide) (by decide)]
  congr 1
  rw [emp_of (by decide) (by decide), Bool.and_true]
  rw [lenOk_some (m := 0) (by decide +kernel) (by decide +kernel)]
  rw [decide_eq_true (Nat.zero_le _), Bool.true_and, show letters ⟨#[42, 112]⟩ = [112] by decide +kernel, kids_all]
  rfl
theorem may_10 (nm : ByteArray) (n : Int) (t : ByteArray) (ns : List ByteArray) (l : List NT) : mayT (.mk 10 nm n t ns l) = (ownR (.mk 10 nm n t ns l) && (l.all (St true))) := by
  rw [may_split (k := 10) (f := (⟨⟨#[109]⟩, 0, false, true, ⟨#[42, 120]⟩⟩ : Form)) rfl (named_m nm l) (num0 (by decide) (by decide) (by decide)) (by decide) (by decide)]
  congr 1
  rw [emp_of (by decide) (by decide), Bool.and_true]
  rw [lenOk_some (m := 0) (by decide +kernel) (by decide +kernel)]
  rw [decide_eq_true (Nat.zero_le _), Bool.true_and, show letters ⟨#[42, 120]⟩ = [120] by decide +kernel, kids_all]
  rfl
theorem may_25 (nm : ByteArray) (n : Int) (t : ByteArray) (ns : List ByteArray) (l : List NT) : mayT (.mk 25 nm n t ns l) = (ownR (.mk 25 nm n t ns l) && (l.all (St false))) := by
  rw [may_split (k := 25) (f := (⟨⟨#[]⟩, 0, false, false, ⟨#[42, 115]⟩⟩ : Form)) rfl (named_0 nm l) (num0 (by decide) (by decide) (by decide)) (by decide) (by decide)]
  congr 1
  rw [emp_of (by decide) (by decide), Bool.and_true]
  rw [lenOk_some (m := 0) (by decide +kernel) (by decide +kernel)]
  rw [decide_eq_true (Nat.zero_le _), Bool.true_and, show letters ⟨#[42, 115]⟩ = [115] by decide +kernel, kids_all]
  rfl
theorem may_39 (nm : ByteArray) (n : Int) (t : ByteArray) (ns : List ByteArray) (l : List NT) : mayT (.mk 39 nm n t ns l) = (ownR (.mk 39 nm n t ns l) && (l.all (St true))) := by
  rw [may_split (k := 39) (f := (⟨⟨#[110]⟩, 0, false, true, ⟨#[42, 120]⟩⟩ : Form)) rfl (named_n nm l) (num0 (by decide) (by decide) (by decide)) (by decide) (by decide)]
  congr 1
  rw [emp_of (by decide) (by decide), Bool.and_true]
  rw [lenOk_some (m := 0) (by decide +kernel) (by decide +kernel)]
  rw [decide_eq_true (Nat.zero_le _), Bool.true_and, show letters ⟨#[42, 120]⟩ = [120] by decide +kernel, kids_all]
  rfl
theorem may_41 (nm : ByteArray) (n : Int) (t : ByteArray) (ns : List ByteArray) (l : List NT) : mayT (.mk 41 nm n t ns l) = (ownR (.mk 41 nm n t ns l) && (l.all (St true))) := by
  rw [may_split (k := 41) (f := (⟨⟨#[]⟩, 0, false, false, ⟨#[42, 120]⟩⟩ : Form)) rfl (named_0 nm l) (num0 (by decide) (by decide) (by decide)) (by decide) (by decide)]
  congr 1
  rw [emp_of (by decide) (by decide), Bool.and_true]
  rw [lenOk_some (m := 0) (by decide +kernel) (by decide +kernel)]
  rw [decide_eq_true (Nat.zero_le _), Bool.true_and, show letters ⟨#[42, 120]⟩ = [120] by decide +kernel, kids_all]
  rfl
theorem may_9 (nm : ByteArray) (n : Int) (t : ByteArray) (ns : List ByteArray) (l : List NT) : mayT (.mk 9 nm n t ns l) = (ownR (.mk 9 nm n t ns l) && (decide (l.length = 1) && l.all Ex)) := by
  rw [may_split (k := 9) (f := (⟨⟨#[]⟩, 0, true, false, ⟨#[101]⟩⟩ : Form)) rfl (named_0 nm l) (num0 (by decide) (by decide) (by decide)) (by decide) (by decide)]
  congr 1
  rw [emp_of (by decide) (by decide), Bool.and_true]
  rw [lenOk_fix (m := 1) (by decide +kernel) (by decide +kernel)]
  rw [show letters ⟨#[101]⟩ = [101] by decide +kernel, kids_all]
  rfl
theorem may_11 (nm : ByteArray) (n : Int) (t : ByteArray) (ns : List ByteArray) (l : List NT) : mayT (.mk 11 nm n t ns l) = (ownR (.mk 11 nm n t ns l) && (decide (l.length = 1) && l.all Ex)) := by
  rw [may_split (k := 11) (f := (⟨⟨#[105]⟩, 0, false, false, ⟨#[101]⟩⟩ : Form)) rfl (named_i nm l) (num0 (by decide) (by decide) (by decide)) (by decide) (by decide)]
  congr 1
  rw [emp_of (by decide) (by decide), Bool.and_true]
  rw [lenOk_fix (m := 1) (by decide +kernel) (by decide +kernel)]
  rw [show letters ⟨#[101]⟩ = [101] by decide +kernel, kids_all]
  rfl
theorem may_15 (nm : ByteArray) (n : Int) (t : ByteArray) (ns : List ByteArray) (l : List NT) : mayT (.mk 15 nm n t ns l) = (ownR (.mk 15 nm n t ns l) && (decide (l.length = 1) && l.all Ex)) := by
  rw [may_split (k := 15) (f := (⟨⟨#[32, 45, 32, 43, 32, 33, 32, 116, 121, 112, 101, 111, 102, 32, 100, 101, 108, 101, 116, 101, 32, 118, 111, 105, 100, 32]⟩, 0, false, false, ⟨#[101]⟩⟩ : Form)) rfl ((named_o (w := ⟨#[32, 45, 32, 43, 32, 33, 32, 116, 121, 112, 101, 111, 102, 32, 100, 101, 108, 101, 116, 101, 32, 118, 111, 105, 100, 32]⟩) (by decide +kernel) (by decide +kernel) (by decide +kernel) (by decide +kernel) (by decide +kernel) nm l).trans (op_law15 nm)) (num0 (by decide) (by decide) (by decide)) (by decide) (by decide)]
  congr 1
  rw [emp_of (by decide) (by decide), Bool.and_true]
  rw [lenOk_fix (m := 1) (by decide +kernel) (by decide +kernel)]
  rw [show letters ⟨#[101]⟩ = [101] by decide +kernel, kids_all]
  rfl
theorem may_12 (nm : ByteArray) (n : Int) (t : ByteArray) (ns : List ByteArray) (l : List NT) : mayT (.mk 12 nm n t ns l) = (ownR (.mk 12 nm n t ns l) && (decide (l.length = 2) && l.all Ex)) := by
  rw [may_split (k := 12) (f := (⟨⟨#[]⟩, 0, false, false, ⟨#[101, 101]⟩⟩ : Form)) rfl (named_0 nm l) (num0 (by decide) (by decide) (by decide)) (by decide) (by decide)]
  congr 1
  rw [emp_of (by decide) (by decide), Bool.and_true]
  rw [lenOk_fix (m := 2) (by decide +kernel) (by decide +kernel)]
  rw [show letters ⟨#[101, 101]⟩ = [101, 101] by decide +kernel, kids_same]
  rfl
theorem may_17 (nm : ByteArray) (n : Int) (t : ByteArray) (ns : List ByteArray) (l : List NT) : mayT (.mk 17 nm n t ns l) = (ownR (.mk 17 nm n t ns l) && (decide (l.length = 2) && l.all Ex)) := by
  rw [may_split (k := 17) (f := (⟨⟨#[32, 43, 32, 45, 32, 42, 32, 47, 32, 37, 32, 60, 32, 62, 32, 60, 61, 32, 62, 61, 32, 61, 61, 32, 33, 61, 32, 61, 61, 61, 32, 33, 61, 61, 32, 105, 110, 32, 105, 110, 115, 116, 97, 110, 99, 101, 111, 102, 32]⟩, 0, false, false, ⟨#[101, 101]⟩⟩ : Form)) rfl ((named_o (w := ⟨#[32, 43, 32, 45, 32, 42, 32, 47, 32, 37, 32, 60, 32, 62, 32, 60, 61, 32, 62, 61, 32, 61, 61, 32, 33, 61, 32, 61, 61, 61, 32, 33, 61, 61, 32, 105, 110, 32, 105, 110, 115, 116, 97, 110, 99, 101, 111, 102, 32]⟩) (by decide +kernel) (by decide +kernel) (by decide +kernel) (by decide +kernel) (by decide +kernel) nm l).trans (op_law17 nm)) (num0 (by decide) (by decide) (by decide)) (by decide) (by decide)]
  congr 1
  rw [emp_of (by decide) (by decide), Bool.and_true]
  rw [lenOk_fix (m := 2) (by decide +kernel) (by decide +kernel)]
  rw [show letters ⟨#[101, 101]⟩ = [101, 101] by decide +kernel, kids_same]
  rfl
theorem may_18 (nm : ByteArray) (n : Int) (t : ByteArray) (ns : List ByteArray) (l : List NT) : mayT (.mk 18 nm n t ns l) = (ownR (.mk 18 nm n t ns l) && (decide (l.length = 2) && l.all Ex)) := by
  rw [may_split (k := 18) (f := (⟨⟨#[32, 38, 38, 32, 124, 124, 32]⟩, 0, false, false, ⟨#[101, 101]⟩⟩ : Form)) rfl ((named_o (w := ⟨#[32, 38, 38, 32, 124, 124, 32]⟩) (by decide +kernel) (by decide +kernel) (by decide +kernel) (by decide +kernel) (by decide +kernel) nm l).trans (op_law18 nm)) (num0 (by decide) (by decide) (by decide)) (by decide) (by decide)]
  congr 1
  rw [emp_of (by decide) (by decide), Bool.and_true]
  rw [lenOk_fix (m := 2) (by decide +kernel) (by decide +kernel)]
  rw [show letters ⟨#[101, 101]⟩ = [101, 101] by decide +kernel, kids_same]
  rfl
theorem may_21 (nm : ByteArray) (n : Int) (t : ByteArray) (ns : List ByteArray) (l : List NT) : mayT (.mk 21 nm n t ns l) = (ownR (.mk 21 nm n t ns l) && (decide (l.length = 2) && l.all Ex)) := by
  rw [may_split (k := 21) (f := (⟨⟨#[]⟩, 0, false, false, ⟨#[101, 101]⟩⟩ : Form)) rfl (named_0 nm l) (num0 (by decide) (by decide) (by decide)) (by decide) (by decide)]
  congr 1
  rw [emp_of (by decide) (by decide), Bool.and_true]
  rw [lenOk_fix (m := 2) (by decide +kernel) (by decide +kernel)]
  rw [show letters ⟨#[101, 101]⟩ = [101, 101] by decide +kernel, kids_same]
  rfl
theorem may_13 (nm : ByteArray) (n : Int) (t : ByteArray) (ns : List ByteArray) (l : List NT) : mayT (.mk 13 nm n t ns l) = (ownR (.mk 13 nm n t ns l) && (decide (1 ≤ l.length) && l.all Ex)) := by
  rw [may_split (k := 13) (f := (⟨⟨#[]⟩, 0, false, false, ⟨#[101, 42, 101]⟩⟩ : Form)) rfl (named_0 nm l) (num0 (by decide) (by decide) (by decide)) (by decide) (by decide)]
  congr 1
  rw [emp_of (by decide) (by decide), Bool.and_true]
  rw [lenOk_some (m := 1) (by decide +kernel) (by decide +kernel)]
  rw [show letters ⟨#[101, 42, 101]⟩ = [101, 101] by decide +kernel, kids_same]
  rfl
theorem may_14 (nm : ByteArray) (n : Int) (t : ByteArray) (ns : List ByteArray) (l : List NT) : mayT (.mk 14 nm n t ns l) = (ownR (.mk 14 nm n t ns l) && (decide (1 ≤ l.length) && l.all Ex)) := by
  rw [may_split (k := 14) (f := (⟨⟨#[]⟩, 0, false, false, ⟨#[101, 42, 101]⟩⟩ : Form)) rfl (named_0 nm l) (num0 (by decide) (by decide) (by decide)) (by decide) (by decide)]
  congr 1
  rw [emp_of (by decide) (by decide), Bool.and_true]
  rw [lenOk_some (m := 1) (by decide +kernel) (by decide +kernel)]
  rw [show letters ⟨#[101, 42, 101]⟩ = [101, 101] by decide +kernel, kids_same]
  rfl
theorem may_22 (nm : ByteArray) (n : Int) (t : ByteArray) (ns : List ByteArray) (l : List NT) : mayT (.mk 22 nm n t ns l) = (ownR (.mk 22 nm n t ns l) && (decide (1 ≤ l.length) && l.all (Kk 23))) := by
  rw [may_split (k := 22) (f := (⟨⟨#[]⟩, 0, false, false, ⟨#[100, 42, 100]⟩⟩ : Form)) rfl (named_0 nm l) (num0 (by decide) (by decide) (by decide)) (by decide) (by decide)]
  congr 1
  rw [emp_of (by decide) (by decide), Bool.and_true]
  rw [lenOk_some (m := 1) (by decide +kernel) (by decide +kernel)]
  rw [show letters ⟨#[100, 42, 100]⟩ = [100, 100] by decide +kernel, kids_same]
  rfl
theorem may_19 (nm : ByteArray) (n : Int) (t : ByteArray) (ns : List ByteArray) (l : List NT) : mayT (.mk 19 nm n t ns l) = (ownR (.mk 19 nm n t ns l) && (decide (l.length = 3) && l.all Ex)) := by
  rw [may_split (k := 19) (f := (⟨⟨#[]⟩, 0, false, false, ⟨#[101, 101, 101]⟩⟩ : Form)) rfl (named_0 nm l) (num0 (by decide) (by decide) (by decide)) (by decide) (by decide)]
  congr 1
  rw [emp_of (by decide) (by decide), Bool.and_true]
  rw [lenOk_fix (m := 3) (by decide +kernel) (by decide +kernel)]
  rw [show letters ⟨#[101, 101, 101]⟩ = [101, 101, 101] by decide +kernel]
  match l with
  | [] => rfl
  | [_] => rfl
  | [_, _] => rfl
  | [a, b, c] => simp only [kidsB_cons, kidsB_nil, List.all_cons, List.all_nil]; rfl
  | _ :: _ :: _ :: _ :: _ => rw [decide_eq_false (by simp)]; rfl
theorem may_16 (nm : ByteArray) (n : Int) (t : ByteArray) (ns : List ByteArray) (l : List NT) : mayT (.mk 16 nm n t ns l) = (ownR (.mk 16 nm n t ns l) && (decide (l.length = 1) && (at_ Tg l 0 && l.all Ex))) := by
  rw [may_split (k := 16) (f := (⟨⟨#[32, 43, 43, 32, 45, 45, 32]⟩, 1, false, false, ⟨#[116]⟩⟩ : Form)) rfl ((named_o (w := ⟨#[32, 43, 43, 32, 45, 45, 32]⟩) (by decide +kernel) (by decide +kernel) (by decide +kernel) (by decide +kernel) (by decide +kernel) nm l).trans (op_law16 nm)) (num1 (.inr rfl)) (by decide) (by decide)]
  congr 1
  rw [emp_of (by decide) (by decide), Bool.and_true]
  rw [lenOk_fix (m := 1) (by decide +kernel) (by decide +kernel)]
  rw [show letters ⟨#[116]⟩ = [116] by decide +kernel, kids_all]
  match l with
  | [] => rfl
  | [a] => simp only [List.all_cons, List.all_nil, sh116, at_, List.getElem?_cons_zero, Bool.and_true]
  | _ :: _ :: _ => rw [decide_eq_false (by simp)]; rfl
theorem may_20 (nm : ByteArray) (n : Int) (t : ByteArray) (ns : List ByteArray) (l : List NT) : mayT (.mk 20 nm n t ns l) = (ownR (.mk 20 nm n t ns l) && (decide (l.length = 2) && (at_ Tg l 0 && l.all Ex))) := by
  rw [may_split (k := 20) (f := (⟨⟨#[32, 61, 32, 43, 61, 32, 45, 61, 32, 42, 61, 32, 47, 61, 32, 37, 61, 32]⟩, 0, false, false, ⟨#[116, 101]⟩⟩ : Form)) rfl ((named_o (w := ⟨#[32, 61, 32, 43, 61, 32, 45, 61, 32, 42, 61, 32, 47, 61, 32, 37, 61, 32]⟩) (by decide +kernel) (by decide +kernel) (by decide +kernel) (by decide +kernel) (by decide +kernel) nm l).trans (op_law20 nm)) (num0 (by decide) (by decide) (by decide)) (by decide) (by decide)]
  congr 1
  rw [emp_of (by decide) (by decide), Bool.and_true]
  rw [lenOk_fix (m := 2) (by decide +kernel) (by decide +kernel)]
  rw [show letters ⟨#[116, 101]⟩ = [116, 101] by decide +kernel]
  match l with
  | [] => rfl
  | [_] => rfl
  | [a, b] =>
    simp only [kidsB_cons, kidsB_nil, List.all_cons, List.all_nil, at_, List.getElem?_cons_zero, Bool.and_true]
    rw [show letterAt [116, 101] 0 = 116 from rfl, show letterAt [116, 101] (0 + 1) = 101 from rfl, sh116, sh101, Bool.and_assoc]
  | _ :: _ :: _ :: _ => rw [decide_eq_false (by simp)]; rfl
theorem may_24 (nm : ByteArray) (n : Int) (t : ByteArray) (ns : List ByteArray) (l : List NT) : mayT (.mk 24 nm n t ns l) = (ownR (.mk 24 nm n t ns l) && (decide (l.length = 1) && at_ Ex l 0)) := by
  rw [may_split (k := 24) (f := (⟨⟨#[]⟩, 0, false, false, ⟨#[101]⟩⟩ : Form)) rfl (named_0 nm l) (num0 (by decide) (by decide) (by decide)) (by decide) (by decide)]
  congr 1
  rw [emp_of (by decide) (by decide), Bool.and_true]
  rw [lenOk_fix (m := 1) (by decide +kernel) (by decide +kernel)]
  rw [show letters ⟨#[101]⟩ = [101] by decide +kernel, kids_all]
  match l with
  | [] => rfl
  | [a] => simp only [List.all_cons, List.all_nil, at_, List.getElem?_cons_zero, Bool.and_true, sh101]
  | _ :: _ :: _ => rw [decide_eq_false (by simp)]; rfl
theorem may_34 (nm : ByteArray) (n : Int) (t : ByteArray) (ns : List ByteArray) (l : List NT) : mayT (.mk 34 nm n t ns l) = (ownR (.mk 34 nm n t ns l) && (decide (l.length = 1) && at_ Ex l 0)) := by
  rw [may_split (k := 34) (f := (⟨⟨#[]⟩, 0, false, false, ⟨#[101]⟩⟩ : Form)) rfl (named_0 nm l) (num0 (by decide) (by decide) (by decide)) (by decide) (by decide)]
  congr 1
  rw [emp_of (by decide) (by decide), Bool.and_true]
  rw [lenOk_fix (m := 1) (by decide +kernel) (by decide +kernel)]
  rw [show letters ⟨#[101]⟩ = [101] by decide +kernel, kids_all]
  match l with
  | [] => rfl
  | [a] => simp only [List.all_cons, List.all_nil, at_, List.getElem?_cons_zero, Bool.and_true, sh101]
  | _ :: _ :: _ => rw [decide_eq_false (by simp)]; rfl
theorem may_38 (nm : ByteArray) (n : Int) (t : ByteArray) (ns : List ByteArray) (l : List NT) : mayT (.mk 38 nm n t ns l) = (ownR (.mk 38 nm n t ns l) && (decide (l.length = 1) && at_ (St false) l 0)) := by
  rw [may_split (k := 38) (f := (⟨⟨#[110]⟩, 0, false, false, ⟨#[115]⟩⟩ : Form)) rfl (named_n nm l) (num0 (by decide) (by decide) (by decide)) (by decide) (by decide)]
  congr 1
  rw [emp_of (by decide) (by decide), Bool.and_true]
  rw [lenOk_fix (m := 1) (by decide +kernel) (by decide +kernel)]
  rw [show letters ⟨#[115]⟩ = [115] by decide +kernel, kids_all]
  match l with
  | [] => rfl
  | [a] => simp only [List.all_cons, List.all_nil, at_, List.getElem?_cons_zero, Bool.and_true, sh115]
  | _ :: _ :: _ => rw [decide_eq_false (by simp)]; rfl
theorem may_23 (nm : ByteArray) (n : Int) (t : ByteArray) (ns : List ByteArray) (l : List NT) : mayT (.mk 23 nm n t ns l) = (ownR (.mk 23 nm n t ns l) && (decide (l.length ≤ 1) && l.all Ex)) := by
  match l with
  | [] =>
    rw [may_split (k := 23) (l := []) (f := (⟨⟨#[110]⟩, 0, false, false, ⟨#[]⟩⟩ : Form)) rfl (named_n nm []) (num0 (by decide) (by decide) (by decide)) (by decide) (by decide)]
    congr 1
  | [a] =>
    rw [may_split (k := 23) (l := [a]) (f := (⟨⟨#[110]⟩, 0, false, false, ⟨#[101]⟩⟩ : Form)) rfl (named_n nm [a]) (num0 (by decide) (by decide) (by decide)) (by decide) (by decide)]
    congr 1
    rw [emp_of (by decide) (by decide), Bool.and_true]
    rw [lenOk_fix (m := 1) (by decide +kernel) (by decide +kernel)]
    rw [show letters ⟨#[101]⟩ = [101] by decide +kernel, kids_all]
    rfl
  | a :: b :: r =>
    rw [may_split (k := 23) (l := a :: b :: r) (f := (⟨⟨#[110]⟩, 0, false, false, ⟨#[101]⟩⟩ : Form)) rfl (named_n nm (a :: b :: r)) (num0 (by decide) (by decide) (by decide)) (by decide) (by decide)]
    congr 1
    rw [lenOk_fix (m := 1) (by decide +kernel) (by decide +kernel)]
    rw [decide_eq_false (show ¬ (a :: b :: r).length = 1 by simp), decide_eq_false (show ¬ (a :: b :: r).length ≤ 1 by simp)]
    rfl
theorem may_33 (nm : ByteArray) (n : Int) (t : ByteArray) (ns : List ByteArray) (l : List NT) : mayT (.mk 33 nm n t ns l) = (ownR (.mk 33 nm n t ns l) && (decide (l.length ≤ 1) && l.all Ex)) := by
  match l with
  | [] =>
    rw [may_split (k := 33) (l := []) (f := (⟨⟨#[]⟩, 0, false, false, ⟨#[]⟩⟩ : Form)) rfl (named_0 nm []) (num0 (by decide) (by decide) (by decide)) (by decide) (by decide)]
    congr 1
  | [a] =>
    rw [may_split (k := 33) (l := [a]) (f := (⟨⟨#[]⟩, 0, false, false, ⟨#[101]⟩⟩ : Form)) rfl (named_0 nm [a]) (num0 (by decide) (by decide) (by decide)) (by decide) (by decide)]
    congr 1
    rw [emp_of (by decide) (by decide), Bool.and_true]
    rw [lenOk_fix (m := 1) (by decide +kernel) (by decide +kernel)]
    rw [show letters ⟨#[101]⟩ = [101] by decide +kernel, kids_all]
    rfl
  | a :: b :: r =>
    rw [may_split (k := 33) (l := a :: b :: r) (f := (⟨⟨#[]⟩, 0, false, false, ⟨#[101]⟩⟩ : Form)) rfl (named_0 nm (a :: b :: r)) (num0 (by decide) (by decide) (by decide)) (by decide) (by decide)]
    congr 1
    rw [lenOk_fix (m := 1) (by decide +kernel) (by decide +kernel)]
    rw [decide_eq_false (show ¬ (a :: b :: r).length = 1 by simp), decide_eq_false (show ¬ (a :: b :: r).length ≤ 1 by simp)]
    rfl
theorem may_26 (nm : ByteArray) (n : Int) (t : ByteArray) (ns : List ByteArray) (l : List NT) : mayT (.mk 26 nm n t ns l) = (ownR (.mk 26 nm n t ns l) && ((decide (l.length = 2) || (decide (l.length = 3) && at_ (Kk 25) l 2)) && at_ Ex l 0 && at_ (Kk 25) l 1)) := by
  match l with
  | [] =>
    rw [may_split (k := 26) (l := []) (f := (⟨⟨#[]⟩, 0, false, false, ⟨#[101, 98]⟩⟩ : Form)) rfl (named_0 nm []) (num0 (by decide) (by decide) (by decide)) (by decide) (by decide)]
    congr 1
  | [a] =>
    rw [may_split (k := 26) (l := [a]) (f := (⟨⟨#[]⟩, 0, false, false, ⟨#[101, 98]⟩⟩ : Form)) rfl (named_0 nm [a]) (num0 (by decide) (by decide) (by decide)) (by decide) (by decide)]
    congr 1
  | [a, b] =>
    rw [may_split (k := 26) (l := [a, b]) (f := (⟨⟨#[]⟩, 0, false, false, ⟨#[101, 98]⟩⟩ : Form)) rfl (named_0 nm [a, b]) (num0 (by decide) (by decide) (by decide)) (by decide) (by decide)]
    congr 1
    rw [emp_of (by decide) (by decide), Bool.and_true]
    rw [lenOk_fix (m := 2) (by decide +kernel) (by decide +kernel)]
    rw [show letters ⟨#[101, 98]⟩ = [101, 98] by decide +kernel]
    simp only [kidsB_cons, kidsB_nil, Bool.and_true]
    rfl
  | [a, b, c] =>
    rw [may_split (k := 26) (l := [a, b, c]) (f := (⟨⟨#[]⟩, 0, false, false, ⟨#[101, 98, 98]⟩⟩ : Form)) rfl (named_0 nm [a, b, c]) (num0 (by decide) (by decide) (by decide)) (by decide) (by decide)]
    congr 1
    rw [emp_of (by decide) (by decide), Bool.and_true]
    rw [lenOk_fix (m := 3) (by decide +kernel) (by decide +kernel)]
    rw [show letters ⟨#[101, 98, 98]⟩ = [101, 98, 98] by decide +kernel]
    simp only [kidsB_cons, kidsB_nil, Bool.and_true]
    show (true && (Ex a && (Kk 25 b && Kk 25 c))) = ((false || (true && Kk 25 c)) && Ex a && Kk 25 b)
    cases Ex a <;> cases Kk 25 b <;> cases Kk 25 c <;> rfl
  | a :: b :: c :: d :: r =>
    rw [may_split (k := 26) (l := a :: b :: c :: d :: r) (f := (⟨⟨#[]⟩, 0, false, false, ⟨#[101, 98, 98]⟩⟩ : Form)) rfl (named_0 nm (a :: b :: c :: d :: r)) (num0 (by decide) (by decide) (by decide)) (by decide) (by decide)]
    congr 1
    rw [lenOk_fix (m := 3) (by decide +kernel) (by decide +kernel)]
    rw [decide_eq_false (show ¬ (a :: b :: c :: d :: r).length = 3 by simp), decide_eq_false (show ¬ (a :: b :: c :: d :: r).length = 2 by simp)]
    rfl
theorem may_27 (nm : ByteArray) (n : Int) (t : ByteArray) (ns : List ByteArray) (l : List NT) : mayT (.mk 27 nm n t ns l) = (ownR (.mk 27 nm n t ns l) && (decide (l.length = 2) && at_ Ex l 0 && at_ (Kk 25) l 1)) := by
  rw [may_split (k := 27) (f := (⟨⟨#[]⟩, 0, false, false, ⟨#[101, 98]⟩⟩ : Form)) rfl (named_0 nm l) (num0 (by decide) (by decide) (by decide)) (by decide) (by decide)]
  congr 1
  rw [emp_of (by decide) (by decide), Bool.and_true]
  rw [lenOk_fix (m := 2) (by decide +kernel) (by decide +kernel)]
  rw [show letters ⟨#[101, 98]⟩ = [101, 98] by decide +kernel]
  match l with
  | [] => rfl
  | [_] => rfl
  | [a, b] =>
    simp only [kidsB_cons, kidsB_nil, Bool.and_true]
    rfl
  | _ :: _ :: _ :: _ => rw [decide_eq_false (by simp)]; rfl
theorem may_28 (nm : ByteArray) (n : Int) (t : ByteArray) (ns : List ByteArray) (l : List NT) : mayT (.mk 28 nm n t ns l) = (ownR (.mk 28 nm n t ns l) && (decide (l.length = 2) && at_ (Kk 25) l 0 && at_ Ex l 1)) := by
  rw [may_split (k := 28) (f := (⟨⟨#[]⟩, 0, false, false, ⟨#[98, 101]⟩⟩ : Form)) rfl (named_0 nm l) (num0 (by decide) (by decide) (by decide)) (by decide) (by decide)]
  congr 1
  rw [emp_of (by decide) (by decide), Bool.and_true]
  rw [lenOk_fix (m := 2) (by decide +kernel) (by decide +kernel)]
  rw [show letters ⟨#[98, 101]⟩ = [98, 101] by decide +kernel]
  match l with
  | [] => rfl
  | [_] => rfl
  | [a, b] =>
    simp only [kidsB_cons, kidsB_nil, Bool.and_true]
    rfl
  | _ :: _ :: _ :: _ => rw [decide_eq_false (by simp)]; rfl
theorem may_29 (nm : ByteArray) (n : Int) (t : ByteArray) (ns : List ByteArray) (l : List NT) : mayT (.mk 29 nm n t ns l) = (ownR (.mk 29 nm n t ns l) && (decide (l.length = 4) && (at_ (Kk 22) l 0 || at_ Ex l 0 || at_ (Kk 42) l 0) && (at_ Ex l 1 || at_ (Kk 42) l 1) && (at_ Ex l 2 || at_ (Kk 42) l 2) && at_ (Kk 25) l 3)) := by
  rw [may_split (k := 29) (f := (⟨⟨#[]⟩, 0, false, false, ⟨#[118, 102, 102, 98]⟩⟩ : Form)) rfl (named_0 nm l) (num0 (by decide) (by decide) (by decide)) (by decide) (by decide)]
  congr 1
  rw [emp_of (by decide) (by decide), Bool.and_true]
  rw [lenOk_fix (m := 4) (by decide +kernel) (by decide +kernel)]
  rw [show letters ⟨#[118, 102, 102, 98]⟩ = [118, 102, 102, 98] by decide +kernel]
  match l with
  | [] => rfl
  | [_] => rfl
  | [_, _] => rfl
  | [_, _, _] => rfl
  | [a, b, c, d] =>
    simp only [kidsB_cons, kidsB_nil, Bool.and_true]
    rw [show letterAt [118, 102, 102, 98] 0 = 118 from rfl, show letterAt [118, 102, 102, 98] (0 + 1) = 102 from rfl, show letterAt [118, 102, 102, 98] (0 + 1 + 1) = 102 from rfl, show letterAt [118, 102, 102, 98] (0 + 1 + 1 + 1) = 98 from rfl, sh118, sh102, sh102, sh98]
    show (true && (((Kk 22 a || Ex a) || Kk 42 a) && ((Ex b || Kk 42 b) && ((Ex c || Kk 42 c) && Kk 25 d)))) = (true && (Kk 22 a || Ex a || Kk 42 a) && (Ex b || Kk 42 b) && (Ex c || Kk 42 c) && Kk 25 d)
    simp only [Bool.and_assoc]
  | _ :: _ :: _ :: _ :: _ :: _ => rw [decide_eq_false (by simp)]; rfl
theorem may_30 (nm : ByteArray) (n : Int) (t : ByteArray) (ns : List ByteArray) (l : List NT) : mayT (.mk 30 nm n t ns l) = (ownR (.mk 30 nm n t ns l) && (decide (l.length = 3) && at_ Wh l 0 && at_ Ex l 1 && at_ (Kk 25) l 2)) := by
  rw [may_split (k := 30) (f := (⟨⟨#[]⟩, 0, false, false, ⟨#[119, 101, 98]⟩⟩ : Form)) rfl (named_0 nm l) (num0 (by decide) (by decide) (by decide)) (by decide) (by decide)]
  congr 1
  rw [emp_of (by decide) (by decide), Bool.and_true]
  rw [lenOk_fix (m := 3) (by decide +kernel) (by decide +kernel)]
  rw [show letters ⟨#[119, 101, 98]⟩ = [119, 101, 98] by decide +kernel]
  match l with
  | [] => rfl
  | [_] => rfl
  | [_, _] => rfl
  | [a, b, c] =>
    simp only [kidsB_cons, kidsB_nil, Bool.and_true]
    show (true && (Wh a && (Ex b && Kk 25 c))) = (true && Wh a && Ex b && Kk 25 c)
    simp only [Bool.and_assoc]
  | _ :: _ :: _ :: _ :: _ => rw [decide_eq_false (by simp)]; rfl
theorem may_37 (nm : ByteArray) (n : Int) (t : ByteArray) (ns : List ByteArray) (l : List NT) : mayT (.mk 37 nm n t ns l) = (ownR (.mk 37 nm n t ns l) && (decide (1 ≤ l.length) && (at_ (Kk 42) l 0 || at_ Ex l 0) && (l.drop 1).all (St false))) := by
  rw [may_split (k := 37) (f := (⟨⟨#[]⟩, 0, false, false, ⟨#[102, 42, 115]⟩⟩ : Form)) rfl (named_0 nm l) (num0 (by decide) (by decide) (by decide)) (by decide) (by decide)]
  congr 1
  rw [emp_of (by decide) (by decide), Bool.and_true]
  rw [lenOk_some (m := 1) (by decide +kernel) (by decide +kernel)]
  rw [show letters ⟨#[102, 42, 115]⟩ = [102, 115] by decide +kernel]
  match l with
  | [] => rfl
  | d :: r =>
    rw [kidsB_cons, kids_more, show letterAt [102, 115] 0 = 102 from rfl, sh102, sh115]
    show (_ && ((Ex d || Kk 42 d) && r.all (St false))) = (_ && (Kk 42 d || Ex d) && r.all (St false))
    rw [Bool.or_comm (Ex d), Bool.and_assoc]
theorem case_em {c : NT} (h : Kk 37 c = true) : emptyKid 36 c = at_ (Kk 42) c.l 0 := by
  unfold Kk at h
  rw [Bool.and_eq_true, beq_iff_eq] at h
  obtain ⟨hk, hm⟩ := h
  cases c with
  | mk k nm n t ns l =>
  simp only [NT.kind] at hk
  subst hk
  rw [may_37, Bool.and_eq_true, Bool.and_eq_true, Bool.and_eq_true] at hm
  obtain ⟨_, ⟨hl, h0⟩, _⟩ := hm
  have hl := of_decide_eq_true hl
  unfold emptyKid
  show ((false && _) || (true && true && (kidKind l 0 == 42))) = at_ (Kk 42) l 0
  rw [kidKind_in (by omega), at_in (by omega)]
  rw [at_in (by omega), at_in (by omega)] at h0
  show (l[0].kind == 42) = ((l[0].kind == 42) && mayT l[0])
  cases hq : (l[0].kind == 42)
  · rfl
  · rw [Bool.or_eq_true] at h0
    rcases h0 with h0 | h0
    · unfold Kk at h0; rw [Bool.and_eq_true] at h0; rw [h0.2]; rfl
    · unfold Ex at h0; rw [Bool.and_eq_true] at h0; rw [h0.2]; rfl
def emptC (l : List NT) : Nat := (l.filter fun c => at_ (Kk 42) c.l 0).length
theorem emptC_law : ∀ {l : List NT}, l.all (Kk 37) = true → empties 36 l = emptC l
  | [], _ => rfl
  | c :: r, h => by
    rw [List.all_cons, Bool.and_eq_true] at h
    have ih := emptC_law h.2
    have e := case_em h.1
    unfold empties emptC at ih ⊢
    rw [List.filter_cons, List.filter_cons, e]
    cases at_ (Kk 42) c.l 0
    · simpa using ih
    · simp only [if_true, List.length_cons, ih]
theorem may_36 (nm : ByteArray) (n : Int) (t : ByteArray) (ns : List ByteArray) (l : List NT) : mayT (.mk 36 nm n t ns l) = (ownR (.mk 36 nm n t ns l) && (decide (1 ≤ l.length) && at_ Ex l 0 && ((l.drop 1).all (Kk 37) && decide (emptC (l.drop 1) ≤ 1)))) := by
  rw [may_split (k := 36) (f := (⟨⟨#[]⟩, 0, false, false, ⟨#[101, 42, 107]⟩⟩ : Form)) rfl (named_0 nm l) (num0 (by decide) (by decide) (by decide)) (by decide) (by decide)]
  congr 1
  rw [lenOk_some (m := 1) (by decide +kernel) (by decide +kernel)]
  rw [show letters ⟨#[101, 42, 107]⟩ = [101, 107] by decide +kernel]
  match l with
  | [] => rfl
  | d :: r =>
    rw [kidsB_cons, kids_more, show letterAt [101, 107] 0 = 101 from rfl, sh101, sh107]
    show (_ && ((Ex d && r.all (Kk 37)) && decide ((empties 36 (d :: r) : Int) < 2))) = (_ && Ex d && (r.all (Kk 37) && decide (emptC r ≤ 1)))
    cases hx : Ex d
    · simp
    · cases ha : r.all (Kk 37)
      · simp
      · have hd : emptyKid 36 d = false := by
          unfold Ex at hx
          rw [Bool.and_eq_true] at hx
          unfold emptyKid
          have : (d.kind == 37) = false := by
            rw [beq_eq_false_iff_ne]
            intro e
            rw [e] at hx
            exact absurd hx.1 (by decide)
          rw [this]; rfl
        have e1 : empties 36 (d :: r) = emptC r := by
          rw [← emptC_law ha]
          unfold empties
          rw [List.filter_cons, hd]; rfl
        rw [e1]
        have : decide ((emptC r : Int) < 2) = decide (emptC r ≤ 1) := by
          rw [Bool.eq_iff_iff, decide_eq_true_iff, decide_eq_true_iff]; omega
        rw [this]; simp
theorem may_35 (nm : ByteArray) (n : Int) (t : ByteArray) (ns : List ByteArray) (l : List NT) : mayT (.mk 35 nm n t ns l) = (ownR (.mk 35 nm n t ns l) && (decide (l.length = 3) && at_ (Kk 25) l 0 && (at_ (Kk 25) l 1 || at_ (Kk 42) l 1) && (at_ (Kk 25) l 2 || at_ (Kk 42) l 2) && !(at_ (Kk 42) l 1 && at_ (Kk 42) l 2))) := by
  have hf : formOf 35 l.length = some ⟨⟨#[99]⟩, 0, false, false, ⟨#[98, 99, 99]⟩⟩ := rfl
  by_cases hl : l.length = 3
  · have h1 : namedB nm ⟨#[99]⟩ l = namedR 35 nm l := by
      rw [named_c]
      show _ = (if l.length = 3 ∧ kidKind l 1 = 25 then isNameB nm else strEq nm ⟨#[]⟩)
      by_cases hk : kidKind l 1 = 25
      · rw [if_pos ⟨by omega, hk⟩, if_pos ⟨hl, hk⟩]
      · rw [if_neg fun e => hk e.2, if_neg fun e => hk e.2]
    rw [may_split (k := 35) hf h1 (num0 (by decide) (by decide) (by decide)) (by decide) (by decide)]
    congr 1
    rw [lenOk_fix (m := 3) (by decide +kernel) (by decide +kernel)]
    rw [show letters ⟨#[98, 99, 99]⟩ = [98, 99, 99] by decide +kernel]
    match l, hl with
    | [a, b, c], _ =>
      simp only [kidsB_cons, kidsB_nil, Bool.and_true]
      rw [show letterAt [98, 99, 99] 0 = 98 from rfl, show letterAt [98, 99, 99] (0 + 1) = 99 from rfl, show letterAt [98, 99, 99] (0 + 1 + 1) = 99 from rfl, sh98, sh99, sh99]
      show (true && ((Kk 25 a && ((Kk 25 b || Kk 42 b) && (Kk 25 c || Kk 42 c))) && decide ((empties 35 [a, b, c] : Int) < 2))) = (true && Kk 25 a && (Kk 25 b || Kk 42 b) && (Kk 25 c || Kk 42 c) && !(Kk 42 b && Kk 42 c))
      have em : ∀ d, emptyKid 35 d = (d.kind == 42) := fun d => by unfold emptyKid; cases (d.kind == 42) <;> rfl
      have ek : decide ((empties 35 [a, b, c] : Int) < 2) = !(((a.kind == 42) && (b.kind == 42)) || ((a.kind == 42) && (c.kind == 42)) || ((b.kind == 42) && (c.kind == 42))) := by
        unfold empties
        simp only [List.filter_cons, em, List.filter_nil]
        cases (a.kind == 42) <;> cases (b.kind == 42) <;> cases (c.kind == 42) <;> rfl
      rw [ek]
      unfold Kk
      have na : (a.kind == 25) = true → (a.kind == 42) = false := by
        intro h; rw [beq_iff_eq] at h; rw [h]; rfl
      have nb : (b.kind == 25) = true → (b.kind == 42) = false := by
        intro h; rw [beq_iff_eq] at h; rw [h]; rfl
      have nc : (c.kind == 25) = true → (c.kind == 42) = false := by
        intro h; rw [beq_iff_eq] at h; rw [h]; rfl
      generalize (a.kind == 25) = a1 at na ⊢
      generalize (a.kind == 42) = a2 at na ⊢
      generalize (b.kind == 25) = b1 at nb ⊢
      generalize (b.kind == 42) = b2 at nb ⊢
      generalize (c.kind == 25) = c1 at nc ⊢
      generalize (c.kind == 42) = c2 at nc ⊢
      generalize mayT a = ma
      generalize mayT b = mb
      generalize mayT c = mc
      revert na nb nc; revert a1 a2 b1 b2 c1 c2 ma mb mc; decide
  · have h0 : mayT (.mk 35 nm n t ns l) = false := by
      rw [mayT, hf]
      show (_ && _ && lenOk _ l.length && _ && _) = false
      rw [lenOk_fix (m := 3) (by decide +kernel) (by decide +kernel), decide_eq_false hl]
      simp
    rw [h0, decide_eq_false hl]
    simp
end Go.Proofs.YtlogpojkkbcpjaaGreat.Hc
/- The reference's expr, stmt and their kin say what may be (printed by tools/mkZD.py). -/
set_option linter.unusedVariables false
set_option linter.unusedSimpArgs false
namespace Go.Proofs.YtlogpojkkbcpjaaGreat.Hc
open Go Go.H Go.Proofs
set_option maxRecDepth 100000
set_option maxHeartbeats 16000000
theorem rtarget_spec {h : Heap} {d : NT} {cs : List Value} (r : TRep h d cs) : HCalls Tryz.prog 81 #[.agg cs.toArray] h fun e h' => e = .returned (.bool (Tg d)) ∧ Ext h h' := by
  cases d with
  | mk k nm n t ns l =>
  simp only [TRep] at r
  obtain ⟨b1, b2, b3, b4, b5, b6, b7, ka, kc, la, lc, ys, rfl, s1, s2, s3⟩ := r
  show HCalls Tryz.prog 81 _ h fun e h' => e = .returned (.bool (targetB k)) ∧ Ext h h'
  refine c81 (by simp) ?_
  refine gA ?_
  refine new_var (e := 25) [.int .i64 k, .string nm, .int .i64 n, .string t, .slice ka ns.length kc, .slice la l.length lc] rfl ?_
  intro h1 bn o1 x1 z1 hbn
  unfold targetB
  cases q1 : (k == 3) <;> cases q2 : (k == 11) <;> refine gA ?_ <;> exact ⟨rfl, x1⟩
theorem cnts_drop' (l : List NT) (i : Nat) : cnts (l.drop i) ≤ cnts l := by
  induction l generalizing i with
  | nil => simp [cnts]
  | cons d r ih => cases i with
    | zero => simp
    | succ i => have := ih i; simp only [List.drop_succ_cons, cnts]; omega
theorem treps_split' {h : Heap} : ∀ {l m : List NT} {xs : List Value}, TReps h (l ++ m) xs → TReps h l (xs.take (l.length * 6)) ∧ TReps h m (xs.drop (l.length * 6))
  | [], m, xs, r => by simpa [TReps] using r
  | d :: l, m, xs, r => by
    simp only [List.cons_append, TReps] at r ⊢
    obtain ⟨a, b, rfl, r1, r2⟩ := r
    obtain ⟨s1, s2⟩ := treps_split' r2
    have ha := r1.len
    have e : (l.length + 1) * 6 = a.length + l.length * 6 := by omega
    rw [List.length_cons, e, List.take_length_add_append, List.drop_length_add_append]
    exact ⟨⟨a, _, rfl, r1, s1⟩, s2⟩
theorem drop_sl6 {h : Heap} {a : Option Addr} {c : Nat} {xs : List Value} {l : List NT} (s : Sl h 6 a l.length c xs) (r : TReps h l xs) (hi : 1 ≤ l.length) :
    Sl h 6 (a.map fun p => movedTo p c 1 6) (l.length - 1) (c - 1) ((xs.take (l.length * 6)).drop (1 * 6)) ∧ TReps h (l.drop 1) ((xs.take (l.length * 6)).drop (1 * 6)) := by
  have s2 := s.slice (i := 1) (j := l.length) hi (Nat.le_refl _)
  have sp := treps_split' (l := l.take 1) (m := l.drop 1) (h := h) (xs := xs) (by rw [List.take_append_drop]; exact r)
  have e1 : (l.take 1).length = 1 := by rw [List.length_take]; omega
  rw [e1] at sp
  have e2 : xs.take (l.length * 6) = xs := List.take_of_length_le (by rw [s.1]; exact Nat.le_refl _)
  rw [e2] at s2 ⊢
  exact ⟨s2, sp.2⟩
theorem all_take' {q : NT → Bool} {l : List NT} {i : Nat} (hi : i < l.length) : (l.take (i + 1)).all q = ((l.take i).all q && q l[i]) := by
  rw [take_succ' hi, List.all_append]; simp
theorem all_no {q : NT → Bool} {l : List NT} {i : Nat} (hi : i < l.length) (h : q l[i] = false) : l.all q = false := by
  rw [List.all_eq_false]; exact ⟨l[i], List.getElem_mem hi, by rw [h]; simp⟩
abbrev Says (f : FuncId) (d : NT) (b : Bool) : Prop := ∀ (h : Heap) (cs : List Value), TRep h d cs → HCalls Tryz.prog f #[.agg cs.toArray] h fun e h' => e = .returned (.bool b) ∧ Ext h h'
/-- What is said of a node. -/
structure NodeOk (d : NT) : Prop where
  ex : Says 63 d (Ex d)
  st : Says 44 d (St false d)
  bk : Says 64 d (Kk 25 d)
  dc : Says 62 d (Kk 22 d)
  em : Says 67 d (Kk 42 d)
/-- What is said of some. -/
structure ListOk (l : List NT) : Prop where
  exs : ∀ (h : Heap) (a : Option Addr) (c : Nat) (xs : List Value), Sl h 6 a l.length c xs → TReps h l xs → HCalls Tryz.prog 66 #[.slice a l.length c] h fun e h' => e = .returned (.bool (l.all Ex)) ∧ Ext h h'
  sts : ∀ (x : Bool) (h : Heap) (a : Option Addr) (c : Nat) (xs : List Value), Sl h 6 a l.length c xs → TReps h l xs → HCalls Tryz.prog 24 #[.slice a l.length c, .bool x] h fun e h' => e = .returned (.bool (l.all (St x))) ∧ Ext h h'
  cas : ∀ (h : Heap) (a : Option Addr) (c : Nat) (xs : List Value), Sl h 6 a l.length c xs → TReps h l xs → HCalls Tryz.prog 68 #[.slice a l.length c] h fun e h' => e = .returned (.bool (l.all (Kk 37) && decide (emptC l ≤ 1))) ∧ Ext h h'
theorem ListOk.stsT {l : List NT} (k : ListOk l) : ∀ (h : Heap) (a : Option Addr) (c : Nat) (xs : List Value), Sl h 6 a l.length c xs → TReps h l xs → HCalls Tryz.prog 24 #[.slice a l.length c, .bool true] h fun e h' => e = .returned (.bool (l.all (St true))) ∧ Ext h h' := k.sts true
theorem ListOk.stsF {l : List NT} (k : ListOk l) : ∀ (h : Heap) (a : Option Addr) (c : Nat) (xs : List Value), Sl h 6 a l.length c xs → TReps h l xs → HCalls Tryz.prog 24 #[.slice a l.length c, .bool false] h fun e h' => e = .returned (.bool (l.all (St false))) ∧ Ext h h' := k.sts false
theorem ListOk.stsF' {l : List NT} (k : ListOk l) {m : Nat} (h : Heap) (a : Option Addr) (c : Nat) (xs : List Value) (e : l.length = m) (s : Sl h 6 a m c xs) (r : TReps h l xs) : HCalls Tryz.prog 24 #[.slice a m c, .bool false] h fun e h' => e = .returned (.bool (l.all (St false))) ∧ Ext h h' := by subst e; exact k.sts false h a c xs s r
theorem ListOk.cas' {l : List NT} (k : ListOk l) {m : Nat} (h : Heap) (a : Option Addr) (c : Nat) (xs : List Value) (e : l.length = m) (s : Sl h 6 a m c xs) (r : TReps h l xs) : HCalls Tryz.prog 68 #[.slice a m c] h fun e h' => e = .returned (.bool (l.all (Kk 37) && decide (emptC l ≤ 1))) ∧ Ext h h' := by subst e; exact k.cas h a c xs s r
theorem empty_ok {N : Nat} (K : ∀ d, cnt d < N → NodeOk d) (L : ∀ l, cnts l < N → l.length ≤ 4194304 → ListOk l) (d : NT) (hc : cnt d ≤ N) : Says 67 d (Kk 42 d) := by
  intro h cs r
  cases d with
  | mk k nm n t ns l =>
  simp only [TRep] at r
  have rt : TRep h (.mk k nm n t ns l) cs := by simp only [TRep]; exact r
  obtain ⟨b1, b2, b3, b4, b5, b6, b7, ka, kc, la, lc, ys, rfl, s1, s2, s3⟩ := r
  simp only [cnt] at hc
  by_cases hk : k = 42
  · subst hk
    have hz : Kk 42 (.mk 42 nm n t ns l) = mayT (.mk 42 nm n t ns l) := rfl
    rw [may_42] at hz
    generalize Kk 42 (.mk 42 nm n t ns l) = z at hz
    refine c67 (by simp) ?_
    refine gA ?_
    refine new_var (e := 25) [.int .i64 42, .string nm, .int .i64 n, .string t, .slice ka ns.length kc, .slice la l.length lc] rfl ?_
    intro h1 bn o1 X z1 hbn
    refine gA ?_
    refine HCall.mk ((ownR_spec (rt.ext X)).mono ?_)
    rintro e hh1 ⟨rfl, x1⟩
    have o1 := o1.ext x1
    have X := X.trans x1
    cases q1 : ownR (.mk 42 nm n t ns l)
    · (try simp only [q1, Bool.true_and, Bool.and_true, Bool.false_and, Bool.and_false, Bool.true_or, Bool.or_true, Bool.false_or, Bool.or_false, Bool.not_true, Bool.not_false] at hz)
      refine gA ?_
      subst hz
      exact ⟨rfl, X⟩
    · (try simp only [q1, Bool.true_and, Bool.and_true, Bool.false_and, Bool.and_false, Bool.true_or, Bool.or_true, Bool.false_or, Bool.or_false, Bool.not_true, Bool.not_false] at hz)
      by_cases hl2 : l.length = 0
      · have q2 : ((l.length : Int) == 0) = true := beq_iff_eq.2 (by omega)
        have d2 : decide (l.length = 0) = true := decide_eq_true hl2
        (try simp only [d2, Bool.true_and, Bool.and_true, Bool.false_and, Bool.and_false, Bool.true_or, Bool.or_true, Bool.false_or, Bool.or_false, Bool.not_true, Bool.not_false] at hz)
        refine gA ?_
        subst hz
        exact ⟨by first | rfl | (show Ending.returned (.bool (((l.length : Int) == 0))) = _; rw [q2]), X⟩
      · have q2 : ((l.length : Int) == 0) = false := beq_eq_false_iff_ne.2 (by omega)
        have d2 : decide (l.length = 0) = false := decide_eq_false hl2
        (try simp only [d2, Bool.true_and, Bool.and_true, Bool.false_and, Bool.and_false, Bool.true_or, Bool.or_true, Bool.false_or, Bool.or_false, Bool.not_true, Bool.not_false] at hz)
        refine gA ?_
        subst hz
        exact ⟨by first | rfl | (show Ending.returned (.bool (((l.length : Int) == 0))) = _; rw [q2]), X⟩
  · have hz : Kk 42 (.mk k nm n t ns l) = false := by
      show ((k == 42) && _) = false
      rw [beq_eq_false_iff_ne.2 hk]; rfl
    generalize Kk 42 (.mk k nm n t ns l) = z at hz
    have qk : (k == 42) = false := beq_eq_false_iff_ne.2 hk
    have qk' : (k != 42) = true := bne_iff_ne.2 hk
    refine c67 (by simp) ?_
    refine gA ?_
    refine new_var (e := 25) [.int .i64 k, .string nm, .int .i64 n, .string t, .slice ka ns.length kc, .slice la l.length lc] rfl ?_
    intro h1 bn o1 X z1 hbn
    refine gA ?_
    subst hz
    exact ⟨rfl, X⟩
theorem block_ok {N : Nat} (K : ∀ d, cnt d < N → NodeOk d) (L : ∀ l, cnts l < N → l.length ≤ 4194304 → ListOk l) (d : NT) (hc : cnt d ≤ N) : Says 64 d (Kk 25 d) := by
  intro h cs r
  cases d with
  | mk k nm n t ns l =>
  simp only [TRep] at r
  have rt : TRep h (.mk k nm n t ns l) cs := by simp only [TRep]; exact r
  obtain ⟨b1, b2, b3, b4, b5, b6, b7, ka, kc, la, lc, ys, rfl, s1, s2, s3⟩ := r
  simp only [cnt] at hc
  by_cases hk : k = 25
  · subst hk
    have hz : Kk 25 (.mk 25 nm n t ns l) = mayT (.mk 25 nm n t ns l) := rfl
    rw [may_25] at hz
    generalize Kk 25 (.mk 25 nm n t ns l) = z at hz
    refine c64 (by simp) ?_
    refine gA ?_
    refine new_var (e := 25) [.int .i64 25, .string nm, .int .i64 n, .string t, .slice ka ns.length kc, .slice la l.length lc] rfl ?_
    intro h1 bn o1 X z1 hbn
    refine gA ?_
    refine HCall.mk ((ownR_spec (rt.ext X)).mono ?_)
    rintro e hh3 ⟨rfl, x3⟩
    have o1 := o1.ext x3
    have X := X.trans x3
    cases q3 : ownR (.mk 25 nm n t ns l)
    · (try simp only [q3, Bool.true_and, Bool.and_true, Bool.false_and, Bool.and_false, Bool.true_or, Bool.or_true, Bool.false_or, Bool.or_false, Bool.not_true, Bool.not_false] at hz)
      refine gA ?_
      subst hz
      exact ⟨rfl, X⟩
    · (try simp only [q3, Bool.true_and, Bool.and_true, Bool.false_and, Bool.and_false, Bool.true_or, Bool.or_true, Bool.false_or, Bool.or_false, Bool.not_true, Bool.not_false] at hz)
      refine gA ?_
      refine HCall.mk (((L l (by omega) b6).stsF _ _ _ _ (s2.ext X) (s3.ext X)).mono ?_)
      rintro e hh4 ⟨rfl, x4⟩
      have o1 := o1.ext x4
      have X := X.trans x4
      cases q4 : l.all (St false)
      · (try simp only [q4, Bool.true_and, Bool.and_true, Bool.false_and, Bool.and_false, Bool.true_or, Bool.or_true, Bool.false_or, Bool.or_false, Bool.not_true, Bool.not_false] at hz)
        refine gA ?_
        subst hz
        exact ⟨rfl, X⟩
      · (try simp only [q4, Bool.true_and, Bool.and_true, Bool.false_and, Bool.and_false, Bool.true_or, Bool.or_true, Bool.false_or, Bool.or_false, Bool.not_true, Bool.not_false] at hz)
        refine gA ?_
        subst hz
        exact ⟨rfl, X⟩
  · have hz : Kk 25 (.mk k nm n t ns l) = false := by
      show ((k == 25) && _) = false
      rw [beq_eq_false_iff_ne.2 hk]; rfl
    generalize Kk 25 (.mk k nm n t ns l) = z at hz
    have qk : (k == 25) = false := beq_eq_false_iff_ne.2 hk
    have qk' : (k != 25) = true := bne_iff_ne.2 hk
    refine c64 (by simp) ?_
    refine gA ?_
    refine new_var (e := 25) [.int .i64 k, .string nm, .int .i64 n, .string t, .slice ka ns.length kc, .slice la l.length lc] rfl ?_
    intro h1 bn o1 X z1 hbn
    refine gA ?_
    subst hz
    exact ⟨rfl, X⟩
theorem decls_ok {N : Nat} (K : ∀ d, cnt d < N → NodeOk d) (L : ∀ l, cnts l < N → l.length ≤ 4194304 → ListOk l) (d : NT) (hc : cnt d ≤ N) : Says 62 d (Kk 22 d) := by
  intro h cs r
  cases d with
  | mk k nm n t ns l =>
  simp only [TRep] at r
  have rt : TRep h (.mk k nm n t ns l) cs := by simp only [TRep]; exact r
  obtain ⟨b1, b2, b3, b4, b5, b6, b7, ka, kc, la, lc, ys, rfl, s1, s2, s3⟩ := r
  simp only [cnt] at hc
  by_cases hk : k = 22
  · subst hk
    have hz : Kk 22 (.mk 22 nm n t ns l) = mayT (.mk 22 nm n t ns l) := rfl
    rw [may_22] at hz
    generalize Kk 22 (.mk 22 nm n t ns l) = z at hz
    refine c62 (by simp) ?_
    refine gA ?_
    refine new_var (e := 25) [.int .i64 22, .string nm, .int .i64 n, .string t, .slice ka ns.length kc, .slice la l.length lc] rfl ?_
    intro h1 bn o1 X z1 hbn
    refine gA ?_
    refine HCall.mk ((ownR_spec (rt.ext X)).mono ?_)
    rintro e hh5 ⟨rfl, x5⟩
    have o1 := o1.ext x5
    have X := X.trans x5
    cases q5 : ownR (.mk 22 nm n t ns l)
    · (try simp only [q5, Bool.true_and, Bool.and_true, Bool.false_and, Bool.and_false, Bool.true_or, Bool.or_true, Bool.false_or, Bool.or_false, Bool.not_true, Bool.not_false] at hz)
      refine gA ?_
      subst hz
      exact ⟨rfl, X⟩
    · (try simp only [q5, Bool.true_and, Bool.and_true, Bool.false_and, Bool.and_false, Bool.true_or, Bool.or_true, Bool.false_or, Bool.or_false, Bool.not_true, Bool.not_false] at hz)
      by_cases hl0 : 1 ≤ l.length
      · have d0 : decide (1 ≤ l.length) = true := decide_eq_true hl0
        rw [d0, Bool.true_and] at hz
        have hnz : ((l.length : Int) == 0) = false := beq_eq_false_iff_ne.2 (by omega)
        refine gA ?_
        refine loop_rule [22] (fun vs h' => ∃ (i : Nat), vs = [.int .i64 i] ∧ i ≤ l.length ∧ (l.take i).all (Kk 23) = true ∧ Ext h h')
          (fun vs _ => match vs with | [.int _ i] => l.length - i.toNat | _ => 0) rfl ?_ ?_
        · exact ⟨0, rfl, by omega, by simp, X⟩
        intro u h5 v22
        rintro ⟨i, e, hi, ha, X⟩
        cases e
        refine gA ?_
        refine HIf.mk (fun hlt => ?_) (fun hlt => ?_)
        · have hi1 : i < l.length := by have := of_decide_eq_true hlt; omega
          have hmu : l.length - ((i : Int) + 1).toNat < l.length - ((i : Int)).toNat := by omega
          have at1 := all_take' (q := Kk 23) hi1
          have hcg := cnts_get l i hi1
          have hno : Kk 23 l[i] = false → z = false := fun e => by rw [hz]; exact all_no hi1 e
          refine gA ?_
          refine HIdx.mk i rfl hi1 ?_
          refine sl_some s2 hi1 fun p ep => ?_
          refine gA ?_
          refine tloadK s2 s3 (.of_ext X) ep hi1 fun cs rk => ?_
          have rk0 := rk
          cases hd : l[i] with
          | mk k' nm' n' t' ns' l' =>
          rw [hd] at rk rk0 at1 hcg hno
          simp only [TRep] at rk
          obtain ⟨_, _, _, _, _, c6, _, ka', kc', la', lc', ys', rfl, _, t2, t3⟩ := rk
          simp only [cnt] at hcg
          have X5 := X.1
          refine gA ?_
          refine new_var (e := 25) zeroT rfl ?_
          intro h6 bo o6 x6 z6 hbo
          refine gA ?_
          refine store_blk o6 (by simp) (by simp [isOne]) ?_
          intro h7 f7 z7 o7
          replace o7 : BlkW h7 bo 25 [.int .i64 k', .string nm', .int .i64 n', .string t', .slice ka' ns'.length kc', .slice la' l'.length lc'] := by simpa using o7
          have X7 : Ext h h7 := (X.trans x6).offNew f7 (by omega)
          clear o6 f7
          by_cases hk' : k' = 23
          · subst hk'
            have e23 : Kk 23 (.mk 23 nm' n' t' ns' l') = mayT (.mk 23 nm' n' t' ns' l') := rfl
            rw [may_23] at e23
            rw [e23] at at1 hno
            refine gA ?_
            refine HCall.mk ((ownR_spec (rk0.ext X7)).mono ?_)
            rintro e h8 ⟨rfl, x8⟩
            have o7 := o7.ext x8
            have X8 := X7.trans x8
            cases q8 : ownR (.mk 23 nm' n' t' ns' l')
            · have := hno (by rw [q8]; rfl)
              refine gA ?_
              subst this
              exact ⟨rfl, X8⟩
            rw [q8, Bool.true_and] at at1 hno
            by_cases hl' : l'.length ≤ 1
            · have ql : decide ((l'.length : Int) > 1) = false := decide_eq_false (by omega)
              rw [decide_eq_true hl', Bool.true_and] at at1 hno
              refine gA ?_
              refine HCall.mk (((L l' (by omega) c6).exs _ _ _ _ (t2.ext X8) (t3.ext X8)).mono ?_)
              rintro e h9 ⟨rfl, x9⟩
              cases q9 : l'.all Ex
              · have := hno q9
                refine gA ?_
                subst this
                exact ⟨rfl, X8.trans x9⟩
              · refine gA ?_
                exact ⟨⟨i + 1, rfl, by omega, by rw [at1, ha, q9]; rfl, X8.trans x9⟩, hmu⟩
            · have ql : decide ((l'.length : Int) > 1) = true := decide_eq_true (by omega)
              have := hno (by rw [decide_eq_false hl']; rfl)
              refine gA ?_
              subst this
              exact ⟨rfl, X8⟩
          · have qk : (k' != 23) = true := bne_iff_ne.2 hk'
            have := hno (by show ((k' == 23) && _) = false; rw [beq_eq_false_iff_ne.2 hk']; rfl)
            refine gA ?_
            subst this
            exact ⟨rfl, X7⟩
        · have hge := of_decide_eq_false hlt
          obtain rfl : i = l.length := by omega
          rw [List.take_length] at ha
          rw [ha] at hz
          refine gA ?_
          subst hz
          exact ⟨rfl, X⟩
      · have d0 : decide (1 ≤ l.length) = false := decide_eq_false hl0
        have hnz : ((l.length : Int) == 0) = true := beq_iff_eq.2 (by omega)
        rw [d0, Bool.false_and] at hz
        refine gA ?_
        subst hz
        exact ⟨rfl, X⟩
  · have hz : Kk 22 (.mk k nm n t ns l) = false := by
      show ((k == 22) && _) = false
      rw [beq_eq_false_iff_ne.2 hk]; rfl
    generalize Kk 22 (.mk k nm n t ns l) = z at hz
    have qk' : (k != 22) = true := bne_iff_ne.2 hk
    refine c62 (by simp) ?_
    refine gA ?_
    refine new_var (e := 25) [.int .i64 k, .string nm, .int .i64 n, .string t, .slice ka ns.length kc, .slice la l.length lc] rfl ?_
    intro h1 bn o1 X z1 hbn
    refine gA ?_
    subst hz
    exact ⟨rfl, X⟩
end Go.Proofs.YtlogpojkkbcpjaaGreat.Hc
/- The reference's expr, loop, stmt (printed by tools/mkZD.py). -/
set_option linter.unusedVariables false
set_option linter.unusedSimpArgs false
namespace Go.Proofs.YtlogpojkkbcpjaaGreat.Hc
open Go Go.H Go.Proofs
set_option maxRecDepth 100000
set_option maxHeartbeats 16000000
/-- A load of a kid's L. -/
theorem tkidsl {h h1 : Heap} {a : Option Addr} {c : Nat} {xs : List Value} {l : List NT} {p : Addr} {i : Nat} {K : Value → Prop} (x : Sl h 6 a l.length c xs) (r : TReps h l xs) (e1 : Ext h h1) (ep : a = some p) (hi : i < l.length)
    (k : ∀ b c' ys, Sl h1 6 b l[i].l.length c' ys → TReps h1 l[i].l ys → K (.slice b l[i].l.length c')) : HLoad h1 ((p.add (i * 6)).add 5) K := by
  obtain ⟨cs, r1, r2⟩ := r.els.get (fun _ _ r => r.len) i hi
  cases hd : l[i] with
  | mk kk nm n t ns kl =>
  rw [hd] at r1 k
  simp only [TRep] at r1
  obtain ⟨_, _, _, _, _, _, _, ka, kc, la, lc, ys, rfl, _, s2, s3⟩ := r1
  refine ⟨_, ?_, k la lc ys (s2.ext e1) (s3.ext e1)⟩
  rw [add_add, (x.ext e1).2.2.2 p ep (i * 6 + 5) (by omega), r2 5 (by omega)]; rfl
theorem expr_1 {N : Nat} (K : ∀ d, cnt d < N → NodeOk d) (L : ∀ l, cnts l < N → l.length ≤ 4194304 → ListOk l) (nm : ByteArray) (n : Int) (t : ByteArray) (ns : List ByteArray) (l : List NT) (hc : cnt (.mk 1 nm n t ns l) ≤ N) : Says 63 (.mk 1 nm n t ns l) (Ex (.mk 1 nm n t ns l)) := by
  intro h cs r
  have rt := r
  simp only [TRep] at r
  obtain ⟨b1, b2, b3, b4, b5, b6, b7, ka, kc, la, lc, ys, rfl, s1, s2, s3⟩ := r
  simp only [cnt] at hc
  have hz : Ex (.mk 1 nm n t ns l) = mayT (.mk 1 nm n t ns l) := rfl
  rw [may_1] at hz
  generalize Ex (.mk 1 nm n t ns l) = z at hz
  refine c63 (by simp) ?_
  refine gA ?_
  refine new_var (e := 25) [.int .i64 1, .string nm, .int .i64 n, .string t, .slice ka ns.length kc, .slice la l.length lc] rfl ?_
  intro h1 bn o1 X z1 hbn
  refine gA ?_
  refine HCall.mk ((ownR_spec (rt.ext X)).mono ?_)
  rintro e hh6 ⟨rfl, x6⟩
  have o1 := o1.ext x6
  have X := X.trans x6
  cases q6 : ownR (.mk 1 nm n t ns l)
  · (try simp only [q6, Bool.true_and, Bool.and_true, Bool.false_and, Bool.and_false, Bool.true_or, Bool.or_true, Bool.false_or, Bool.or_false, Bool.not_true, Bool.not_false] at hz)
    refine gA ?_
    subst hz
    exact ⟨rfl, X⟩
  · (try simp only [q6, Bool.true_and, Bool.and_true, Bool.false_and, Bool.and_false, Bool.true_or, Bool.or_true, Bool.false_or, Bool.or_false, Bool.not_true, Bool.not_false] at hz)
    by_cases hl7 : l.length = 0
    · have q7 : ((l.length : Int) == 0) = true := beq_iff_eq.2 (by omega)
      have d7 : decide (l.length = 0) = true := decide_eq_true hl7
      (try simp only [d7, Bool.true_and, Bool.and_true, Bool.false_and, Bool.and_false, Bool.true_or, Bool.or_true, Bool.false_or, Bool.or_false, Bool.not_true, Bool.not_false] at hz)
      refine gA ?_
      subst hz
      exact ⟨by first | rfl | (show Ending.returned (.bool (((l.length : Int) == 0))) = _; rw [q7]), X⟩
    · have q7 : ((l.length : Int) == 0) = false := beq_eq_false_iff_ne.2 (by omega)
      have d7 : decide (l.length = 0) = false := decide_eq_false hl7
      (try simp only [d7, Bool.true_and, Bool.and_true, Bool.false_and, Bool.and_false, Bool.true_or, Bool.or_true, Bool.false_or, Bool.or_false, Bool.not_true, Bool.not_false] at hz)
      refine gA ?_
      subst hz
      exact ⟨by first | rfl | (show Ending.returned (.bool (((l.length : Int) == 0))) = _; rw [q7]), X⟩
theorem expr_2 {N : Nat} (K : ∀ d, cnt d < N → NodeOk d) (L : ∀ l, cnts l < N → l.length ≤ 4194304 → ListOk l) (nm : ByteArray) (n : Int) (t : ByteArray) (ns : List ByteArray) (l : List NT) (hc : cnt (.mk 2 nm n t ns l) ≤ N) : Says 63 (.mk 2 nm n t ns l) (Ex (.mk 2 nm n t ns l)) := by
  intro h cs r
  have rt := r
  simp only [TRep] at r
  obtain ⟨b1, b2, b3, b4, b5, b6, b7, ka, kc, la, lc, ys, rfl, s1, s2, s3⟩ := r
  simp only [cnt] at hc
  have hz : Ex (.mk 2 nm n t ns l) = mayT (.mk 2 nm n t ns l) := rfl
  rw [may_2] at hz
  generalize Ex (.mk 2 nm n t ns l) = z at hz
  refine c63 (by simp) ?_
  refine gA ?_
  refine new_var (e := 25) [.int .i64 2, .string nm, .int .i64 n, .string t, .slice ka ns.length kc, .slice la l.length lc] rfl ?_
  intro h1 bn o1 X z1 hbn
  refine gA ?_
  refine HCall.mk ((ownR_spec (rt.ext X)).mono ?_)
  rintro e hh8 ⟨rfl, x8⟩
  have o1 := o1.ext x8
  have X := X.trans x8
  cases q8 : ownR (.mk 2 nm n t ns l)
  · (try simp only [q8, Bool.true_and, Bool.and_true, Bool.false_and, Bool.and_false, Bool.true_or, Bool.or_true, Bool.false_or, Bool.or_false, Bool.not_true, Bool.not_false] at hz)
    refine gA ?_
    subst hz
    exact ⟨rfl, X⟩
  · (try simp only [q8, Bool.true_and, Bool.and_true, Bool.false_and, Bool.and_false, Bool.true_or, Bool.or_true, Bool.false_or, Bool.or_false, Bool.not_true, Bool.not_false] at hz)
    by_cases hl9 : l.length = 0
    · have q9 : ((l.length : Int) == 0) = true := beq_iff_eq.2 (by omega)
      have d9 : decide (l.length = 0) = true := decide_eq_true hl9
      (try simp only [d9, Bool.true_and, Bool.and_true, Bool.false_and, Bool.and_false, Bool.true_or, Bool.or_true, Bool.false_or, Bool.or_false, Bool.not_true, Bool.not_false] at hz)
      refine gA ?_
      subst hz
      exact ⟨by first | rfl | (show Ending.returned (.bool (((l.length : Int) == 0))) = _; rw [q9]), X⟩
    · have q9 : ((l.length : Int) == 0) = false := beq_eq_false_iff_ne.2 (by omega)
      have d9 : decide (l.length = 0) = false := decide_eq_false hl9
      (try simp only [d9, Bool.true_and, Bool.and_true, Bool.false_and, Bool.and_false, Bool.true_or, Bool.or_true, Bool.false_or, Bool.or_false, Bool.not_true, Bool.not_false] at hz)
      refine gA ?_
      subst hz
      exact ⟨by first | rfl | (show Ending.returned (.bool (((l.length : Int) == 0))) = _; rw [q9]), X⟩
theorem expr_3 {N : Nat} (K : ∀ d, cnt d < N → NodeOk d) (L : ∀ l, cnts l < N → l.length ≤ 4194304 → ListOk l) (nm : ByteArray) (n : Int) (t : ByteArray) (ns : List ByteArray) (l : List NT) (hc : cnt (.mk 3 nm n t ns l) ≤ N) : Says 63 (.mk 3 nm n t ns l) (Ex (.mk 3 nm n t ns l)) := by
  intro h cs r
  have rt := r
  simp only [TRep] at r
  obtain ⟨b1, b2, b3, b4, b5, b6, b7, ka, kc, la, lc, ys, rfl, s1, s2, s3⟩ := r
  simp only [cnt] at hc
  have hz : Ex (.mk 3 nm n t ns l) = mayT (.mk 3 nm n t ns l) := rfl
  rw [may_3] at hz
  generalize Ex (.mk 3 nm n t ns l) = z at hz
  refine c63 (by simp) ?_
  refine gA ?_
  refine new_var (e := 25) [.int .i64 3, .string nm, .int .i64 n, .string t, .slice ka ns.length kc, .slice la l.length lc] rfl ?_
  intro h1 bn o1 X z1 hbn
  refine gA ?_
  refine HCall.mk ((ownR_spec (rt.ext X)).mono ?_)
  rintro e hh10 ⟨rfl, x10⟩
  have o1 := o1.ext x10
  have X := X.trans x10
  cases q10 : ownR (.mk 3 nm n t ns l)
  · (try simp only [q10, Bool.true_and, Bool.and_true, Bool.false_and, Bool.and_false, Bool.true_or, Bool.or_true, Bool.false_or, Bool.or_false, Bool.not_true, Bool.not_false] at hz)
    refine gA ?_
    subst hz
    exact ⟨rfl, X⟩
  · (try simp only [q10, Bool.true_and, Bool.and_true, Bool.false_and, Bool.and_false, Bool.true_or, Bool.or_true, Bool.false_or, Bool.or_false, Bool.not_true, Bool.not_false] at hz)
    by_cases hl11 : l.length = 0
    · have q11 : ((l.length : Int) == 0) = true := beq_iff_eq.2 (by omega)
      have d11 : decide (l.length = 0) = true := decide_eq_true hl11
      (try simp only [d11, Bool.true_and, Bool.and_true, Bool.false_and, Bool.and_false, Bool.true_or, Bool.or_true, Bool.false_or, Bool.or_false, Bool.not_true, Bool.not_false] at hz)
      refine gA ?_
      subst hz
      exact ⟨by first | rfl | (show Ending.returned (.bool (((l.length : Int) == 0))) = _; rw [q11]), X⟩
    · have q11 : ((l.length : Int) == 0) = false := beq_eq_false_iff_ne.2 (by omega)
      have d11 : decide (l.length = 0) = false := decide_eq_false hl11
      (try simp only [d11, Bool.true_and, Bool.and_true, Bool.false_and, Bool.and_false, Bool.true_or, Bool.or_true, Bool.false_or, Bool.or_false, Bool.not_true, Bool.not_false] at hz)
      refine gA ?_
      subst hz
      exact ⟨by first | rfl | (show Ending.returned (.bool (((l.length : Int) == 0))) = _; rw [q11]), X⟩
theorem expr_4 {N : Nat} (K : ∀ d, cnt d < N → NodeOk d) (L : ∀ l, cnts l < N → l.length ≤ 4194304 → ListOk l) (nm : ByteArray) (n : Int) (t : ByteArray) (ns : List ByteArray) (l : List NT) (hc : cnt (.mk 4 nm n t ns l) ≤ N) : Says 63 (.mk 4 nm n t ns l) (Ex (.mk 4 nm n t ns l)) := by
  intro h cs r
  have rt := r
  simp only [TRep] at r
  obtain ⟨b1, b2, b3, b4, b5, b6, b7, ka, kc, la, lc, ys, rfl, s1, s2, s3⟩ := r
  simp only [cnt] at hc
  have hz : Ex (.mk 4 nm n t ns l) = mayT (.mk 4 nm n t ns l) := rfl
  rw [may_4] at hz
  generalize Ex (.mk 4 nm n t ns l) = z at hz
  refine c63 (by simp) ?_
  refine gA ?_
  refine new_var (e := 25) [.int .i64 4, .string nm, .int .i64 n, .string t, .slice ka ns.length kc, .slice la l.length lc] rfl ?_
  intro h1 bn o1 X z1 hbn
  refine gA ?_
  refine HCall.mk ((ownR_spec (rt.ext X)).mono ?_)
  rintro e hh12 ⟨rfl, x12⟩
  have o1 := o1.ext x12
  have X := X.trans x12
  cases q12 : ownR (.mk 4 nm n t ns l)
  · (try simp only [q12, Bool.true_and, Bool.and_true, Bool.false_and, Bool.and_false, Bool.true_or, Bool.or_true, Bool.false_or, Bool.or_false, Bool.not_true, Bool.not_false] at hz)
    refine gA ?_
    subst hz
    exact ⟨rfl, X⟩
  · (try simp only [q12, Bool.true_and, Bool.and_true, Bool.false_and, Bool.and_false, Bool.true_or, Bool.or_true, Bool.false_or, Bool.or_false, Bool.not_true, Bool.not_false] at hz)
    by_cases hl13 : l.length = 0
    · have q13 : ((l.length : Int) == 0) = true := beq_iff_eq.2 (by omega)
      have d13 : decide (l.length = 0) = true := decide_eq_true hl13
      (try simp only [d13, Bool.true_and, Bool.and_true, Bool.false_and, Bool.and_false, Bool.true_or, Bool.or_true, Bool.false_or, Bool.or_false, Bool.not_true, Bool.not_false] at hz)
      refine gA ?_
      subst hz
      exact ⟨by first | rfl | (show Ending.returned (.bool (((l.length : Int) == 0))) = _; rw [q13]), X⟩
    · have q13 : ((l.length : Int) == 0) = false := beq_eq_false_iff_ne.2 (by omega)
      have d13 : decide (l.length = 0) = false := decide_eq_false hl13
      (try simp only [d13, Bool.true_and, Bool.and_true, Bool.false_and, Bool.and_false, Bool.true_or, Bool.or_true, Bool.false_or, Bool.or_false, Bool.not_true, Bool.not_false] at hz)
      refine gA ?_
      subst hz
      exact ⟨by first | rfl | (show Ending.returned (.bool (((l.length : Int) == 0))) = _; rw [q13]), X⟩
theorem expr_5 {N : Nat} (K : ∀ d, cnt d < N → NodeOk d) (L : ∀ l, cnts l < N → l.length ≤ 4194304 → ListOk l) (nm : ByteArray) (n : Int) (t : ByteArray) (ns : List ByteArray) (l : List NT) (hc : cnt (.mk 5 nm n t ns l) ≤ N) : Says 63 (.mk 5 nm n t ns l) (Ex (.mk 5 nm n t ns l)) := by
  intro h cs r
  have rt := r
  simp only [TRep] at r
  obtain ⟨b1, b2, b3, b4, b5, b6, b7, ka, kc, la, lc, ys, rfl, s1, s2, s3⟩ := r
  simp only [cnt] at hc
  have hz : Ex (.mk 5 nm n t ns l) = mayT (.mk 5 nm n t ns l) := rfl
  rw [may_5] at hz
  generalize Ex (.mk 5 nm n t ns l) = z at hz
  refine c63 (by simp) ?_
  refine gA ?_
  refine new_var (e := 25) [.int .i64 5, .string nm, .int .i64 n, .string t, .slice ka ns.length kc, .slice la l.length lc] rfl ?_
  intro h1 bn o1 X z1 hbn
  refine gA ?_
  refine HCall.mk ((ownR_spec (rt.ext X)).mono ?_)
  rintro e hh14 ⟨rfl, x14⟩
  have o1 := o1.ext x14
  have X := X.trans x14
  cases q14 : ownR (.mk 5 nm n t ns l)
  · (try simp only [q14, Bool.true_and, Bool.and_true, Bool.false_and, Bool.and_false, Bool.true_or, Bool.or_true, Bool.false_or, Bool.or_false, Bool.not_true, Bool.not_false] at hz)
    refine gA ?_
    subst hz
    exact ⟨rfl, X⟩
  · (try simp only [q14, Bool.true_and, Bool.and_true, Bool.false_and, Bool.and_false, Bool.true_or, Bool.or_true, Bool.false_or, Bool.or_false, Bool.not_true, Bool.not_false] at hz)
    by_cases hl15 : l.length = 0
    · have q15 : ((l.length : Int) == 0) = true := beq_iff_eq.2 (by omega)
      have d15 : decide (l.length = 0) = true := decide_eq_true hl15
      (try simp only [d15, Bool.true_and, Bool.and_true, Bool.false_and, Bool.and_false, Bool.true_or, Bool.or_true, Bool.false_or, Bool.or_false, Bool.not_true, Bool.not_false] at hz)
      refine gA ?_
      subst hz
      exact ⟨by first | rfl | (show Ending.returned (.bool (((l.length : Int) == 0))) = _; rw [q15]), X⟩
    · have q15 : ((l.length : Int) == 0) = false := beq_eq_false_iff_ne.2 (by omega)
      have d15 : decide (l.length = 0) = false := decide_eq_false hl15
      (try simp only [d15, Bool.true_and, Bool.and_true, Bool.false_and, Bool.and_false, Bool.true_or, Bool.or_true, Bool.false_or, Bool.or_false, Bool.not_true, Bool.not_false] at hz)
      refine gA ?_
      subst hz
      exact ⟨by first | rfl | (show Ending.returned (.bool (((l.length : Int) == 0))) = _; rw [q15]), X⟩
theorem expr_6 {N : Nat} (K : ∀ d, cnt d < N → NodeOk d) (L : ∀ l, cnts l < N → l.length ≤ 4194304 → ListOk l) (nm : ByteArray) (n : Int) (t : ByteArray) (ns : List ByteArray) (l : List NT) (hc : cnt (.mk 6 nm n t ns l) ≤ N) : Says 63 (.mk 6 nm n t ns l) (Ex (.mk 6 nm n t ns l)) := by
  intro h cs r
  have rt := r
  simp only [TRep] at r
  obtain ⟨b1, b2, b3, b4, b5, b6, b7, ka, kc, la, lc, ys, rfl, s1, s2, s3⟩ := r
  simp only [cnt] at hc
  have hz : Ex (.mk 6 nm n t ns l) = mayT (.mk 6 nm n t ns l) := rfl
  rw [may_6] at hz
  generalize Ex (.mk 6 nm n t ns l) = z at hz
  refine c63 (by simp) ?_
  refine gA ?_
  refine new_var (e := 25) [.int .i64 6, .string nm, .int .i64 n, .string t, .slice ka ns.length kc, .slice la l.length lc] rfl ?_
  intro h1 bn o1 X z1 hbn
  refine gA ?_
  refine HCall.mk ((ownR_spec (rt.ext X)).mono ?_)
  rintro e hh16 ⟨rfl, x16⟩
  have o1 := o1.ext x16
  have X := X.trans x16
  cases q16 : ownR (.mk 6 nm n t ns l)
  · (try simp only [q16, Bool.true_and, Bool.and_true, Bool.false_and, Bool.and_false, Bool.true_or, Bool.or_true, Bool.false_or, Bool.or_false, Bool.not_true, Bool.not_false] at hz)
    refine gA ?_
    subst hz
    exact ⟨rfl, X⟩
  · (try simp only [q16, Bool.true_and, Bool.and_true, Bool.false_and, Bool.and_false, Bool.true_or, Bool.or_true, Bool.false_or, Bool.or_false, Bool.not_true, Bool.not_false] at hz)
    by_cases hl17 : l.length = 0
    · have q17 : ((l.length : Int) == 0) = true := beq_iff_eq.2 (by omega)
      have d17 : decide (l.length = 0) = true := decide_eq_true hl17
      (try simp only [d17, Bool.true_and, Bool.and_true, Bool.false_and, Bool.and_false, Bool.true_or, Bool.or_true, Bool.false_or, Bool.or_false, Bool.not_true, Bool.not_false] at hz)
      refine gA ?_
      subst hz
      exact ⟨by first | rfl | (show Ending.returned (.bool (((l.length : Int) == 0))) = _; rw [q17]), X⟩
    · have q17 : ((l.length : Int) == 0) = false := beq_eq_false_iff_ne.2 (by omega)
      have d17 : decide (l.length = 0) = false := decide_eq_false hl17
      (try simp only [d17, Bool.true_and, Bool.and_true, Bool.false_and, Bool.and_false, Bool.true_or, Bool.or_true, Bool.false_or, Bool.or_false, Bool.not_true, Bool.not_false] at hz)
      refine gA ?_
      subst hz
      exact ⟨by first | rfl | (show Ending.returned (.bool (((l.length : Int) == 0))) = _; rw [q17]), X⟩
theorem expr_7 {N : Nat} (K : ∀ d, cnt d < N → NodeOk d) (L : ∀ l, cnts l < N → l.length ≤ 4194304 → ListOk l) (nm : ByteArray) (n : Int) (t : ByteArray) (ns : List ByteArray) (l : List NT) (hc : cnt (.mk 7 nm n t ns l) ≤ N) : Says 63 (.mk 7 nm n t ns l) (Ex (.mk 7 nm n t ns l)) := by
  intro h cs r
  have rt := r
  simp only [TRep] at r
  obtain ⟨b1, b2, b3, b4, b5, b6, b7, ka, kc, la, lc, ys, rfl, s1, s2, s3⟩ := r
  simp only [cnt] at hc
  have hz : Ex (.mk 7 nm n t ns l) = mayT (.mk 7 nm n t ns l) := rfl
  rw [may_7] at hz
  generalize Ex (.mk 7 nm n t ns l) = z at hz
  refine c63 (by simp) ?_
  refine gA ?_
  refine new_var (e := 25) [.int .i64 7, .string nm, .int .i64 n, .string t, .slice ka ns.length kc, .slice la l.length lc] rfl ?_
  intro h1 bn o1 X z1 hbn
  refine gA ?_
  refine HCall.mk ((ownR_spec (rt.ext X)).mono ?_)
  rintro e hh18 ⟨rfl, x18⟩
  have o1 := o1.ext x18
  have X := X.trans x18
  cases q18 : ownR (.mk 7 nm n t ns l)
  · (try simp only [q18, Bool.true_and, Bool.and_true, Bool.false_and, Bool.and_false, Bool.true_or, Bool.or_true, Bool.false_or, Bool.or_false, Bool.not_true, Bool.not_false] at hz)
    refine gA ?_
    subst hz
    exact ⟨rfl, X⟩
  · (try simp only [q18, Bool.true_and, Bool.and_true, Bool.false_and, Bool.and_false, Bool.true_or, Bool.or_true, Bool.false_or, Bool.or_false, Bool.not_true, Bool.not_false] at hz)
    refine gA ?_
    refine HCall.mk (((L l (by omega) b6).exs _ _ _ _ (s2.ext X) (s3.ext X)).mono ?_)
    rintro e hh19 ⟨rfl, x19⟩
    have o1 := o1.ext x19
    have X := X.trans x19
    cases q19 : l.all Ex
    · (try simp only [q19, Bool.true_and, Bool.and_true, Bool.false_and, Bool.and_false, Bool.true_or, Bool.or_true, Bool.false_or, Bool.or_false, Bool.not_true, Bool.not_false] at hz)
      refine gA ?_
      subst hz
      exact ⟨rfl, X⟩
    · (try simp only [q19, Bool.true_and, Bool.and_true, Bool.false_and, Bool.and_false, Bool.true_or, Bool.or_true, Bool.false_or, Bool.or_false, Bool.not_true, Bool.not_false] at hz)
      refine gA ?_
      subst hz
      exact ⟨rfl, X⟩
theorem expr_8 {N : Nat} (K : ∀ d, cnt d < N → NodeOk d) (L : ∀ l, cnts l < N → l.length ≤ 4194304 → ListOk l) (nm : ByteArray) (n : Int) (t : ByteArray) (ns : List ByteArray) (l : List NT) (hc : cnt (.mk 8 nm n t ns l) ≤ N) : Says 63 (.mk 8 nm n t ns l) (Ex (.mk 8 nm n t ns l)) := by
  intro h cs r
  have rt := r
  simp only [TRep] at r
  obtain ⟨b1, b2, b3, b4, b5, b6, b7, ka, kc, la, lc, ys, rfl, s1, s2, s3⟩ := r
  simp only [cnt] at hc
  have hz : Ex (.mk 8 nm n t ns l) = mayT (.mk 8 nm n t ns l) := rfl
  rw [may_8] at hz
  generalize Ex (.mk 8 nm n t ns l) = z at hz
  refine c63 (by simp) ?_
  refine gA ?_
  refine new_var (e := 25) [.int .i64 8, .string nm, .int .i64 n, .string t, .slice ka ns.length kc, .slice la l.length lc] rfl ?_
  intro h1 bn o1 X z1 hbn
  refine gA ?_
  refine HCall.mk ((ownR_spec (rt.ext X)).mono ?_)
  rintro e hh20 ⟨rfl, x20⟩
  have o1 := o1.ext x20
  have X := X.trans x20
  cases q20 : ownR (.mk 8 nm n t ns l)
  · (try simp only [q20, Bool.true_and, Bool.and_true, Bool.false_and, Bool.and_false, Bool.true_or, Bool.or_true, Bool.false_or, Bool.or_false, Bool.not_true, Bool.not_false] at hz)
    refine gA ?_
    subst hz
    exact ⟨rfl, X⟩
  · (try simp only [q20, Bool.true_and, Bool.and_true, Bool.false_and, Bool.and_false, Bool.true_or, Bool.or_true, Bool.false_or, Bool.or_false, Bool.not_true, Bool.not_false] at hz)
    refine gA ?_
    refine loop_rule [33] (fun vs h' => ∃ (i : Nat), vs = [.int .i64 i] ∧ i ≤ l.length ∧ (l.take i).all (Kk 9) = true ∧ Ext h h')
      (fun vs _ => match vs with | [.int _ i] => l.length - i.toNat | _ => 0) rfl ?_ ?_
    · exact ⟨0, rfl, by omega, by simp, X⟩
    intro u h5 v33
    rintro ⟨i, e, hi, ha, X⟩
    cases e
    refine gA ?_
    refine HIf.mk (fun hlt => ?_) (fun hlt => ?_)
    · have hi1 : i < l.length := by have := of_decide_eq_true hlt; omega
      have hmu : l.length - ((i : Int) + 1).toNat < l.length - ((i : Int)).toNat := by omega
      have at1 := all_take' (q := Kk 9) hi1
      have hcg := cnts_get l i hi1
      have hno : Kk 9 l[i] = false → z = false := fun e => by rw [hz]; exact all_no hi1 e
      refine gA ?_
      refine HIdx.mk i rfl hi1 ?_
      refine sl_some s2 hi1 fun p ep => ?_
      refine gA ?_
      refine tloadK s2 s3 (.of_ext X) ep hi1 fun cs rk => ?_
      have rk0 := rk
      cases hd : l[i] with
      | mk k' nm' n' t' ns' l' =>
      rw [hd] at rk rk0 at1 hcg hno
      simp only [TRep] at rk
      obtain ⟨_, _, _, _, _, c6, _, ka', kc', la', lc', ys', rfl, _, t2, t3⟩ := rk
      simp only [cnt] at hcg
      have X5 := X.1
      refine gA ?_
      refine new_var (e := 25) zeroT rfl ?_
      intro h6 bo o6 x6 z6 hbo
      refine gA ?_
      refine store_blk o6 (by simp) (by simp [isOne]) ?_
      intro h7 f7 z7 o7
      replace o7 : BlkW h7 bo 25 [.int .i64 k', .string nm', .int .i64 n', .string t', .slice ka' ns'.length kc', .slice la' l'.length lc'] := by simpa using o7
      have X7 : Ext h h7 := (X.trans x6).offNew f7 (by omega)
      clear o6 f7
      by_cases hk' : k' = 9
      · subst hk'
        have e9 : Kk 9 (.mk 9 nm' n' t' ns' l') = mayT (.mk 9 nm' n' t' ns' l') := rfl
        rw [may_9] at e9
        rw [e9] at at1 hno
        refine gA ?_
        refine HCall.mk ((ownR_spec (rk0.ext X7)).mono ?_)
        rintro e h8 ⟨rfl, x8⟩
        have o7 := o7.ext x8
        have X8 := X7.trans x8
        cases q8 : ownR (.mk 9 nm' n' t' ns' l')
        · have := hno (by rw [q8]; rfl)
          refine gA ?_
          subst this
          exact ⟨rfl, X8⟩
        rw [q8, Bool.true_and] at at1 hno
        by_cases hl' : l'.length = 1
        · have ql : ((l'.length : Int) != 1) = false := by rw [hl']; rfl
          have hl1 : 0 < l'.length := by omega
          have eall : l'.all Ex = Ex l'[0] := by
            match l', hl' with
            | [a], _ => simp
          rw [decide_eq_true hl', Bool.true_and, eall] at at1 hno
          refine gA ?_
          refine HIdx.mk 0 rfl hl1 ?_
          refine sl_some t2 hl1 fun p ep => ?_
          refine gA ?_
          refine tloadK t2 t3 (.of_ext X8) ep hl1 fun cs rk => ?_
          refine gA ?_
          refine HCall.mk (((K l'[0] (by have := cnts_get l' 0 hl1; omega)).ex _ _ (rk.ext X8)).mono ?_)
          rintro e h9 ⟨rfl, x9⟩
          cases q9 : Ex l'[0]
          · have := hno q9
            refine gA ?_
            subst this
            exact ⟨rfl, X8.trans x9⟩
          · refine gA ?_
            exact ⟨⟨i + 1, rfl, by omega, by rw [at1, ha, q9]; rfl, X8.trans x9⟩, hmu⟩
        · have ql : ((l'.length : Int) != 1) = true := bne_iff_ne.2 (by omega)
          have := hno (by rw [decide_eq_false hl']; rfl)
          refine gA ?_
          subst this
          exact ⟨rfl, X8⟩
      · have qk : (k' != 9) = true := bne_iff_ne.2 hk'
        have := hno (by show ((k' == 9) && _) = false; rw [beq_eq_false_iff_ne.2 hk']; rfl)
        refine gA ?_
        subst this
        exact ⟨rfl, X7⟩
    · have hge := of_decide_eq_false hlt
      obtain rfl : i = l.length := by omega
      rw [List.take_length] at ha
      rw [ha] at hz
      refine gA ?_
      subst hz
      exact ⟨rfl, X⟩
theorem expr_10 {N : Nat} (K : ∀ d, cnt d < N → NodeOk d) (L : ∀ l, cnts l < N → l.length ≤ 4194304 → ListOk l) (nm : ByteArray) (n : Int) (t : ByteArray) (ns : List ByteArray) (l : List NT) (hc : cnt (.mk 10 nm n t ns l) ≤ N) : Says 63 (.mk 10 nm n t ns l) (Ex (.mk 10 nm n t ns l)) := by
  intro h cs r
  have rt := r
  simp only [TRep] at r
  obtain ⟨b1, b2, b3, b4, b5, b6, b7, ka, kc, la, lc, ys, rfl, s1, s2, s3⟩ := r
  simp only [cnt] at hc
  have hz : Ex (.mk 10 nm n t ns l) = mayT (.mk 10 nm n t ns l) := rfl
  rw [may_10] at hz
  generalize Ex (.mk 10 nm n t ns l) = z at hz
  refine c63 (by simp) ?_
  refine gA ?_
  refine new_var (e := 25) [.int .i64 10, .string nm, .int .i64 n, .string t, .slice ka ns.length kc, .slice la l.length lc] rfl ?_
  intro h1 bn o1 X z1 hbn
  refine gA ?_
  refine HCall.mk ((ownR_spec (rt.ext X)).mono ?_)
  rintro e hh21 ⟨rfl, x21⟩
  have o1 := o1.ext x21
  have X := X.trans x21
  cases q21 : ownR (.mk 10 nm n t ns l)
  · (try simp only [q21, Bool.true_and, Bool.and_true, Bool.false_and, Bool.and_false, Bool.true_or, Bool.or_true, Bool.false_or, Bool.or_false, Bool.not_true, Bool.not_false] at hz)
    refine gA ?_
    subst hz
    exact ⟨rfl, X⟩
  · (try simp only [q21, Bool.true_and, Bool.and_true, Bool.false_and, Bool.and_false, Bool.true_or, Bool.or_true, Bool.false_or, Bool.or_false, Bool.not_true, Bool.not_false] at hz)
    refine gA ?_
    refine HCall.mk (((L l (by omega) b6).stsT _ _ _ _ (s2.ext X) (s3.ext X)).mono ?_)
    rintro e hh22 ⟨rfl, x22⟩
    have o1 := o1.ext x22
    have X := X.trans x22
    cases q22 : l.all (St true)
    · (try simp only [q22, Bool.true_and, Bool.and_true, Bool.false_and, Bool.and_false, Bool.true_or, Bool.or_true, Bool.false_or, Bool.or_false, Bool.not_true, Bool.not_false] at hz)
      refine gA ?_
      subst hz
      exact ⟨rfl, X⟩
    · (try simp only [q22, Bool.true_and, Bool.and_true, Bool.false_and, Bool.and_false, Bool.true_or, Bool.or_true, Bool.false_or, Bool.or_false, Bool.not_true, Bool.not_false] at hz)
      refine gA ?_
      subst hz
      exact ⟨rfl, X⟩
theorem expr_11 {N : Nat} (K : ∀ d, cnt d < N → NodeOk d) (L : ∀ l, cnts l < N → l.length ≤ 4194304 → ListOk l) (nm : ByteArray) (n : Int) (t : ByteArray) (ns : List ByteArray) (l : List NT) (hc : cnt (.mk 11 nm n t ns l) ≤ N) : Says 63 (.mk 11 nm n t ns l) (Ex (.mk 11 nm n t ns l)) := by
  intro h cs r
  have rt := r
  simp only [TRep] at r
  obtain ⟨b1, b2, b3, b4, b5, b6, b7, ka, kc, la, lc, ys, rfl, s1, s2, s3⟩ := r
  simp only [cnt] at hc
  have hz : Ex (.mk 11 nm n t ns l) = mayT (.mk 11 nm n t ns l) := rfl
  rw [may_11] at hz
  generalize Ex (.mk 11 nm n t ns l) = z at hz
  refine c63 (by simp) ?_
  refine gA ?_
  refine new_var (e := 25) [.int .i64 11, .string nm, .int .i64 n, .string t, .slice ka ns.length kc, .slice la l.length lc] rfl ?_
  intro h1 bn o1 X z1 hbn
  refine gA ?_
  refine HCall.mk ((ownR_spec (rt.ext X)).mono ?_)
  rintro e hh23 ⟨rfl, x23⟩
  have o1 := o1.ext x23
  have X := X.trans x23
  cases q23 : ownR (.mk 11 nm n t ns l)
  · (try simp only [q23, Bool.true_and, Bool.and_true, Bool.false_and, Bool.and_false, Bool.true_or, Bool.or_true, Bool.false_or, Bool.or_false, Bool.not_true, Bool.not_false] at hz)
    refine gA ?_
    subst hz
    exact ⟨rfl, X⟩
  · (try simp only [q23, Bool.true_and, Bool.and_true, Bool.false_and, Bool.and_false, Bool.true_or, Bool.or_true, Bool.false_or, Bool.or_false, Bool.not_true, Bool.not_false] at hz)
    by_cases hl24 : l.length = 1
    · have q24 : ((l.length : Int) == 1) = true := beq_iff_eq.2 (by omega)
      have d24 : decide (l.length = 1) = true := decide_eq_true hl24
      (try simp only [d24, Bool.true_and, Bool.and_true, Bool.false_and, Bool.and_false, Bool.true_or, Bool.or_true, Bool.false_or, Bool.or_false, Bool.not_true, Bool.not_false] at hz)
      refine gA ?_
      refine HCall.mk (((L l (by omega) b6).exs _ _ _ _ (s2.ext X) (s3.ext X)).mono ?_)
      rintro e hh25 ⟨rfl, x25⟩
      have o1 := o1.ext x25
      have X := X.trans x25
      cases q25 : l.all Ex
      · (try simp only [q25, Bool.true_and, Bool.and_true, Bool.false_and, Bool.and_false, Bool.true_or, Bool.or_true, Bool.false_or, Bool.or_false, Bool.not_true, Bool.not_false] at hz)
        refine gA ?_
        subst hz
        exact ⟨rfl, X⟩
      · (try simp only [q25, Bool.true_and, Bool.and_true, Bool.false_and, Bool.and_false, Bool.true_or, Bool.or_true, Bool.false_or, Bool.or_false, Bool.not_true, Bool.not_false] at hz)
        refine gA ?_
        subst hz
        exact ⟨rfl, X⟩
    · have q24 : ((l.length : Int) == 1) = false := beq_eq_false_iff_ne.2 (by omega)
      have d24 : decide (l.length = 1) = false := decide_eq_false hl24
      (try simp only [d24, Bool.true_and, Bool.and_true, Bool.false_and, Bool.and_false, Bool.true_or, Bool.or_true, Bool.false_or, Bool.or_false, Bool.not_true, Bool.not_false] at hz)
      refine gA ?_
      subst hz
      exact ⟨by first | rfl | (show Ending.returned (.bool (((l.length : Int) == 1))) = _; rw [q24]), X⟩
theorem expr_12 {N : Nat} (K : ∀ d, cnt d < N → NodeOk d) (L : ∀ l, cnts l < N → l.length ≤ 4194304 → ListOk l) (nm : ByteArray) (n : Int) (t : ByteArray) (ns : List ByteArray) (l : List NT) (hc : cnt (.mk 12 nm n t ns l) ≤ N) : Says 63 (.mk 12 nm n t ns l) (Ex (.mk 12 nm n t ns l)) := by
  intro h cs r
  have rt := r
  simp only [TRep] at r
  obtain ⟨b1, b2, b3, b4, b5, b6, b7, ka, kc, la, lc, ys, rfl, s1, s2, s3⟩ := r
  simp only [cnt] at hc
  have hz : Ex (.mk 12 nm n t ns l) = mayT (.mk 12 nm n t ns l) := rfl
  rw [may_12] at hz
  generalize Ex (.mk 12 nm n t ns l) = z at hz
  refine c63 (by simp) ?_
  refine gA ?_
  refine new_var (e := 25) [.int .i64 12, .string nm, .int .i64 n, .string t, .slice ka ns.length kc, .slice la l.length lc] rfl ?_
  intro h1 bn o1 X z1 hbn
  refine gA ?_
  refine HCall.mk ((ownR_spec (rt.ext X)).mono ?_)
  rintro e hh26 ⟨rfl, x26⟩
  have o1 := o1.ext x26
  have X := X.trans x26
  cases q26 : ownR (.mk 12 nm n t ns l)
  · (try simp only [q26, Bool.true_and, Bool.and_true, Bool.false_and, Bool.and_false, Bool.true_or, Bool.or_true, Bool.false_or, Bool.or_false, Bool.not_true, Bool.not_false] at hz)
    refine gA ?_
    subst hz
    exact ⟨rfl, X⟩
  · (try simp only [q26, Bool.true_and, Bool.and_true, Bool.false_and, Bool.and_false, Bool.true_or, Bool.or_true, Bool.false_or, Bool.or_false, Bool.not_true, Bool.not_false] at hz)
    by_cases hl27 : l.length = 2
    · have q27 : ((l.length : Int) == 2) = true := beq_iff_eq.2 (by omega)
      have d27 : decide (l.length = 2) = true := decide_eq_true hl27
      (try simp only [d27, Bool.true_and, Bool.and_true, Bool.false_and, Bool.and_false, Bool.true_or, Bool.or_true, Bool.false_or, Bool.or_false, Bool.not_true, Bool.not_false] at hz)
      refine gA ?_
      refine HCall.mk (((L l (by omega) b6).exs _ _ _ _ (s2.ext X) (s3.ext X)).mono ?_)
      rintro e hh28 ⟨rfl, x28⟩
      have o1 := o1.ext x28
      have X := X.trans x28
      cases q28 : l.all Ex
      · (try simp only [q28, Bool.true_and, Bool.and_true, Bool.false_and, Bool.and_false, Bool.true_or, Bool.or_true, Bool.false_or, Bool.or_false, Bool.not_true, Bool.not_false] at hz)
        refine gA ?_
        subst hz
        exact ⟨rfl, X⟩
      · (try simp only [q28, Bool.true_and, Bool.and_true, Bool.false_and, Bool.and_false, Bool.true_or, Bool.or_true, Bool.false_or, Bool.or_false, Bool.not_true, Bool.not_false] at hz)
        refine gA ?_
        subst hz
        exact ⟨rfl, X⟩
    · have q27 : ((l.length : Int) == 2) = false := beq_eq_false_iff_ne.2 (by omega)
      have d27 : decide (l.length = 2) = false := decide_eq_false hl27
      (try simp only [d27, Bool.true_and, Bool.and_true, Bool.false_and, Bool.and_false, Bool.true_or, Bool.or_true, Bool.false_or, Bool.or_false, Bool.not_true, Bool.not_false] at hz)
      refine gA ?_
      subst hz
      exact ⟨by first | rfl | (show Ending.returned (.bool (((l.length : Int) == 2))) = _; rw [q27]), X⟩
theorem expr_13 {N : Nat} (K : ∀ d, cnt d < N → NodeOk d) (L : ∀ l, cnts l < N → l.length ≤ 4194304 → ListOk l) (nm : ByteArray) (n : Int) (t : ByteArray) (ns : List ByteArray) (l : List NT) (hc : cnt (.mk 13 nm n t ns l) ≤ N) : Says 63 (.mk 13 nm n t ns l) (Ex (.mk 13 nm n t ns l)) := by
  intro h cs r
  have rt := r
  simp only [TRep] at r
  obtain ⟨b1, b2, b3, b4, b5, b6, b7, ka, kc, la, lc, ys, rfl, s1, s2, s3⟩ := r
  simp only [cnt] at hc
  have hz : Ex (.mk 13 nm n t ns l) = mayT (.mk 13 nm n t ns l) := rfl
  rw [may_13] at hz
  generalize Ex (.mk 13 nm n t ns l) = z at hz
  refine c63 (by simp) ?_
  refine gA ?_
  refine new_var (e := 25) [.int .i64 13, .string nm, .int .i64 n, .string t, .slice ka ns.length kc, .slice la l.length lc] rfl ?_
  intro h1 bn o1 X z1 hbn
  refine gA ?_
  refine HCall.mk ((ownR_spec (rt.ext X)).mono ?_)
  rintro e hh29 ⟨rfl, x29⟩
  have o1 := o1.ext x29
  have X := X.trans x29
  cases q29 : ownR (.mk 13 nm n t ns l)
  · (try simp only [q29, Bool.true_and, Bool.and_true, Bool.false_and, Bool.and_false, Bool.true_or, Bool.or_true, Bool.false_or, Bool.or_false, Bool.not_true, Bool.not_false] at hz)
    refine gA ?_
    subst hz
    exact ⟨rfl, X⟩
  · (try simp only [q29, Bool.true_and, Bool.and_true, Bool.false_and, Bool.and_false, Bool.true_or, Bool.or_true, Bool.false_or, Bool.or_false, Bool.not_true, Bool.not_false] at hz)
    by_cases hl30 : 1 ≤ l.length
    · have q30 : decide ((l.length : Int) ≥ 1) = true := decide_eq_true (by omega)
      have d30 : decide (1 ≤ l.length) = true := decide_eq_true hl30
      (try simp only [d30, Bool.true_and, Bool.and_true, Bool.false_and, Bool.and_false, Bool.true_or, Bool.or_true, Bool.false_or, Bool.or_false, Bool.not_true, Bool.not_false] at hz)
      refine gA ?_
      refine HCall.mk (((L l (by omega) b6).exs _ _ _ _ (s2.ext X) (s3.ext X)).mono ?_)
      rintro e hh31 ⟨rfl, x31⟩
      have o1 := o1.ext x31
      have X := X.trans x31
      cases q31 : l.all Ex
      · (try simp only [q31, Bool.true_and, Bool.and_true, Bool.false_and, Bool.and_false, Bool.true_or, Bool.or_true, Bool.false_or, Bool.or_false, Bool.not_true, Bool.not_false] at hz)
        refine gA ?_
        subst hz
        exact ⟨rfl, X⟩
      · (try simp only [q31, Bool.true_and, Bool.and_true, Bool.false_and, Bool.and_false, Bool.true_or, Bool.or_true, Bool.false_or, Bool.or_false, Bool.not_true, Bool.not_false] at hz)
        refine gA ?_
        subst hz
        exact ⟨rfl, X⟩
    · have q30 : decide ((l.length : Int) ≥ 1) = false := decide_eq_false (by omega)
      have d30 : decide (1 ≤ l.length) = false := decide_eq_false hl30
      (try simp only [d30, Bool.true_and, Bool.and_true, Bool.false_and, Bool.and_false, Bool.true_or, Bool.or_true, Bool.false_or, Bool.or_false, Bool.not_true, Bool.not_false] at hz)
      refine gA ?_
      subst hz
      exact ⟨by first | rfl | (show Ending.returned (.bool (decide ((l.length : Int) ≥ 1))) = _; rw [q30]), X⟩
theorem expr_14 {N : Nat} (K : ∀ d, cnt d < N → NodeOk d) (L : ∀ l, cnts l < N → l.length ≤ 4194304 → ListOk l) (nm : ByteArray) (n : Int) (t : ByteArray) (ns : List ByteArray) (l : List NT) (hc : cnt (.mk 14 nm n t ns l) ≤ N) : Says 63 (.mk 14 nm n t ns l) (Ex (.mk 14 nm n t ns l)) := by
  intro h cs r
  have rt := r
  simp only [TRep] at r
  obtain ⟨b1, b2, b3, b4, b5, b6, b7, ka, kc, la, lc, ys, rfl, s1, s2, s3⟩ := r
  simp only [cnt] at hc
  have hz : Ex (.mk 14 nm n t ns l) = mayT (.mk 14 nm n t ns l) := rfl
  rw [may_14] at hz
  generalize Ex (.mk 14 nm n t ns l) = z at hz
  refine c63 (by simp) ?_
  refine gA ?_
  refine new_var (e := 25) [.int .i64 14, .string nm, .int .i64 n, .string t, .slice ka ns.length kc, .slice la l.length lc] rfl ?_
  intro h1 bn o1 X z1 hbn
  refine gA ?_
  refine HCall.mk ((ownR_spec (rt.ext X)).mono ?_)
  rintro e hh32 ⟨rfl, x32⟩
  have o1 := o1.ext x32
  have X := X.trans x32
  cases q32 : ownR (.mk 14 nm n t ns l)
  · (try simp only [q32, Bool.true_and, Bool.and_true, Bool.false_and, Bool.and_false, Bool.true_or, Bool.or_true, Bool.false_or, Bool.or_false, Bool.not_true, Bool.not_false] at hz)
    refine gA ?_
    subst hz
    exact ⟨rfl, X⟩
  · (try simp only [q32, Bool.true_and, Bool.and_true, Bool.false_and, Bool.and_false, Bool.true_or, Bool.or_true, Bool.false_or, Bool.or_false, Bool.not_true, Bool.not_false] at hz)
    by_cases hl33 : 1 ≤ l.length
    · have q33 : decide ((l.length : Int) ≥ 1) = true := decide_eq_true (by omega)
      have d33 : decide (1 ≤ l.length) = true := decide_eq_true hl33
      (try simp only [d33, Bool.true_and, Bool.and_true, Bool.false_and, Bool.and_false, Bool.true_or, Bool.or_true, Bool.false_or, Bool.or_false, Bool.not_true, Bool.not_false] at hz)
      refine gA ?_
      refine HCall.mk (((L l (by omega) b6).exs _ _ _ _ (s2.ext X) (s3.ext X)).mono ?_)
      rintro e hh34 ⟨rfl, x34⟩
      have o1 := o1.ext x34
      have X := X.trans x34
      cases q34 : l.all Ex
      · (try simp only [q34, Bool.true_and, Bool.and_true, Bool.false_and, Bool.and_false, Bool.true_or, Bool.or_true, Bool.false_or, Bool.or_false, Bool.not_true, Bool.not_false] at hz)
        refine gA ?_
        subst hz
        exact ⟨rfl, X⟩
      · (try simp only [q34, Bool.true_and, Bool.and_true, Bool.false_and, Bool.and_false, Bool.true_or, Bool.or_true, Bool.false_or, Bool.or_false, Bool.not_true, Bool.not_false] at hz)
        refine gA ?_
        subst hz
        exact ⟨rfl, X⟩
    · have q33 : decide ((l.length : Int) ≥ 1) = false := decide_eq_false (by omega)
      have d33 : decide (1 ≤ l.length) = false := decide_eq_false hl33
      (try simp only [d33, Bool.true_and, Bool.and_true, Bool.false_and, Bool.and_false, Bool.true_or, Bool.or_true, Bool.false_or, Bool.or_false, Bool.not_true, Bool.not_false] at hz)
      refine gA ?_
      subst hz
      exact ⟨by first | rfl | (show Ending.returned (.bool (decide ((l.length : Int) ≥ 1))) = _; rw [q33]), X⟩
theorem expr_15 {N : Nat} (K : ∀ d, cnt d < N → NodeOk d) (L : ∀ l, cnts l < N → l.length ≤ 4194304 → ListOk l) (nm : ByteArray) (n : Int) (t : ByteArray) (ns : List ByteArray) (l : List NT) (hc : cnt (.mk 15 nm n t ns l) ≤ N) : Says 63 (.mk 15 nm n t ns l) (Ex (.mk 15 nm n t ns l)) := by
  intro h cs r
  have rt := r
  simp only [TRep] at r
  obtain ⟨b1, b2, b3, b4, b5, b6, b7, ka, kc, la, lc, ys, rfl, s1, s2, s3⟩ := r
  simp only [cnt] at hc
  have hz : Ex (.mk 15 nm n t ns l) = mayT (.mk 15 nm n t ns l) := rfl
  rw [may_15] at hz
  generalize Ex (.mk 15 nm n t ns l) = z at hz
  refine c63 (by simp) ?_
  refine gA ?_
  refine new_var (e := 25) [.int .i64 15, .string nm, .int .i64 n, .string t, .slice ka ns.length kc, .slice la l.length lc] rfl ?_
  intro h1 bn o1 X z1 hbn
  refine gA ?_
  refine HCall.mk ((ownR_spec (rt.ext X)).mono ?_)
  rintro e hh35 ⟨rfl, x35⟩
  have o1 := o1.ext x35
  have X := X.trans x35
  cases q35 : ownR (.mk 15 nm n t ns l)
  · (try simp only [q35, Bool.true_and, Bool.and_true, Bool.false_and, Bool.and_false, Bool.true_or, Bool.or_true, Bool.false_or, Bool.or_false, Bool.not_true, Bool.not_false] at hz)
    refine gA ?_
    subst hz
    exact ⟨rfl, X⟩
  · (try simp only [q35, Bool.true_and, Bool.and_true, Bool.false_and, Bool.and_false, Bool.true_or, Bool.or_true, Bool.false_or, Bool.or_false, Bool.not_true, Bool.not_false] at hz)
    by_cases hl36 : l.length = 1
    · have q36 : ((l.length : Int) == 1) = true := beq_iff_eq.2 (by omega)
      have d36 : decide (l.length = 1) = true := decide_eq_true hl36
      (try simp only [d36, Bool.true_and, Bool.and_true, Bool.false_and, Bool.and_false, Bool.true_or, Bool.or_true, Bool.false_or, Bool.or_false, Bool.not_true, Bool.not_false] at hz)
      refine gA ?_
      refine HCall.mk (((L l (by omega) b6).exs _ _ _ _ (s2.ext X) (s3.ext X)).mono ?_)
      rintro e hh37 ⟨rfl, x37⟩
      have o1 := o1.ext x37
      have X := X.trans x37
      cases q37 : l.all Ex
      · (try simp only [q37, Bool.true_and, Bool.and_true, Bool.false_and, Bool.and_false, Bool.true_or, Bool.or_true, Bool.false_or, Bool.or_false, Bool.not_true, Bool.not_false] at hz)
        refine gA ?_
        subst hz
        exact ⟨rfl, X⟩
      · (try simp only [q37, Bool.true_and, Bool.and_true, Bool.false_and, Bool.and_false, Bool.true_or, Bool.or_true, Bool.false_or, Bool.or_false, Bool.not_true, Bool.not_false] at hz)
        refine gA ?_
        subst hz
        exact ⟨rfl, X⟩
    · have q36 : ((l.length : Int) == 1) = false := beq_eq_false_iff_ne.2 (by omega)
      have d36 : decide (l.length = 1) = false := decide_eq_false hl36
      (try simp only [d36, Bool.true_and, Bool.and_true, Bool.false_and, Bool.and_false, Bool.true_or, Bool.or_true, Bool.false_or, Bool.or_false, Bool.not_true, Bool.not_false] at hz)
      refine gA ?_
      subst hz
      exact ⟨by first | rfl | (show Ending.returned (.bool (((l.length : Int) == 1))) = _; rw [q36]), X⟩
theorem expr_16 {N : Nat} (K : ∀ d, cnt d < N → NodeOk d) (L : ∀ l, cnts l < N → l.length ≤ 4194304 → ListOk l) (nm : ByteArray) (n : Int) (t : ByteArray) (ns : List ByteArray) (l : List NT) (hc : cnt (.mk 16 nm n t ns l) ≤ N) : Says 63 (.mk 16 nm n t ns l) (Ex (.mk 16 nm n t ns l)) := by
  intro h cs r
  have rt := r
  simp only [TRep] at r
  obtain ⟨b1, b2, b3, b4, b5, b6, b7, ka, kc, la, lc, ys, rfl, s1, s2, s3⟩ := r
  simp only [cnt] at hc
  have hz : Ex (.mk 16 nm n t ns l) = mayT (.mk 16 nm n t ns l) := rfl
  rw [may_16] at hz
  generalize Ex (.mk 16 nm n t ns l) = z at hz
  refine c63 (by simp) ?_
  refine gA ?_
  refine new_var (e := 25) [.int .i64 16, .string nm, .int .i64 n, .string t, .slice ka ns.length kc, .slice la l.length lc] rfl ?_
  intro h1 bn o1 X z1 hbn
  refine gA ?_
  refine HCall.mk ((ownR_spec (rt.ext X)).mono ?_)
  rintro e hh38 ⟨rfl, x38⟩
  have o1 := o1.ext x38
  have X := X.trans x38
  cases q38 : ownR (.mk 16 nm n t ns l)
  · (try simp only [q38, Bool.true_and, Bool.and_true, Bool.false_and, Bool.and_false, Bool.true_or, Bool.or_true, Bool.false_or, Bool.or_false, Bool.not_true, Bool.not_false] at hz)
    refine gA ?_
    subst hz
    exact ⟨rfl, X⟩
  · (try simp only [q38, Bool.true_and, Bool.and_true, Bool.false_and, Bool.and_false, Bool.true_or, Bool.or_true, Bool.false_or, Bool.or_false, Bool.not_true, Bool.not_false] at hz)
    by_cases hl39 : l.length = 1
    · have q39 : ((l.length : Int) == 1) = true := beq_iff_eq.2 (by omega)
      have d39 : decide (l.length = 1) = true := decide_eq_true hl39
      (try simp only [d39, Bool.true_and, Bool.and_true, Bool.false_and, Bool.and_false, Bool.true_or, Bool.or_true, Bool.false_or, Bool.or_false, Bool.not_true, Bool.not_false] at hz)
      have hi40 : 0 < l.length := by omega
      refine gA ?_
      refine HIdx.mk 0 rfl hi40 ?_
      refine sl_some s2 hi40 fun p ep => ?_
      refine gA ?_
      refine tloadK s2 s3 (.of_ext X) ep hi40 fun cs rk => ?_
      refine gA ?_
      refine HCall.mk ((rtarget_spec (rk.ext X)).mono ?_)
      rintro e hh40 ⟨rfl, x40⟩
      have o1 := o1.ext x40
      have X := X.trans x40
      cases q40 : Tg l[0]
      · (try simp only [at_in hi40, q40, Bool.true_and, Bool.and_true, Bool.false_and, Bool.and_false, Bool.true_or, Bool.or_true, Bool.false_or, Bool.or_false, Bool.not_true, Bool.not_false] at hz)
        refine gA ?_
        subst hz
        exact ⟨rfl, X⟩
      · (try simp only [at_in hi40, q40, Bool.true_and, Bool.and_true, Bool.false_and, Bool.and_false, Bool.true_or, Bool.or_true, Bool.false_or, Bool.or_false, Bool.not_true, Bool.not_false] at hz)
        refine gA ?_
        refine HCall.mk (((L l (by omega) b6).exs _ _ _ _ (s2.ext X) (s3.ext X)).mono ?_)
        rintro e hh41 ⟨rfl, x41⟩
        have o1 := o1.ext x41
        have X := X.trans x41
        cases q41 : l.all Ex
        · (try simp only [q41, Bool.true_and, Bool.and_true, Bool.false_and, Bool.and_false, Bool.true_or, Bool.or_true, Bool.false_or, Bool.or_false, Bool.not_true, Bool.not_false] at hz)
          refine gA ?_
          subst hz
          exact ⟨rfl, X⟩
        · (try simp only [q41, Bool.true_and, Bool.and_true, Bool.false_and, Bool.and_false, Bool.true_or, Bool.or_true, Bool.false_or, Bool.or_false, Bool.not_true, Bool.not_false] at hz)
          refine gA ?_
          subst hz
          exact ⟨rfl, X⟩
    · have q39 : ((l.length : Int) == 1) = false := beq_eq_false_iff_ne.2 (by omega)
      have d39 : decide (l.length = 1) = false := decide_eq_false hl39
      (try simp only [d39, Bool.true_and, Bool.and_true, Bool.false_and, Bool.and_false, Bool.true_or, Bool.or_true, Bool.false_or, Bool.or_false, Bool.not_true, Bool.not_false] at hz)
      refine gA ?_
      subst hz
      exact ⟨by first | rfl | (show Ending.returned (.bool (((l.length : Int) == 1))) = _; rw [q39]), X⟩
theorem expr_17 {N : Nat} (K : ∀ d, cnt d < N → NodeOk d) (L : ∀ l, cnts l < N → l.length ≤ 4194304 → ListOk l) (nm : ByteArray) (n : Int) (t : ByteArray) (ns : List ByteArray) (l : List NT) (hc : cnt (.mk 17 nm n t ns l) ≤ N) : Says 63 (.mk 17 nm n t ns l) (Ex (.mk 17 nm n t ns l)) := by
  intro h cs r
  have rt := r
  simp only [TRep] at r
  obtain ⟨b1, b2, b3, b4, b5, b6, b7, ka, kc, la, lc, ys, rfl, s1, s2, s3⟩ := r
  simp only [cnt] at hc
  have hz : Ex (.mk 17 nm n t ns l) = mayT (.mk 17 nm n t ns l) := rfl
  rw [may_17] at hz
  generalize Ex (.mk 17 nm n t ns l) = z at hz
  refine c63 (by simp) ?_
  refine gA ?_
  refine new_var (e := 25) [.int .i64 17, .string nm, .int .i64 n, .string t, .slice ka ns.length kc, .slice la l.length lc] rfl ?_
  intro h1 bn o1 X z1 hbn
  refine gA ?_
  refine HCall.mk ((ownR_spec (rt.ext X)).mono ?_)
  rintro e hh42 ⟨rfl, x42⟩
  have o1 := o1.ext x42
  have X := X.trans x42
  cases q42 : ownR (.mk 17 nm n t ns l)
  · (try simp only [q42, Bool.true_and, Bool.and_true, Bool.false_and, Bool.and_false, Bool.true_or, Bool.or_true, Bool.false_or, Bool.or_false, Bool.not_true, Bool.not_false] at hz)
    refine gA ?_
    subst hz
    exact ⟨rfl, X⟩
  · (try simp only [q42, Bool.true_and, Bool.and_true, Bool.false_and, Bool.and_false, Bool.true_or, Bool.or_true, Bool.false_or, Bool.or_false, Bool.not_true, Bool.not_false] at hz)
    by_cases hl43 : l.length = 2
    · have q43 : ((l.length : Int) == 2) = true := beq_iff_eq.2 (by omega)
      have d43 : decide (l.length = 2) = true := decide_eq_true hl43
      (try simp only [d43, Bool.true_and, Bool.and_true, Bool.false_and, Bool.and_false, Bool.true_or, Bool.or_true, Bool.false_or, Bool.or_false, Bool.not_true, Bool.not_false] at hz)
      refine gA ?_
      refine HCall.mk (((L l (by omega) b6).exs _ _ _ _ (s2.ext X) (s3.ext X)).mono ?_)
      rintro e hh44 ⟨rfl, x44⟩
      have o1 := o1.ext x44
      have X := X.trans x44
      cases q44 : l.all Ex
      · (try simp only [q44, Bool.true_and, Bool.and_true, Bool.false_and, Bool.and_false, Bool.true_or, Bool.or_true, Bool.false_or, Bool.or_false, Bool.not_true, Bool.not_false] at hz)
        refine gA ?_
        subst hz
        exact ⟨rfl, X⟩
      · (try simp only [q44, Bool.true_and, Bool.and_true, Bool.false_and, Bool.and_false, Bool.true_or, Bool.or_true, Bool.false_or, Bool.or_false, Bool.not_true, Bool.not_false] at hz)
        refine gA ?_
        subst hz
        exact ⟨rfl, X⟩
    · have q43 : ((l.length : Int) == 2) = false := beq_eq_false_iff_ne.2 (by omega)
      have d43 : decide (l.length = 2) = false := decide_eq_false hl43
      (try simp only [d43, Bool.true_and, Bool.and_true, Bool.false_and, Bool.and_false, Bool.true_or, Bool.or_true, Bool.false_or, Bool.or_false, Bool.not_true, Bool.not_false] at hz)
      refine gA ?_
      subst hz
      exact ⟨by first | rfl | (show Ending.returned (.bool (((l.length : Int) == 2))) = _; rw [q43]), X⟩
theorem expr_18 {N : Nat} (K : ∀ d, cnt d < N → NodeOk d) (L : ∀ l, cnts l < N → l.length ≤ 4194304 → ListOk l) (nm : ByteArray) (n : Int) (t : ByteArray) (ns : List ByteArray) (l : List NT) (hc : cnt (.mk 18 nm n t ns l) ≤ N) : Says 63 (.mk 18 nm n t ns l) (Ex (.mk 18 nm n t ns l)) := by
  intro h cs r
  have rt := r
  simp only [TRep] at r
  obtain ⟨b1, b2, b3, b4, b5, b6, b7, ka, kc, la, lc, ys, rfl, s1, s2, s3⟩ := r
  simp only [cnt] at hc
  have hz : Ex (.mk 18 nm n t ns l) = mayT (.mk 18 nm n t ns l) := rfl
  rw [may_18] at hz
  generalize Ex (.mk 18 nm n t ns l) = z at hz
  refine c63 (by simp) ?_
  refine gA ?_
  refine new_var (e := 25) [.int .i64 18, .string nm, .int .i64 n, .string t, .slice ka ns.length kc, .slice la l.length lc] rfl ?_
  intro h1 bn o1 X z1 hbn
  refine gA ?_
  refine HCall.mk ((ownR_spec (rt.ext X)).mono ?_)
  rintro e hh45 ⟨rfl, x45⟩
  have o1 := o1.ext x45
  have X := X.trans x45
  cases q45 : ownR (.mk 18 nm n t ns l)
  · (try simp only [q45, Bool.true_and, Bool.and_true, Bool.false_and, Bool.and_false, Bool.true_or, Bool.or_true, Bool.false_or, Bool.or_false, Bool.not_true, Bool.not_false] at hz)
    refine gA ?_
    subst hz
    exact ⟨rfl, X⟩
  · (try simp only [q45, Bool.true_and, Bool.and_true, Bool.false_and, Bool.and_false, Bool.true_or, Bool.or_true, Bool.false_or, Bool.or_false, Bool.not_true, Bool.not_false] at hz)
    by_cases hl46 : l.length = 2
    · have q46 : ((l.length : Int) == 2) = true := beq_iff_eq.2 (by omega)
      have d46 : decide (l.length = 2) = true := decide_eq_true hl46
      (try simp only [d46, Bool.true_and, Bool.and_true, Bool.false_and, Bool.and_false, Bool.true_or, Bool.or_true, Bool.false_or, Bool.or_false, Bool.not_true, Bool.not_false] at hz)
      refine gA ?_
      refine HCall.mk (((L l (by omega) b6).exs _ _ _ _ (s2.ext X) (s3.ext X)).mono ?_)
      rintro e hh47 ⟨rfl, x47⟩
      have o1 := o1.ext x47
      have X := X.trans x47
      cases q47 : l.all Ex
      · (try simp only [q47, Bool.true_and, Bool.and_true, Bool.false_and, Bool.and_false, Bool.true_or, Bool.or_true, Bool.false_or, Bool.or_false, Bool.not_true, Bool.not_false] at hz)
        refine gA ?_
        subst hz
        exact ⟨rfl, X⟩
      · (try simp only [q47, Bool.true_and, Bool.and_true, Bool.false_and, Bool.and_false, Bool.true_or, Bool.or_true, Bool.false_or, Bool.or_false, Bool.not_true, Bool.not_false] at hz)
        refine gA ?_
        subst hz
        exact ⟨rfl, X⟩
    · have q46 : ((l.length : Int) == 2) = false := beq_eq_false_iff_ne.2 (by omega)
      have d46 : decide (l.length = 2) = false := decide_eq_false hl46
      (try simp only [d46, Bool.true_and, Bool.and_true, Bool.false_and, Bool.and_false, Bool.true_or, Bool.or_true, Bool.false_or, Bool.or_false, Bool.not_true, Bool.not_false] at hz)
      refine gA ?_
      subst hz
      exact ⟨by first | rfl | (show Ending.returned (.bool (((l.length : Int) == 2))) = _; rw [q46]), X⟩
theorem expr_19 {N : Nat} (K : ∀ d, cnt d < N → NodeOk d) (L : ∀ l, cnts l < N → l.length ≤ 4194304 → ListOk l) (nm : ByteArray) (n : Int) (t : ByteArray) (ns : List ByteArray) (l : List NT) (hc : cnt (.mk 19 nm n t ns l) ≤ N) : Says 63 (.mk 19 nm n t ns l) (Ex (.mk 19 nm n t ns l)) := by
  intro h cs r
  have rt := r
  simp only [TRep] at r
  obtain ⟨b1, b2, b3, b4, b5, b6, b7, ka, kc, la, lc, ys, rfl, s1, s2, s3⟩ := r
  simp only [cnt] at hc
  have hz : Ex (.mk 19 nm n t ns l) = mayT (.mk 19 nm n t ns l) := rfl
  rw [may_19] at hz
  generalize Ex (.mk 19 nm n t ns l) = z at hz
  refine c63 (by simp) ?_
  refine gA ?_
  refine new_var (e := 25) [.int .i64 19, .string nm, .int .i64 n, .string t, .slice ka ns.length kc, .slice la l.length lc] rfl ?_
  intro h1 bn o1 X z1 hbn
  refine gA ?_
  refine HCall.mk ((ownR_spec (rt.ext X)).mono ?_)
  rintro e hh48 ⟨rfl, x48⟩
  have o1 := o1.ext x48
  have X := X.trans x48
  cases q48 : ownR (.mk 19 nm n t ns l)
  · (try simp only [q48, Bool.true_and, Bool.and_true, Bool.false_and, Bool.and_false, Bool.true_or, Bool.or_true, Bool.false_or, Bool.or_false, Bool.not_true, Bool.not_false] at hz)
    refine gA ?_
    subst hz
    exact ⟨rfl, X⟩
  · (try simp only [q48, Bool.true_and, Bool.and_true, Bool.false_and, Bool.and_false, Bool.true_or, Bool.or_true, Bool.false_or, Bool.or_false, Bool.not_true, Bool.not_false] at hz)
    by_cases hl49 : l.length = 3
    · have q49 : ((l.length : Int) == 3) = true := beq_iff_eq.2 (by omega)
      have d49 : decide (l.length = 3) = true := decide_eq_true hl49
      (try simp only [d49, Bool.true_and, Bool.and_true, Bool.false_and, Bool.and_false, Bool.true_or, Bool.or_true, Bool.false_or, Bool.or_false, Bool.not_true, Bool.not_false] at hz)
      refine gA ?_
      refine HCall.mk (((L l (by omega) b6).exs _ _ _ _ (s2.ext X) (s3.ext X)).mono ?_)
      rintro e hh50 ⟨rfl, x50⟩
      have o1 := o1.ext x50
      have X := X.trans x50
      cases q50 : l.all Ex
      · (try simp only [q50, Bool.true_and, Bool.and_true, Bool.false_and, Bool.and_false, Bool.true_or, Bool.or_true, Bool.false_or, Bool.or_false, Bool.not_true, Bool.not_false] at hz)
        refine gA ?_
        subst hz
        exact ⟨rfl, X⟩
      · (try simp only [q50, Bool.true_and, Bool.and_true, Bool.false_and, Bool.and_false, Bool.true_or, Bool.or_true, Bool.false_or, Bool.or_false, Bool.not_true, Bool.not_false] at hz)
        refine gA ?_
        subst hz
        exact ⟨rfl, X⟩
    · have q49 : ((l.length : Int) == 3) = false := beq_eq_false_iff_ne.2 (by omega)
      have d49 : decide (l.length = 3) = false := decide_eq_false hl49
      (try simp only [d49, Bool.true_and, Bool.and_true, Bool.false_and, Bool.and_false, Bool.true_or, Bool.or_true, Bool.false_or, Bool.or_false, Bool.not_true, Bool.not_false] at hz)
      refine gA ?_
      subst hz
      exact ⟨by first | rfl | (show Ending.returned (.bool (((l.length : Int) == 3))) = _; rw [q49]), X⟩
theorem expr_20 {N : Nat} (K : ∀ d, cnt d < N → NodeOk d) (L : ∀ l, cnts l < N → l.length ≤ 4194304 → ListOk l) (nm : ByteArray) (n : Int) (t : ByteArray) (ns : List ByteArray) (l : List NT) (hc : cnt (.mk 20 nm n t ns l) ≤ N) : Says 63 (.mk 20 nm n t ns l) (Ex (.mk 20 nm n t ns l)) := by
  intro h cs r
  have rt := r
  simp only [TRep] at r
  obtain ⟨b1, b2, b3, b4, b5, b6, b7, ka, kc, la, lc, ys, rfl, s1, s2, s3⟩ := r
  simp only [cnt] at hc
  have hz : Ex (.mk 20 nm n t ns l) = mayT (.mk 20 nm n t ns l) := rfl
  rw [may_20] at hz
  generalize Ex (.mk 20 nm n t ns l) = z at hz
  refine c63 (by simp) ?_
  refine gA ?_
  refine new_var (e := 25) [.int .i64 20, .string nm, .int .i64 n, .string t, .slice ka ns.length kc, .slice la l.length lc] rfl ?_
  intro h1 bn o1 X z1 hbn
  refine gA ?_
  refine HCall.mk ((ownR_spec (rt.ext X)).mono ?_)
  rintro e hh51 ⟨rfl, x51⟩
  have o1 := o1.ext x51
  have X := X.trans x51
  cases q51 : ownR (.mk 20 nm n t ns l)
  · (try simp only [q51, Bool.true_and, Bool.and_true, Bool.false_and, Bool.and_false, Bool.true_or, Bool.or_true, Bool.false_or, Bool.or_false, Bool.not_true, Bool.not_false] at hz)
    refine gA ?_
    subst hz
    exact ⟨rfl, X⟩
  · (try simp only [q51, Bool.true_and, Bool.and_true, Bool.false_and, Bool.and_false, Bool.true_or, Bool.or_true, Bool.false_or, Bool.or_false, Bool.not_true, Bool.not_false] at hz)
    by_cases hl52 : l.length = 2
    · have q52 : ((l.length : Int) == 2) = true := beq_iff_eq.2 (by omega)
      have d52 : decide (l.length = 2) = true := decide_eq_true hl52
      (try simp only [d52, Bool.true_and, Bool.and_true, Bool.false_and, Bool.and_false, Bool.true_or, Bool.or_true, Bool.false_or, Bool.or_false, Bool.not_true, Bool.not_false] at hz)
      have hi53 : 0 < l.length := by omega
      refine gA ?_
      refine HIdx.mk 0 rfl hi53 ?_
      refine sl_some s2 hi53 fun p ep => ?_
      refine gA ?_
      refine tloadK s2 s3 (.of_ext X) ep hi53 fun cs rk => ?_
      refine gA ?_
      refine HCall.mk ((rtarget_spec (rk.ext X)).mono ?_)
      rintro e hh53 ⟨rfl, x53⟩
      have o1 := o1.ext x53
      have X := X.trans x53
      cases q53 : Tg l[0]
      · (try simp only [at_in hi53, q53, Bool.true_and, Bool.and_true, Bool.false_and, Bool.and_false, Bool.true_or, Bool.or_true, Bool.false_or, Bool.or_false, Bool.not_true, Bool.not_false] at hz)
        refine gA ?_
        subst hz
        exact ⟨rfl, X⟩
      · (try simp only [at_in hi53, q53, Bool.true_and, Bool.and_true, Bool.false_and, Bool.and_false, Bool.true_or, Bool.or_true, Bool.false_or, Bool.or_false, Bool.not_true, Bool.not_false] at hz)
        refine gA ?_
        refine HCall.mk (((L l (by omega) b6).exs _ _ _ _ (s2.ext X) (s3.ext X)).mono ?_)
        rintro e hh54 ⟨rfl, x54⟩
        have o1 := o1.ext x54
        have X := X.trans x54
        cases q54 : l.all Ex
        · (try simp only [q54, Bool.true_and, Bool.and_true, Bool.false_and, Bool.and_false, Bool.true_or, Bool.or_true, Bool.false_or, Bool.or_false, Bool.not_true, Bool.not_false] at hz)
          refine gA ?_
          subst hz
          exact ⟨rfl, X⟩
        · (try simp only [q54, Bool.true_and, Bool.and_true, Bool.false_and, Bool.and_false, Bool.true_or, Bool.or_true, Bool.false_or, Bool.or_false, Bool.not_true, Bool.not_false] at hz)
          refine gA ?_
          subst hz
          exact ⟨rfl, X⟩
    · have q52 : ((l.length : Int) == 2) = false := beq_eq_false_iff_ne.2 (by omega)
      have d52 : decide (l.length = 2) = false := decide_eq_false hl52
      (try simp only [d52, Bool.true_and, Bool.and_true, Bool.false_and, Bool.and_false, Bool.true_or, Bool.or_true, Bool.false_or, Bool.or_false, Bool.not_true, Bool.not_false] at hz)
      refine gA ?_
      subst hz
      exact ⟨by first | rfl | (show Ending.returned (.bool (((l.length : Int) == 2))) = _; rw [q52]), X⟩
theorem expr_21 {N : Nat} (K : ∀ d, cnt d < N → NodeOk d) (L : ∀ l, cnts l < N → l.length ≤ 4194304 → ListOk l) (nm : ByteArray) (n : Int) (t : ByteArray) (ns : List ByteArray) (l : List NT) (hc : cnt (.mk 21 nm n t ns l) ≤ N) : Says 63 (.mk 21 nm n t ns l) (Ex (.mk 21 nm n t ns l)) := by
  intro h cs r
  have rt := r
  simp only [TRep] at r
  obtain ⟨b1, b2, b3, b4, b5, b6, b7, ka, kc, la, lc, ys, rfl, s1, s2, s3⟩ := r
  simp only [cnt] at hc
  have hz : Ex (.mk 21 nm n t ns l) = mayT (.mk 21 nm n t ns l) := rfl
  rw [may_21] at hz
  generalize Ex (.mk 21 nm n t ns l) = z at hz
  refine c63 (by simp) ?_
  refine gA ?_
  refine new_var (e := 25) [.int .i64 21, .string nm, .int .i64 n, .string t, .slice ka ns.length kc, .slice la l.length lc] rfl ?_
  intro h1 bn o1 X z1 hbn
  refine gA ?_
  refine HCall.mk ((ownR_spec (rt.ext X)).mono ?_)
  rintro e hh55 ⟨rfl, x55⟩
  have o1 := o1.ext x55
  have X := X.trans x55
  cases q55 : ownR (.mk 21 nm n t ns l)
  · (try simp only [q55, Bool.true_and, Bool.and_true, Bool.false_and, Bool.and_false, Bool.true_or, Bool.or_true, Bool.false_or, Bool.or_false, Bool.not_true, Bool.not_false] at hz)
    refine gA ?_
    subst hz
    exact ⟨rfl, X⟩
  · (try simp only [q55, Bool.true_and, Bool.and_true, Bool.false_and, Bool.and_false, Bool.true_or, Bool.or_true, Bool.false_or, Bool.or_false, Bool.not_true, Bool.not_false] at hz)
    by_cases hl56 : l.length = 2
    · have q56 : ((l.length : Int) == 2) = true := beq_iff_eq.2 (by omega)
      have d56 : decide (l.length = 2) = true := decide_eq_true hl56
      (try simp only [d56, Bool.true_and, Bool.and_true, Bool.false_and, Bool.and_false, Bool.true_or, Bool.or_true, Bool.false_or, Bool.or_false, Bool.not_true, Bool.not_false] at hz)
      refine gA ?_
      refine HCall.mk (((L l (by omega) b6).exs _ _ _ _ (s2.ext X) (s3.ext X)).mono ?_)
      rintro e hh57 ⟨rfl, x57⟩
      have o1 := o1.ext x57
      have X := X.trans x57
      cases q57 : l.all Ex
      · (try simp only [q57, Bool.true_and, Bool.and_true, Bool.false_and, Bool.and_false, Bool.true_or, Bool.or_true, Bool.false_or, Bool.or_false, Bool.not_true, Bool.not_false] at hz)
        refine gA ?_
        subst hz
        exact ⟨rfl, X⟩
      · (try simp only [q57, Bool.true_and, Bool.and_true, Bool.false_and, Bool.and_false, Bool.true_or, Bool.or_true, Bool.false_or, Bool.or_false, Bool.not_true, Bool.not_false] at hz)
        refine gA ?_
        subst hz
        exact ⟨rfl, X⟩
    · have q56 : ((l.length : Int) == 2) = false := beq_eq_false_iff_ne.2 (by omega)
      have d56 : decide (l.length = 2) = false := decide_eq_false hl56
      (try simp only [d56, Bool.true_and, Bool.and_true, Bool.false_and, Bool.and_false, Bool.true_or, Bool.or_true, Bool.false_or, Bool.or_false, Bool.not_true, Bool.not_false] at hz)
      refine gA ?_
      subst hz
      exact ⟨by first | rfl | (show Ending.returned (.bool (((l.length : Int) == 2))) = _; rw [q56]), X⟩
theorem expr_ok {N : Nat} (K : ∀ d, cnt d < N → NodeOk d) (L : ∀ l, cnts l < N → l.length ≤ 4194304 → ListOk l) (d : NT) (hc : cnt d ≤ N) : Says 63 d (Ex d) := by
  cases d with
  | mk k nm n t ns l =>
  by_cases h1 : k = 1
  · subst h1; exact expr_1 K L nm n t ns l hc
  have q1 : (k == 1) = false := beq_eq_false_iff_ne.2 h1
  by_cases h2 : k = 2
  · subst h2; exact expr_2 K L nm n t ns l hc
  have q2 : (k == 2) = false := beq_eq_false_iff_ne.2 h2
  by_cases h3 : k = 3
  · subst h3; exact expr_3 K L nm n t ns l hc
  have q3 : (k == 3) = false := beq_eq_false_iff_ne.2 h3
  by_cases h4 : k = 4
  · subst h4; exact expr_4 K L nm n t ns l hc
  have q4 : (k == 4) = false := beq_eq_false_iff_ne.2 h4
  by_cases h5 : k = 5
  · subst h5; exact expr_5 K L nm n t ns l hc
  have q5 : (k == 5) = false := beq_eq_false_iff_ne.2 h5
  by_cases h6 : k = 6
  · subst h6; exact expr_6 K L nm n t ns l hc
  have q6 : (k == 6) = false := beq_eq_false_iff_ne.2 h6
  by_cases h7 : k = 7
  · subst h7; exact expr_7 K L nm n t ns l hc
  have q7 : (k == 7) = false := beq_eq_false_iff_ne.2 h7
  by_cases h8 : k = 8
  · subst h8; exact expr_8 K L nm n t ns l hc
  have q8 : (k == 8) = false := beq_eq_false_iff_ne.2 h8
  by_cases h10 : k = 10
  · subst h10; exact expr_10 K L nm n t ns l hc
  have q10 : (k == 10) = false := beq_eq_false_iff_ne.2 h10
  by_cases h11 : k = 11
  · subst h11; exact expr_11 K L nm n t ns l hc
  have q11 : (k == 11) = false := beq_eq_false_iff_ne.2 h11
  by_cases h12 : k = 12
  · subst h12; exact expr_12 K L nm n t ns l hc
  have q12 : (k == 12) = false := beq_eq_false_iff_ne.2 h12
  by_cases h13 : k = 13
  · subst h13; exact expr_13 K L nm n t ns l hc
  have q13 : (k == 13) = false := beq_eq_false_iff_ne.2 h13
  by_cases h14 : k = 14
  · subst h14; exact expr_14 K L nm n t ns l hc
  have q14 : (k == 14) = false := beq_eq_false_iff_ne.2 h14
  by_cases h15 : k = 15
  · subst h15; exact expr_15 K L nm n t ns l hc
  have q15 : (k == 15) = false := beq_eq_false_iff_ne.2 h15
  by_cases h16 : k = 16
  · subst h16; exact expr_16 K L nm n t ns l hc
  have q16 : (k == 16) = false := beq_eq_false_iff_ne.2 h16
  by_cases h17 : k = 17
  · subst h17; exact expr_17 K L nm n t ns l hc
  have q17 : (k == 17) = false := beq_eq_false_iff_ne.2 h17
  by_cases h18 : k = 18
  · subst h18; exact expr_18 K L nm n t ns l hc
  have q18 : (k == 18) = false := beq_eq_false_iff_ne.2 h18
  by_cases h19 : k = 19
  · subst h19; exact expr_19 K L nm n t ns l hc
  have q19 : (k == 19) = false := beq_eq_false_iff_ne.2 h19
  by_cases h20 : k = 20
  · subst h20; exact expr_20 K L nm n t ns l hc
  have q20 : (k == 20) = false := beq_eq_false_iff_ne.2 h20
  by_cases h21 : k = 21
  · subst h21; exact expr_21 K L nm n t ns l hc
  have q21 : (k == 21) = false := beq_eq_false_iff_ne.2 h21
  intro h cs r
  have rt := r
  simp only [TRep] at r
  obtain ⟨b1, b2, b3, b4, b5, b6, b7, ka, kc, la, lc, ys, rfl, s1, s2, s3⟩ := r
  have hz : Ex (.mk k nm n t ns l) = false := by
    show (exprB k && _) = false
    have : exprB k = false := by
      unfold exprB
      rw [Bool.and_eq_false_iff, Bool.and_eq_false_iff, decide_eq_false_iff_not, decide_eq_false_iff_not, bne_eq_false_iff_eq]
      omega
    rw [this]; rfl
  generalize Ex (.mk k nm n t ns l) = z at hz
  refine c63 (by simp) ?_
  refine gA ?_
  refine new_var (e := 25) [.int .i64 k, .string nm, .int .i64 n, .string t, .slice ka ns.length kc, .slice la l.length lc] rfl ?_
  intro h1 bn o1 X z1 hbn
  refine gA ?_
  refine HCall.mk ((ownR_spec (rt.ext X)).mono ?_)
  rintro e hh58 ⟨rfl, x58⟩
  have o1 := o1.ext x58
  have X := X.trans x58
  cases q58 : ownR (.mk k nm n t ns l)
  · (try simp only [q58, Bool.true_and, Bool.and_true, Bool.false_and, Bool.and_false, Bool.true_or, Bool.or_true, Bool.false_or, Bool.or_false, Bool.not_true, Bool.not_false] at hz)
    refine gA ?_
    subst hz
    exact ⟨rfl, X⟩
  · (try simp only [q58, Bool.true_and, Bool.and_true, Bool.false_and, Bool.and_false, Bool.true_or, Bool.or_true, Bool.false_or, Bool.or_false, Bool.not_true, Bool.not_false] at hz)
    refine gA ?_
    subst hz
    exact ⟨rfl, X⟩
theorem loop_27 {N : Nat} (K : ∀ d, cnt d < N → NodeOk d) (L : ∀ l, cnts l < N → l.length ≤ 4194304 → ListOk l) (nm : ByteArray) (n : Int) (t : ByteArray) (ns : List ByteArray) (l : List NT) (hc : cnt (.mk 27 nm n t ns l) ≤ N) : Says 65 (.mk 27 nm n t ns l) (decide (l.length = 2) && at_ Ex l 0 && at_ (Kk 25) l 1) := by
  intro h cs r
  have rt := r
  simp only [TRep] at r
  obtain ⟨b1, b2, b3, b4, b5, b6, b7, ka, kc, la, lc, ys, rfl, s1, s2, s3⟩ := r
  simp only [cnt] at hc
  obtain ⟨z, hz⟩ : ∃ z, z = (decide (l.length = 2) && at_ Ex l 0 && at_ (Kk 25) l 1) := ⟨_, rfl⟩
  rw [← hz]
  refine c65 (by simp) ?_
  refine gA ?_
  refine new_var (e := 25) [.int .i64 27, .string nm, .int .i64 n, .string t, .slice ka ns.length kc, .slice la l.length lc] rfl ?_
  intro h1 bn o1 X z1 hbn
  by_cases hl59 : l.length = 2
  · have q59 : ((l.length : Int) == 2) = true := beq_iff_eq.2 (by omega)
    have d59 : decide (l.length = 2) = true := decide_eq_true hl59
    (try simp only [d59, Bool.true_and, Bool.and_true, Bool.false_and, Bool.and_false, Bool.true_or, Bool.or_true, Bool.false_or, Bool.or_false, Bool.not_true, Bool.not_false] at hz)
    have hi60 : 0 < l.length := by omega
    refine gA ?_
    refine HIdx.mk 0 rfl hi60 ?_
    refine sl_some s2 hi60 fun p ep => ?_
    refine gA ?_
    refine tloadK s2 s3 (.of_ext X) ep hi60 fun cs rk => ?_
    refine gA ?_
    refine HCall.mk (((K l[0] (by have := cnts_get l 0 hi60; omega)).ex _ _ (rk.ext X)).mono ?_)
    rintro e hh60 ⟨rfl, x60⟩
    have o1 := o1.ext x60
    have X := X.trans x60
    cases q60 : Ex l[0]
    · (try simp only [at_in hi60, q60, Bool.true_and, Bool.and_true, Bool.false_and, Bool.and_false, Bool.true_or, Bool.or_true, Bool.false_or, Bool.or_false, Bool.not_true, Bool.not_false] at hz)
      refine gA ?_
      subst hz
      exact ⟨rfl, X⟩
    · (try simp only [at_in hi60, q60, Bool.true_and, Bool.and_true, Bool.false_and, Bool.and_false, Bool.true_or, Bool.or_true, Bool.false_or, Bool.or_false, Bool.not_true, Bool.not_false] at hz)
      have hi61 : 1 < l.length := by omega
      refine gA ?_
      refine HIdx.mk 1 rfl hi61 ?_
      refine sl_some s2 hi61 fun p ep => ?_
      refine gA ?_
      refine tloadK s2 s3 (.of_ext X) ep hi61 fun cs rk => ?_
      refine gA ?_
      refine HCall.mk (((K l[1] (by have := cnts_get l 1 hi61; omega)).bk _ _ (rk.ext X)).mono ?_)
      rintro e hh61 ⟨rfl, x61⟩
      have o1 := o1.ext x61
      have X := X.trans x61
      cases q61 : Kk 25 l[1]
      · (try simp only [at_in hi61, q61, Bool.true_and, Bool.and_true, Bool.false_and, Bool.and_false, Bool.true_or, Bool.or_true, Bool.false_or, Bool.or_false, Bool.not_true, Bool.not_false] at hz)
        refine gA ?_
        subst hz
        exact ⟨rfl, X⟩
      · (try simp only [at_in hi61, q61, Bool.true_and, Bool.and_true, Bool.false_and, Bool.and_false, Bool.true_or, Bool.or_true, Bool.false_or, Bool.or_false, Bool.not_true, Bool.not_false] at hz)
        refine gA ?_
        subst hz
        exact ⟨rfl, X⟩
  · have q59 : ((l.length : Int) == 2) = false := beq_eq_false_iff_ne.2 (by omega)
    have d59 : decide (l.length = 2) = false := decide_eq_false hl59
    (try simp only [d59, Bool.true_and, Bool.and_true, Bool.false_and, Bool.and_false, Bool.true_or, Bool.or_true, Bool.false_or, Bool.or_false, Bool.not_true, Bool.not_false] at hz)
    refine gA ?_
    subst hz
    exact ⟨by first | rfl | (show Ending.returned (.bool (((l.length : Int) == 2))) = _; rw [q59]), X⟩
theorem loop_28 {N : Nat} (K : ∀ d, cnt d < N → NodeOk d) (L : ∀ l, cnts l < N → l.length ≤ 4194304 → ListOk l) (nm : ByteArray) (n : Int) (t : ByteArray) (ns : List ByteArray) (l : List NT) (hc : cnt (.mk 28 nm n t ns l) ≤ N) : Says 65 (.mk 28 nm n t ns l) (decide (l.length = 2) && at_ (Kk 25) l 0 && at_ Ex l 1) := by
  intro h cs r
  have rt := r
  simp only [TRep] at r
  obtain ⟨b1, b2, b3, b4, b5, b6, b7, ka, kc, la, lc, ys, rfl, s1, s2, s3⟩ := r
  simp only [cnt] at hc
  obtain ⟨z, hz⟩ : ∃ z, z = (decide (l.length = 2) && at_ (Kk 25) l 0 && at_ Ex l 1) := ⟨_, rfl⟩
  rw [← hz]
  refine c65 (by simp) ?_
  refine gA ?_
  refine new_var (e := 25) [.int .i64 28, .string nm, .int .i64 n, .string t, .slice ka ns.length kc, .slice la l.length lc] rfl ?_
  intro h1 bn o1 X z1 hbn
  by_cases hl62 : l.length = 2
  · have q62 : ((l.length : Int) == 2) = true := beq_iff_eq.2 (by omega)
    have d62 : decide (l.length = 2) = true := decide_eq_true hl62
    (try simp only [d62, Bool.true_and, Bool.and_true, Bool.false_and, Bool.and_false, Bool.true_or, Bool.or_true, Bool.false_or, Bool.or_false, Bool.not_true, Bool.not_false] at hz)
    have hi63 : 0 < l.length := by omega
    refine gA ?_
    refine HIdx.mk 0 rfl hi63 ?_
    refine sl_some s2 hi63 fun p ep => ?_
    refine gA ?_
    refine tloadK s2 s3 (.of_ext X) ep hi63 fun cs rk => ?_
    refine gA ?_
    refine HCall.mk (((K l[0] (by have := cnts_get l 0 hi63; omega)).bk _ _ (rk.ext X)).mono ?_)
    rintro e hh63 ⟨rfl, x63⟩
    have o1 := o1.ext x63
    have X := X.trans x63
    cases q63 : Kk 25 l[0]
    · (try simp only [at_in hi63, q63, Bool.true_and, Bool.and_true, Bool.false_and, Bool.and_false, Bool.true_or, Bool.or_true, Bool.false_or, Bool.or_false, Bool.not_true, Bool.not_false] at hz)
      refine gA ?_
      subst hz
      exact ⟨rfl, X⟩
    · (try simp only [at_in hi63, q63, Bool.true_and, Bool.and_true, Bool.false_and, Bool.and_false, Bool.true_or, Bool.or_true, Bool.false_or, Bool.or_false, Bool.not_true, Bool.not_false] at hz)
      have hi64 : 1 < l.length := by omega
      refine gA ?_
      refine HIdx.mk 1 rfl hi64 ?_
      refine sl_some s2 hi64 fun p ep => ?_
      refine gA ?_
      refine tloadK s2 s3 (.of_ext X) ep hi64 fun cs rk => ?_
      refine gA ?_
      refine HCall.mk (((K l[1] (by have := cnts_get l 1 hi64; omega)).ex _ _ (rk.ext X)).mono ?_)
      rintro e hh64 ⟨rfl, x64⟩
      have o1 := o1.ext x64
      have X := X.trans x64
      cases q64 : Ex l[1]
      · (try simp only [at_in hi64, q64, Bool.true_and, Bool.and_true, Bool.false_and, Bool.and_false, Bool.true_or, Bool.or_true, Bool.false_or, Bool.or_false, Bool.not_true, Bool.not_false] at hz)
        refine gA ?_
        subst hz
        exact ⟨rfl, X⟩
      · (try simp only [at_in hi64, q64, Bool.true_and, Bool.and_true, Bool.false_and, Bool.and_false, Bool.true_or, Bool.or_true, Bool.false_or, Bool.or_false, Bool.not_true, Bool.not_false] at hz)
        refine gA ?_
        subst hz
        exact ⟨rfl, X⟩
  · have q62 : ((l.length : Int) == 2) = false := beq_eq_false_iff_ne.2 (by omega)
    have d62 : decide (l.length = 2) = false := decide_eq_false hl62
    (try simp only [d62, Bool.true_and, Bool.and_true, Bool.false_and, Bool.and_false, Bool.true_or, Bool.or_true, Bool.false_or, Bool.or_false, Bool.not_true, Bool.not_false] at hz)
    refine gA ?_
    subst hz
    exact ⟨by first | rfl | (show Ending.returned (.bool (((l.length : Int) == 2))) = _; rw [q62]), X⟩
theorem loop_29 {N : Nat} (K : ∀ d, cnt d < N → NodeOk d) (L : ∀ l, cnts l < N → l.length ≤ 4194304 → ListOk l) (nm : ByteArray) (n : Int) (t : ByteArray) (ns : List ByteArray) (l : List NT) (hc : cnt (.mk 29 nm n t ns l) ≤ N) : Says 65 (.mk 29 nm n t ns l) (decide (l.length = 4) && (at_ (Kk 22) l 0 || at_ Ex l 0 || at_ (Kk 42) l 0) && (at_ Ex l 1 || at_ (Kk 42) l 1) && (at_ Ex l 2 || at_ (Kk 42) l 2) && at_ (Kk 25) l 3) := by
  intro h cs r
  have rt := r
  simp only [TRep] at r
  obtain ⟨b1, b2, b3, b4, b5, b6, b7, ka, kc, la, lc, ys, rfl, s1, s2, s3⟩ := r
  simp only [cnt] at hc
  obtain ⟨z, hz⟩ : ∃ z, z = (decide (l.length = 4) && (at_ (Kk 22) l 0 || at_ Ex l 0 || at_ (Kk 42) l 0) && (at_ Ex l 1 || at_ (Kk 42) l 1) && (at_ Ex l 2 || at_ (Kk 42) l 2) && at_ (Kk 25) l 3) := ⟨_, rfl⟩
  rw [← hz]
  refine c65 (by simp) ?_
  refine gA ?_
  refine new_var (e := 25) [.int .i64 29, .string nm, .int .i64 n, .string t, .slice ka ns.length kc, .slice la l.length lc] rfl ?_
  intro h1 bn o1 X z1 hbn
  by_cases hl65 : l.length = 4
  · have q65 : ((l.length : Int) == 4) = true := beq_iff_eq.2 (by omega)
    have d65 : decide (l.length = 4) = true := decide_eq_true hl65
    (try simp only [d65, Bool.true_and, Bool.and_true, Bool.false_and, Bool.and_false, Bool.true_or, Bool.or_true, Bool.false_or, Bool.or_false, Bool.not_true, Bool.not_false] at hz)
    have hi66 : 0 < l.length := by omega
    refine gA ?_
    refine HIdx.mk 0 rfl hi66 ?_
    refine sl_some s2 hi66 fun p ep => ?_
    refine gA ?_
    refine tloadK s2 s3 (.of_ext X) ep hi66 fun cs rk => ?_
    refine gA ?_
    refine HCall.mk (((K l[0] (by have := cnts_get l 0 hi66; omega)).dc _ _ (rk.ext X)).mono ?_)
    rintro e hh66 ⟨rfl, x66⟩
    have o1 := o1.ext x66
    have X := X.trans x66
    cases q66 : Kk 22 l[0]
    · (try simp only [at_in hi66, q66, Bool.true_and, Bool.and_true, Bool.false_and, Bool.and_false, Bool.true_or, Bool.or_true, Bool.false_or, Bool.or_false, Bool.not_true, Bool.not_false] at hz)
      have hi67 : 0 < l.length := by omega
      refine gA ?_
      refine HIdx.mk 0 rfl hi67 ?_
      refine sl_some s2 hi67 fun p ep => ?_
      refine gA ?_
      refine tloadK s2 s3 (.of_ext X) ep hi67 fun cs rk => ?_
      refine gA ?_
      refine HCall.mk (((K l[0] (by have := cnts_get l 0 hi67; omega)).ex _ _ (rk.ext X)).mono ?_)
      rintro e hh67 ⟨rfl, x67⟩
      have o1 := o1.ext x67
      have X := X.trans x67
      cases q67 : Ex l[0]
      · (try simp only [at_in hi67, q67, Bool.true_and, Bool.and_true, Bool.false_and, Bool.and_false, Bool.true_or, Bool.or_true, Bool.false_or, Bool.or_false, Bool.not_true, Bool.not_false] at hz)
        have hi68 : 0 < l.length := by omega
        refine gA ?_
        refine HIdx.mk 0 rfl hi68 ?_
        refine sl_some s2 hi68 fun p ep => ?_
        refine gA ?_
        refine tloadK s2 s3 (.of_ext X) ep hi68 fun cs rk => ?_
        refine gA ?_
        refine HCall.mk (((K l[0] (by have := cnts_get l 0 hi68; omega)).em _ _ (rk.ext X)).mono ?_)
        rintro e hh68 ⟨rfl, x68⟩
        have o1 := o1.ext x68
        have X := X.trans x68
        cases q68 : Kk 42 l[0]
        · (try simp only [at_in hi68, q68, Bool.true_and, Bool.and_true, Bool.false_and, Bool.and_false, Bool.true_or, Bool.or_true, Bool.false_or, Bool.or_false, Bool.not_true, Bool.not_false] at hz)
          refine gA ?_
          subst hz
          exact ⟨rfl, X⟩
        · (try simp only [at_in hi68, q68, Bool.true_and, Bool.and_true, Bool.false_and, Bool.and_false, Bool.true_or, Bool.or_true, Bool.false_or, Bool.or_false, Bool.not_true, Bool.not_false] at hz)
          have hi69 : 1 < l.length := by omega
          refine gA ?_
          refine HIdx.mk 1 rfl hi69 ?_
          refine sl_some s2 hi69 fun p ep => ?_
          refine gA ?_
          refine tloadK s2 s3 (.of_ext X) ep hi69 fun cs rk => ?_
          refine gA ?_
          refine HCall.mk (((K l[1] (by have := cnts_get l 1 hi69; omega)).ex _ _ (rk.ext X)).mono ?_)
          rintro e hh69 ⟨rfl, x69⟩
          have o1 := o1.ext x69
          have X := X.trans x69
          cases q69 : Ex l[1]
          · (try simp only [at_in hi69, q69, Bool.true_and, Bool.and_true, Bool.false_and, Bool.and_false, Bool.true_or, Bool.or_true, Bool.false_or, Bool.or_false, Bool.not_true, Bool.not_false] at hz)
            have hi70 : 1 < l.length := by omega
            refine gA ?_
            refine HIdx.mk 1 rfl hi70 ?_
            refine sl_some s2 hi70 fun p ep => ?_
            refine gA ?_
            refine tloadK s2 s3 (.of_ext X) ep hi70 fun cs rk => ?_
            refine gA ?_
            refine HCall.mk (((K l[1] (by have := cnts_get l 1 hi70; omega)).em _ _ (rk.ext X)).mono ?_)
            rintro e hh70 ⟨rfl, x70⟩
            have o1 := o1.ext x70
            have X := X.trans x70
            cases q70 : Kk 42 l[1]
            · (try simp only [at_in hi70, q70, Bool.true_and, Bool.and_true, Bool.false_and, Bool.and_false, Bool.true_or, Bool.or_true, Bool.false_or, Bool.or_false, Bool.not_true, Bool.not_false] at hz)
              refine gA ?_
              subst hz
              exact ⟨rfl, X⟩
            · (try simp only [at_in hi70, q70, Bool.true_and, Bool.and_true, Bool.false_and, Bool.and_false, Bool.true_or, Bool.or_true, Bool.false_or, Bool.or_false, Bool.not_true, Bool.not_false] at hz)
              have hi71 : 2 < l.length := by omega
              refine gA ?_
              refine HIdx.mk 2 rfl hi71 ?_
              refine sl_some s2 hi71 fun p ep => ?_
              refine gA ?_
              refine tloadK s2 s3 (.of_ext X) ep hi71 fun cs rk => ?_
              refine gA ?_
              refine HCall.mk (((K l[2] (by have := cnts_get l 2 hi71; omega)).ex _ _ (rk.ext X)).mono ?_)
              rintro e hh71 ⟨rfl, x71⟩
              have o1 := o1.ext x71
              have X := X.trans x71
              cases q71 : Ex l[2]
              · (try simp only [at_in hi71, q71, Bool.true_and, Bool.and_true, Bool.false_and, Bool.and_false, Bool.true_or, Bool.or_true, Bool.false_or, Bool.or_false, Bool.not_true, Bool.not_false] at hz)
                have hi72 : 2 < l.length := by omega
                refine gA ?_
                refine HIdx.mk 2 rfl hi72 ?_
                refine sl_some s2 hi72 fun p ep => ?_
                refine gA ?_
                refine tloadK s2 s3 (.of_ext X) ep hi72 fun cs rk => ?_
                refine gA ?_
                refine HCall.mk (((K l[2] (by have := cnts_get l 2 hi72; omega)).em _ _ (rk.ext X)).mono ?_)
                rintro e hh72 ⟨rfl, x72⟩
                have o1 := o1.ext x72
                have X := X.trans x72
                cases q72 : Kk 42 l[2]
                · (try simp only [at_in hi72, q72, Bool.true_and, Bool.and_true, Bool.false_and, Bool.and_false, Bool.true_or, Bool.or_true, Bool.false_or, Bool.or_false, Bool.not_true, Bool.not_false] at hz)
                  refine gA ?_
                  subst hz
                  exact ⟨rfl, X⟩
                · (try simp only [at_in hi72, q72, Bool.true_and, Bool.and_true, Bool.false_and, Bool.and_false, Bool.true_or, Bool.or_true, Bool.false_or, Bool.or_false, Bool.not_true, Bool.not_false] at hz)
                  have hi73 : 3 < l.length := by omega
                  refine gA ?_
                  refine HIdx.mk 3 rfl hi73 ?_
                  refine sl_some s2 hi73 fun p ep => ?_
                  refine gA ?_
                  refine tloadK s2 s3 (.of_ext X) ep hi73 fun cs rk => ?_
                  refine gA ?_
                  refine HCall.mk (((K l[3] (by have := cnts_get l 3 hi73; omega)).bk _ _ (rk.ext X)).mono ?_)
                  rintro e hh73 ⟨rfl, x73⟩
                  have o1 := o1.ext x73
                  have X := X.trans x73
                  cases q73 : Kk 25 l[3]
                  · (try simp only [at_in hi73, q73, Bool.true_and, Bool.and_true, Bool.false_and, Bool.and_false, Bool.true_or, Bool.or_true, Bool.false_or, Bool.or_false, Bool.not_true, Bool.not_false] at hz)
                    refine gA ?_
                    subst hz
                    exact ⟨rfl, X⟩
                  · (try simp only [at_in hi73, q73, Bool.true_and, Bool.and_true, Bool.false_and, Bool.and_false, Bool.true_or, Bool.or_true, Bool.false_or, Bool.or_false, Bool.not_true, Bool.not_false] at hz)
                    refine gA ?_
                    subst hz
                    exact ⟨rfl, X⟩
              · (try simp only [at_in hi71, q71, Bool.true_and, Bool.and_true, Bool.false_and, Bool.and_false, Bool.true_or, Bool.or_true, Bool.false_or, Bool.or_false, Bool.not_true, Bool.not_false] at hz)
                have hi74 : 3 < l.length := by omega
                refine gA ?_
                refine HIdx.mk 3 rfl hi74 ?_
                refine sl_some s2 hi74 fun p ep => ?_
                refine gA ?_
                refine tloadK s2 s3 (.of_ext X) ep hi74 fun cs rk => ?_
                refine gA ?_
                refine HCall.mk (((K l[3] (by have := cnts_get l 3 hi74; omega)).bk _ _ (rk.ext X)).mono ?_)
                rintro e hh74 ⟨rfl, x74⟩
                have o1 := o1.ext x74
                have X := X.trans x74
                cases q74 : Kk 25 l[3]
                · (try simp only [at_in hi74, q74, Bool.true_and, Bool.and_true, Bool.false_and, Bool.and_false, Bool.true_or, Bool.or_true, Bool.false_or, Bool.or_false, Bool.not_true, Bool.not_false] at hz)
                  refine gA ?_
                  subst hz
                  exact ⟨rfl, X⟩
                · (try simp only [at_in hi74, q74, Bool.true_and, Bool.and_true, Bool.false_and, Bool.and_false, Bool.true_or, Bool.or_true, Bool.false_or, Bool.or_false, Bool.not_true, Bool.not_false] at hz)
                  refine gA ?_
                  subst hz
                  exact ⟨rfl, X⟩
          · (try simp only [at_in hi69, q69, Bool.true_and, Bool.and_true, Bool.false_and, Bool.and_false, Bool.true_or, Bool.or_true, Bool.false_or, Bool.or_false, Bool.not_true, Bool.not_false] at hz)
            have hi75 : 2 < l.length := by omega
            refine gA ?_
            refine HIdx.mk 2 rfl hi75 ?_
            refine sl_some s2 hi75 fun p ep => ?_
            refine gA ?_
            refine tloadK s2 s3 (.of_ext X) ep hi75 fun cs rk => ?_
            refine gA ?_
            refine HCall.mk (((K l[2] (by have := cnts_get l 2 hi75; omega)).ex _ _ (rk.ext X)).mono ?_)
            rintro e hh75 ⟨rfl, x75⟩
            have o1 := o1.ext x75
            have X := X.trans x75
            cases q75 : Ex l[2]
            · (try simp only [at_in hi75, q75, Bool.true_and, Bool.and_true, Bool.false_and, Bool.and_false, Bool.true_or, Bool.or_true, Bool.false_or, Bool.or_false, Bool.not_true, Bool.not_false] at hz)
              have hi76 : 2 < l.length := by omega
              refine gA ?_
              refine HIdx.mk 2 rfl hi76 ?_
              refine sl_some s2 hi76 fun p ep => ?_
              refine gA ?_
              refine tloadK s2 s3 (.of_ext X) ep hi76 fun cs rk => ?_
              refine gA ?_
              refine HCall.mk (((K l[2] (by have := cnts_get l 2 hi76; omega)).em _ _ (rk.ext X)).mono ?_)
              rintro e hh76 ⟨rfl, x76⟩
              have o1 := o1.ext x76
              have X := X.trans x76
              cases q76 : Kk 42 l[2]
              · (try simp only [at_in hi76, q76, Bool.true_and, Bool.and_true, Bool.false_and, Bool.and_false, Bool.true_or, Bool.or_true, Bool.false_or, Bool.or_false, Bool.not_true, Bool.not_false] at hz)
                refine gA ?_
                subst hz
                exact ⟨rfl, X⟩
              · (try simp only [at_in hi76, q76, Bool.true_and, Bool.and_true, Bool.false_and, Bool.and_false, Bool.true_or, Bool.or_true, Bool.false_or, Bool.or_false, Bool.not_true, Bool.not_false] at hz)
                have hi77 : 3 < l.length := by omega
                refine gA ?_
                refine HIdx.mk 3 rfl hi77 ?_
                refine sl_some s2 hi77 fun p ep => ?_
                refine gA ?_
                refine tloadK s2 s3 (.of_ext X) ep hi77 fun cs rk => ?_
                refine gA ?_
                refine HCall.mk (((K l[3] (by have := cnts_get l 3 hi77; omega)).bk _ _ (rk.ext X)).mono ?_)
                rintro e hh77 ⟨rfl, x77⟩
                have o1 := o1.ext x77
                have X := X.trans x77
                cases q77 : Kk 25 l[3]
                · (try simp only [at_in hi77, q77, Bool.true_and, Bool.and_true, Bool.false_and, Bool.and_false, Bool.true_or, Bool.or_true, Bool.false_or, Bool.or_false, Bool.not_true, Bool.not_false] at hz)
                  refine gA ?_
                  subst hz
                  exact ⟨rfl, X⟩
                · (try simp only [at_in hi77, q77, Bool.true_and, Bool.and_true, Bool.false_and, Bool.and_false, Bool.true_or, Bool.or_true, Bool.false_or, Bool.or_false, Bool.not_true, Bool.not_false] at hz)
                  refine gA ?_
                  subst hz
                  exact ⟨rfl, X⟩
            · (try simp only [at_in hi75, q75, Bool.true_and, Bool.and_true, Bool.false_and, Bool.and_false, Bool.true_or, Bool.or_true, Bool.false_or, Bool.or_false, Bool.not_true, Bool.not_false] at hz)
              have hi78 : 3 < l.length := by omega
              refine gA ?_
              refine HIdx.mk 3 rfl hi78 ?_
              refine sl_some s2 hi78 fun p ep => ?_
              refine gA ?_
              refine tloadK s2 s3 (.of_ext X) ep hi78 fun cs rk => ?_
              refine gA ?_
              refine HCall.mk (((K l[3] (by have := cnts_get l 3 hi78; omega)).bk _ _ (rk.ext X)).mono ?_)
              rintro e hh78 ⟨rfl, x78⟩
              have o1 := o1.ext x78
              have X := X.trans x78
              cases q78 : Kk 25 l[3]
              · (try simp only [at_in hi78, q78, Bool.true_and, Bool.and_true, Bool.false_and, Bool.and_false, Bool.true_or, Bool.or_true, Bool.false_or, Bool.or_false, Bool.not_true, Bool.not_false] at hz)
                refine gA ?_
                subst hz
                exact ⟨rfl, X⟩
              · (try simp only [at_in hi78, q78, Bool.true_and, Bool.and_true, Bool.false_and, Bool.and_false, Bool.true_or, Bool.or_true, Bool.false_or, Bool.or_false, Bool.not_true, Bool.not_false] at hz)
                refine gA ?_
                subst hz
                exact ⟨rfl, X⟩
      · (try simp only [at_in hi67, q67, Bool.true_and, Bool.and_true, Bool.false_and, Bool.and_false, Bool.true_or, Bool.or_true, Bool.false_or, Bool.or_false, Bool.not_true, Bool.not_false] at hz)
        have hi79 : 1 < l.length := by omega
        refine gA ?_
        refine HIdx.mk 1 rfl hi79 ?_
        refine sl_some s2 hi79 fun p ep => ?_
        refine gA ?_
        refine tloadK s2 s3 (.of_ext X) ep hi79 fun cs rk => ?_
        refine gA ?_
        refine HCall.mk (((K l[1] (by have := cnts_get l 1 hi79; omega)).ex _ _ (rk.ext X)).mono ?_)
        rintro e hh79 ⟨rfl, x79⟩
        have o1 := o1.ext x79
        have X := X.trans x79
        cases q79 : Ex l[1]
        · (try simp only [at_in hi79, q79, Bool.true_and, Bool.and_true, Bool.false_and, Bool.and_false, Bool.true_or, Bool.or_true, Bool.false_or, Bool.or_false, Bool.not_true, Bool.not_false] at hz)
          have hi80 : 1 < l.length := by omega
          refine gA ?_
          refine HIdx.mk 1 rfl hi80 ?_
          refine sl_some s2 hi80 fun p ep => ?_
          refine gA ?_
          refine tloadK s2 s3 (.of_ext X) ep hi80 fun cs rk => ?_
          refine gA ?_
          refine HCall.mk (((K l[1] (by have := cnts_get l 1 hi80; omega)).em _ _ (rk.ext X)).mono ?_)
          rintro e hh80 ⟨rfl, x80⟩
          have o1 := o1.ext x80
          have X := X.trans x80
          cases q80 : Kk 42 l[1]
          · (try simp only [at_in hi80, q80, Bool.true_and, Bool.and_true, Bool.false_and, Bool.and_false, Bool.true_or, Bool.or_true, Bool.false_or, Bool.or_false, Bool.not_true, Bool.not_false] at hz)
            refine gA ?_
            subst hz
            exact ⟨rfl, X⟩
          · (try simp only [at_in hi80, q80, Bool.true_and, Bool.and_true, Bool.false_and, Bool.and_false, Bool.true_or, Bool.or_true, Bool.false_or, Bool.or_false, Bool.not_true, Bool.not_false] at hz)
            have hi81 : 2 < l.length := by omega
            refine gA ?_
            refine HIdx.mk 2 rfl hi81 ?_
            refine sl_some s2 hi81 fun p ep => ?_
            refine gA ?_
            refine tloadK s2 s3 (.of_ext X) ep hi81 fun cs rk => ?_
            refine gA ?_
            refine HCall.mk (((K l[2] (by have := cnts_get l 2 hi81; omega)).ex _ _ (rk.ext X)).mono ?_)
            rintro e hh81 ⟨rfl, x81⟩
            have o1 := o1.ext x81
            have X := X.trans x81
            cases q81 : Ex l[2]
            · (try simp only [at_in hi81, q81, Bool.true_and, Bool.and_true, Bool.false_and, Bool.and_false, Bool.true_or, Bool.or_true, Bool.false_or, Bool.or_false, Bool.not_true, Bool.not_false] at hz)
              have hi82 : 2 < l.length := by omega
              refine gA ?_
              refine HIdx.mk 2 rfl hi82 ?_
              refine sl_some s2 hi82 fun p ep => ?_
              refine gA ?_
              refine tloadK s2 s3 (.of_ext X) ep hi82 fun cs rk => ?_
              refine gA ?_
              refine HCall.mk (((K l[2] (by have := cnts_get l 2 hi82; omega)).em _ _ (rk.ext X)).mono ?_)
              rintro e hh82 ⟨rfl, x82⟩
              have o1 := o1.ext x82
              have X := X.trans x82
              cases q82 : Kk 42 l[2]
              · (try simp only [at_in hi82, q82, Bool.true_and, Bool.and_true, Bool.false_and, Bool.and_false, Bool.true_or, Bool.or_true, Bool.false_or, Bool.or_false, Bool.not_true, Bool.not_false] at hz)
                refine gA ?_
                subst hz
                exact ⟨rfl, X⟩
              · (try simp only [at_in hi82, q82, Bool.true_and, Bool.and_true, Bool.false_and, Bool.and_false, Bool.true_or, Bool.or_true, Bool.false_or, Bool.or_false, Bool.not_true, Bool.not_false] at hz)
                have hi83 : 3 < l.length := by omega
                refine gA ?_
                refine HIdx.mk 3 rfl hi83 ?_
                refine sl_some s2 hi83 fun p ep => ?_
                refine gA ?_
                refine tloadK s2 s3 (.of_ext X) ep hi83 fun cs rk => ?_
                refine gA ?_
                refine HCall.mk (((K l[3] (by have := cnts_get l 3 hi83; omega)).bk _ _ (rk.ext X)).mono ?_)
                rintro e hh83 ⟨rfl, x83⟩
                have o1 := o1.ext x83
                have X := X.trans x83
                cases q83 : Kk 25 l[3]
                · (try simp only [at_in hi83, q83, Bool.true_and, Bool.and_true, Bool.false_and, Bool.and_false, Bool.true_or, Bool.or_true, Bool.false_or, Bool.or_false, Bool.not_true, Bool.not_false] at hz)
                  refine gA ?_
                  subst hz
                  exact ⟨rfl, X⟩
                · (try simp only [at_in hi83, q83, Bool.true_and, Bool.and_true, Bool.false_and, Bool.and_false, Bool.true_or, Bool.or_true, Bool.false_or, Bool.or_false, Bool.not_true, Bool.not_false] at hz)
                  refine gA ?_
                  subst hz
                  exact ⟨rfl, X⟩
            · (try simp only [at_in hi81, q81, Bool.true_and, Bool.and_true, Bool.false_and, Bool.and_false, Bool.true_or, Bool.or_true, Bool.false_or, Bool.or_false, Bool.not_true, Bool.not_false] at hz)
              have hi84 : 3 < l.length := by omega
              refine gA ?_
              refine HIdx.mk 3 rfl hi84 ?_
              refine sl_some s2 hi84 fun p ep => ?_
              refine gA ?_
              refine tloadK s2 s3 (.of_ext X) ep hi84 fun cs rk => ?_
              refine gA ?_
              refine HCall.mk (((K l[3] (by have := cnts_get l 3 hi84; omega)).bk _ _ (rk.ext X)).mono ?_)
              rintro e hh84 ⟨rfl, x84⟩
              have o1 := o1.ext x84
              have X := X.trans x84
              cases q84 : Kk 25 l[3]
              · (try simp only [at_in hi84, q84, Bool.true_and, Bool.and_true, Bool.false_and, Bool.and_false, Bool.true_or, Bool.or_true, Bool.false_or, Bool.or_false, Bool.not_true, Bool.not_false] at hz)
                refine gA ?_
                subst hz
                exact ⟨rfl, X⟩
              · (try simp only [at_in hi84, q84, Bool.true_and, Bool.and_true, Bool.false_and, Bool.and_false, Bool.true_or, Bool.or_true, Bool.false_or, Bool.or_false, Bool.not_true, Bool.not_false] at hz)
                refine gA ?_
                subst hz
                exact ⟨rfl, X⟩
        · (try simp only [at_in hi79, q79, Bool.true_and, Bool.and_true, Bool.false_and, Bool.and_false, Bool.true_or, Bool.or_true, Bool.false_or, Bool.or_false, Bool.not_true, Bool.not_false] at hz)
          have hi85 : 2 < l.length := by omega
          refine gA ?_
          refine HIdx.mk 2 rfl hi85 ?_
          refine sl_some s2 hi85 fun p ep => ?_
          refine gA ?_
          refine tloadK s2 s3 (.of_ext X) ep hi85 fun cs rk => ?_
          refine gA ?_
          refine HCall.mk (((K l[2] (by have := cnts_get l 2 hi85; omega)).ex _ _ (rk.ext X)).mono ?_)
          rintro e hh85 ⟨rfl, x85⟩
          have o1 := o1.ext x85
          have X := X.trans x85
          cases q85 : Ex l[2]
          · (try simp only [at_in hi85, q85, Bool.true_and, Bool.and_true, Bool.false_and, Bool.and_false, Bool.true_or, Bool.or_true, Bool.false_or, Bool.or_false, Bool.not_true, Bool.not_false] at hz)
            have hi86 : 2 < l.length := by omega
            refine gA ?_
            refine HIdx.mk 2 rfl hi86 ?_
            refine sl_some s2 hi86 fun p ep => ?_
            refine gA ?_
            refine tloadK s2 s3 (.of_ext X) ep hi86 fun cs rk => ?_
            refine gA ?_
            refine HCall.mk (((K l[2] (by have := cnts_get l 2 hi86; omega)).em _ _ (rk.ext X)).mono ?_)
            rintro e hh86 ⟨rfl, x86⟩
            have o1 := o1.ext x86
            have X := X.trans x86
            cases q86 : Kk 42 l[2]
            · (try simp only [at_in hi86, q86, Bool.true_and, Bool.and_true, Bool.false_and, Bool.and_false, Bool.true_or, Bool.or_true, Bool.false_or, Bool.or_false, Bool.not_true, Bool.not_false] at hz)
              refine gA ?_
              subst hz
              exact ⟨rfl, X⟩
            · (try simp only [at_in hi86, q86, Bool.true_and, Bool.and_true, Bool.false_and, Bool.and_false, Bool.true_or, Bool.or_true, Bool.false_or, Bool.or_false, Bool.not_true, Bool.not_false] at hz)
              have hi87 : 3 < l.length := by omega
              refine gA ?_
              refine HIdx.mk 3 rfl hi87 ?_
              refine sl_some s2 hi87 fun p ep => ?_
              refine gA ?_
              refine tloadK s2 s3 (.of_ext X) ep hi87 fun cs rk => ?_
              refine gA ?_
              refine HCall.mk (((K l[3] (by have := cnts_get l 3 hi87; omega)).bk _ _ (rk.ext X)).mono ?_)
              rintro e hh87 ⟨rfl, x87⟩
              have o1 := o1.ext x87
              have X := X.trans x87
              cases q87 : Kk 25 l[3]
              · (try simp only [at_in hi87, q87, Bool.true_and, Bool.and_true, Bool.false_and, Bool.and_false, Bool.true_or, Bool.or_true, Bool.false_or, Bool.or_false, Bool.not_true, Bool.not_false] at hz)
                refine gA ?_
                subst hz
                exact ⟨rfl, X⟩
              · (try simp only [at_in hi87, q87, Bool.true_and, Bool.and_true, Bool.false_and, Bool.and_false, Bool.true_or, Bool.or_true, Bool.false_or, Bool.or_false, Bool.not_true, Bool.not_false] at hz)
                refine gA ?_
                subst hz
                exact ⟨rfl, X⟩
          · (try simp only [at_in hi85, q85, Bool.true_and, Bool.and_true, Bool.false_and, Bool.and_false, Bool.true_or, Bool.or_true, Bool.false_or, Bool.or_false, Bool.not_true, Bool.not_false] at hz)
            have hi88 : 3 < l.length := by omega
            refine gA ?_
            refine HIdx.mk 3 rfl hi88 ?_
            refine sl_some s2 hi88 fun p ep => ?_
            refine gA ?_
            refine tloadK s2 s3 (.of_ext X) ep hi88 fun cs rk => ?_
            refine gA ?_
            refine HCall.mk (((K l[3] (by have := cnts_get l 3 hi88; omega)).bk _ _ (rk.ext X)).mono ?_)
            rintro e hh88 ⟨rfl, x88⟩
            have o1 := o1.ext x88
            have X := X.trans x88
            cases q88 : Kk 25 l[3]
            · (try simp only [at_in hi88, q88, Bool.true_and, Bool.and_true, Bool.false_and, Bool.and_false, Bool.true_or, Bool.or_true, Bool.false_or, Bool.or_false, Bool.not_true, Bool.not_false] at hz)
              refine gA ?_
              subst hz
              exact ⟨rfl, X⟩
            · (try simp only [at_in hi88, q88, Bool.true_and, Bool.and_true, Bool.false_and, Bool.and_false, Bool.true_or, Bool.or_true, Bool.false_or, Bool.or_false, Bool.not_true, Bool.not_false] at hz)
              refine gA ?_
              subst hz
              exact ⟨rfl, X⟩
    · (try simp only [at_in hi66, q66, Bool.true_and, Bool.and_true, Bool.false_and, Bool.and_false, Bool.true_or, Bool.or_true, Bool.false_or, Bool.or_false, Bool.not_true, Bool.not_false] at hz)
      have hi89 : 1 < l.length := by omega
      refine gA ?_
      refine HIdx.mk 1 rfl hi89 ?_
      refine sl_some s2 hi89 fun p ep => ?_
      refine gA ?_
      refine tloadK s2 s3 (.of_ext X) ep hi89 fun cs rk => ?_
      refine gA ?_
      refine HCall.mk (((K l[1] (by have := cnts_get l 1 hi89; omega)).ex _ _ (rk.ext X)).mono ?_)
      rintro e hh89 ⟨rfl, x89⟩
      have o1 := o1.ext x89
      have X := X.trans x89
      cases q89 : Ex l[1]
      · (try simp only [at_in hi89, q89, Bool.true_and, Bool.and_true, Bool.false_and, Bool.and_false, Bool.true_or, Bool.or_true, Bool.false_or, Bool.or_false, Bool.not_true, Bool.not_false] at hz)
        have hi90 : 1 < l.length := by omega
        refine gA ?_
        refine HIdx.mk 1 rfl hi90 ?_
        refine sl_some s2 hi90 fun p ep => ?_
        refine gA ?_
        refine tloadK s2 s3 (.of_ext X) ep hi90 fun cs rk => ?_
        refine gA ?_
        refine HCall.mk (((K l[1] (by have := cnts_get l 1 hi90; omega)).em _ _ (rk.ext X)).mono ?_)
        rintro e hh90 ⟨rfl, x90⟩
        have o1 := o1.ext x90
        have X := X.trans x90
        cases q90 : Kk 42 l[1]
        · (try simp only [at_in hi90, q90, Bool.true_and, Bool.and_true, Bool.false_and, Bool.and_false, Bool.true_or, Bool.or_true, Bool.false_or, Bool.or_false, Bool.not_true, Bool.not_false] at hz)
          refine gA ?_
          subst hz
          exact ⟨rfl, X⟩
        · (try simp only [at_in hi90, q90, Bool.true_and, Bool.and_true, Bool.false_and, Bool.and_false, Bool.true_or, Bool.or_true, Bool.false_or, Bool.or_false, Bool.not_true, Bool.not_false] at hz)
          have hi91 : 2 < l.length := by omega
          refine gA ?_
          refine HIdx.mk 2 rfl hi91 ?_
          refine sl_some s2 hi91 fun p ep => ?_
          refine gA ?_
          refine tloadK s2 s3 (.of_ext X) ep hi91 fun cs rk => ?_
          refine gA ?_
          refine HCall.mk (((K l[2] (by have := cnts_get l 2 hi91; omega)).ex _ _ (rk.ext X)).mono ?_)
          rintro e hh91 ⟨rfl, x91⟩
          have o1 := o1.ext x91
          have X := X.trans x91
          cases q91 : Ex l[2]
          · (try simp only [at_in hi91, q91, Bool.true_and, Bool.and_true, Bool.false_and, Bool.and_false, Bool.true_or, Bool.or_true, Bool.false_or, Bool.or_false, Bool.not_true, Bool.not_false] at hz)
            have hi92 : 2 < l.length := by omega
            refine gA ?_
            refine HIdx.mk 2 rfl hi92 ?_
            refine sl_some s2 hi92 fun p ep => ?_
            refine gA ?_
            refine tloadK s2 s3 (.of_ext X) ep hi92 fun cs rk => ?_
            refine gA ?_
            refine HCall.mk (((K l[2] (by have := cnts_get l 2 hi92; omega)).em _ _ (rk.ext X)).mono ?_)
            rintro e hh92 ⟨rfl, x92⟩
            have o1 := o1.ext x92
            have X := X.trans x92
            cases q92 : Kk 42 l[2]
            · (try simp only [at_in hi92, q92, Bool.true_and, Bool.and_true, Bool.false_and, Bool.and_false, Bool.true_or, Bool.or_true, Bool.false_or, Bool.or_false, Bool.not_true, Bool.not_false] at hz)
              refine gA ?_
              subst hz
              exact ⟨rfl, X⟩
            · (try simp only [at_in hi92, q92, Bool.true_and, Bool.and_true, Bool.false_and, Bool.and_false, Bool.true_or, Bool.or_true, Bool.false_or, Bool.or_false, Bool.not_true, Bool.not_false] at hz)
              have hi93 : 3 < l.length := by omega
              refine gA ?_
              refine HIdx.mk 3 rfl hi93 ?_
              refine sl_some s2 hi93 fun p ep => ?_
              refine gA ?_
              refine tloadK s2 s3 (.of_ext X) ep hi93 fun cs rk => ?_
              refine gA ?_
              refine HCall.mk (((K l[3] (by have := cnts_get l 3 hi93; omega)).bk _ _ (rk.ext X)).mono ?_)
              rintro e hh93 ⟨rfl, x93⟩
              have o1 := o1.ext x93
              have X := X.trans x93
              cases q93 : Kk 25 l[3]
              · (try simp only [at_in hi93, q93, Bool.true_and, Bool.and_true, Bool.false_and, Bool.and_false, Bool.true_or, Bool.or_true, Bool.false_or, Bool.or_false, Bool.not_true, Bool.not_false] at hz)
                refine gA ?_
                subst hz
                exact ⟨rfl, X⟩
              · (try simp only [at_in hi93, q93, Bool.true_and, Bool.and_true, Bool.false_and, Bool.and_false, Bool.true_or, Bool.or_true, Bool.false_or, Bool.or_false, Bool.not_true, Bool.not_false] at hz)
                refine gA ?_
                subst hz
                exact ⟨rfl, X⟩
          · (try simp only [at_in hi91, q91, Bool.true_and, Bool.and_true, Bool.false_and, Bool.and_false, Bool.true_or, Bool.or_true, Bool.false_or, Bool.or_false, Bool.not_true, Bool.not_false] at hz)
            have hi94 : 3 < l.length := by omega
            refine gA ?_
            refine HIdx.mk 3 rfl hi94 ?_
            refine sl_some s2 hi94 fun p ep => ?_
            refine gA ?_
            refine tloadK s2 s3 (.of_ext X) ep hi94 fun cs rk => ?_
            refine gA ?_
            refine HCall.mk (((K l[3] (by have := cnts_get l 3 hi94; omega)).bk _ _ (rk.ext X)).mono ?_)
            rintro e hh94 ⟨rfl, x94⟩
            have o1 := o1.ext x94
            have X := X.trans x94
            cases q94 : Kk 25 l[3]
            · (try simp only [at_in hi94, q94, Bool.true_and, Bool.and_true, Bool.false_and, Bool.and_false, Bool.true_or, Bool.or_true, Bool.false_or, Bool.or_false, Bool.not_true, Bool.not_false] at hz)
              refine gA ?_
              subst hz
              exact ⟨rfl, X⟩
            · (try simp only [at_in hi94, q94, Bool.true_and, Bool.and_true, Bool.false_and, Bool.and_false, Bool.true_or, Bool.or_true, Bool.false_or, Bool.or_false, Bool.not_true, Bool.not_false] at hz)
              refine gA ?_
              subst hz
              exact ⟨rfl, X⟩
      · (try simp only [at_in hi89, q89, Bool.true_and, Bool.and_true, Bool.false_and, Bool.and_false, Bool.true_or, Bool.or_true, Bool.false_or, Bool.or_false, Bool.not_true, Bool.not_false] at hz)
        have hi95 : 2 < l.length := by omega
        refine gA ?_
        refine HIdx.mk 2 rfl hi95 ?_
        refine sl_some s2 hi95 fun p ep => ?_
        refine gA ?_
        refine tloadK s2 s3 (.of_ext X) ep hi95 fun cs rk => ?_
        refine gA ?_
        refine HCall.mk (((K l[2] (by have := cnts_get l 2 hi95; omega)).ex _ _ (rk.ext X)).mono ?_)
        rintro e hh95 ⟨rfl, x95⟩
        have o1 := o1.ext x95
        have X := X.trans x95
        cases q95 : Ex l[2]
        · (try simp only [at_in hi95, q95, Bool.true_and, Bool.and_true, Bool.false_and, Bool.and_false, Bool.true_or, Bool.or_true, Bool.false_or, Bool.or_false, Bool.not_true, Bool.not_false] at hz)
          have hi96 : 2 < l.length := by omega
          refine gA ?_
          refine HIdx.mk 2 rfl hi96 ?_
          refine sl_some s2 hi96 fun p ep => ?_
          refine gA ?_
          refine tloadK s2 s3 (.of_ext X) ep hi96 fun cs rk => ?_
          refine gA ?_
          refine HCall.mk (((K l[2] (by have := cnts_get l 2 hi96; omega)).em _ _ (rk.ext X)).mono ?_)
          rintro e hh96 ⟨rfl, x96⟩
          have o1 := o1.ext x96
          have X := X.trans x96
          cases q96 : Kk 42 l[2]
          · (try simp only [at_in hi96, q96, Bool.true_and, Bool.and_true, Bool.false_and, Bool.and_false, Bool.true_or, Bool.or_true, Bool.false_or, Bool.or_false, Bool.not_true, Bool.not_false] at hz)
            refine gA ?_
            subst hz
            exact ⟨rfl, X⟩
          · (try simp only [at_in hi96, q96, Bool.true_and, Bool.and_true, Bool.false_and, Bool.and_false, Bool.true_or, Bool.or_true, Bool.false_or, Bool.or_false, Bool.not_true, Bool.not_false] at hz)
            have hi97 : 3 < l.length := by omega
            refine gA ?_
            refine HIdx.mk 3 rfl hi97 ?_
            refine sl_some s2 hi97 fun p ep => ?_
            refine gA ?_
            refine tloadK s2 s3 (.of_ext X) ep hi97 fun cs rk => ?_
            refine gA ?_
            refine HCall.mk (((K l[3] (by have := cnts_get l 3 hi97; omega)).bk _ _ (rk.ext X)).mono ?_)
            rintro e hh97 ⟨rfl, x97⟩
            have o1 := o1.ext x97
            have X := X.trans x97
            cases q97 : Kk 25 l[3]
            · (try simp only [at_in hi97, q97, Bool.true_and, Bool.and_true, Bool.false_and, Bool.and_false, Bool.true_or, Bool.or_true, Bool.false_or, Bool.or_false, Bool.not_true, Bool.not_false] at hz)
              refine gA ?_
              subst hz
              exact ⟨rfl, X⟩
            · (try simp only [at_in hi97, q97, Bool.true_and, Bool.and_true, Bool.false_and, Bool.and_false, Bool.true_or, Bool.or_true, Bool.false_or, Bool.or_false, Bool.not_true, Bool.not_false] at hz)
              refine gA ?_
              subst hz
              exact ⟨rfl, X⟩
        · (try simp only [at_in hi95, q95, Bool.true_and, Bool.and_true, Bool.false_and, Bool.and_false, Bool.true_or, Bool.or_true, Bool.false_or, Bool.or_false, Bool.not_true, Bool.not_false] at hz)
          have hi98 : 3 < l.length := by omega
          refine gA ?_
          refine HIdx.mk 3 rfl hi98 ?_
          refine sl_some s2 hi98 fun p ep => ?_
          refine gA ?_
          refine tloadK s2 s3 (.of_ext X) ep hi98 fun cs rk => ?_
          refine gA ?_
          refine HCall.mk (((K l[3] (by have := cnts_get l 3 hi98; omega)).bk _ _ (rk.ext X)).mono ?_)
          rintro e hh98 ⟨rfl, x98⟩
          have o1 := o1.ext x98
          have X := X.trans x98
          cases q98 : Kk 25 l[3]
          · (try simp only [at_in hi98, q98, Bool.true_and, Bool.and_true, Bool.false_and, Bool.and_false, Bool.true_or, Bool.or_true, Bool.false_or, Bool.or_false, Bool.not_true, Bool.not_false] at hz)
            refine gA ?_
            subst hz
            exact ⟨rfl, X⟩
          · (try simp only [at_in hi98, q98, Bool.true_and, Bool.and_true, Bool.false_and, Bool.and_false, Bool.true_or, Bool.or_true, Bool.false_or, Bool.or_false, Bool.not_true, Bool.not_false] at hz)
            refine gA ?_
            subst hz
            exact ⟨rfl, X⟩
  · have q65 : ((l.length : Int) == 4) = false := beq_eq_false_iff_ne.2 (by omega)
    have d65 : decide (l.length = 4) = false := decide_eq_false hl65
    (try simp only [d65, Bool.true_and, Bool.and_true, Bool.false_and, Bool.and_false, Bool.true_or, Bool.or_true, Bool.false_or, Bool.or_false, Bool.not_true, Bool.not_false] at hz)
    refine gA ?_
    subst hz
    exact ⟨by first | rfl | (show Ending.returned (.bool (((l.length : Int) == 4))) = _; rw [q65]), X⟩
theorem loop_30 {N : Nat} (K : ∀ d, cnt d < N → NodeOk d) (L : ∀ l, cnts l < N → l.length ≤ 4194304 → ListOk l) (nm : ByteArray) (n : Int) (t : ByteArray) (ns : List ByteArray) (l : List NT) (hc : cnt (.mk 30 nm n t ns l) ≤ N) : Says 65 (.mk 30 nm n t ns l) (decide (l.length = 3) && at_ Wh l 0 && at_ Ex l 1 && at_ (Kk 25) l 2) := by
  intro h cs r
  have rt := r
  simp only [TRep] at r
  obtain ⟨b1, b2, b3, b4, b5, b6, b7, ka, kc, la, lc, ys, rfl, s1, s2, s3⟩ := r
  simp only [cnt] at hc
  obtain ⟨z, hz⟩ : ∃ z, z = (decide (l.length = 3) && at_ Wh l 0 && at_ Ex l 1 && at_ (Kk 25) l 2) := ⟨_, rfl⟩
  rw [← hz]
  refine c65 (by simp) ?_
  refine gA ?_
  refine new_var (e := 25) [.int .i64 30, .string nm, .int .i64 n, .string t, .slice ka ns.length kc, .slice la l.length lc] rfl ?_
  intro h1 bn o1 X z1 hbn
  by_cases hl99 : l.length = 3
  · have q99 : ((l.length : Int) != 3) = false := by rw [hl99]; rfl
    have d99 : decide (l.length = 3) = true := decide_eq_true hl99
    simp only [d99, Bool.true_and, Bool.and_true, Bool.false_and, Bool.and_false, Bool.true_or, Bool.or_true, Bool.false_or, Bool.or_false, Bool.not_true, Bool.not_false] at hz
    have hi100 : 1 < l.length := by omega
    refine gA ?_
    refine HIdx.mk 1 rfl hi100 ?_
    refine sl_some s2 hi100 fun p ep => ?_
    refine gA ?_
    refine tloadK s2 s3 (.of_ext X) ep hi100 fun cs rk => ?_
    refine gA ?_
    refine HCall.mk (((K l[1] (by have := cnts_get l 1 hi100; omega)).ex _ _ (rk.ext X)).mono ?_)
    rintro e hh100 ⟨rfl, x100⟩
    have o1 := o1.ext x100
    have X := X.trans x100
    cases q100 : Ex l[1]
    · (try simp only [at_in hi100, q100, Bool.true_and, Bool.and_true, Bool.false_and, Bool.and_false, Bool.true_or, Bool.or_true, Bool.false_or, Bool.or_false, Bool.not_true, Bool.not_false] at hz)
      refine gA ?_
      subst hz
      exact ⟨rfl, X⟩
    · (try simp only [at_in hi100, q100, Bool.true_and, Bool.and_true, Bool.false_and, Bool.and_false, Bool.true_or, Bool.or_true, Bool.false_or, Bool.or_false, Bool.not_true, Bool.not_false] at hz)
      have hi101 : 2 < l.length := by omega
      refine gA ?_
      refine HIdx.mk 2 rfl hi101 ?_
      refine sl_some s2 hi101 fun p ep => ?_
      refine gA ?_
      refine tloadK s2 s3 (.of_ext X) ep hi101 fun cs rk => ?_
      refine gA ?_
      refine HCall.mk (((K l[2] (by have := cnts_get l 2 hi101; omega)).bk _ _ (rk.ext X)).mono ?_)
      rintro e hh101 ⟨rfl, x101⟩
      have o1 := o1.ext x101
      have X := X.trans x101
      cases q101 : Kk 25 l[2]
      · (try simp only [at_in hi101, q101, Bool.true_and, Bool.and_true, Bool.false_and, Bool.and_false, Bool.true_or, Bool.or_true, Bool.false_or, Bool.or_false, Bool.not_true, Bool.not_false] at hz)
        refine gA ?_
        subst hz
        exact ⟨rfl, X⟩
      · (try simp only [at_in hi101, q101, Bool.true_and, Bool.and_true, Bool.false_and, Bool.and_false, Bool.true_or, Bool.or_true, Bool.false_or, Bool.or_false, Bool.not_true, Bool.not_false] at hz)
        have hi0 : 0 < l.length := by omega
        simp only [at_in hi0] at hz
        have hw0 : Wh l[0] = ((targetB l[0].kind || ((l[0].kind == 22) && ((l[0].l.length : Int) == 1) && ((kidLen l[0].l : Int) == 0))) && mayT l[0]) := rfl
        have hcg := cnts_get l 0 hi0
        have K0 := K l[0] (by omega)
        refine gA ?_
        refine HIdx.mk 0 rfl hi0 ?_
        refine sl_some s2 hi0 fun p ep => ?_
        refine gA ?_
        refine tkind (s2.ext X) (s3.ext X) ep hi0 ?_
        by_cases h22 : l[0].kind = 22
        · have q22 : (l[0].kind == 22) = true := beq_iff_eq.2 h22
          have hw1 : Wh l[0] = (Kk 22 l[0] && (((l[0].l.length : Int) == 1) && ((kidLen l[0].l : Int) == 0))) := by
            rw [hw0]
            unfold Kk
            rw [q22, h22, show targetB 22 = false from rfl]
            cases ((l[0].l.length : Int) == 1) <;> cases ((kidLen l[0].l : Int) == 0) <;> cases mayT l[0] <;> rfl
          rw [hw1] at hz
          refine gA ?_
          refine HIdx.mk 0 rfl hi0 ?_
          refine sl_some s2 hi0 fun p ep => ?_
          refine gA ?_
          refine tloadK s2 s3 (.of_ext X) ep hi0 fun cs rk => ?_
          refine gA ?_
          refine HCall.mk ((K0.dc _ _ (rk.ext X)).mono ?_)
          rintro e h8 ⟨rfl, x8⟩
          have X := X.trans x8
          cases q8 : Kk 22 l[0]
          · rw [q8, Bool.false_and] at hz
            refine gA ?_
            subst hz
            exact ⟨rfl, X⟩
          rw [q8, Bool.true_and] at hz
          refine gA ?_
          refine HIdx.mk 0 rfl hi0 ?_
          refine sl_some s2 hi0 fun p ep => ?_
          refine gA ?_
          refine tkidsl s2 s3 X ep hi0 fun la' lc' xs' t2 t3 => ?_
          have hno : (l[0].l.length : Int) = 1 ∨ (l[0].l.length : Int) ≠ 1 := Decidable.em _
          rcases hno with hl1 | hl1
          · have ql : ((l[0].l.length : Int) == 1) = true := beq_iff_eq.2 hl1
            rw [ql, Bool.true_and] at hz
            have hl0 : 0 < l[0].l.length := by omega
            refine gA ?_
            refine HIdx.mk 0 rfl hi0 ?_
            refine sl_some s2 hi0 fun p ep => ?_
            refine gA ?_
            refine tkidsl s2 s3 X ep hi0 fun la' lc' xs' t2 t3 => ?_
            refine gA ?_
            refine HIdx.mk 0 rfl hl0 ?_
            refine sl_some t2 hl0 fun p ep => ?_
            refine gA ?_
            refine tkids t2 t3 ep hl0 fun b' c' => ?_
            refine gA ?_
            subst hz
            exact ⟨rfl, X⟩
          · have ql : ((l[0].l.length : Int) == 1) = false := beq_eq_false_iff_ne.2 hl1
            rw [ql, Bool.false_and] at hz
            refine gA ?_
            subst hz
            exact ⟨rfl, X⟩
        · have q22 : (l[0].kind == 22) = false := beq_eq_false_iff_ne.2 h22
          have hw1 : Wh l[0] = (Tg l[0] && Ex l[0]) := by
            rw [hw0, q22, Bool.false_and, Bool.false_and, Bool.or_false, ← sh116]; rfl
          rw [hw1] at hz
          refine gA ?_
          refine HIdx.mk 0 rfl hi0 ?_
          refine sl_some s2 hi0 fun p ep => ?_
          refine gA ?_
          refine tloadK s2 s3 (.of_ext X) ep hi0 fun cs rk => ?_
          refine gA ?_
          refine HCall.mk ((rtarget_spec (rk.ext X)).mono ?_)
          rintro e hh102 ⟨rfl, x102⟩
          have X := X.trans x102
          cases q102 : Tg l[0]
          · rw [q102, Bool.false_and] at hz
            refine gA ?_
            subst hz
            exact ⟨rfl, X⟩
          · rw [q102, Bool.true_and] at hz
            refine gA ?_
            refine HIdx.mk 0 rfl hi0 ?_
            refine sl_some s2 hi0 fun p ep => ?_
            refine gA ?_
            refine tloadK s2 s3 (.of_ext X) ep hi0 fun cs rk => ?_
            refine gA ?_
            refine HCall.mk ((K0.ex _ _ (rk.ext X)).mono ?_)
            rintro e hh103 ⟨rfl, x103⟩
            refine gA ?_
            subst hz
            exact ⟨rfl, X.trans x103⟩
  · have q99 : ((l.length : Int) != 3) = true := bne_iff_ne.2 (by omega)
    have d99 : decide (l.length = 3) = false := decide_eq_false hl99
    simp only [d99, Bool.true_and, Bool.and_true, Bool.false_and, Bool.and_false, Bool.true_or, Bool.or_true, Bool.false_or, Bool.or_false, Bool.not_true, Bool.not_false] at hz
    refine gA ?_
    subst hz
    exact ⟨rfl, X⟩
theorem stmt_22 {N : Nat} (K : ∀ d, cnt d < N → NodeOk d) (L : ∀ l, cnts l < N → l.length ≤ 4194304 → ListOk l) (nm : ByteArray) (n : Int) (t : ByteArray) (ns : List ByteArray) (l : List NT) (hc : cnt (.mk 22 nm n t ns l) ≤ N) : Says 44 (.mk 22 nm n t ns l) (St false (.mk 22 nm n t ns l)) := by
  intro h cs r
  have rt := r
  have hc0 := hc
  simp only [TRep] at r
  obtain ⟨b1, b2, b3, b4, b5, b6, b7, ka, kc, la, lc, ys, rfl, s1, s2, s3⟩ := r
  simp only [cnt] at hc
  have hz : St false (.mk 22 nm n t ns l) = mayT (.mk 22 nm n t ns l) := rfl
  have hm : mayT (.mk 22 nm n t ns l) = Kk 22 (.mk 22 nm n t ns l) := rfl
  have how : ownR (.mk 22 nm n t ns l) = false → Kk 22 (.mk 22 nm n t ns l) = false := fun e => by rw [← hm, may_22, e]; rfl
  rw [hm] at hz
  generalize St false (.mk 22 nm n t ns l) = z at hz
  refine c44 (by simp) ?_
  refine gA ?_
  refine new_var (e := 25) [.int .i64 22, .string nm, .int .i64 n, .string t, .slice ka ns.length kc, .slice la l.length lc] rfl ?_
  intro h1 bn o1 X z1 hbn
  refine gA ?_
  refine HCall.mk ((ownR_spec (rt.ext X)).mono ?_)
  rintro e hh104 ⟨rfl, x104⟩
  have o1 := o1.ext x104
  have X := X.trans x104
  cases q104 : ownR (.mk 22 nm n t ns l)
  · rw [how q104] at hz
    refine gA ?_
    subst hz
    exact ⟨rfl, X⟩
  · refine gA ?_
    refine HCall.mk (((decls_ok K L _ hc0) _ _ (rt.ext X)).mono ?_)
    rintro e hk104 ⟨rfl, y104⟩
    refine gA ?_
    subst hz
    exact ⟨rfl, X.trans y104⟩
theorem stmt_24 {N : Nat} (K : ∀ d, cnt d < N → NodeOk d) (L : ∀ l, cnts l < N → l.length ≤ 4194304 → ListOk l) (nm : ByteArray) (n : Int) (t : ByteArray) (ns : List ByteArray) (l : List NT) (hc : cnt (.mk 24 nm n t ns l) ≤ N) : Says 44 (.mk 24 nm n t ns l) (St false (.mk 24 nm n t ns l)) := by
  intro h cs r
  have rt := r
  have hc0 := hc
  simp only [TRep] at r
  obtain ⟨b1, b2, b3, b4, b5, b6, b7, ka, kc, la, lc, ys, rfl, s1, s2, s3⟩ := r
  simp only [cnt] at hc
  have hz : St false (.mk 24 nm n t ns l) = mayT (.mk 24 nm n t ns l) := rfl
  rw [may_24] at hz
  generalize St false (.mk 24 nm n t ns l) = z at hz
  refine c44 (by simp) ?_
  refine gA ?_
  refine new_var (e := 25) [.int .i64 24, .string nm, .int .i64 n, .string t, .slice ka ns.length kc, .slice la l.length lc] rfl ?_
  intro h1 bn o1 X z1 hbn
  refine gA ?_
  refine HCall.mk ((ownR_spec (rt.ext X)).mono ?_)
  rintro e hh105 ⟨rfl, x105⟩
  have o1 := o1.ext x105
  have X := X.trans x105
  cases q105 : ownR (.mk 24 nm n t ns l)
  · (try simp only [q105, Bool.true_and, Bool.and_true, Bool.false_and, Bool.and_false, Bool.true_or, Bool.or_true, Bool.false_or, Bool.or_false, Bool.not_true, Bool.not_false] at hz)
    refine gA ?_
    subst hz
    exact ⟨rfl, X⟩
  · (try simp only [q105, Bool.true_and, Bool.and_true, Bool.false_and, Bool.and_false, Bool.true_or, Bool.or_true, Bool.false_or, Bool.or_false, Bool.not_true, Bool.not_false] at hz)
    by_cases hl106 : l.length = 1
    · have q106 : ((l.length : Int) == 1) = true := beq_iff_eq.2 (by omega)
      have d106 : decide (l.length = 1) = true := decide_eq_true hl106
      (try simp only [d106, Bool.true_and, Bool.and_true, Bool.false_and, Bool.and_false, Bool.true_or, Bool.or_true, Bool.false_or, Bool.or_false, Bool.not_true, Bool.not_false] at hz)
      have hi107 : 0 < l.length := by omega
      refine gA ?_
      refine HIdx.mk 0 rfl hi107 ?_
      refine sl_some s2 hi107 fun p ep => ?_
      refine gA ?_
      refine tloadK s2 s3 (.of_ext X) ep hi107 fun cs rk => ?_
      refine gA ?_
      refine HCall.mk (((K l[0] (by have := cnts_get l 0 hi107; omega)).ex _ _ (rk.ext X)).mono ?_)
      rintro e hh107 ⟨rfl, x107⟩
      have o1 := o1.ext x107
      have X := X.trans x107
      cases q107 : Ex l[0]
      · (try simp only [at_in hi107, q107, Bool.true_and, Bool.and_true, Bool.false_and, Bool.and_false, Bool.true_or, Bool.or_true, Bool.false_or, Bool.or_false, Bool.not_true, Bool.not_false] at hz)
        refine gA ?_
        subst hz
        exact ⟨rfl, X⟩
      · (try simp only [at_in hi107, q107, Bool.true_and, Bool.and_true, Bool.false_and, Bool.and_false, Bool.true_or, Bool.or_true, Bool.false_or, Bool.or_false, Bool.not_true, Bool.not_false] at hz)
        refine gA ?_
        subst hz
        exact ⟨rfl, X⟩
    · have q106 : ((l.length : Int) == 1) = false := beq_eq_false_iff_ne.2 (by omega)
      have d106 : decide (l.length = 1) = false := decide_eq_false hl106
      (try simp only [d106, Bool.true_and, Bool.and_true, Bool.false_and, Bool.and_false, Bool.true_or, Bool.or_true, Bool.false_or, Bool.or_false, Bool.not_true, Bool.not_false] at hz)
      refine gA ?_
      subst hz
      exact ⟨by first | rfl | (show Ending.returned (.bool (((l.length : Int) == 1))) = _; rw [q106]), X⟩
theorem stmt_25 {N : Nat} (K : ∀ d, cnt d < N → NodeOk d) (L : ∀ l, cnts l < N → l.length ≤ 4194304 → ListOk l) (nm : ByteArray) (n : Int) (t : ByteArray) (ns : List ByteArray) (l : List NT) (hc : cnt (.mk 25 nm n t ns l) ≤ N) : Says 44 (.mk 25 nm n t ns l) (St false (.mk 25 nm n t ns l)) := by
  intro h cs r
  have rt := r
  have hc0 := hc
  simp only [TRep] at r
  obtain ⟨b1, b2, b3, b4, b5, b6, b7, ka, kc, la, lc, ys, rfl, s1, s2, s3⟩ := r
  simp only [cnt] at hc
  have hz : St false (.mk 25 nm n t ns l) = mayT (.mk 25 nm n t ns l) := rfl
  have hm : mayT (.mk 25 nm n t ns l) = Kk 25 (.mk 25 nm n t ns l) := rfl
  have how : ownR (.mk 25 nm n t ns l) = false → Kk 25 (.mk 25 nm n t ns l) = false := fun e => by rw [← hm, may_25, e]; rfl
  rw [hm] at hz
  generalize St false (.mk 25 nm n t ns l) = z at hz
  refine c44 (by simp) ?_
  refine gA ?_
  refine new_var (e := 25) [.int .i64 25, .string nm, .int .i64 n, .string t, .slice ka ns.length kc, .slice la l.length lc] rfl ?_
  intro h1 bn o1 X z1 hbn
  refine gA ?_
  refine HCall.mk ((ownR_spec (rt.ext X)).mono ?_)
  rintro e hh108 ⟨rfl, x108⟩
  have o1 := o1.ext x108
  have X := X.trans x108
  cases q108 : ownR (.mk 25 nm n t ns l)
  · rw [how q108] at hz
    refine gA ?_
    subst hz
    exact ⟨rfl, X⟩
  · refine gA ?_
    refine HCall.mk (((block_ok K L _ hc0) _ _ (rt.ext X)).mono ?_)
    rintro e hk108 ⟨rfl, y108⟩
    refine gA ?_
    subst hz
    exact ⟨rfl, X.trans y108⟩
theorem stmt_26 {N : Nat} (K : ∀ d, cnt d < N → NodeOk d) (L : ∀ l, cnts l < N → l.length ≤ 4194304 → ListOk l) (nm : ByteArray) (n : Int) (t : ByteArray) (ns : List ByteArray) (l : List NT) (hc : cnt (.mk 26 nm n t ns l) ≤ N) : Says 44 (.mk 26 nm n t ns l) (St false (.mk 26 nm n t ns l)) := by
  intro h cs r
  have rt := r
  have hc0 := hc
  simp only [TRep] at r
  obtain ⟨b1, b2, b3, b4, b5, b6, b7, ka, kc, la, lc, ys, rfl, s1, s2, s3⟩ := r
  simp only [cnt] at hc
  have hz : St false (.mk 26 nm n t ns l) = mayT (.mk 26 nm n t ns l) := rfl
  rw [may_26] at hz
  generalize St false (.mk 26 nm n t ns l) = z at hz
  refine c44 (by simp) ?_
  refine gA ?_
  refine new_var (e := 25) [.int .i64 26, .string nm, .int .i64 n, .string t, .slice ka ns.length kc, .slice la l.length lc] rfl ?_
  intro h1 bn o1 X z1 hbn
  refine gA ?_
  refine HCall.mk ((ownR_spec (rt.ext X)).mono ?_)
  rintro e hh109 ⟨rfl, x109⟩
  have o1 := o1.ext x109
  have X := X.trans x109
  cases q109 : ownR (.mk 26 nm n t ns l)
  · (try simp only [q109, Bool.true_and, Bool.and_true, Bool.false_and, Bool.and_false, Bool.true_or, Bool.or_true, Bool.false_or, Bool.or_false, Bool.not_true, Bool.not_false] at hz)
    refine gA ?_
    subst hz
    exact ⟨rfl, X⟩
  · (try simp only [q109, Bool.true_and, Bool.and_true, Bool.false_and, Bool.and_false, Bool.true_or, Bool.or_true, Bool.false_or, Bool.or_false, Bool.not_true, Bool.not_false] at hz)
    by_cases hl110 : l.length = 2
    · have q110 : ((l.length : Int) == 2) = true := beq_iff_eq.2 (by omega)
      have d110 : decide (l.length = 2) = true := decide_eq_true hl110
      (try simp only [d110, Bool.true_and, Bool.and_true, Bool.false_and, Bool.and_false, Bool.true_or, Bool.or_true, Bool.false_or, Bool.or_false, Bool.not_true, Bool.not_false] at hz)
      have hi111 : 0 < l.length := by omega
      refine gA ?_
      refine HIdx.mk 0 rfl hi111 ?_
      refine sl_some s2 hi111 fun p ep => ?_
      refine gA ?_
      refine tloadK s2 s3 (.of_ext X) ep hi111 fun cs rk => ?_
      refine gA ?_
      refine HCall.mk (((K l[0] (by have := cnts_get l 0 hi111; omega)).ex _ _ (rk.ext X)).mono ?_)
      rintro e hh111 ⟨rfl, x111⟩
      have o1 := o1.ext x111
      have X := X.trans x111
      cases q111 : Ex l[0]
      · (try simp only [at_in hi111, q111, Bool.true_and, Bool.and_true, Bool.false_and, Bool.and_false, Bool.true_or, Bool.or_true, Bool.false_or, Bool.or_false, Bool.not_true, Bool.not_false] at hz)
        refine gA ?_
        subst hz
        exact ⟨rfl, X⟩
      · (try simp only [at_in hi111, q111, Bool.true_and, Bool.and_true, Bool.false_and, Bool.and_false, Bool.true_or, Bool.or_true, Bool.false_or, Bool.or_false, Bool.not_true, Bool.not_false] at hz)
        have hi112 : 1 < l.length := by omega
        refine gA ?_
        refine HIdx.mk 1 rfl hi112 ?_
        refine sl_some s2 hi112 fun p ep => ?_
        refine gA ?_
        refine tloadK s2 s3 (.of_ext X) ep hi112 fun cs rk => ?_
        refine gA ?_
        refine HCall.mk (((K l[1] (by have := cnts_get l 1 hi112; omega)).bk _ _ (rk.ext X)).mono ?_)
        rintro e hh112 ⟨rfl, x112⟩
        have o1 := o1.ext x112
        have X := X.trans x112
        cases q112 : Kk 25 l[1]
        · (try simp only [at_in hi112, q112, Bool.true_and, Bool.and_true, Bool.false_and, Bool.and_false, Bool.true_or, Bool.or_true, Bool.false_or, Bool.or_false, Bool.not_true, Bool.not_false] at hz)
          refine gA ?_
          subst hz
          exact ⟨rfl, X⟩
        · (try simp only [at_in hi112, q112, Bool.true_and, Bool.and_true, Bool.false_and, Bool.and_false, Bool.true_or, Bool.or_true, Bool.false_or, Bool.or_false, Bool.not_true, Bool.not_false] at hz)
          refine gA ?_
          subst hz
          exact ⟨rfl, X⟩
    · have q110 : ((l.length : Int) == 2) = false := beq_eq_false_iff_ne.2 (by omega)
      have d110 : decide (l.length = 2) = false := decide_eq_false hl110
      (try simp only [d110, Bool.true_and, Bool.and_true, Bool.false_and, Bool.and_false, Bool.true_or, Bool.or_true, Bool.false_or, Bool.or_false, Bool.not_true, Bool.not_false] at hz)
      by_cases hl113 : l.length = 3
      · have q113 : ((l.length : Int) == 3) = true := beq_iff_eq.2 (by omega)
        have d113 : decide (l.length = 3) = true := decide_eq_true hl113
        (try simp only [d113, Bool.true_and, Bool.and_true, Bool.false_and, Bool.and_false, Bool.true_or, Bool.or_true, Bool.false_or, Bool.or_false, Bool.not_true, Bool.not_false] at hz)
        have hi114 : 2 < l.length := by omega
        refine gA ?_
        refine HIdx.mk 2 rfl hi114 ?_
        refine sl_some s2 hi114 fun p ep => ?_
        refine gA ?_
        refine tloadK s2 s3 (.of_ext X) ep hi114 fun cs rk => ?_
        refine gA ?_
        refine HCall.mk (((K l[2] (by have := cnts_get l 2 hi114; omega)).bk _ _ (rk.ext X)).mono ?_)
        rintro e hh114 ⟨rfl, x114⟩
        have o1 := o1.ext x114
        have X := X.trans x114
        cases q114 : Kk 25 l[2]
        · (try simp only [at_in hi114, q114, Bool.true_and, Bool.and_true, Bool.false_and, Bool.and_false, Bool.true_or, Bool.or_true, Bool.false_or, Bool.or_false, Bool.not_true, Bool.not_false] at hz)
          refine gA ?_
          subst hz
          exact ⟨rfl, X⟩
        · (try simp only [at_in hi114, q114, Bool.true_and, Bool.and_true, Bool.false_and, Bool.and_false, Bool.true_or, Bool.or_true, Bool.false_or, Bool.or_false, Bool.not_true, Bool.not_false] at hz)
          have hi115 : 0 < l.length := by omega
          refine gA ?_
          refine HIdx.mk 0 rfl hi115 ?_
          refine sl_some s2 hi115 fun p ep => ?_
          refine gA ?_
          refine tloadK s2 s3 (.of_ext X) ep hi115 fun cs rk => ?_
          refine gA ?_
          refine HCall.mk (((K l[0] (by have := cnts_get l 0 hi115; omega)).ex _ _ (rk.ext X)).mono ?_)
          rintro e hh115 ⟨rfl, x115⟩
          have o1 := o1.ext x115
          have X := X.trans x115
          cases q115 : Ex l[0]
          · (try simp only [at_in hi115, q115, Bool.true_and, Bool.and_true, Bool.false_and, Bool.and_false, Bool.true_or, Bool.or_true, Bool.false_or, Bool.or_false, Bool.not_true, Bool.not_false] at hz)
            refine gA ?_
            subst hz
            exact ⟨rfl, X⟩
          · (try simp only [at_in hi115, q115, Bool.true_and, Bool.and_true, Bool.false_and, Bool.and_false, Bool.true_or, Bool.or_true, Bool.false_or, Bool.or_false, Bool.not_true, Bool.not_false] at hz)
            have hi116 : 1 < l.length := by omega
            refine gA ?_
            refine HIdx.mk 1 rfl hi116 ?_
            refine sl_some s2 hi116 fun p ep => ?_
            refine gA ?_
            refine tloadK s2 s3 (.of_ext X) ep hi116 fun cs rk => ?_
            refine gA ?_
            refine HCall.mk (((K l[1] (by have := cnts_get l 1 hi116; omega)).bk _ _ (rk.ext X)).mono ?_)
            rintro e hh116 ⟨rfl, x116⟩
            have o1 := o1.ext x116
            have X := X.trans x116
            cases q116 : Kk 25 l[1]
            · (try simp only [at_in hi116, q116, Bool.true_and, Bool.and_true, Bool.false_and, Bool.and_false, Bool.true_or, Bool.or_true, Bool.false_or, Bool.or_false, Bool.not_true, Bool.not_false] at hz)
              refine gA ?_
              subst hz
              exact ⟨rfl, X⟩
            · (try simp only [at_in hi116, q116, Bool.true_and, Bool.and_true, Bool.false_and, Bool.and_false, Bool.true_or, Bool.or_true, Bool.false_or, Bool.or_false, Bool.not_true, Bool.not_false] at hz)
              refine gA ?_
              subst hz
              exact ⟨rfl, X⟩
      · have q113 : ((l.length : Int) == 3) = false := beq_eq_false_iff_ne.2 (by omega)
        have d113 : decide (l.length = 3) = false := decide_eq_false hl113
        (try simp only [d113, Bool.true_and, Bool.and_true, Bool.false_and, Bool.and_false, Bool.true_or, Bool.or_true, Bool.false_or, Bool.or_false, Bool.not_true, Bool.not_false] at hz)
        refine gA ?_
        subst hz
        exact ⟨by first | rfl | (show Ending.returned (.bool (((l.length : Int) == 3))) = _; rw [q113]), X⟩
theorem stmt_27 {N : Nat} (K : ∀ d, cnt d < N → NodeOk d) (L : ∀ l, cnts l < N → l.length ≤ 4194304 → ListOk l) (nm : ByteArray) (n : Int) (t : ByteArray) (ns : List ByteArray) (l : List NT) (hc : cnt (.mk 27 nm n t ns l) ≤ N) : Says 44 (.mk 27 nm n t ns l) (St false (.mk 27 nm n t ns l)) := by
  intro h cs r
  have rt := r
  have hc0 := hc
  simp only [TRep] at r
  obtain ⟨b1, b2, b3, b4, b5, b6, b7, ka, kc, la, lc, ys, rfl, s1, s2, s3⟩ := r
  simp only [cnt] at hc
  have hz : St false (.mk 27 nm n t ns l) = mayT (.mk 27 nm n t ns l) := rfl
  rw [may_27] at hz
  generalize St false (.mk 27 nm n t ns l) = z at hz
  refine c44 (by simp) ?_
  refine gA ?_
  refine new_var (e := 25) [.int .i64 27, .string nm, .int .i64 n, .string t, .slice ka ns.length kc, .slice la l.length lc] rfl ?_
  intro h1 bn o1 X z1 hbn
  refine gA ?_
  refine HCall.mk ((ownR_spec (rt.ext X)).mono ?_)
  rintro e hh117 ⟨rfl, x117⟩
  have o1 := o1.ext x117
  have X := X.trans x117
  cases q117 : ownR (.mk 27 nm n t ns l)
  · (try simp only [q117, Bool.true_and, Bool.and_true, Bool.false_and, Bool.and_false, Bool.true_or, Bool.or_true, Bool.false_or, Bool.or_false, Bool.not_true, Bool.not_false] at hz)
    refine gA ?_
    subst hz
    exact ⟨rfl, X⟩
  · (try simp only [q117, Bool.true_and, Bool.and_true, Bool.false_and, Bool.and_false, Bool.true_or, Bool.or_true, Bool.false_or, Bool.or_false, Bool.not_true, Bool.not_false] at hz)
    refine gA ?_
    refine HCall.mk (((loop_27 K L nm n t ns l hc0) _ _ (rt.ext X)).mono ?_)
    rintro e hk118 ⟨rfl, y118⟩
    rw [← hz]
    refine gA ?_
    exact ⟨rfl, X.trans y118⟩
theorem stmt_28 {N : Nat} (K : ∀ d, cnt d < N → NodeOk d) (L : ∀ l, cnts l < N → l.length ≤ 4194304 → ListOk l) (nm : ByteArray) (n : Int) (t : ByteArray) (ns : List ByteArray) (l : List NT) (hc : cnt (.mk 28 nm n t ns l) ≤ N) : Says 44 (.mk 28 nm n t ns l) (St false (.mk 28 nm n t ns l)) := by
  intro h cs r
  have rt := r
  have hc0 := hc
  simp only [TRep] at r
  obtain ⟨b1, b2, b3, b4, b5, b6, b7, ka, kc, la, lc, ys, rfl, s1, s2, s3⟩ := r
  simp only [cnt] at hc
  have hz : St false (.mk 28 nm n t ns l) = mayT (.mk 28 nm n t ns l) := rfl
  rw [may_28] at hz
  generalize St false (.mk 28 nm n t ns l) = z at hz
  refine c44 (by simp) ?_
  refine gA ?_
  refine new_var (e := 25) [.int .i64 28, .string nm, .int .i64 n, .string t, .slice ka ns.length kc, .slice la l.length lc] rfl ?_
  intro h1 bn o1 X z1 hbn
  refine gA ?_
  refine HCall.mk ((ownR_spec (rt.ext X)).mono ?_)
  rintro e hh119 ⟨rfl, x119⟩
  have o1 := o1.ext x119
  have X := X.trans x119
  cases q119 : ownR (.mk 28 nm n t ns l)
  · (try simp only [q119, Bool.true_and, Bool.and_true, Bool.false_and, Bool.and_false, Bool.true_or, Bool.or_true, Bool.false_or, Bool.or_false, Bool.not_true, Bool.not_false] at hz)
    refine gA ?_
    subst hz
    exact ⟨rfl, X⟩
  · (try simp only [q119, Bool.true_and, Bool.and_true, Bool.false_and, Bool.and_false, Bool.true_or, Bool.or_true, Bool.false_or, Bool.or_false, Bool.not_true, Bool.not_false] at hz)
    refine gA ?_
    refine HCall.mk (((loop_28 K L nm n t ns l hc0) _ _ (rt.ext X)).mono ?_)
    rintro e hk120 ⟨rfl, y120⟩
    rw [← hz]
    refine gA ?_
    exact ⟨rfl, X.trans y120⟩
theorem stmt_29 {N : Nat} (K : ∀ d, cnt d < N → NodeOk d) (L : ∀ l, cnts l < N → l.length ≤ 4194304 → ListOk l) (nm : ByteArray) (n : Int) (t : ByteArray) (ns : List ByteArray) (l : List NT) (hc : cnt (.mk 29 nm n t ns l) ≤ N) : Says 44 (.mk 29 nm n t ns l) (St false (.mk 29 nm n t ns l)) := by
  intro h cs r
  have rt := r
  have hc0 := hc
  simp only [TRep] at r
  obtain ⟨b1, b2, b3, b4, b5, b6, b7, ka, kc, la, lc, ys, rfl, s1, s2, s3⟩ := r
  simp only [cnt] at hc
  have hz : St false (.mk 29 nm n t ns l) = mayT (.mk 29 nm n t ns l) := rfl
  rw [may_29] at hz
  generalize St false (.mk 29 nm n t ns l) = z at hz
  refine c44 (by simp) ?_
  refine gA ?_
  refine new_var (e := 25) [.int .i64 29, .string nm, .int .i64 n, .string t, .slice ka ns.length kc, .slice la l.length lc] rfl ?_
  intro h1 bn o1 X z1 hbn
  refine gA ?_
  refine HCall.mk ((ownR_spec (rt.ext X)).mono ?_)
  rintro e hh121 ⟨rfl, x121⟩
  have o1 := o1.ext x121
  have X := X.trans x121
  cases q121 : ownR (.mk 29 nm n t ns l)
  · (try simp only [q121, Bool.true_and, Bool.and_true, Bool.false_and, Bool.and_false, Bool.true_or, Bool.or_true, Bool.false_or, Bool.or_false, Bool.not_true, Bool.not_false] at hz)
    refine gA ?_
    subst hz
    exact ⟨rfl, X⟩
  · (try simp only [q121, Bool.true_and, Bool.and_true, Bool.false_and, Bool.and_false, Bool.true_or, Bool.or_true, Bool.false_or, Bool.or_false, Bool.not_true, Bool.not_false] at hz)
    refine gA ?_
    refine HCall.mk (((loop_29 K L nm n t ns l hc0) _ _ (rt.ext X)).mono ?_)
    rintro e hk122 ⟨rfl, y122⟩
    rw [← hz]
    refine gA ?_
    exact ⟨rfl, X.trans y122⟩
theorem stmt_30 {N : Nat} (K : ∀ d, cnt d < N → NodeOk d) (L : ∀ l, cnts l < N → l.length ≤ 4194304 → ListOk l) (nm : ByteArray) (n : Int) (t : ByteArray) (ns : List ByteArray) (l : List NT) (hc : cnt (.mk 30 nm n t ns l) ≤ N) : Says 44 (.mk 30 nm n t ns l) (St false (.mk 30 nm n t ns l)) := by
  intro h cs r
  have rt := r
  have hc0 := hc
  simp only [TRep] at r
  obtain ⟨b1, b2, b3, b4, b5, b6, b7, ka, kc, la, lc, ys, rfl, s1, s2, s3⟩ := r
  simp only [cnt] at hc
  have hz : St false (.mk 30 nm n t ns l) = mayT (.mk 30 nm n t ns l) := rfl
  rw [may_30] at hz
  generalize St false (.mk 30 nm n t ns l) = z at hz
  refine c44 (by simp) ?_
  refine gA ?_
  refine new_var (e := 25) [.int .i64 30, .string nm, .int .i64 n, .string t, .slice ka ns.length kc, .slice la l.length lc] rfl ?_
  intro h1 bn o1 X z1 hbn
  refine gA ?_
  refine HCall.mk ((ownR_spec (rt.ext X)).mono ?_)
  rintro e hh123 ⟨rfl, x123⟩
  have o1 := o1.ext x123
  have X := X.trans x123
  cases q123 : ownR (.mk 30 nm n t ns l)
  · (try simp only [q123, Bool.true_and, Bool.and_true, Bool.false_and, Bool.and_false, Bool.true_or, Bool.or_true, Bool.false_or, Bool.or_false, Bool.not_true, Bool.not_false] at hz)
    refine gA ?_
    subst hz
    exact ⟨rfl, X⟩
  · (try simp only [q123, Bool.true_and, Bool.and_true, Bool.false_and, Bool.and_false, Bool.true_or, Bool.or_true, Bool.false_or, Bool.or_false, Bool.not_true, Bool.not_false] at hz)
    refine gA ?_
    refine HCall.mk (((loop_30 K L nm n t ns l hc0) _ _ (rt.ext X)).mono ?_)
    rintro e hk124 ⟨rfl, y124⟩
    rw [← hz]
    refine gA ?_
    exact ⟨rfl, X.trans y124⟩
theorem stmt_31 {N : Nat} (K : ∀ d, cnt d < N → NodeOk d) (L : ∀ l, cnts l < N → l.length ≤ 4194304 → ListOk l) (nm : ByteArray) (n : Int) (t : ByteArray) (ns : List ByteArray) (l : List NT) (hc : cnt (.mk 31 nm n t ns l) ≤ N) : Says 44 (.mk 31 nm n t ns l) (St false (.mk 31 nm n t ns l)) := by
  intro h cs r
  have rt := r
  have hc0 := hc
  simp only [TRep] at r
  obtain ⟨b1, b2, b3, b4, b5, b6, b7, ka, kc, la, lc, ys, rfl, s1, s2, s3⟩ := r
  simp only [cnt] at hc
  have hz : St false (.mk 31 nm n t ns l) = mayT (.mk 31 nm n t ns l) := rfl
  rw [may_31] at hz
  generalize St false (.mk 31 nm n t ns l) = z at hz
  refine c44 (by simp) ?_
  refine gA ?_
  refine new_var (e := 25) [.int .i64 31, .string nm, .int .i64 n, .string t, .slice ka ns.length kc, .slice la l.length lc] rfl ?_
  intro h1 bn o1 X z1 hbn
  refine gA ?_
  refine HCall.mk ((ownR_spec (rt.ext X)).mono ?_)
  rintro e hh125 ⟨rfl, x125⟩
  have o1 := o1.ext x125
  have X := X.trans x125
  cases q125 : ownR (.mk 31 nm n t ns l)
  · (try simp only [q125, Bool.true_and, Bool.and_true, Bool.false_and, Bool.and_false, Bool.true_or, Bool.or_true, Bool.false_or, Bool.or_false, Bool.not_true, Bool.not_false] at hz)
    refine gA ?_
    subst hz
    exact ⟨rfl, X⟩
  · (try simp only [q125, Bool.true_and, Bool.and_true, Bool.false_and, Bool.and_false, Bool.true_or, Bool.or_true, Bool.false_or, Bool.or_false, Bool.not_true, Bool.not_false] at hz)
    by_cases hl126 : l.length = 0
    · have q126 : ((l.length : Int) == 0) = true := beq_iff_eq.2 (by omega)
      have d126 : decide (l.length = 0) = true := decide_eq_true hl126
      (try simp only [d126, Bool.true_and, Bool.and_true, Bool.false_and, Bool.and_false, Bool.true_or, Bool.or_true, Bool.false_or, Bool.or_false, Bool.not_true, Bool.not_false] at hz)
      refine gA ?_
      subst hz
      exact ⟨by first | rfl | (show Ending.returned (.bool (((l.length : Int) == 0))) = _; rw [q126]), X⟩
    · have q126 : ((l.length : Int) == 0) = false := beq_eq_false_iff_ne.2 (by omega)
      have d126 : decide (l.length = 0) = false := decide_eq_false hl126
      (try simp only [d126, Bool.true_and, Bool.and_true, Bool.false_and, Bool.and_false, Bool.true_or, Bool.or_true, Bool.false_or, Bool.or_false, Bool.not_true, Bool.not_false] at hz)
      refine gA ?_
      subst hz
      exact ⟨by first | rfl | (show Ending.returned (.bool (((l.length : Int) == 0))) = _; rw [q126]), X⟩
theorem stmt_32 {N : Nat} (K : ∀ d, cnt d < N → NodeOk d) (L : ∀ l, cnts l < N → l.length ≤ 4194304 → ListOk l) (nm : ByteArray) (n : Int) (t : ByteArray) (ns : List ByteArray) (l : List NT) (hc : cnt (.mk 32 nm n t ns l) ≤ N) : Says 44 (.mk 32 nm n t ns l) (St false (.mk 32 nm n t ns l)) := by
  intro h cs r
  have rt := r
  have hc0 := hc
  simp only [TRep] at r
  obtain ⟨b1, b2, b3, b4, b5, b6, b7, ka, kc, la, lc, ys, rfl, s1, s2, s3⟩ := r
  simp only [cnt] at hc
  have hz : St false (.mk 32 nm n t ns l) = mayT (.mk 32 nm n t ns l) := rfl
  rw [may_32] at hz
  generalize St false (.mk 32 nm n t ns l) = z at hz
  refine c44 (by simp) ?_
  refine gA ?_
  refine new_var (e := 25) [.int .i64 32, .string nm, .int .i64 n, .string t, .slice ka ns.length kc, .slice la l.length lc] rfl ?_
  intro h1 bn o1 X z1 hbn
  refine gA ?_
  refine HCall.mk ((ownR_spec (rt.ext X)).mono ?_)
  rintro e hh127 ⟨rfl, x127⟩
  have o1 := o1.ext x127
  have X := X.trans x127
  cases q127 : ownR (.mk 32 nm n t ns l)
  · (try simp only [q127, Bool.true_and, Bool.and_true, Bool.false_and, Bool.and_false, Bool.true_or, Bool.or_true, Bool.false_or, Bool.or_false, Bool.not_true, Bool.not_false] at hz)
    refine gA ?_
    subst hz
    exact ⟨rfl, X⟩
  · (try simp only [q127, Bool.true_and, Bool.and_true, Bool.false_and, Bool.and_false, Bool.true_or, Bool.or_true, Bool.false_or, Bool.or_false, Bool.not_true, Bool.not_false] at hz)
    by_cases hl128 : l.length = 0
    · have q128 : ((l.length : Int) == 0) = true := beq_iff_eq.2 (by omega)
      have d128 : decide (l.length = 0) = true := decide_eq_true hl128
      (try simp only [d128, Bool.true_and, Bool.and_true, Bool.false_and, Bool.and_false, Bool.true_or, Bool.or_true, Bool.false_or, Bool.or_false, Bool.not_true, Bool.not_false] at hz)
      refine gA ?_
      subst hz
      exact ⟨by first | rfl | (show Ending.returned (.bool (((l.length : Int) == 0))) = _; rw [q128]), X⟩
    · have q128 : ((l.length : Int) == 0) = false := beq_eq_false_iff_ne.2 (by omega)
      have d128 : decide (l.length = 0) = false := decide_eq_false hl128
      (try simp only [d128, Bool.true_and, Bool.and_true, Bool.false_and, Bool.and_false, Bool.true_or, Bool.or_true, Bool.false_or, Bool.or_false, Bool.not_true, Bool.not_false] at hz)
      refine gA ?_
      subst hz
      exact ⟨by first | rfl | (show Ending.returned (.bool (((l.length : Int) == 0))) = _; rw [q128]), X⟩
theorem stmt_33 {N : Nat} (K : ∀ d, cnt d < N → NodeOk d) (L : ∀ l, cnts l < N → l.length ≤ 4194304 → ListOk l) (nm : ByteArray) (n : Int) (t : ByteArray) (ns : List ByteArray) (l : List NT) (hc : cnt (.mk 33 nm n t ns l) ≤ N) : Says 44 (.mk 33 nm n t ns l) (St false (.mk 33 nm n t ns l)) := by
  intro h cs r
  have rt := r
  have hc0 := hc
  simp only [TRep] at r
  obtain ⟨b1, b2, b3, b4, b5, b6, b7, ka, kc, la, lc, ys, rfl, s1, s2, s3⟩ := r
  simp only [cnt] at hc
  have hz : St false (.mk 33 nm n t ns l) = mayT (.mk 33 nm n t ns l) := rfl
  rw [may_33] at hz
  generalize St false (.mk 33 nm n t ns l) = z at hz
  refine c44 (by simp) ?_
  refine gA ?_
  refine new_var (e := 25) [.int .i64 33, .string nm, .int .i64 n, .string t, .slice ka ns.length kc, .slice la l.length lc] rfl ?_
  intro h1 bn o1 X z1 hbn
  refine gA ?_
  refine HCall.mk ((ownR_spec (rt.ext X)).mono ?_)
  rintro e hh129 ⟨rfl, x129⟩
  have o1 := o1.ext x129
  have X := X.trans x129
  cases q129 : ownR (.mk 33 nm n t ns l)
  · (try simp only [q129, Bool.true_and, Bool.and_true, Bool.false_and, Bool.and_false, Bool.true_or, Bool.or_true, Bool.false_or, Bool.or_false, Bool.not_true, Bool.not_false] at hz)
    refine gA ?_
    subst hz
    exact ⟨rfl, X⟩
  · (try simp only [q129, Bool.true_and, Bool.and_true, Bool.false_and, Bool.and_false, Bool.true_or, Bool.or_true, Bool.false_or, Bool.or_false, Bool.not_true, Bool.not_false] at hz)
    by_cases hl130 : l.length ≤ 1
    · have q130 : decide ((l.length : Int) ≤ 1) = true := decide_eq_true (by omega)
      have d130 : decide (l.length ≤ 1) = true := decide_eq_true hl130
      (try simp only [d130, Bool.true_and, Bool.and_true, Bool.false_and, Bool.and_false, Bool.true_or, Bool.or_true, Bool.false_or, Bool.or_false, Bool.not_true, Bool.not_false] at hz)
      refine gA ?_
      refine HCall.mk (((L l (by omega) b6).exs _ _ _ _ (s2.ext X) (s3.ext X)).mono ?_)
      rintro e hh131 ⟨rfl, x131⟩
      have o1 := o1.ext x131
      have X := X.trans x131
      cases q131 : l.all Ex
      · (try simp only [q131, Bool.true_and, Bool.and_true, Bool.false_and, Bool.and_false, Bool.true_or, Bool.or_true, Bool.false_or, Bool.or_false, Bool.not_true, Bool.not_false] at hz)
        refine gA ?_
        subst hz
        exact ⟨rfl, X⟩
      · (try simp only [q131, Bool.true_and, Bool.and_true, Bool.false_and, Bool.and_false, Bool.true_or, Bool.or_true, Bool.false_or, Bool.or_false, Bool.not_true, Bool.not_false] at hz)
        refine gA ?_
        subst hz
        exact ⟨rfl, X⟩
    · have q130 : decide ((l.length : Int) ≤ 1) = false := decide_eq_false (by omega)
      have d130 : decide (l.length ≤ 1) = false := decide_eq_false hl130
      (try simp only [d130, Bool.true_and, Bool.and_true, Bool.false_and, Bool.and_false, Bool.true_or, Bool.or_true, Bool.false_or, Bool.or_false, Bool.not_true, Bool.not_false] at hz)
      refine gA ?_
      subst hz
      exact ⟨by first | rfl | (show Ending.returned (.bool (decide ((l.length : Int) ≤ 1))) = _; rw [q130]), X⟩
theorem stmt_34 {N : Nat} (K : ∀ d, cnt d < N → NodeOk d) (L : ∀ l, cnts l < N → l.length ≤ 4194304 → ListOk l) (nm : ByteArray) (n : Int) (t : ByteArray) (ns : List ByteArray) (l : List NT) (hc : cnt (.mk 34 nm n t ns l) ≤ N) : Says 44 (.mk 34 nm n t ns l) (St false (.mk 34 nm n t ns l)) := by
  intro h cs r
  have rt := r
  have hc0 := hc
  simp only [TRep] at r
  obtain ⟨b1, b2, b3, b4, b5, b6, b7, ka, kc, la, lc, ys, rfl, s1, s2, s3⟩ := r
  simp only [cnt] at hc
  have hz : St false (.mk 34 nm n t ns l) = mayT (.mk 34 nm n t ns l) := rfl
  rw [may_34] at hz
  generalize St false (.mk 34 nm n t ns l) = z at hz
  refine c44 (by simp) ?_
  refine gA ?_
  refine new_var (e := 25) [.int .i64 34, .string nm, .int .i64 n, .string t, .slice ka ns.length kc, .slice la l.length lc] rfl ?_
  intro h1 bn o1 X z1 hbn
  refine gA ?_
  refine HCall.mk ((ownR_spec (rt.ext X)).mono ?_)
  rintro e hh132 ⟨rfl, x132⟩
  have o1 := o1.ext x132
  have X := X.trans x132
  cases q132 : ownR (.mk 34 nm n t ns l)
  · (try simp only [q132, Bool.true_and, Bool.and_true, Bool.false_and, Bool.and_false, Bool.true_or, Bool.or_true, Bool.false_or, Bool.or_false, Bool.not_true, Bool.not_false] at hz)
    refine gA ?_
    subst hz
    exact ⟨rfl, X⟩
  · (try simp only [q132, Bool.true_and, Bool.and_true, Bool.false_and, Bool.and_false, Bool.true_or, Bool.or_true, Bool.false_or, Bool.or_false, Bool.not_true, Bool.not_false] at hz)
    by_cases hl133 : l.length = 1
    · have q133 : ((l.length : Int) == 1) = true := beq_iff_eq.2 (by omega)
      have d133 : decide (l.length = 1) = true := decide_eq_true hl133
      (try simp only [d133, Bool.true_and, Bool.and_true, Bool.false_and, Bool.and_false, Bool.true_or, Bool.or_true, Bool.false_or, Bool.or_false, Bool.not_true, Bool.not_false] at hz)
      have hi134 : 0 < l.length := by omega
      refine gA ?_
      refine HIdx.mk 0 rfl hi134 ?_
      refine sl_some s2 hi134 fun p ep => ?_
      refine gA ?_
      refine tloadK s2 s3 (.of_ext X) ep hi134 fun cs rk => ?_
      refine gA ?_
      refine HCall.mk (((K l[0] (by have := cnts_get l 0 hi134; omega)).ex _ _ (rk.ext X)).mono ?_)
      rintro e hh134 ⟨rfl, x134⟩
      have o1 := o1.ext x134
      have X := X.trans x134
      cases q134 : Ex l[0]
      · (try simp only [at_in hi134, q134, Bool.true_and, Bool.and_true, Bool.false_and, Bool.and_false, Bool.true_or, Bool.or_true, Bool.false_or, Bool.or_false, Bool.not_true, Bool.not_false] at hz)
        refine gA ?_
        subst hz
        exact ⟨rfl, X⟩
      · (try simp only [at_in hi134, q134, Bool.true_and, Bool.and_true, Bool.false_and, Bool.and_false, Bool.true_or, Bool.or_true, Bool.false_or, Bool.or_false, Bool.not_true, Bool.not_false] at hz)
        refine gA ?_
        subst hz
        exact ⟨rfl, X⟩
    · have q133 : ((l.length : Int) == 1) = false := beq_eq_false_iff_ne.2 (by omega)
      have d133 : decide (l.length = 1) = false := decide_eq_false hl133
      (try simp only [d133, Bool.true_and, Bool.and_true, Bool.false_and, Bool.and_false, Bool.true_or, Bool.or_true, Bool.false_or, Bool.or_false, Bool.not_true, Bool.not_false] at hz)
      refine gA ?_
      subst hz
      exact ⟨by first | rfl | (show Ending.returned (.bool (((l.length : Int) == 1))) = _; rw [q133]), X⟩
theorem stmt_35 {N : Nat} (K : ∀ d, cnt d < N → NodeOk d) (L : ∀ l, cnts l < N → l.length ≤ 4194304 → ListOk l) (nm : ByteArray) (n : Int) (t : ByteArray) (ns : List ByteArray) (l : List NT) (hc : cnt (.mk 35 nm n t ns l) ≤ N) : Says 44 (.mk 35 nm n t ns l) (St false (.mk 35 nm n t ns l)) := by
  intro h cs r
  have rt := r
  have hc0 := hc
  simp only [TRep] at r
  obtain ⟨b1, b2, b3, b4, b5, b6, b7, ka, kc, la, lc, ys, rfl, s1, s2, s3⟩ := r
  simp only [cnt] at hc
  have hz : St false (.mk 35 nm n t ns l) = mayT (.mk 35 nm n t ns l) := rfl
  rw [may_35] at hz
  generalize St false (.mk 35 nm n t ns l) = z at hz
  refine c44 (by simp) ?_
  refine gA ?_
  refine new_var (e := 25) [.int .i64 35, .string nm, .int .i64 n, .string t, .slice ka ns.length kc, .slice la l.length lc] rfl ?_
  intro h1 bn o1 X z1 hbn
  refine gA ?_
  refine HCall.mk ((ownR_spec (rt.ext X)).mono ?_)
  rintro e hh135 ⟨rfl, x135⟩
  have o1 := o1.ext x135
  have X := X.trans x135
  cases q135 : ownR (.mk 35 nm n t ns l)
  · (try simp only [q135, Bool.true_and, Bool.and_true, Bool.false_and, Bool.and_false, Bool.true_or, Bool.or_true, Bool.false_or, Bool.or_false, Bool.not_true, Bool.not_false] at hz)
    refine gA ?_
    subst hz
    exact ⟨rfl, X⟩
  · (try simp only [q135, Bool.true_and, Bool.and_true, Bool.false_and, Bool.and_false, Bool.true_or, Bool.or_true, Bool.false_or, Bool.or_false, Bool.not_true, Bool.not_false] at hz)
    by_cases hl136 : l.length = 3
    · have q136 : ((l.length : Int) == 3) = true := beq_iff_eq.2 (by omega)
      have d136 : decide (l.length = 3) = true := decide_eq_true hl136
      (try simp only [d136, Bool.true_and, Bool.and_true, Bool.false_and, Bool.and_false, Bool.true_or, Bool.or_true, Bool.false_or, Bool.or_false, Bool.not_true, Bool.not_false] at hz)
      have hi137 : 0 < l.length := by omega
      refine gA ?_
      refine HIdx.mk 0 rfl hi137 ?_
      refine sl_some s2 hi137 fun p ep => ?_
      refine gA ?_
      refine tloadK s2 s3 (.of_ext X) ep hi137 fun cs rk => ?_
      refine gA ?_
      refine HCall.mk (((K l[0] (by have := cnts_get l 0 hi137; omega)).bk _ _ (rk.ext X)).mono ?_)
      rintro e hh137 ⟨rfl, x137⟩
      have o1 := o1.ext x137
      have X := X.trans x137
      cases q137 : Kk 25 l[0]
      · (try simp only [at_in hi137, q137, Bool.true_and, Bool.and_true, Bool.false_and, Bool.and_false, Bool.true_or, Bool.or_true, Bool.false_or, Bool.or_false, Bool.not_true, Bool.not_false] at hz)
        refine gA ?_
        subst hz
        exact ⟨rfl, X⟩
      · (try simp only [at_in hi137, q137, Bool.true_and, Bool.and_true, Bool.false_and, Bool.and_false, Bool.true_or, Bool.or_true, Bool.false_or, Bool.or_false, Bool.not_true, Bool.not_false] at hz)
        have hi138 : 1 < l.length := by omega
        refine gA ?_
        refine HIdx.mk 1 rfl hi138 ?_
        refine sl_some s2 hi138 fun p ep => ?_
        refine gA ?_
        refine tloadK s2 s3 (.of_ext X) ep hi138 fun cs rk => ?_
        refine gA ?_
        refine HCall.mk (((K l[1] (by have := cnts_get l 1 hi138; omega)).bk _ _ (rk.ext X)).mono ?_)
        rintro e hh138 ⟨rfl, x138⟩
        have o1 := o1.ext x138
        have X := X.trans x138
        cases q138 : Kk 25 l[1]
        · (try simp only [at_in hi138, q138, Bool.true_and, Bool.and_true, Bool.false_and, Bool.and_false, Bool.true_or, Bool.or_true, Bool.false_or, Bool.or_false, Bool.not_true, Bool.not_false] at hz)
          have hi139 : 1 < l.length := by omega
          refine gA ?_
          refine HIdx.mk 1 rfl hi139 ?_
          refine sl_some s2 hi139 fun p ep => ?_
          refine gA ?_
          refine tloadK s2 s3 (.of_ext X) ep hi139 fun cs rk => ?_
          refine gA ?_
          refine HCall.mk (((K l[1] (by have := cnts_get l 1 hi139; omega)).em _ _ (rk.ext X)).mono ?_)
          rintro e hh139 ⟨rfl, x139⟩
          have o1 := o1.ext x139
          have X := X.trans x139
          cases q139 : Kk 42 l[1]
          · (try simp only [at_in hi139, q139, Bool.true_and, Bool.and_true, Bool.false_and, Bool.and_false, Bool.true_or, Bool.or_true, Bool.false_or, Bool.or_false, Bool.not_true, Bool.not_false] at hz)
            refine gA ?_
            subst hz
            exact ⟨rfl, X⟩
          · (try simp only [at_in hi139, q139, Bool.true_and, Bool.and_true, Bool.false_and, Bool.and_false, Bool.true_or, Bool.or_true, Bool.false_or, Bool.or_false, Bool.not_true, Bool.not_false] at hz)
            have hi140 : 2 < l.length := by omega
            refine gA ?_
            refine HIdx.mk 2 rfl hi140 ?_
            refine sl_some s2 hi140 fun p ep => ?_
            refine gA ?_
            refine tloadK s2 s3 (.of_ext X) ep hi140 fun cs rk => ?_
            refine gA ?_
            refine HCall.mk (((K l[2] (by have := cnts_get l 2 hi140; omega)).bk _ _ (rk.ext X)).mono ?_)
            rintro e hh140 ⟨rfl, x140⟩
            have o1 := o1.ext x140
            have X := X.trans x140
            cases q140 : Kk 25 l[2]
            · (try simp only [at_in hi140, q140, Bool.true_and, Bool.and_true, Bool.false_and, Bool.and_false, Bool.true_or, Bool.or_true, Bool.false_or, Bool.or_false, Bool.not_true, Bool.not_false] at hz)
              have hi141 : 2 < l.length := by omega
              refine gA ?_
              refine HIdx.mk 2 rfl hi141 ?_
              refine sl_some s2 hi141 fun p ep => ?_
              refine gA ?_
              refine tloadK s2 s3 (.of_ext X) ep hi141 fun cs rk => ?_
              refine gA ?_
              refine HCall.mk (((K l[2] (by have := cnts_get l 2 hi141; omega)).em _ _ (rk.ext X)).mono ?_)
              rintro e hh141 ⟨rfl, x141⟩
              have o1 := o1.ext x141
              have X := X.trans x141
              cases q141 : Kk 42 l[2]
              · (try simp only [at_in hi141, q141, Bool.true_and, Bool.and_true, Bool.false_and, Bool.and_false, Bool.true_or, Bool.or_true, Bool.false_or, Bool.or_false, Bool.not_true, Bool.not_false] at hz)
                refine gA ?_
                subst hz
                exact ⟨rfl, X⟩
              · (try simp only [at_in hi141, q141, Bool.true_and, Bool.and_true, Bool.false_and, Bool.and_false, Bool.true_or, Bool.or_true, Bool.false_or, Bool.or_false, Bool.not_true, Bool.not_false] at hz)
                have hi142 : 1 < l.length := by omega
                refine gA ?_
                refine HIdx.mk 1 rfl hi142 ?_
                refine sl_some s2 hi142 fun p ep => ?_
                refine gA ?_
                refine tloadK s2 s3 (.of_ext X) ep hi142 fun cs rk => ?_
                refine gA ?_
                refine HCall.mk (((K l[1] (by have := cnts_get l 1 hi142; omega)).em _ _ (rk.ext X)).mono ?_)
                rintro e hh142 ⟨rfl, x142⟩
                have o1 := o1.ext x142
                have X := X.trans x142
                rw [q139]
                (try simp only [at_in hi142, q139, Bool.true_and, Bool.and_true, Bool.false_and, Bool.and_false, Bool.true_or, Bool.or_true, Bool.false_or, Bool.or_false, Bool.not_true, Bool.not_false] at hz)
                have hi143 : 2 < l.length := by omega
                refine gA ?_
                refine HIdx.mk 2 rfl hi143 ?_
                refine sl_some s2 hi143 fun p ep => ?_
                refine gA ?_
                refine tloadK s2 s3 (.of_ext X) ep hi143 fun cs rk => ?_
                refine gA ?_
                refine HCall.mk (((K l[2] (by have := cnts_get l 2 hi143; omega)).em _ _ (rk.ext X)).mono ?_)
                rintro e hh143 ⟨rfl, x143⟩
                have o1 := o1.ext x143
                have X := X.trans x143
                rw [q141]
                (try simp only [at_in hi143, q141, Bool.true_and, Bool.and_true, Bool.false_and, Bool.and_false, Bool.true_or, Bool.or_true, Bool.false_or, Bool.or_false, Bool.not_true, Bool.not_false] at hz)
                refine gA ?_
                subst hz
                exact ⟨rfl, X⟩
            · (try simp only [at_in hi140, q140, Bool.true_and, Bool.and_true, Bool.false_and, Bool.and_false, Bool.true_or, Bool.or_true, Bool.false_or, Bool.or_false, Bool.not_true, Bool.not_false] at hz)
              have hi144 : 1 < l.length := by omega
              refine gA ?_
              refine HIdx.mk 1 rfl hi144 ?_
              refine sl_some s2 hi144 fun p ep => ?_
              refine gA ?_
              refine tloadK s2 s3 (.of_ext X) ep hi144 fun cs rk => ?_
              refine gA ?_
              refine HCall.mk (((K l[1] (by have := cnts_get l 1 hi144; omega)).em _ _ (rk.ext X)).mono ?_)
              rintro e hh144 ⟨rfl, x144⟩
              have o1 := o1.ext x144
              have X := X.trans x144
              rw [q139]
              (try simp only [at_in hi144, q139, Bool.true_and, Bool.and_true, Bool.false_and, Bool.and_false, Bool.true_or, Bool.or_true, Bool.false_or, Bool.or_false, Bool.not_true, Bool.not_false] at hz)
              have hi145 : 2 < l.length := by omega
              refine gA ?_
              refine HIdx.mk 2 rfl hi145 ?_
              refine sl_some s2 hi145 fun p ep => ?_
              refine gA ?_
              refine tloadK s2 s3 (.of_ext X) ep hi145 fun cs rk => ?_
              refine gA ?_
              refine HCall.mk (((K l[2] (by have := cnts_get l 2 hi145; omega)).em _ _ (rk.ext X)).mono ?_)
              rintro e hh145 ⟨rfl, x145⟩
              have o1 := o1.ext x145
              have X := X.trans x145
              cases q145 : Kk 42 l[2]
              · (try simp only [at_in hi145, q145, Bool.true_and, Bool.and_true, Bool.false_and, Bool.and_false, Bool.true_or, Bool.or_true, Bool.false_or, Bool.or_false, Bool.not_true, Bool.not_false] at hz)
                refine gA ?_
                subst hz
                exact ⟨rfl, X⟩
              · (try simp only [at_in hi145, q145, Bool.true_and, Bool.and_true, Bool.false_and, Bool.and_false, Bool.true_or, Bool.or_true, Bool.false_or, Bool.or_false, Bool.not_true, Bool.not_false] at hz)
                refine gA ?_
                subst hz
                exact ⟨rfl, X⟩
        · (try simp only [at_in hi138, q138, Bool.true_and, Bool.and_true, Bool.false_and, Bool.and_false, Bool.true_or, Bool.or_true, Bool.false_or, Bool.or_false, Bool.not_true, Bool.not_false] at hz)
          have hi146 : 2 < l.length := by omega
          refine gA ?_
          refine HIdx.mk 2 rfl hi146 ?_
          refine sl_some s2 hi146 fun p ep => ?_
          refine gA ?_
          refine tloadK s2 s3 (.of_ext X) ep hi146 fun cs rk => ?_
          refine gA ?_
          refine HCall.mk (((K l[2] (by have := cnts_get l 2 hi146; omega)).bk _ _ (rk.ext X)).mono ?_)
          rintro e hh146 ⟨rfl, x146⟩
          have o1 := o1.ext x146
          have X := X.trans x146
          cases q146 : Kk 25 l[2]
          · (try simp only [at_in hi146, q146, Bool.true_and, Bool.and_true, Bool.false_and, Bool.and_false, Bool.true_or, Bool.or_true, Bool.false_or, Bool.or_false, Bool.not_true, Bool.not_false] at hz)
            have hi147 : 2 < l.length := by omega
            refine gA ?_
            refine HIdx.mk 2 rfl hi147 ?_
            refine sl_some s2 hi147 fun p ep => ?_
            refine gA ?_
            refine tloadK s2 s3 (.of_ext X) ep hi147 fun cs rk => ?_
            refine gA ?_
            refine HCall.mk (((K l[2] (by have := cnts_get l 2 hi147; omega)).em _ _ (rk.ext X)).mono ?_)
            rintro e hh147 ⟨rfl, x147⟩
            have o1 := o1.ext x147
            have X := X.trans x147
            cases q147 : Kk 42 l[2]
            · (try simp only [at_in hi147, q147, Bool.true_and, Bool.and_true, Bool.false_and, Bool.and_false, Bool.true_or, Bool.or_true, Bool.false_or, Bool.or_false, Bool.not_true, Bool.not_false] at hz)
              refine gA ?_
              subst hz
              exact ⟨rfl, X⟩
            · (try simp only [at_in hi147, q147, Bool.true_and, Bool.and_true, Bool.false_and, Bool.and_false, Bool.true_or, Bool.or_true, Bool.false_or, Bool.or_false, Bool.not_true, Bool.not_false] at hz)
              have hi148 : 1 < l.length := by omega
              refine gA ?_
              refine HIdx.mk 1 rfl hi148 ?_
              refine sl_some s2 hi148 fun p ep => ?_
              refine gA ?_
              refine tloadK s2 s3 (.of_ext X) ep hi148 fun cs rk => ?_
              refine gA ?_
              refine HCall.mk (((K l[1] (by have := cnts_get l 1 hi148; omega)).em _ _ (rk.ext X)).mono ?_)
              rintro e hh148 ⟨rfl, x148⟩
              have o1 := o1.ext x148
              have X := X.trans x148
              cases q148 : Kk 42 l[1]
              · (try simp only [at_in hi148, q148, Bool.true_and, Bool.and_true, Bool.false_and, Bool.and_false, Bool.true_or, Bool.or_true, Bool.false_or, Bool.or_false, Bool.not_true, Bool.not_false] at hz)
                refine gA ?_
                subst hz
                exact ⟨rfl, X⟩
              · (try simp only [at_in hi148, q148, Bool.true_and, Bool.and_true, Bool.false_and, Bool.and_false, Bool.true_or, Bool.or_true, Bool.false_or, Bool.or_false, Bool.not_true, Bool.not_false] at hz)
                have hi149 : 2 < l.length := by omega
                refine gA ?_
                refine HIdx.mk 2 rfl hi149 ?_
                refine sl_some s2 hi149 fun p ep => ?_
                refine gA ?_
                refine tloadK s2 s3 (.of_ext X) ep hi149 fun cs rk => ?_
                refine gA ?_
                refine HCall.mk (((K l[2] (by have := cnts_get l 2 hi149; omega)).em _ _ (rk.ext X)).mono ?_)
                rintro e hh149 ⟨rfl, x149⟩
                have o1 := o1.ext x149
                have X := X.trans x149
                rw [q147]
                (try simp only [at_in hi149, q147, Bool.true_and, Bool.and_true, Bool.false_and, Bool.and_false, Bool.true_or, Bool.or_true, Bool.false_or, Bool.or_false, Bool.not_true, Bool.not_false] at hz)
                refine gA ?_
                subst hz
                exact ⟨rfl, X⟩
          · (try simp only [at_in hi146, q146, Bool.true_and, Bool.and_true, Bool.false_and, Bool.and_false, Bool.true_or, Bool.or_true, Bool.false_or, Bool.or_false, Bool.not_true, Bool.not_false] at hz)
            have hi150 : 1 < l.length := by omega
            refine gA ?_
            refine HIdx.mk 1 rfl hi150 ?_
            refine sl_some s2 hi150 fun p ep => ?_
            refine gA ?_
            refine tloadK s2 s3 (.of_ext X) ep hi150 fun cs rk => ?_
            refine gA ?_
            refine HCall.mk (((K l[1] (by have := cnts_get l 1 hi150; omega)).em _ _ (rk.ext X)).mono ?_)
            rintro e hh150 ⟨rfl, x150⟩
            have o1 := o1.ext x150
            have X := X.trans x150
            cases q150 : Kk 42 l[1]
            · (try simp only [at_in hi150, q150, Bool.true_and, Bool.and_true, Bool.false_and, Bool.and_false, Bool.true_or, Bool.or_true, Bool.false_or, Bool.or_false, Bool.not_true, Bool.not_false] at hz)
              refine gA ?_
              subst hz
              exact ⟨rfl, X⟩
            · (try simp only [at_in hi150, q150, Bool.true_and, Bool.and_true, Bool.false_and, Bool.and_false, Bool.true_or, Bool.or_true, Bool.false_or, Bool.or_false, Bool.not_true, Bool.not_false] at hz)
              have hi151 : 2 < l.length := by omega
              refine gA ?_
              refine HIdx.mk 2 rfl hi151 ?_
              refine sl_some s2 hi151 fun p ep => ?_
              refine gA ?_
              refine tloadK s2 s3 (.of_ext X) ep hi151 fun cs rk => ?_
              refine gA ?_
              refine HCall.mk (((K l[2] (by have := cnts_get l 2 hi151; omega)).em _ _ (rk.ext X)).mono ?_)
              rintro e hh151 ⟨rfl, x151⟩
              have o1 := o1.ext x151
              have X := X.trans x151
              cases q151 : Kk 42 l[2]
              · (try simp only [at_in hi151, q151, Bool.true_and, Bool.and_true, Bool.false_and, Bool.and_false, Bool.true_or, Bool.or_true, Bool.false_or, Bool.or_false, Bool.not_true, Bool.not_false] at hz)
                refine gA ?_
                subst hz
                exact ⟨rfl, X⟩
              · (try simp only [at_in hi151, q151, Bool.true_and, Bool.and_true, Bool.false_and, Bool.and_false, Bool.true_or, Bool.or_true, Bool.false_or, Bool.or_false, Bool.not_true, Bool.not_false] at hz)
                refine gA ?_
                subst hz
                exact ⟨rfl, X⟩
    · have q136 : ((l.length : Int) == 3) = false := beq_eq_false_iff_ne.2 (by omega)
      have d136 : decide (l.length = 3) = false := decide_eq_false hl136
      (try simp only [d136, Bool.true_and, Bool.and_true, Bool.false_and, Bool.and_false, Bool.true_or, Bool.or_true, Bool.false_or, Bool.or_false, Bool.not_true, Bool.not_false] at hz)
      refine gA ?_
      subst hz
      exact ⟨by first | rfl | (show Ending.returned (.bool (((l.length : Int) == 3))) = _; rw [q136]), X⟩
theorem stmt_36 {N : Nat} (K : ∀ d, cnt d < N → NodeOk d) (L : ∀ l, cnts l < N → l.length ≤ 4194304 → ListOk l) (nm : ByteArray) (n : Int) (t : ByteArray) (ns : List ByteArray) (l : List NT) (hc : cnt (.mk 36 nm n t ns l) ≤ N) : Says 44 (.mk 36 nm n t ns l) (St false (.mk 36 nm n t ns l)) := by
  intro h cs r
  have rt := r
  have hc0 := hc
  simp only [TRep] at r
  obtain ⟨b1, b2, b3, b4, b5, b6, b7, ka, kc, la, lc, ys, rfl, s1, s2, s3⟩ := r
  simp only [cnt] at hc
  have hz : St false (.mk 36 nm n t ns l) = mayT (.mk 36 nm n t ns l) := rfl
  rw [may_36] at hz
  generalize St false (.mk 36 nm n t ns l) = z at hz
  refine c44 (by simp) ?_
  refine gA ?_
  refine new_var (e := 25) [.int .i64 36, .string nm, .int .i64 n, .string t, .slice ka ns.length kc, .slice la l.length lc] rfl ?_
  intro h1 bn o1 X z1 hbn
  refine gA ?_
  refine HCall.mk ((ownR_spec (rt.ext X)).mono ?_)
  rintro e hh152 ⟨rfl, x152⟩
  have o1 := o1.ext x152
  have X := X.trans x152
  cases q152 : ownR (.mk 36 nm n t ns l)
  · (try simp only [q152, Bool.true_and, Bool.and_true, Bool.false_and, Bool.and_false, Bool.true_or, Bool.or_true, Bool.false_or, Bool.or_false, Bool.not_true, Bool.not_false] at hz)
    refine gA ?_
    subst hz
    exact ⟨rfl, X⟩
  · (try simp only [q152, Bool.true_and, Bool.and_true, Bool.false_and, Bool.and_false, Bool.true_or, Bool.or_true, Bool.false_or, Bool.or_false, Bool.not_true, Bool.not_false] at hz)
    by_cases hl153 : 1 ≤ l.length
    · have q153 : decide ((l.length : Int) ≥ 1) = true := decide_eq_true (by omega)
      have d153 : decide (1 ≤ l.length) = true := decide_eq_true hl153
      (try simp only [d153, Bool.true_and, Bool.and_true, Bool.false_and, Bool.and_false, Bool.true_or, Bool.or_true, Bool.false_or, Bool.or_false, Bool.not_true, Bool.not_false] at hz)
      have hi154 : 0 < l.length := by omega
      refine gA ?_
      refine HIdx.mk 0 rfl hi154 ?_
      refine sl_some s2 hi154 fun p ep => ?_
      refine gA ?_
      refine tloadK s2 s3 (.of_ext X) ep hi154 fun cs rk => ?_
      refine gA ?_
      refine HCall.mk (((K l[0] (by have := cnts_get l 0 hi154; omega)).ex _ _ (rk.ext X)).mono ?_)
      rintro e hh154 ⟨rfl, x154⟩
      have o1 := o1.ext x154
      have X := X.trans x154
      cases q154 : Ex l[0]
      · (try simp only [at_in hi154, q154, Bool.true_and, Bool.and_true, Bool.false_and, Bool.and_false, Bool.true_or, Bool.or_true, Bool.false_or, Bool.or_false, Bool.not_true, Bool.not_false] at hz)
        refine gA ?_
        subst hz
        exact ⟨rfl, X⟩
      · (try simp only [at_in hi154, q154, Bool.true_and, Bool.and_true, Bool.false_and, Bool.and_false, Bool.true_or, Bool.or_true, Bool.false_or, Bool.or_false, Bool.not_true, Bool.not_false] at hz)
        have hi155 : 1 ≤ l.length := by omega
        refine gA ?_
        refine HBound.mk 1 rfl (by omega) ?_
        refine gA ?_
        obtain ⟨sd155, td155⟩ := drop_sl6 s2 s3 hi155
        refine HCall.mk (((L (l.drop 1) (by have := cnts_drop' l 1; omega) (by rw [List.length_drop]; omega)).cas' _ _ _ _ (List.length_drop) (sd155.ext X) (td155.ext X)).mono ?_)
        rintro e hh155 ⟨rfl, x155⟩
        have o1 := o1.ext x155
        have X := X.trans x155
        cases q155 : ((l.drop 1).all (Kk 37) && decide (emptC (l.drop 1) ≤ 1))
        · (try simp only [q155, Bool.true_and, Bool.and_true, Bool.false_and, Bool.and_false, Bool.true_or, Bool.or_true, Bool.false_or, Bool.or_false, Bool.not_true, Bool.not_false] at hz)
          refine gA ?_
          subst hz
          exact ⟨rfl, X⟩
        · (try simp only [q155, Bool.true_and, Bool.and_true, Bool.false_and, Bool.and_false, Bool.true_or, Bool.or_true, Bool.false_or, Bool.or_false, Bool.not_true, Bool.not_false] at hz)
          refine gA ?_
          subst hz
          exact ⟨rfl, X⟩
    · have q153 : decide ((l.length : Int) ≥ 1) = false := decide_eq_false (by omega)
      have d153 : decide (1 ≤ l.length) = false := decide_eq_false hl153
      (try simp only [d153, Bool.true_and, Bool.and_true, Bool.false_and, Bool.and_false, Bool.true_or, Bool.or_true, Bool.false_or, Bool.or_false, Bool.not_true, Bool.not_false] at hz)
      refine gA ?_
      subst hz
      exact ⟨by first | rfl | (show Ending.returned (.bool (decide ((l.length : Int) ≥ 1))) = _; rw [q153]), X⟩
theorem stmt_38 {N : Nat} (K : ∀ d, cnt d < N → NodeOk d) (L : ∀ l, cnts l < N → l.length ≤ 4194304 → ListOk l) (nm : ByteArray) (n : Int) (t : ByteArray) (ns : List ByteArray) (l : List NT) (hc : cnt (.mk 38 nm n t ns l) ≤ N) : Says 44 (.mk 38 nm n t ns l) (St false (.mk 38 nm n t ns l)) := by
  intro h cs r
  have rt := r
  have hc0 := hc
  simp only [TRep] at r
  obtain ⟨b1, b2, b3, b4, b5, b6, b7, ka, kc, la, lc, ys, rfl, s1, s2, s3⟩ := r
  simp only [cnt] at hc
  have hz : St false (.mk 38 nm n t ns l) = mayT (.mk 38 nm n t ns l) := rfl
  rw [may_38] at hz
  generalize St false (.mk 38 nm n t ns l) = z at hz
  refine c44 (by simp) ?_
  refine gA ?_
  refine new_var (e := 25) [.int .i64 38, .string nm, .int .i64 n, .string t, .slice ka ns.length kc, .slice la l.length lc] rfl ?_
  intro h1 bn o1 X z1 hbn
  refine gA ?_
  refine HCall.mk ((ownR_spec (rt.ext X)).mono ?_)
  rintro e hh156 ⟨rfl, x156⟩
  have o1 := o1.ext x156
  have X := X.trans x156
  cases q156 : ownR (.mk 38 nm n t ns l)
  · (try simp only [q156, Bool.true_and, Bool.and_true, Bool.false_and, Bool.and_false, Bool.true_or, Bool.or_true, Bool.false_or, Bool.or_false, Bool.not_true, Bool.not_false] at hz)
    refine gA ?_
    subst hz
    exact ⟨rfl, X⟩
  · (try simp only [q156, Bool.true_and, Bool.and_true, Bool.false_and, Bool.and_false, Bool.true_or, Bool.or_true, Bool.false_or, Bool.or_false, Bool.not_true, Bool.not_false] at hz)
    by_cases hl157 : l.length = 1
    · have q157 : ((l.length : Int) == 1) = true := beq_iff_eq.2 (by omega)
      have d157 : decide (l.length = 1) = true := decide_eq_true hl157
      (try simp only [d157, Bool.true_and, Bool.and_true, Bool.false_and, Bool.and_false, Bool.true_or, Bool.or_true, Bool.false_or, Bool.or_false, Bool.not_true, Bool.not_false] at hz)
      have hi158 : 0 < l.length := by omega
      refine gA ?_
      refine HIdx.mk 0 rfl hi158 ?_
      refine sl_some s2 hi158 fun p ep => ?_
      refine gA ?_
      refine tloadK s2 s3 (.of_ext X) ep hi158 fun cs rk => ?_
      refine gA ?_
      refine HCall.mk (((K l[0] (by have := cnts_get l 0 hi158; omega)).st _ _ (rk.ext X)).mono ?_)
      rintro e hh158 ⟨rfl, x158⟩
      have o1 := o1.ext x158
      have X := X.trans x158
      cases q158 : St false l[0]
      · (try simp only [at_in hi158, q158, Bool.true_and, Bool.and_true, Bool.false_and, Bool.and_false, Bool.true_or, Bool.or_true, Bool.false_or, Bool.or_false, Bool.not_true, Bool.not_false] at hz)
        refine gA ?_
        subst hz
        exact ⟨rfl, X⟩
      · (try simp only [at_in hi158, q158, Bool.true_and, Bool.and_true, Bool.false_and, Bool.and_false, Bool.true_or, Bool.or_true, Bool.false_or, Bool.or_false, Bool.not_true, Bool.not_false] at hz)
        refine gA ?_
        subst hz
        exact ⟨rfl, X⟩
    · have q157 : ((l.length : Int) == 1) = false := beq_eq_false_iff_ne.2 (by omega)
      have d157 : decide (l.length = 1) = false := decide_eq_false hl157
      (try simp only [d157, Bool.true_and, Bool.and_true, Bool.false_and, Bool.and_false, Bool.true_or, Bool.or_true, Bool.false_or, Bool.or_false, Bool.not_true, Bool.not_false] at hz)
      refine gA ?_
      subst hz
      exact ⟨by first | rfl | (show Ending.returned (.bool (((l.length : Int) == 1))) = _; rw [q157]), X⟩
theorem stmt_40 {N : Nat} (K : ∀ d, cnt d < N → NodeOk d) (L : ∀ l, cnts l < N → l.length ≤ 4194304 → ListOk l) (nm : ByteArray) (n : Int) (t : ByteArray) (ns : List ByteArray) (l : List NT) (hc : cnt (.mk 40 nm n t ns l) ≤ N) : Says 44 (.mk 40 nm n t ns l) (St false (.mk 40 nm n t ns l)) := by
  intro h cs r
  have rt := r
  have hc0 := hc
  simp only [TRep] at r
  obtain ⟨b1, b2, b3, b4, b5, b6, b7, ka, kc, la, lc, ys, rfl, s1, s2, s3⟩ := r
  simp only [cnt] at hc
  have hz : St false (.mk 40 nm n t ns l) = mayT (.mk 40 nm n t ns l) := rfl
  rw [may_40] at hz
  generalize St false (.mk 40 nm n t ns l) = z at hz
  refine c44 (by simp) ?_
  refine gA ?_
  refine new_var (e := 25) [.int .i64 40, .string nm, .int .i64 n, .string t, .slice ka ns.length kc, .slice la l.length lc] rfl ?_
  intro h1 bn o1 X z1 hbn
  refine gA ?_
  refine HCall.mk ((ownR_spec (rt.ext X)).mono ?_)
  rintro e hh159 ⟨rfl, x159⟩
  have o1 := o1.ext x159
  have X := X.trans x159
  cases q159 : ownR (.mk 40 nm n t ns l)
  · (try simp only [q159, Bool.true_and, Bool.and_true, Bool.false_and, Bool.and_false, Bool.true_or, Bool.or_true, Bool.false_or, Bool.or_false, Bool.not_true, Bool.not_false] at hz)
    refine gA ?_
    subst hz
    exact ⟨rfl, X⟩
  · (try simp only [q159, Bool.true_and, Bool.and_true, Bool.false_and, Bool.and_false, Bool.true_or, Bool.or_true, Bool.false_or, Bool.or_false, Bool.not_true, Bool.not_false] at hz)
    by_cases hl160 : l.length = 0
    · have q160 : ((l.length : Int) == 0) = true := beq_iff_eq.2 (by omega)
      have d160 : decide (l.length = 0) = true := decide_eq_true hl160
      (try simp only [d160, Bool.true_and, Bool.and_true, Bool.false_and, Bool.and_false, Bool.true_or, Bool.or_true, Bool.false_or, Bool.or_false, Bool.not_true, Bool.not_false] at hz)
      refine gA ?_
      subst hz
      exact ⟨by first | rfl | (show Ending.returned (.bool (((l.length : Int) == 0))) = _; rw [q160]), X⟩
    · have q160 : ((l.length : Int) == 0) = false := beq_eq_false_iff_ne.2 (by omega)
      have d160 : decide (l.length = 0) = false := decide_eq_false hl160
      (try simp only [d160, Bool.true_and, Bool.and_true, Bool.false_and, Bool.and_false, Bool.true_or, Bool.or_true, Bool.false_or, Bool.or_false, Bool.not_true, Bool.not_false] at hz)
      refine gA ?_
      subst hz
      exact ⟨by first | rfl | (show Ending.returned (.bool (((l.length : Int) == 0))) = _; rw [q160]), X⟩
theorem stmt_ok {N : Nat} (K : ∀ d, cnt d < N → NodeOk d) (L : ∀ l, cnts l < N → l.length ≤ 4194304 → ListOk l) (d : NT) (hc : cnt d ≤ N) : Says 44 d (St false d) := by
  cases d with
  | mk k nm n t ns l =>
  by_cases h22 : k = 22
  · subst h22; exact stmt_22 K L nm n t ns l hc
  have q22 : (k == 22) = false := beq_eq_false_iff_ne.2 h22
  by_cases h24 : k = 24
  · subst h24; exact stmt_24 K L nm n t ns l hc
  have q24 : (k == 24) = false := beq_eq_false_iff_ne.2 h24
  by_cases h25 : k = 25
  · subst h25; exact stmt_25 K L nm n t ns l hc
  have q25 : (k == 25) = false := beq_eq_false_iff_ne.2 h25
  by_cases h26 : k = 26
  · subst h26; exact stmt_26 K L nm n t ns l hc
  have q26 : (k == 26) = false := beq_eq_false_iff_ne.2 h26
  by_cases h27 : k = 27
  · subst h27; exact stmt_27 K L nm n t ns l hc
  have q27 : (k == 27) = false := beq_eq_false_iff_ne.2 h27
  by_cases h28 : k = 28
  · subst h28; exact stmt_28 K L nm n t ns l hc
  have q28 : (k == 28) = false := beq_eq_false_iff_ne.2 h28
  by_cases h29 : k = 29
  · subst h29; exact stmt_29 K L nm n t ns l hc
  have q29 : (k == 29) = false := beq_eq_false_iff_ne.2 h29
  by_cases h30 : k = 30
  · subst h30; exact stmt_30 K L nm n t ns l hc
  have q30 : (k == 30) = false := beq_eq_false_iff_ne.2 h30
  by_cases h31 : k = 31
  · subst h31; exact stmt_31 K L nm n t ns l hc
  have q31 : (k == 31) = false := beq_eq_false_iff_ne.2 h31
  by_cases h32 : k = 32
  · subst h32; exact stmt_32 K L nm n t ns l hc
  have q32 : (k == 32) = false := beq_eq_false_iff_ne.2 h32
  by_cases h33 : k = 33
  · subst h33; exact stmt_33 K L nm n t ns l hc
  have q33 : (k == 33) = false := beq_eq_false_iff_ne.2 h33
  by_cases h34 : k = 34
  · subst h34; exact stmt_34 K L nm n t ns l hc
  have q34 : (k == 34) = false := beq_eq_false_iff_ne.2 h34
  by_cases h35 : k = 35
  · subst h35; exact stmt_35 K L nm n t ns l hc
  have q35 : (k == 35) = false := beq_eq_false_iff_ne.2 h35
  by_cases h36 : k = 36
  · subst h36; exact stmt_36 K L nm n t ns l hc
  have q36 : (k == 36) = false := beq_eq_false_iff_ne.2 h36
  by_cases h38 : k = 38
  · subst h38; exact stmt_38 K L nm n t ns l hc
  have q38 : (k == 38) = false := beq_eq_false_iff_ne.2 h38
  by_cases h40 : k = 40
  · subst h40; exact stmt_40 K L nm n t ns l hc
  have q40 : (k == 40) = false := beq_eq_false_iff_ne.2 h40
  intro h cs r
  have rt := r
  simp only [TRep] at r
  obtain ⟨b1, b2, b3, b4, b5, b6, b7, ka, kc, la, lc, ys, rfl, s1, s2, s3⟩ := r
  have hz : St false (.mk k nm n t ns l) = false := by
    show (stB k false && _) = false
    have : stB k false = false := by
      unfold stB
      simp only [Bool.or_false, Bool.and_eq_false_iff, decide_eq_false_iff_not, bne_eq_false_iff_eq]
      omega
    rw [this]; rfl
  generalize St false (.mk k nm n t ns l) = z at hz
  refine c44 (by simp) ?_
  refine gA ?_
  refine new_var (e := 25) [.int .i64 k, .string nm, .int .i64 n, .string t, .slice ka ns.length kc, .slice la l.length lc] rfl ?_
  intro h1 bn o1 X z1 hbn
  refine gA ?_
  refine HCall.mk ((ownR_spec (rt.ext X)).mono ?_)
  rintro e hh161 ⟨rfl, x161⟩
  have o1 := o1.ext x161
  have X := X.trans x161
  cases q161 : ownR (.mk k nm n t ns l)
  · (try simp only [q161, Bool.true_and, Bool.and_true, Bool.false_and, Bool.and_false, Bool.true_or, Bool.or_true, Bool.false_or, Bool.or_false, Bool.not_true, Bool.not_false] at hz)
    refine gA ?_
    subst hz
    exact ⟨rfl, X⟩
  · (try simp only [q161, Bool.true_and, Bool.and_true, Bool.false_and, Bool.and_false, Bool.true_or, Bool.or_true, Bool.false_or, Bool.or_false, Bool.not_true, Bool.not_false] at hz)
    refine gA ?_
    subst hz
    exact ⟨rfl, X⟩
end Go.Proofs.YtlogpojkkbcpjaaGreat.Hc
