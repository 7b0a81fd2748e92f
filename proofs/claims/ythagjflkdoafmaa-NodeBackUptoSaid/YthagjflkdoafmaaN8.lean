import Derived.Test.YthagjflkdoafmaaN7
set_option linter.unusedVariables false
set_option linter.unusedSimpArgs false
namespace Go.Proofs.Ythagjflkdoafmaa.Hc
open Go Go.H Go.Proofs
set_option maxRecDepth 100000
set_option maxHeartbeats 4000000

/-! ### Plain reading -/
theorem rdn_ok (l : List UInt8) : ((rdn l 0 0).2.2 = 0 ∧ 0 < (rdn l 0 0).2.1 ∧ (rdn l 0 0).2.1 ≤ l.length ∧ (rdn l 0 0).1 < 2 ^ 64) ∨ (((rdn l 0 0).2.2 = 20 ∨ (rdn l 0 0).2.2 = 22) ∧ (rdn l 0 0).1 = 0 ∧ (rdn l 0 0).2.1 = 0) := by
  rcases rdn_facts l 0 0 (by omega) (by simp) with h | h
  · exact .inl ⟨h.1, h.2.1, by omega, h.2.2.2.2⟩
  · exact .inr h
theorem rdt_ok (l : List UInt8) (most : Int) : ((rdt l most).2.2 = 0 ∧ (rdt l most).1.length < (rdt l most).2.1 ∧ (rdt l most).2.1 ≤ l.length ∧ ((rdt l most).1.length : Int) ≤ most) ∨ (((rdt l most).2.2 = 20 ∨ (rdt l most).2.2 = 22) ∧ (rdt l most).1 = [] ∧ (rdt l most).2.1 = 0) := by
  have h := rdn_ok l
  simp only [rdt]
  by_cases h0 : (rdn l 0 0).2.2 = 0
  · rw [if_neg (by simpa using h0)]
    split
    · simp
    split
    · simp
    · rename_i h1 h2
      left
      have e : ((l.drop (rdn l 0 0).2.1).take (rdn l 0 0).1).length = (rdn l 0 0).1 := by rw [List.length_take, List.length_drop]; omega
      dsimp only
      rw [e]
      refine ⟨rfl, ?_, ?_, ?_⟩ <;> omega
  · rw [if_pos h0]
    right
    rcases h with h | h
    · exact absurd h.1 h0
    · exact ⟨h.1, rfl, rfl⟩
inductive Rd (α : Type) where
  | no (e : Nat)
  | ok (a : α) (r : List UInt8)
def Rd.map {α β : Type} (f : α → β) : Rd α → Rd β
  | .no e => .no e
  | .ok a r => .ok (f a) r
theorem Rd.map_map {α β γ : Type} (f : α → β) (g : β → γ) (x : Rd α) : (x.map f).map g = x.map (g ∘ f) := by cases x <;> rfl
theorem Rd.map_id {α : Type} {f : α → α} (hf : ∀ a, f a = a) (x : Rd α) : x.map f = x := by cases x <;> simp [Rd.map, hf]
def rNum (most : Nat) (l : List UInt8) : Rd Nat :=
  if (rdn l 0 0).2.2 = 0 then if (rdn l 0 0).1 ≤ most then .ok (rdn l 0 0).1 (l.drop (rdn l 0 0).2.1) else .no 22 else .no (rdn l 0 0).2.2
def rTxt (l : List UInt8) : Rd ByteArray :=
  if (rdt l 1024).2.2 = 0 then .ok ⟨(rdt l 1024).1.toArray⟩ (l.drop (rdt l 1024).2.1) else .no (rdt l 1024).2.2
/-- So many numbers, texts, pairs. -/
def rInts : Nat → List UInt8 → Rd (List Int)
  | 0, l => .ok [] l
  | n + 1, l => match rNum 2147483647 l with
    | .no e => .no e
    | .ok k r => (rInts n r).map fun ks => (k : Int) :: ks
def rKV (p : Bool) : Nat → List UInt8 → Rd (List ByteArray × List ByteArray)
  | 0, l => .ok ([], []) l
  | n + 1, l => match rTxt l with
    | .no e => .no e
    | .ok k r => match p with
      | true => match rTxt r with
        | .no e => .no e
        | .ok v r => (rKV p n r).map fun q => (k :: q.1, v :: q.2)
      | false => (rKV p n r).map fun q => (k :: q.1, q.2)
/-- What stands behind the first byte and the number. -/
def rBody (kind m : Nat) (l : List UInt8) : Rd ND :=
  if kind = 1 then match rInts m l with
    | .no e => .no e
    | .ok ks r => (rKV false (m - 1) r).map fun p => ⟨p.1, p.2, ks⟩
  else (rKV true m l).map fun p => ⟨p.1, p.2, []⟩
def rNode0 : List UInt8 → Rd ND
  | [] => .no 20
  | kind :: l => if 1 < kind.toNat then .no 22 else match rNum 12 l with
    | .no e => .no e
    | .ok m r => rBody kind.toNat m r
open Classical in
/-- What is told of it at last. -/
noncomputable def rFin (kind : Nat) : Rd ND → Rd ND
  | .no e => .no e
  | .ok d r => if r ≠ [] then .no 22 else if ¬ NMay d ∨ kind = 1 ∧ d.kids = [] then .no 190 else .ok d r
noncomputable def rNode (l : List UInt8) : Rd ND := rFin (l.headD 0).toNat (rNode0 l)

theorem rNum_ok {most : Nat} {l r : List UInt8} {n : Nat} (h : rNum most l = .ok n r) : n ≤ most ∧ r.length < l.length ∧ rdn l 0 0 = (n, l.length - r.length, 0) ∧ r = l.drop (rdn l 0 0).2.1 := by
  have hok := rdn_ok l
  unfold rNum at h
  obtain ⟨m, k, er, hr⟩ : ∃ m k er, rdn l 0 0 = (m, k, er) := ⟨_, _, _, rfl⟩
  rw [hr] at h hok ⊢
  simp only at h hok ⊢
  split at h <;> rename_i h1
  · subst h1
    have hok' : 0 < k ∧ k ≤ l.length ∧ m < 2 ^ 64 := by rcases hok with h | h <;> omega
    split at h <;> rename_i h2
    · cases h
      have e : l.length - (l.length - k) = k := by omega
      rw [List.length_drop, e]
      exact ⟨h2, by omega, rfl, rfl⟩
    · cases h
  · cases h
theorem rTxt_ok {l r : List UInt8} {s : ByteArray} (h : rTxt l = .ok s r) : s.size ≤ 1024 ∧ r.length < l.length ∧ s = ⟨(rdt l 1024).1.toArray⟩ ∧ (rdt l 1024).2.2 = 0 ∧ r = l.drop (rdt l 1024).2.1 := by
  unfold rTxt at h
  have := rdt_ok l 1024
  split at h <;> rename_i h1
  · cases h
    have e : (⟨(rdt l 1024).1.toArray⟩ : ByteArray).size = (rdt l 1024).1.length := rfl
    refine ⟨by rw [e]; omega, by rw [List.length_drop]; omega, rfl, h1, rfl⟩
  · cases h
theorem rNum_no {most : Nat} {l : List UInt8} {e : Nat} (h : rNum most l = .no e) : e = 20 ∨ e = 22 := by
  unfold rNum at h
  have := rdn_ok l
  split at h <;> rename_i h1
  · split at h <;> cases h; exact .inr rfl
  · cases h; rcases this with h | h; (· exact absurd h.1 h1); (· exact h.1)
theorem rTxt_no {l : List UInt8} {e : Nat} (h : rTxt l = .no e) : e = 20 ∨ e = 22 := by
  unfold rTxt at h
  have := rdt_ok l 1024
  split at h <;> rename_i h1
  · cases h
  · cases h; rcases this with h | h; (· exact absurd h.1 h1); (· exact h.1)

/-! ### The program's reader -/
/-- A panic with an Errno. -/
def Pan (n : Nat) : Ending := .panicked [{ v := .iface 29 (.int .i64 n), recovered := false }]
theorem kept0 {h h' : Heap} {n c B : Nat} {a : Option Addr} {xs : List Value} (x : Sl h 1 a n c xs) (k : Kept B h h') (hb : ∀ p, a = some p → 0 < n → p.block < B) : Sl h' 1 a n c xs := by
  by_cases hn : 0 < n
  · exact x.kept k fun p ep => hb p ep hn
  · exact ⟨x.1, x.2.1, x.2.2.1, fun p ep i hi => by omega⟩
theorem drop_sl {h : Heap} {a : Option Addr} {c k : Nat} {l : List UInt8} (x : Sl h 1 a l.length c (l.map byteV)) (hk : k ≤ l.length) :
    Sl h 1 (a.map fun p => movedTo p c k 1) (l.drop k).length (c - k) ((l.drop k).map byteV) := by
  have := x.slice (i := k) (j := l.length) hk (Nat.le_refl _)
  rw [bytesV_slice, List.take_length] at this
  rw [List.length_drop]; exact this
theorem moved_block (p : Addr) (c k s : Nat) : (movedTo p c k s).block = p.block := by unfold movedTo; split <;> simp [add_block]
def Rdr (h : Heap) (br : Nat) (l : List UInt8) : Prop :=
  ∃ a c, BlkW h br 68 [.slice a l.length c] ∧ Sl h 1 a l.length c (l.map byteV) ∧ ∀ p, a = some p → 0 < l.length → p.block < br
theorem Rdr.ext {h h' : Heap} {br : Nat} {l : List UInt8} (x : Rdr h br l) (k : Ext h h') : Rdr h' br l := by
  obtain ⟨a, c, h1, h2, h3⟩ := x; exact ⟨a, c, h1.ext k, h2.ext k, h3⟩
theorem Rdr.agree {h h' : Heap} {br : Nat} {l : List UInt8} (x : Rdr h br l) (o : Agree (fun b => b ≤ br) h h') (hs : h.size ≤ h'.size) : Rdr h' br l := by
  obtain ⟨a, c, h1, h2, h3⟩ := x
  exact ⟨a, c, h1.of (o _ (Nat.le_refl _)), kept0 h2 (B := br) ⟨hs, fun b hb => o b (by omega)⟩ h3, h3⟩
theorem Rdr.offk {h h' : Heap} {br k : Nat} {l : List UInt8} (x : Rdr h br l) (o : Off k h h') (hk : br < k) : Rdr h' br l :=
  x.agree (fun b hb => o.2 b (by obtain ⟨a, c, h1, _⟩ := x; have := h1.lt; omega) (by omega)) o.1
theorem Rdr.lt {h : Heap} {br : Nat} {l : List UInt8} (x : Rdr h br l) : br < h.size := by obtain ⟨a, c, h1, _⟩ := x; exact h1.lt

theorem step_ok {h : Heap} {br k : Nat} {l : List UInt8} (x : Rdr h br l) (hk : k ≤ l.length) (hl : l.length ≤ 17179869184) :
    HCalls Try.prog 53 #[.pointer (some ⟨br, 0, none⟩), .int .i64 k, .int .i64 0] h fun e h' => e = .returned (.tuple #[]) ∧ Off br h h' ∧ h'.size = h.size ∧ Rdr h' br (l.drop k) := by
  obtain ⟨a, c, ob, sl, hp⟩ := x
  have hc := sl.2.1
  refine c53 (by simp) ?_
  ((conv=>whnf);repeat((first|(with_reducible first|refine Z1 ?_|refine Z2 ?_|refine Z3 ?_|refine Z4 ?_|refine Z5 ?_|refine Z9 (by assumption) rfl ?_|refine ZA (by assumption) rfl ?_|refine ZB (by assumption) rfl ?_|refine Z6 ?_|refine Z7 ?_|refine Z8 ?_)|((with_reducible refine ZM ?_ ?_);(focus rfl)));(conv=>whnf)))
  refine HBound.mk k rfl (by omega) ?_
  ((conv=>whnf);repeat((first|(with_reducible first|refine Z1 ?_|refine Z2 ?_|refine Z3 ?_|refine Z4 ?_|refine Z5 ?_|refine Z9 (by assumption) rfl ?_|refine ZA (by assumption) rfl ?_|refine ZB (by assumption) rfl ?_|refine Z6 ?_|refine Z7 ?_|refine Z8 ?_)|((with_reducible refine ZM ?_ ?_);(focus rfl)));(conv=>whnf)))
  refine store1_blk (o := 0) ob (by simp) rfl ?_
  intro h3 f3 z3 o3
  ((conv=>whnf);repeat((first|(with_reducible first|refine Z1 ?_|refine Z2 ?_|refine Z3 ?_|refine Z4 ?_|refine Z5 ?_|refine Z9 (by assumption) rfl ?_|refine ZA (by assumption) rfl ?_|refine ZB (by assumption) rfl ?_|refine Z6 ?_|refine Z7 ?_|refine Z8 ?_)|((with_reducible refine ZM ?_ ?_);(focus rfl)));(conv=>whnf)))
  have sd := kept0 (drop_sl sl hk) (B := br) (f3.kept (Nat.le_refl _) (by have := ob.lt; omega)) (fun p ep hn => by
    cases a with
    | none => cases ep
    | some q => cases ep; rw [moved_block]; exact hp q rfl (by rw [List.length_drop] at hn; omega))
  refine ⟨rfl, f3, z3, _, _, ?_, sd, ?_⟩
  · rw [List.length_drop]; exact o3
  · intro p ep hn
    cases a with
    | none => cases ep
    | some q => cases ep; rw [moved_block]; exact hp q rfl (by rw [List.length_drop] at hn; omega)
theorem step_no {h : Heap} {br k er : Nat} (he : er ≠ 0) :
    HCalls Try.prog 53 #[.pointer (some ⟨br, 0, none⟩), .int .i64 k, .int .i64 er] h fun e h' => e = Pan er ∧ h' = h := by
  refine c53 (by simp) ?_
  have q : ((er : Int) != 0) = true := by rw [bne_iff_ne]; omega
  ((conv=>whnf);repeat((first|(with_reducible first|refine Z1 ?_|refine Z2 ?_|refine Z3 ?_|refine Z4 ?_|refine Z5 ?_|refine Z9 (by assumption) rfl ?_|refine ZA (by assumption) rfl ?_|refine ZB (by assumption) rfl ?_|refine Z6 ?_|refine Z7 ?_|refine Z8 ?_)|((with_reducible refine ZM ?_ ?_);(focus rfl)));(conv=>whnf)))
  exact ⟨rfl, rfl⟩

theorem numR_spec {h : Heap} {br : Nat} {l : List UInt8} (most : Nat) (hm : most ≤ 2147483647) (x : Rdr h br l) (hl : l.length ≤ 17179869184) :
    HCalls Try.prog 54 #[.pointer (some ⟨br, 0, none⟩), .int .u64 most] h fun e h' => Off br h h' ∧ h'.size = h.size ∧ (∀ k, rNum most l = .no k → e = Pan k) ∧
      (∀ n r, rNum most l = .ok n r → e = .returned (.int .i64 n) ∧ Rdr h' br r) := by
  have x0 := x
  obtain ⟨a, c, ob, sl, hp⟩ := x
  have hok := rdn_ok l
  refine c54 (by simp) ?_
  ((conv=>whnf);repeat((first|(with_reducible first|refine Z1 ?_|refine Z2 ?_|refine Z3 ?_|refine Z4 ?_|refine Z5 ?_|refine Z9 (by assumption) rfl ?_|refine ZA (by assumption) rfl ?_|refine ZB (by assumption) rfl ?_|refine Z6 ?_|refine Z7 ?_|refine Z8 ?_)|((with_reducible refine ZM ?_ ?_);(focus rfl)));(conv=>whnf)))
  refine HCall.mk ((readNum_spec sl (by omega)).mono ?_)
  rintro e h1 ⟨rfl, rfl⟩
  obtain ⟨m, k, er, hr⟩ : ∃ m k er, rdn l 0 0 = (m, k, er) := ⟨_, _, _, rfl⟩
  unfold rNum
  rw [hr] at hok ⊢
  simp only [tup] at hok ⊢
  by_cases he : er = 0
  · subst he
    have hok' : 0 < k ∧ k ≤ l.length ∧ m < 2 ^ 64 := by rcases hok with h | h <;> omega
    rw [if_pos rfl]
    by_cases hmm : m ≤ most
    · rw [if_pos hmm]
      have q : decide ((m : Int) > (most : Int)) = false := decide_eq_false (by omega)
      ((conv=>whnf);repeat((first|(with_reducible first|refine Z1 ?_|refine Z2 ?_|refine Z3 ?_|refine Z4 ?_|refine Z5 ?_|refine Z9 (by assumption) rfl ?_|refine ZA (by assumption) rfl ?_|refine ZB (by assumption) rfl ?_|refine Z6 ?_|refine Z7 ?_|refine Z8 ?_)|((with_reducible refine ZM ?_ ?_);(focus rfl)));(conv=>whnf)))
      refine HCall.mk ((step_ok x0 hok'.2.1 hl).mono ?_)
      rintro e h2 ⟨rfl, f2, z2, r2⟩
      ((conv=>whnf);repeat((first|(with_reducible first|refine Z1 ?_|refine Z2 ?_|refine Z3 ?_|refine Z4 ?_|refine Z5 ?_|refine Z9 (by assumption) rfl ?_|refine ZA (by assumption) rfl ?_|refine ZB (by assumption) rfl ?_|refine Z6 ?_|refine Z7 ?_|refine Z8 ?_)|((with_reducible refine ZM ?_ ?_);(focus rfl)));(conv=>whnf)))
      refine ⟨f2, z2, ?_, ?_⟩
      · intro k' h; cases h
      · intro n r h; cases h; exact ⟨rfl, r2⟩
    · rw [if_neg hmm]
      have q : decide ((m : Int) > (most : Int)) = true := decide_eq_true (by omega)
      ((conv=>whnf);repeat((first|(with_reducible first|refine Z1 ?_|refine Z2 ?_|refine Z3 ?_|refine Z4 ?_|refine Z5 ?_|refine Z9 (by assumption) rfl ?_|refine ZA (by assumption) rfl ?_|refine ZB (by assumption) rfl ?_|refine Z6 ?_|refine Z7 ?_|refine Z8 ?_)|((with_reducible refine ZM ?_ ?_);(focus rfl)));(conv=>whnf)))
      refine HCall.mk ((step_no (er := 22) (by omega)).mono ?_)
      rintro e h2 ⟨rfl, rfl⟩
      ((conv=>whnf);repeat((first|(with_reducible first|refine Z1 ?_|refine Z2 ?_|refine Z3 ?_|refine Z4 ?_|refine Z5 ?_|refine Z9 (by assumption) rfl ?_|refine ZA (by assumption) rfl ?_|refine ZB (by assumption) rfl ?_|refine Z6 ?_|refine Z7 ?_|refine Z8 ?_)|((with_reducible refine ZM ?_ ?_);(focus rfl)));(conv=>whnf)))
      exact ⟨⟨Nat.le_refl _, fun _ _ _ => rfl⟩, rfl, fun k h => by cases h; rfl, fun n r h => by cases h⟩
  · rw [if_neg he]
    have q : ((er : Int) == 0) = false := by rw [beq_eq_false_iff_ne]; omega
    ((conv=>whnf);repeat((first|(with_reducible first|refine Z1 ?_|refine Z2 ?_|refine Z3 ?_|refine Z4 ?_|refine Z5 ?_|refine Z9 (by assumption) rfl ?_|refine ZA (by assumption) rfl ?_|refine ZB (by assumption) rfl ?_|refine Z6 ?_|refine Z7 ?_|refine Z8 ?_)|((with_reducible refine ZM ?_ ?_);(focus rfl)));(conv=>whnf)))
    refine HCall.mk ((step_no (er := er) he).mono ?_)
    rintro e h2 ⟨rfl, rfl⟩
    ((conv=>whnf);repeat((first|(with_reducible first|refine Z1 ?_|refine Z2 ?_|refine Z3 ?_|refine Z4 ?_|refine Z5 ?_|refine Z9 (by assumption) rfl ?_|refine ZA (by assumption) rfl ?_|refine ZB (by assumption) rfl ?_|refine Z6 ?_|refine Z7 ?_|refine Z8 ?_)|((with_reducible refine ZM ?_ ?_);(focus rfl)));(conv=>whnf)))
    exact ⟨⟨Nat.le_refl _, fun _ _ _ => rfl⟩, rfl, fun k h => by cases h; rfl, fun n r h => by cases h⟩

theorem txtR_spec {h : Heap} {br : Nat} {l : List UInt8} (x : Rdr h br l) (hl : l.length ≤ 17179869184) :
    HCalls Try.prog 55 #[.pointer (some ⟨br, 0, none⟩)] h fun e h' => Off br h h' ∧ h'.size = h.size ∧ (∀ k, rTxt l = .no k → e = Pan k) ∧
      (∀ n r, rTxt l = .ok n r → e = .returned (.string n) ∧ Rdr h' br r) := by
  have x0 := x
  obtain ⟨a, c, ob, sl, hp⟩ := x
  have hok := rdt_ok l 1024
  refine c55 (by simp) ?_
  ((conv=>whnf);repeat((first|(with_reducible first|refine Z1 ?_|refine Z2 ?_|refine Z3 ?_|refine Z4 ?_|refine Z5 ?_|refine Z9 (by assumption) rfl ?_|refine ZA (by assumption) rfl ?_|refine ZB (by assumption) rfl ?_|refine Z6 ?_|refine Z7 ?_|refine Z8 ?_)|((with_reducible refine ZM ?_ ?_);(focus rfl)));(conv=>whnf)))
  refine HCall.mk ((readText_spec sl (by omega) 1024 (by omega)).mono ?_)
  rintro e h1 ⟨rfl, rfl⟩
  obtain ⟨m, k, er, hr⟩ : ∃ m k er, rdt l 1024 = (m, k, er) := ⟨_, _, _, rfl⟩
  unfold rTxt
  rw [hr] at hok ⊢
  simp only [tupS] at hok ⊢
  by_cases he : er = 0
  · subst he
    have hok' : k ≤ l.length := by rcases hok with h | h <;> omega
    rw [if_pos rfl]
    ((conv=>whnf);repeat((first|(with_reducible first|refine Z1 ?_|refine Z2 ?_|refine Z3 ?_|refine Z4 ?_|refine Z5 ?_|refine Z9 (by assumption) rfl ?_|refine ZA (by assumption) rfl ?_|refine ZB (by assumption) rfl ?_|refine Z6 ?_|refine Z7 ?_|refine Z8 ?_)|((with_reducible refine ZM ?_ ?_);(focus rfl)));(conv=>whnf)))
    refine HCall.mk ((step_ok x0 hok' hl).mono ?_)
    rintro e h2 ⟨rfl, f2, z2, r2⟩
    ((conv=>whnf);repeat((first|(with_reducible first|refine Z1 ?_|refine Z2 ?_|refine Z3 ?_|refine Z4 ?_|refine Z5 ?_|refine Z9 (by assumption) rfl ?_|refine ZA (by assumption) rfl ?_|refine ZB (by assumption) rfl ?_|refine Z6 ?_|refine Z7 ?_|refine Z8 ?_)|((with_reducible refine ZM ?_ ?_);(focus rfl)));(conv=>whnf)))
    refine ⟨f2, z2, ?_, ?_⟩
    · intro k' h; cases h
    · intro n r h; cases h; exact ⟨rfl, r2⟩
  · rw [if_neg he]
    ((conv=>whnf);repeat((first|(with_reducible first|refine Z1 ?_|refine Z2 ?_|refine Z3 ?_|refine Z4 ?_|refine Z5 ?_|refine Z9 (by assumption) rfl ?_|refine ZA (by assumption) rfl ?_|refine ZB (by assumption) rfl ?_|refine Z6 ?_|refine Z7 ?_|refine Z8 ?_)|((with_reducible refine ZM ?_ ?_);(focus rfl)));(conv=>whnf)))
    refine HCall.mk ((step_no (er := er) he).mono ?_)
    rintro e h2 ⟨rfl, rfl⟩
    ((conv=>whnf);repeat((first|(with_reducible first|refine Z1 ?_|refine Z2 ?_|refine Z3 ?_|refine Z4 ?_|refine Z5 ?_|refine Z9 (by assumption) rfl ?_|refine ZA (by assumption) rfl ?_|refine ZB (by assumption) rfl ?_|refine Z6 ?_|refine Z7 ?_|refine Z8 ?_)|((with_reducible refine ZM ?_ ?_);(focus rfl)));(conv=>whnf)))
    exact ⟨⟨Nat.le_refl _, fun _ _ _ => rfl⟩, rfl, fun k h => by cases h; rfl, fun n r h => by cases h⟩

/-! ### The reference's reader -/
def RdrR (h : Heap) (br : Nat) (l : List UInt8) (er : Nat) : Prop :=
  ∃ a c, BlkW h br 72 [.slice a l.length c, .int .i64 er] ∧ Sl h 1 a l.length c (l.map byteV) ∧ ∀ p, a = some p → 0 < l.length → p.block < br
theorem RdrR.agree {h h' : Heap} {br er : Nat} {l : List UInt8} (x : RdrR h br l er) (o : Agree (fun b => b ≤ br) h h') (hs : h.size ≤ h'.size) : RdrR h' br l er := by
  obtain ⟨a, c, h1, h2, h3⟩ := x
  exact ⟨a, c, h1.of (o _ (Nat.le_refl _)), kept0 h2 (B := br) ⟨hs, fun b hb => o b (by omega)⟩ h3, h3⟩
theorem RdrR.lt {h : Heap} {br er : Nat} {l : List UInt8} (x : RdrR h br l er) : br < h.size := by obtain ⟨a, c, h1, _⟩ := x; exact h1.lt
theorem RdrR.offk {h h' : Heap} {br er k : Nat} {l : List UInt8} (x : RdrR h br l er) (o : Off k h h') (hk : br < k) : RdrR h' br l er :=
  x.agree (fun b hb => o.2 b (by have := x.lt; omega) (by omega)) o.1
theorem RdrR.ext {h h' : Heap} {br er : Nat} {l : List UInt8} (x : RdrR h br l er) (k : Ext h h') : RdrR h' br l er := x.agree (fun b hb => k.2 b (by have := x.lt; omega)) k.1
theorem fail_spec {h : Heap} {br er k : Nat} {l : List UInt8} (x : RdrR h br l er) :
    HCalls Try.prog 43 #[.pointer (some ⟨br, 0, none⟩), .int .i64 k] h fun e h' => e = .returned (.tuple #[]) ∧ Off br h h' ∧ h'.size = h.size ∧ RdrR h' br l (if er = 0 then k else er) := by
  have x0 := x
  obtain ⟨a, c, ob, sl, hp⟩ := x
  refine c43 (by simp) ?_
  by_cases he : er = 0
  · subst he
    rw [if_pos rfl]
    ((conv=>whnf);repeat((first|(with_reducible first|refine Z1 ?_|refine Z2 ?_|refine Z3 ?_|refine Z4 ?_|refine Z5 ?_|refine Z9 (by assumption) rfl ?_|refine ZA (by assumption) rfl ?_|refine ZB (by assumption) rfl ?_|refine Z6 ?_|refine Z7 ?_|refine Z8 ?_)|((with_reducible refine ZM ?_ ?_);(focus rfl)));(conv=>whnf)))
    refine store1_blk (o := 1) ob (by simp) rfl ?_
    intro h3 f3 z3 o3
    ((conv=>whnf);repeat((first|(with_reducible first|refine Z1 ?_|refine Z2 ?_|refine Z3 ?_|refine Z4 ?_|refine Z5 ?_|refine Z9 (by assumption) rfl ?_|refine ZA (by assumption) rfl ?_|refine ZB (by assumption) rfl ?_|refine Z6 ?_|refine Z7 ?_|refine Z8 ?_)|((with_reducible refine ZM ?_ ?_);(focus rfl)));(conv=>whnf)))
    have sd := kept0 sl (B := br) (f3.kept (Nat.le_refl _) (by have := ob.lt; omega)) hp
    exact ⟨rfl, f3, z3, a, c, o3, sd, hp⟩
  · rw [if_neg he]
    have q : ((er : Int) == 0) = false := by rw [beq_eq_false_iff_ne]; omega
    ((conv=>whnf);repeat((first|(with_reducible first|refine Z1 ?_|refine Z2 ?_|refine Z3 ?_|refine Z4 ?_|refine Z5 ?_|refine Z9 (by assumption) rfl ?_|refine ZA (by assumption) rfl ?_|refine ZB (by assumption) rfl ?_|refine Z6 ?_|refine Z7 ?_|refine Z8 ?_)|((with_reducible refine ZM ?_ ?_);(focus rfl)));(conv=>whnf)))
    exact ⟨rfl, ⟨Nat.le_refl _, fun _ _ _ => rfl⟩, rfl, x0⟩
/-- What a piece of the reference's reading leaves. -/
def After {α : Type} (h' : Heap) (br : Nat) (l : List UInt8) (er : Nat) (rd : Rd α) (z : α) (e : Ending) (v : α → Value) : Prop :=
  (er ≠ 0 → RdrR h' br l er ∧ e = .returned (v z)) ∧ (er = 0 → match rd with
    | .no k => k ≠ 0 ∧ RdrR h' br l k ∧ e = .returned (v z)
    | .ok a r => RdrR h' br r 0 ∧ e = .returned (v a))
theorem stepR {h : Heap} {br k : Nat} {l : List UInt8} {a : Option Addr} {c er : Nat} {K : Heap → Prop} (ob : BlkW h br 72 [.slice a l.length c, .int .i64 er]) (sl : Sl h 1 a l.length c (l.map byteV)) (hp : ∀ p, a = some p → 0 < l.length → p.block < br) (hk : k ≤ l.length)
    (kk : ∀ h', Off br h h' → h'.size = h.size → RdrR h' br (l.drop k) er → K h') : HStore h ((⟨br, 0, none⟩ : Addr).add 0) [.slice (a.map fun p => movedTo p c k 1) (l.length - k) (c - k)] K := by
  refine blk_st ob (by simp) rfl ?_
  intro h3 f3 z3 o3
  have sd := kept0 (drop_sl sl hk) (B := br) (f3.kept (Nat.le_refl _) (by have := ob.lt; omega)) (fun p ep hn => by
    cases a with
    | none => cases ep
    | some q => cases ep; rw [moved_block]; exact hp q rfl (by rw [List.length_drop] at hn; omega))
  refine kk h3 f3 z3 ⟨_, _, ?_, sd, ?_⟩
  · rw [List.length_drop]; exact o3
  · intro p ep hn
    cases a with
    | none => cases ep
    | some q => cases ep; rw [moved_block]; exact hp q rfl (by rw [List.length_drop] at hn; omega)

theorem rnumR_spec {h : Heap} {br er0 : Nat} {l : List UInt8} (most : Nat) (hm : most ≤ 2147483647) (x : RdrR h br l er0) (hl : l.length ≤ 17179869184) :
    HCalls Try.prog 57 #[.pointer (some ⟨br, 0, none⟩), .int .u64 most] h fun e h' => Off br h h' ∧ h'.size = h.size ∧ After h' br l er0 (rNum most l) 0 e fun n => .int .i64 n := by
  have x0 := x
  obtain ⟨a, c, ob, sl, hp⟩ := x
  have hc := sl.2.1
  have hok := rdn_ok l
  have hno := @rNum_no most l
  refine c57 (by simp) ?_
  ((conv=>whnf);repeat((first|(with_reducible first|refine Z1 ?_|refine Z2 ?_|refine Z3 ?_|refine Z4 ?_|refine Z5 ?_|refine Z9 (by assumption) rfl ?_|refine ZA (by assumption) rfl ?_|refine ZB (by assumption) rfl ?_|refine Z6 ?_|refine Z7 ?_|refine Z8 ?_)|((with_reducible refine ZM ?_ ?_);(focus rfl)));(conv=>whnf)))
  refine HCall.mk ((rreadNum_spec sl (by omega)).mono ?_)
  rintro e h1 ⟨rfl, rfl⟩
  obtain ⟨m, k, er, hr⟩ : ∃ m k er, rdn l 0 0 = (m, k, er) := ⟨_, _, _, rfl⟩
  unfold rNum at hno ⊢
  rw [hr] at hok hno ⊢
  simp only [tup] at hok hno ⊢
  by_cases he : er = 0
  · subst he
    have hok' : 0 < k ∧ k ≤ l.length ∧ m < 2 ^ 64 := by rcases hok with h | h <;> omega
    rw [if_pos rfl] at hno ⊢
    by_cases hmm : m ≤ most
    · rw [if_pos hmm]
      have q : decide ((m : Int) > (most : Int)) = false := decide_eq_false (by omega)
      by_cases h0 : er0 = 0
      · subst h0
        ((conv=>whnf);repeat((first|(with_reducible first|refine Z1 ?_|refine Z2 ?_|refine Z3 ?_|refine Z4 ?_|refine Z5 ?_|refine Z9 (by assumption) rfl ?_|refine ZA (by assumption) rfl ?_|refine ZB (by assumption) rfl ?_|refine Z6 ?_|refine Z7 ?_|refine Z8 ?_)|((with_reducible refine ZM ?_ ?_);(focus rfl)));(conv=>whnf)))
        refine HBound.mk k rfl (by omega) ?_
        ((conv=>whnf);repeat((first|(with_reducible first|refine Z1 ?_|refine Z2 ?_|refine Z3 ?_|refine Z4 ?_|refine Z5 ?_|refine Z9 (by assumption) rfl ?_|refine ZA (by assumption) rfl ?_|refine ZB (by assumption) rfl ?_|refine Z6 ?_|refine Z7 ?_|refine Z8 ?_)|((with_reducible refine ZM ?_ ?_);(focus rfl)));(conv=>whnf)))
        refine stepR ob sl hp hok'.2.1 fun h2 f2 z2 r2 => ?_
        ((conv=>whnf);repeat((first|(with_reducible first|refine Z1 ?_|refine Z2 ?_|refine Z3 ?_|refine Z4 ?_|refine Z5 ?_|refine Z9 (by assumption) rfl ?_|refine ZA (by assumption) rfl ?_|refine ZB (by assumption) rfl ?_|refine Z6 ?_|refine Z7 ?_|refine Z8 ?_)|((with_reducible refine ZM ?_ ?_);(focus rfl)));(conv=>whnf)))
        exact ⟨f2, z2, fun h => absurd rfl h, fun _ => ⟨r2, rfl⟩⟩
      · have q2 : ((er0 : Int) != 0) = true := by rw [bne_iff_ne]; omega
        ((conv=>whnf);repeat((first|(with_reducible first|refine Z1 ?_|refine Z2 ?_|refine Z3 ?_|refine Z4 ?_|refine Z5 ?_|refine Z9 (by assumption) rfl ?_|refine ZA (by assumption) rfl ?_|refine ZB (by assumption) rfl ?_|refine Z6 ?_|refine Z7 ?_|refine Z8 ?_)|((with_reducible refine ZM ?_ ?_);(focus rfl)));(conv=>whnf)))
        refine HCall.mk ((fail_spec (k := 0) x0).mono ?_)
        rintro e h2 ⟨rfl, f2, z2, r2⟩
        rw [if_neg h0] at r2
        ((conv=>whnf);repeat((first|(with_reducible first|refine Z1 ?_|refine Z2 ?_|refine Z3 ?_|refine Z4 ?_|refine Z5 ?_|refine Z9 (by assumption) rfl ?_|refine ZA (by assumption) rfl ?_|refine ZB (by assumption) rfl ?_|refine Z6 ?_|refine Z7 ?_|refine Z8 ?_)|((with_reducible refine ZM ?_ ?_);(focus rfl)));(conv=>whnf)))
        exact ⟨f2, z2, fun _ => ⟨r2, rfl⟩, fun h => absurd h h0⟩
    · rw [if_neg hmm]
      have q : decide ((m : Int) > (most : Int)) = true := decide_eq_true (by omega)
      by_cases h0 : er0 = 0
      · subst h0
        ((conv=>whnf);repeat((first|(with_reducible first|refine Z1 ?_|refine Z2 ?_|refine Z3 ?_|refine Z4 ?_|refine Z5 ?_|refine Z9 (by assumption) rfl ?_|refine ZA (by assumption) rfl ?_|refine ZB (by assumption) rfl ?_|refine Z6 ?_|refine Z7 ?_|refine Z8 ?_)|((with_reducible refine ZM ?_ ?_);(focus rfl)));(conv=>whnf)))
        refine HCall.mk ((fail_spec (k := 22) x0).mono ?_)
        rintro e h2 ⟨rfl, f2, z2, r2⟩
        ((conv=>whnf);repeat((first|(with_reducible first|refine Z1 ?_|refine Z2 ?_|refine Z3 ?_|refine Z4 ?_|refine Z5 ?_|refine Z9 (by assumption) rfl ?_|refine ZA (by assumption) rfl ?_|refine ZB (by assumption) rfl ?_|refine Z6 ?_|refine Z7 ?_|refine Z8 ?_)|((with_reducible refine ZM ?_ ?_);(focus rfl)));(conv=>whnf)))
        exact ⟨f2, z2, fun h => absurd rfl h, fun _ => ⟨by omega, r2, rfl⟩⟩
      · have q2 : ((er0 : Int) != 0) = true := by rw [bne_iff_ne]; omega
        ((conv=>whnf);repeat((first|(with_reducible first|refine Z1 ?_|refine Z2 ?_|refine Z3 ?_|refine Z4 ?_|refine Z5 ?_|refine Z9 (by assumption) rfl ?_|refine ZA (by assumption) rfl ?_|refine ZB (by assumption) rfl ?_|refine Z6 ?_|refine Z7 ?_|refine Z8 ?_)|((with_reducible refine ZM ?_ ?_);(focus rfl)));(conv=>whnf)))
        refine HCall.mk ((fail_spec (k := 22) x0).mono ?_)
        rintro e h2 ⟨rfl, f2, z2, r2⟩
        rw [if_neg h0] at r2
        ((conv=>whnf);repeat((first|(with_reducible first|refine Z1 ?_|refine Z2 ?_|refine Z3 ?_|refine Z4 ?_|refine Z5 ?_|refine Z9 (by assumption) rfl ?_|refine ZA (by assumption) rfl ?_|refine ZB (by assumption) rfl ?_|refine Z6 ?_|refine Z7 ?_|refine Z8 ?_)|((with_reducible refine ZM ?_ ?_);(focus rfl)));(conv=>whnf)))
        exact ⟨f2, z2, fun _ => ⟨r2, rfl⟩, fun h => absurd h h0⟩
  · rw [if_neg he]
    have q : ((er : Int) == 0) = false := by rw [beq_eq_false_iff_ne]; omega
    have q3 : ((er : Int) != 0) = true := by rw [bne_iff_ne]; omega
    by_cases h0 : er0 = 0
    · subst h0
      ((conv=>whnf);repeat((first|(with_reducible first|refine Z1 ?_|refine Z2 ?_|refine Z3 ?_|refine Z4 ?_|refine Z5 ?_|refine Z9 (by assumption) rfl ?_|refine ZA (by assumption) rfl ?_|refine ZB (by assumption) rfl ?_|refine Z6 ?_|refine Z7 ?_|refine Z8 ?_)|((with_reducible refine ZM ?_ ?_);(focus rfl)));(conv=>whnf)))
      refine HCall.mk ((fail_spec (k := er) x0).mono ?_)
      rintro e h2 ⟨rfl, f2, z2, r2⟩
      ((conv=>whnf);repeat((first|(with_reducible first|refine Z1 ?_|refine Z2 ?_|refine Z3 ?_|refine Z4 ?_|refine Z5 ?_|refine Z9 (by assumption) rfl ?_|refine ZA (by assumption) rfl ?_|refine ZB (by assumption) rfl ?_|refine Z6 ?_|refine Z7 ?_|refine Z8 ?_)|((with_reducible refine ZM ?_ ?_);(focus rfl)));(conv=>whnf)))
      exact ⟨f2, z2, fun h => absurd rfl h, fun _ => ⟨he, r2, rfl⟩⟩
    · have q2 : ((er0 : Int) != 0) = true := by rw [bne_iff_ne]; omega
      ((conv=>whnf);repeat((first|(with_reducible first|refine Z1 ?_|refine Z2 ?_|refine Z3 ?_|refine Z4 ?_|refine Z5 ?_|refine Z9 (by assumption) rfl ?_|refine ZA (by assumption) rfl ?_|refine ZB (by assumption) rfl ?_|refine Z6 ?_|refine Z7 ?_|refine Z8 ?_)|((with_reducible refine ZM ?_ ?_);(focus rfl)));(conv=>whnf)))
      refine HCall.mk ((fail_spec (k := er) x0).mono ?_)
      rintro e h2 ⟨rfl, f2, z2, r2⟩
      rw [if_neg h0] at r2
      ((conv=>whnf);repeat((first|(with_reducible first|refine Z1 ?_|refine Z2 ?_|refine Z3 ?_|refine Z4 ?_|refine Z5 ?_|refine Z9 (by assumption) rfl ?_|refine ZA (by assumption) rfl ?_|refine ZB (by assumption) rfl ?_|refine Z6 ?_|refine Z7 ?_|refine Z8 ?_)|((with_reducible refine ZM ?_ ?_);(focus rfl)));(conv=>whnf)))
      exact ⟨f2, z2, fun _ => ⟨r2, rfl⟩, fun h => absurd h h0⟩

theorem rtxtR_spec {h : Heap} {br er0 : Nat} {l : List UInt8} (x : RdrR h br l er0) (hl : l.length ≤ 17179869184) :
    HCalls Try.prog 58 #[.pointer (some ⟨br, 0, none⟩)] h fun e h' => Off br h h' ∧ h'.size = h.size ∧ After h' br l er0 (rTxt l) ⟨#[]⟩ e fun n => .string n := by
  have x0 := x
  obtain ⟨a, c, ob, sl, hp⟩ := x
  have hc := sl.2.1
  have hok := rdt_ok l 1024
  refine c58 (by simp) ?_
  ((conv=>whnf);repeat((first|(with_reducible first|refine Z1 ?_|refine Z2 ?_|refine Z3 ?_|refine Z4 ?_|refine Z5 ?_|refine Z9 (by assumption) rfl ?_|refine ZA (by assumption) rfl ?_|refine ZB (by assumption) rfl ?_|refine Z6 ?_|refine Z7 ?_|refine Z8 ?_)|((with_reducible refine ZM ?_ ?_);(focus rfl)));(conv=>whnf)))
  refine HCall.mk ((rreadText_spec sl (by omega) 1024 (by omega)).mono ?_)
  rintro e h1 ⟨rfl, rfl⟩
  obtain ⟨m, k, er, hr⟩ : ∃ m k er, rdt l 1024 = (m, k, er) := ⟨_, _, _, rfl⟩
  unfold rTxt
  rw [hr] at hok ⊢
  simp only [tupS] at hok ⊢
  by_cases he : er = 0
  · subst he
    have hok' : k ≤ l.length := by rcases hok with h | h <;> omega
    rw [if_pos rfl]
    by_cases h0 : er0 = 0
    · subst h0
      ((conv=>whnf);repeat((first|(with_reducible first|refine Z1 ?_|refine Z2 ?_|refine Z3 ?_|refine Z4 ?_|refine Z5 ?_|refine Z9 (by assumption) rfl ?_|refine ZA (by assumption) rfl ?_|refine ZB (by assumption) rfl ?_|refine Z6 ?_|refine Z7 ?_|refine Z8 ?_)|((with_reducible refine ZM ?_ ?_);(focus rfl)));(conv=>whnf)))
      refine HBound.mk k rfl (by omega) ?_
      ((conv=>whnf);repeat((first|(with_reducible first|refine Z1 ?_|refine Z2 ?_|refine Z3 ?_|refine Z4 ?_|refine Z5 ?_|refine Z9 (by assumption) rfl ?_|refine ZA (by assumption) rfl ?_|refine ZB (by assumption) rfl ?_|refine Z6 ?_|refine Z7 ?_|refine Z8 ?_)|((with_reducible refine ZM ?_ ?_);(focus rfl)));(conv=>whnf)))
      refine stepR ob sl hp hok' fun h2 f2 z2 r2 => ?_
      ((conv=>whnf);repeat((first|(with_reducible first|refine Z1 ?_|refine Z2 ?_|refine Z3 ?_|refine Z4 ?_|refine Z5 ?_|refine Z9 (by assumption) rfl ?_|refine ZA (by assumption) rfl ?_|refine ZB (by assumption) rfl ?_|refine Z6 ?_|refine Z7 ?_|refine Z8 ?_)|((with_reducible refine ZM ?_ ?_);(focus rfl)));(conv=>whnf)))
      exact ⟨f2, z2, fun h => absurd rfl h, fun _ => ⟨r2, rfl⟩⟩
    · have q2 : ((er0 : Int) != 0) = true := by rw [bne_iff_ne]; omega
      ((conv=>whnf);repeat((first|(with_reducible first|refine Z1 ?_|refine Z2 ?_|refine Z3 ?_|refine Z4 ?_|refine Z5 ?_|refine Z9 (by assumption) rfl ?_|refine ZA (by assumption) rfl ?_|refine ZB (by assumption) rfl ?_|refine Z6 ?_|refine Z7 ?_|refine Z8 ?_)|((with_reducible refine ZM ?_ ?_);(focus rfl)));(conv=>whnf)))
      refine HCall.mk ((fail_spec (k := 0) x0).mono ?_)
      rintro e h2 ⟨rfl, f2, z2, r2⟩
      rw [if_neg h0] at r2
      ((conv=>whnf);repeat((first|(with_reducible first|refine Z1 ?_|refine Z2 ?_|refine Z3 ?_|refine Z4 ?_|refine Z5 ?_|refine Z9 (by assumption) rfl ?_|refine ZA (by assumption) rfl ?_|refine ZB (by assumption) rfl ?_|refine Z6 ?_|refine Z7 ?_|refine Z8 ?_)|((with_reducible refine ZM ?_ ?_);(focus rfl)));(conv=>whnf)))
      exact ⟨f2, z2, fun _ => ⟨r2, rfl⟩, fun h => absurd h h0⟩
  · rw [if_neg he]
    have q3 : ((er : Int) != 0) = true := by rw [bne_iff_ne]; omega
    by_cases h0 : er0 = 0
    · subst h0
      ((conv=>whnf);repeat((first|(with_reducible first|refine Z1 ?_|refine Z2 ?_|refine Z3 ?_|refine Z4 ?_|refine Z5 ?_|refine Z9 (by assumption) rfl ?_|refine ZA (by assumption) rfl ?_|refine ZB (by assumption) rfl ?_|refine Z6 ?_|refine Z7 ?_|refine Z8 ?_)|((with_reducible refine ZM ?_ ?_);(focus rfl)));(conv=>whnf)))
      refine HCall.mk ((fail_spec (k := er) x0).mono ?_)
      rintro e h2 ⟨rfl, f2, z2, r2⟩
      ((conv=>whnf);repeat((first|(with_reducible first|refine Z1 ?_|refine Z2 ?_|refine Z3 ?_|refine Z4 ?_|refine Z5 ?_|refine Z9 (by assumption) rfl ?_|refine ZA (by assumption) rfl ?_|refine ZB (by assumption) rfl ?_|refine Z6 ?_|refine Z7 ?_|refine Z8 ?_)|((with_reducible refine ZM ?_ ?_);(focus rfl)));(conv=>whnf)))
      exact ⟨f2, z2, fun h => absurd rfl h, fun _ => ⟨he, r2, rfl⟩⟩
    · have q2 : ((er0 : Int) != 0) = true := by rw [bne_iff_ne]; omega
      ((conv=>whnf);repeat((first|(with_reducible first|refine Z1 ?_|refine Z2 ?_|refine Z3 ?_|refine Z4 ?_|refine Z5 ?_|refine Z9 (by assumption) rfl ?_|refine ZA (by assumption) rfl ?_|refine ZB (by assumption) rfl ?_|refine Z6 ?_|refine Z7 ?_|refine Z8 ?_)|((with_reducible refine ZM ?_ ?_);(focus rfl)));(conv=>whnf)))
      refine HCall.mk ((fail_spec (k := er) x0).mono ?_)
      rintro e h2 ⟨rfl, f2, z2, r2⟩
      rw [if_neg h0] at r2
      ((conv=>whnf);repeat((first|(with_reducible first|refine Z1 ?_|refine Z2 ?_|refine Z3 ?_|refine Z4 ?_|refine Z5 ?_|refine Z9 (by assumption) rfl ?_|refine ZA (by assumption) rfl ?_|refine ZB (by assumption) rfl ?_|refine Z6 ?_|refine Z7 ?_|refine Z8 ?_)|((with_reducible refine ZM ?_ ?_);(focus rfl)));(conv=>whnf)))
      exact ⟨f2, z2, fun _ => ⟨r2, rfl⟩, fun h => absurd h h0⟩

end Go.Proofs.Ythagjflkdoafmaa.Hc
