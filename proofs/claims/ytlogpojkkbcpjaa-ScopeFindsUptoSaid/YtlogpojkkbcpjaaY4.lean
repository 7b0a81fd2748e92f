/- What a kind of node has: tree.of, tree.statement (printed by tools/t8.py). -/
import Derived.Test.YtlogpojkkbcpjaaY3
set_option linter.unusedVariables false
set_option linter.unusedSimpArgs false
namespace Go.Proofs.Ytlogpojkkbcpjaa.Hc
open Go Go.H Go.Proofs
set_option maxRecDepth 100000
set_option maxHeartbeats 8000000
structure Form where
  name : ByteArray
  num : Int
  text : Bool
  names : Bool
  l : ByteArray
def Form.cells (f : Form) : List Value := [.string f.name, .int .i64 f.num, .bool f.text, .bool f.names, .string f.l]
abbrev zeroF : List Value := [.string ⟨#[]⟩, .int .i64 0, .bool false, .bool false, .string ⟨#[]⟩]
def stmtOf (k : Int) (n : Nat) : Option Form :=
  if k = 22 then some ⟨⟨#[]⟩, 0, false, false, ⟨#[100, 42, 100]⟩⟩ else
  if k = 23 then some ⟨⟨#[110]⟩, 0, false, false, (if n = 0 then ⟨#[]⟩ else ⟨#[101]⟩)⟩ else
  if k = 24 then some ⟨⟨#[]⟩, 0, false, false, ⟨#[101]⟩⟩ else
  if k = 25 then some ⟨⟨#[]⟩, 0, false, false, ⟨#[42, 115]⟩⟩ else
  if k = 26 then some ⟨⟨#[]⟩, 0, false, false, (if n ≤ 2 then ⟨#[101, 98]⟩ else ⟨#[101, 98, 98]⟩)⟩ else
  if k = 27 then some ⟨⟨#[]⟩, 0, false, false, ⟨#[101, 98]⟩⟩ else
  if k = 28 then some ⟨⟨#[]⟩, 0, false, false, ⟨#[98, 101]⟩⟩ else
  if k = 29 then some ⟨⟨#[]⟩, 0, false, false, ⟨#[118, 102, 102, 98]⟩⟩ else
  if k = 30 then some ⟨⟨#[]⟩, 0, false, false, ⟨#[119, 101, 98]⟩⟩ else
  if k = 31 then some ⟨⟨#[109]⟩, 0, false, false, ⟨#[]⟩⟩ else
  if k = 32 then some ⟨⟨#[109]⟩, 0, false, false, ⟨#[]⟩⟩ else
  if k = 33 then some ⟨⟨#[]⟩, 0, false, false, (if n = 0 then ⟨#[]⟩ else ⟨#[101]⟩)⟩ else
  if k = 34 then some ⟨⟨#[]⟩, 0, false, false, ⟨#[101]⟩⟩ else
  if k = 35 then some ⟨⟨#[99]⟩, 0, false, false, ⟨#[98, 99, 99]⟩⟩ else
  if k = 36 then some ⟨⟨#[]⟩, 0, false, false, ⟨#[101, 42, 107]⟩⟩ else
  if k = 37 then some ⟨⟨#[]⟩, 0, false, false, ⟨#[102, 42, 115]⟩⟩ else
  if k = 38 then some ⟨⟨#[110]⟩, 0, false, false, ⟨#[115]⟩⟩ else
  if k = 39 then some ⟨⟨#[110]⟩, 0, false, true, ⟨#[42, 120]⟩⟩ else
  if k = 41 then some ⟨⟨#[]⟩, 0, false, false, ⟨#[42, 120]⟩⟩ else
  none
def formOf (k : Int) (n : Nat) : Option Form :=
  if k = 1 then some ⟨⟨#[]⟩, 9007199254740991, false, false, ⟨#[]⟩⟩ else
  if k = 2 then some ⟨⟨#[]⟩, 0, true, false, ⟨#[]⟩⟩ else
  if k = 3 then some ⟨⟨#[110]⟩, 0, false, false, ⟨#[]⟩⟩ else
  if k = 4 then some ⟨⟨#[]⟩, 0, false, false, ⟨#[]⟩⟩ else
  if k = 5 then some ⟨⟨#[]⟩, 0, false, false, ⟨#[]⟩⟩ else
  if k = 6 then some ⟨⟨#[]⟩, 1, false, false, ⟨#[]⟩⟩ else
  if k = 7 then some ⟨⟨#[]⟩, 0, false, false, ⟨#[42, 101]⟩⟩ else
  if k = 8 then some ⟨⟨#[]⟩, 0, false, false, ⟨#[42, 112]⟩⟩ else
  if k = 9 then some ⟨⟨#[]⟩, 0, true, false, ⟨#[101]⟩⟩ else
  if k = 10 then some ⟨⟨#[109]⟩, 0, false, true, ⟨#[42, 120]⟩⟩ else
  if k = 11 then some ⟨⟨#[105]⟩, 0, false, false, ⟨#[101]⟩⟩ else
  if k = 12 then some ⟨⟨#[]⟩, 0, false, false, ⟨#[101, 101]⟩⟩ else
  if k = 13 then some ⟨⟨#[]⟩, 0, false, false, ⟨#[101, 42, 101]⟩⟩ else
  if k = 14 then some ⟨⟨#[]⟩, 0, false, false, ⟨#[101, 42, 101]⟩⟩ else
  if k = 15 then some ⟨⟨#[32, 45, 32, 43, 32, 33, 32, 116, 121, 112, 101, 111, 102, 32, 100, 101, 108, 101, 116, 101, 32, 118, 111, 105, 100, 32]⟩, 0, false, false, ⟨#[101]⟩⟩ else
  if k = 16 then some ⟨⟨#[32, 43, 43, 32, 45, 45, 32]⟩, 1, false, false, ⟨#[116]⟩⟩ else
  if k = 17 then some ⟨⟨#[32, 43, 32, 45, 32, 42, 32, 47, 32, 37, 32, 60, 32, 62, 32, 60, 61, 32, 62, 61, 32, 61, 61, 32, 33, 61, 32, 61, 61, 61, 32, 33, 61, 61, 32, 105, 110, 32, 105, 110, 115, 116, 97, 110, 99, 101, 111, 102, 32]⟩, 0, false, false, ⟨#[101, 101]⟩⟩ else
  if k = 18 then some ⟨⟨#[32, 38, 38, 32, 124, 124, 32]⟩, 0, false, false, ⟨#[101, 101]⟩⟩ else
  if k = 19 then some ⟨⟨#[]⟩, 0, false, false, ⟨#[101, 101, 101]⟩⟩ else
  if k = 20 then some ⟨⟨#[32, 61, 32, 43, 61, 32, 45, 61, 32, 42, 61, 32, 47, 61, 32, 37, 61, 32]⟩, 0, false, false, ⟨#[116, 101]⟩⟩ else
  if k = 21 then some ⟨⟨#[]⟩, 0, false, false, ⟨#[101, 101]⟩⟩ else
  if k = 40 then some ⟨⟨#[]⟩, 0, false, false, ⟨#[]⟩⟩ else
  if k = 42 then some ⟨⟨#[]⟩, 0, false, false, ⟨#[]⟩⟩ else
  stmtOf k n
theorem stmt_spec {h : Heap} {d : NT} {cs : List Value} (r : TRep h d cs) : HCalls Try.prog 66 #[.agg cs.toArray] h fun e h' => (∃ v, e = .returned (.tuple #[.agg (v : List Value).toArray, .bool (stmtOf d.kind d.l.length).isSome]) ∧ (v.length = 5 ∧ (∀ x ∈ v, isOne x = true)) ∧ ∀ f, stmtOf d.kind d.l.length = some f → v = f.cells) ∧ Ext h h' := by
  cases d with
  | mk k nm n t ns l =>
  simp only [TRep] at r
  have r0 := r
  obtain ⟨b1, b2, b3, b4, b5, b6, b7, ka, kc, la, lc, ys, rfl, s1, s2, s3⟩ := r
  show HCalls Try.prog 66 _ h fun e h' => (∃ v, e = .returned (.tuple #[.agg (v : List Value).toArray, .bool (stmtOf k l.length).isSome]) ∧ (v.length = 5 ∧ (∀ x ∈ v, isOne x = true)) ∧ ∀ f, stmtOf k l.length = some f → v = f.cells) ∧ Ext h h'
  refine c66 (by simp) ?_
  ((conv=>whnf);repeat((first|(with_reducible first|refine Z1 ?_|refine Z2 ?_|refine Z3 ?_|refine Z4 ?_|refine Z5 ?_|refine Z9 (by assumption) rfl ?_|refine ZA (by assumption) rfl ?_|refine ZB (by assumption) rfl ?_|refine Z6 ?_|refine Z7 ?_|refine Z8 ?_)|((with_reducible refine ZM ?_ ?_);(focus rfl)));(conv=>whnf)))
  refine new_var (e := 26) [.int .i64 k, .string nm, .int .i64 n, .string t, .slice ka ns.length kc, .slice la l.length lc] rfl ?_
  intro h1 bn o1 x1 z1 hbn
  ((conv=>whnf);repeat((first|(with_reducible first|refine Z1 ?_|refine Z2 ?_|refine Z3 ?_|refine Z4 ?_|refine Z5 ?_|refine Z9 (by assumption) rfl ?_|refine ZA (by assumption) rfl ?_|refine ZB (by assumption) rfl ?_|refine Z6 ?_|refine Z7 ?_|refine Z8 ?_)|((with_reducible refine ZM ?_ ?_);(focus rfl)));(conv=>whnf)))
  refine new_var (e := 58) zeroF rfl ?_
  intro h2 bf o2 x2 z2 hbf
  have o12 := o1.ext x2
  have x02 := x1.trans x2
  have hh1 := x1.1
  have hbn1 : bn < h1.size := o1.lt
  clear o1
  by_cases hk22 : k = 22
  · subst hk22
    ((conv=>whnf);repeat((first|(with_reducible first|refine Z1 ?_|refine Z2 ?_|refine Z3 ?_|refine Z4 ?_|refine Z5 ?_|refine Z9 (by assumption) rfl ?_|refine ZA (by assumption) rfl ?_|refine ZB (by assumption) rfl ?_|refine Z6 ?_|refine Z7 ?_|refine Z8 ?_)|((with_reducible refine ZM ?_ ?_);(focus rfl)));(conv=>whnf)))
    refine blk_st (o := 4) o2 (by simp) rfl ?_
    intro h3 f3 z3 o3
    replace o3 : BlkW h3 bf 58 [.string ⟨#[]⟩, .int .i64 0, .bool false, .bool false, .string ⟨#[100, 42, 100]⟩] := o3
    have x3 := x02.offNew f3 (by omega)
    clear o2
    ((conv=>whnf);repeat((first|(with_reducible first|refine Z1 ?_|refine Z2 ?_|refine Z3 ?_|refine Z4 ?_|refine Z5 ?_|refine Z9 (by assumption) rfl ?_|refine ZA (by assumption) rfl ?_|refine ZB (by assumption) rfl ?_|refine Z6 ?_|refine Z7 ?_|refine Z8 ?_)|((with_reducible refine ZM ?_ ?_);(focus rfl)));(conv=>whnf)))
    refine store_blk o3 (by simp) (by simp [isOne]) ?_
    intro h4 f4 z4 o4
    replace o4 : BlkW h4 bf 58 [.string ⟨#[]⟩, .int .i64 0, .bool false, .bool false, .string ⟨#[100, 42, 100]⟩] := by simpa using o4
    clear o3
    ((conv=>whnf);repeat((first|(with_reducible first|refine Z1 ?_|refine Z2 ?_|refine Z3 ?_|refine Z4 ?_|refine Z5 ?_|refine Z9 (by assumption) rfl ?_|refine ZA (by assumption) rfl ?_|refine ZB (by assumption) rfl ?_|refine Z6 ?_|refine Z7 ?_|refine Z8 ?_)|((with_reducible refine ZM ?_ ?_);(focus rfl)));(conv=>whnf)))
    exact ⟨⟨[.string ⟨#[]⟩, .int .i64 0, .bool false, .bool false, .string ⟨#[100, 42, 100]⟩], rfl, ⟨rfl, by simp [isOne]⟩, fun f hf => by cases hf; rfl⟩, x3.offNew f4 (by omega)⟩
  by_cases hk24 : k = 24
  · subst hk24
    ((conv=>whnf);repeat((first|(with_reducible first|refine Z1 ?_|refine Z2 ?_|refine Z3 ?_|refine Z4 ?_|refine Z5 ?_|refine Z9 (by assumption) rfl ?_|refine ZA (by assumption) rfl ?_|refine ZB (by assumption) rfl ?_|refine Z6 ?_|refine Z7 ?_|refine Z8 ?_)|((with_reducible refine ZM ?_ ?_);(focus rfl)));(conv=>whnf)))
    refine blk_st (o := 4) o2 (by simp) rfl ?_
    intro h3 f3 z3 o3
    replace o3 : BlkW h3 bf 58 [.string ⟨#[]⟩, .int .i64 0, .bool false, .bool false, .string ⟨#[101]⟩] := o3
    have x3 := x02.offNew f3 (by omega)
    clear o2
    ((conv=>whnf);repeat((first|(with_reducible first|refine Z1 ?_|refine Z2 ?_|refine Z3 ?_|refine Z4 ?_|refine Z5 ?_|refine Z9 (by assumption) rfl ?_|refine ZA (by assumption) rfl ?_|refine ZB (by assumption) rfl ?_|refine Z6 ?_|refine Z7 ?_|refine Z8 ?_)|((with_reducible refine ZM ?_ ?_);(focus rfl)));(conv=>whnf)))
    refine store_blk o3 (by simp) (by simp [isOne]) ?_
    intro h4 f4 z4 o4
    replace o4 : BlkW h4 bf 58 [.string ⟨#[]⟩, .int .i64 0, .bool false, .bool false, .string ⟨#[101]⟩] := by simpa using o4
    clear o3
    ((conv=>whnf);repeat((first|(with_reducible first|refine Z1 ?_|refine Z2 ?_|refine Z3 ?_|refine Z4 ?_|refine Z5 ?_|refine Z9 (by assumption) rfl ?_|refine ZA (by assumption) rfl ?_|refine ZB (by assumption) rfl ?_|refine Z6 ?_|refine Z7 ?_|refine Z8 ?_)|((with_reducible refine ZM ?_ ?_);(focus rfl)));(conv=>whnf)))
    exact ⟨⟨[.string ⟨#[]⟩, .int .i64 0, .bool false, .bool false, .string ⟨#[101]⟩], rfl, ⟨rfl, by simp [isOne]⟩, fun f hf => by cases hf; rfl⟩, x3.offNew f4 (by omega)⟩
  by_cases hk25 : k = 25
  · subst hk25
    ((conv=>whnf);repeat((first|(with_reducible first|refine Z1 ?_|refine Z2 ?_|refine Z3 ?_|refine Z4 ?_|refine Z5 ?_|refine Z9 (by assumption) rfl ?_|refine ZA (by assumption) rfl ?_|refine ZB (by assumption) rfl ?_|refine Z6 ?_|refine Z7 ?_|refine Z8 ?_)|((with_reducible refine ZM ?_ ?_);(focus rfl)));(conv=>whnf)))
    refine blk_st (o := 4) o2 (by simp) rfl ?_
    intro h3 f3 z3 o3
    replace o3 : BlkW h3 bf 58 [.string ⟨#[]⟩, .int .i64 0, .bool false, .bool false, .string ⟨#[42, 115]⟩] := o3
    have x3 := x02.offNew f3 (by omega)
    clear o2
    ((conv=>whnf);repeat((first|(with_reducible first|refine Z1 ?_|refine Z2 ?_|refine Z3 ?_|refine Z4 ?_|refine Z5 ?_|refine Z9 (by assumption) rfl ?_|refine ZA (by assumption) rfl ?_|refine ZB (by assumption) rfl ?_|refine Z6 ?_|refine Z7 ?_|refine Z8 ?_)|((with_reducible refine ZM ?_ ?_);(focus rfl)));(conv=>whnf)))
    refine store_blk o3 (by simp) (by simp [isOne]) ?_
    intro h4 f4 z4 o4
    replace o4 : BlkW h4 bf 58 [.string ⟨#[]⟩, .int .i64 0, .bool false, .bool false, .string ⟨#[42, 115]⟩] := by simpa using o4
    clear o3
    ((conv=>whnf);repeat((first|(with_reducible first|refine Z1 ?_|refine Z2 ?_|refine Z3 ?_|refine Z4 ?_|refine Z5 ?_|refine Z9 (by assumption) rfl ?_|refine ZA (by assumption) rfl ?_|refine ZB (by assumption) rfl ?_|refine Z6 ?_|refine Z7 ?_|refine Z8 ?_)|((with_reducible refine ZM ?_ ?_);(focus rfl)));(conv=>whnf)))
    exact ⟨⟨[.string ⟨#[]⟩, .int .i64 0, .bool false, .bool false, .string ⟨#[42, 115]⟩], rfl, ⟨rfl, by simp [isOne]⟩, fun f hf => by cases hf; rfl⟩, x3.offNew f4 (by omega)⟩
  by_cases hk27 : k = 27
  · subst hk27
    ((conv=>whnf);repeat((first|(with_reducible first|refine Z1 ?_|refine Z2 ?_|refine Z3 ?_|refine Z4 ?_|refine Z5 ?_|refine Z9 (by assumption) rfl ?_|refine ZA (by assumption) rfl ?_|refine ZB (by assumption) rfl ?_|refine Z6 ?_|refine Z7 ?_|refine Z8 ?_)|((with_reducible refine ZM ?_ ?_);(focus rfl)));(conv=>whnf)))
    refine blk_st (o := 4) o2 (by simp) rfl ?_
    intro h3 f3 z3 o3
    replace o3 : BlkW h3 bf 58 [.string ⟨#[]⟩, .int .i64 0, .bool false, .bool false, .string ⟨#[101, 98]⟩] := o3
    have x3 := x02.offNew f3 (by omega)
    clear o2
    ((conv=>whnf);repeat((first|(with_reducible first|refine Z1 ?_|refine Z2 ?_|refine Z3 ?_|refine Z4 ?_|refine Z5 ?_|refine Z9 (by assumption) rfl ?_|refine ZA (by assumption) rfl ?_|refine ZB (by assumption) rfl ?_|refine Z6 ?_|refine Z7 ?_|refine Z8 ?_)|((with_reducible refine ZM ?_ ?_);(focus rfl)));(conv=>whnf)))
    refine store_blk o3 (by simp) (by simp [isOne]) ?_
    intro h4 f4 z4 o4
    replace o4 : BlkW h4 bf 58 [.string ⟨#[]⟩, .int .i64 0, .bool false, .bool false, .string ⟨#[101, 98]⟩] := by simpa using o4
    clear o3
    ((conv=>whnf);repeat((first|(with_reducible first|refine Z1 ?_|refine Z2 ?_|refine Z3 ?_|refine Z4 ?_|refine Z5 ?_|refine Z9 (by assumption) rfl ?_|refine ZA (by assumption) rfl ?_|refine ZB (by assumption) rfl ?_|refine Z6 ?_|refine Z7 ?_|refine Z8 ?_)|((with_reducible refine ZM ?_ ?_);(focus rfl)));(conv=>whnf)))
    exact ⟨⟨[.string ⟨#[]⟩, .int .i64 0, .bool false, .bool false, .string ⟨#[101, 98]⟩], rfl, ⟨rfl, by simp [isOne]⟩, fun f hf => by cases hf; rfl⟩, x3.offNew f4 (by omega)⟩
  by_cases hk28 : k = 28
  · subst hk28
    ((conv=>whnf);repeat((first|(with_reducible first|refine Z1 ?_|refine Z2 ?_|refine Z3 ?_|refine Z4 ?_|refine Z5 ?_|refine Z9 (by assumption) rfl ?_|refine ZA (by assumption) rfl ?_|refine ZB (by assumption) rfl ?_|refine Z6 ?_|refine Z7 ?_|refine Z8 ?_)|((with_reducible refine ZM ?_ ?_);(focus rfl)));(conv=>whnf)))
    refine blk_st (o := 4) o2 (by simp) rfl ?_
    intro h3 f3 z3 o3
    replace o3 : BlkW h3 bf 58 [.string ⟨#[]⟩, .int .i64 0, .bool false, .bool false, .string ⟨#[98, 101]⟩] := o3
    have x3 := x02.offNew f3 (by omega)
    clear o2
    ((conv=>whnf);repeat((first|(with_reducible first|refine Z1 ?_|refine Z2 ?_|refine Z3 ?_|refine Z4 ?_|refine Z5 ?_|refine Z9 (by assumption) rfl ?_|refine ZA (by assumption) rfl ?_|refine ZB (by assumption) rfl ?_|refine Z6 ?_|refine Z7 ?_|refine Z8 ?_)|((with_reducible refine ZM ?_ ?_);(focus rfl)));(conv=>whnf)))
    refine store_blk o3 (by simp) (by simp [isOne]) ?_
    intro h4 f4 z4 o4
    replace o4 : BlkW h4 bf 58 [.string ⟨#[]⟩, .int .i64 0, .bool false, .bool false, .string ⟨#[98, 101]⟩] := by simpa using o4
    clear o3
    ((conv=>whnf);repeat((first|(with_reducible first|refine Z1 ?_|refine Z2 ?_|refine Z3 ?_|refine Z4 ?_|refine Z5 ?_|refine Z9 (by assumption) rfl ?_|refine ZA (by assumption) rfl ?_|refine ZB (by assumption) rfl ?_|refine Z6 ?_|refine Z7 ?_|refine Z8 ?_)|((with_reducible refine ZM ?_ ?_);(focus rfl)));(conv=>whnf)))
    exact ⟨⟨[.string ⟨#[]⟩, .int .i64 0, .bool false, .bool false, .string ⟨#[98, 101]⟩], rfl, ⟨rfl, by simp [isOne]⟩, fun f hf => by cases hf; rfl⟩, x3.offNew f4 (by omega)⟩
  by_cases hk29 : k = 29
  · subst hk29
    ((conv=>whnf);repeat((first|(with_reducible first|refine Z1 ?_|refine Z2 ?_|refine Z3 ?_|refine Z4 ?_|refine Z5 ?_|refine Z9 (by assumption) rfl ?_|refine ZA (by assumption) rfl ?_|refine ZB (by assumption) rfl ?_|refine Z6 ?_|refine Z7 ?_|refine Z8 ?_)|((with_reducible refine ZM ?_ ?_);(focus rfl)));(conv=>whnf)))
    refine blk_st (o := 4) o2 (by simp) rfl ?_
    intro h3 f3 z3 o3
    replace o3 : BlkW h3 bf 58 [.string ⟨#[]⟩, .int .i64 0, .bool false, .bool false, .string ⟨#[118, 102, 102, 98]⟩] := o3
    have x3 := x02.offNew f3 (by omega)
    clear o2
    ((conv=>whnf);repeat((first|(with_reducible first|refine Z1 ?_|refine Z2 ?_|refine Z3 ?_|refine Z4 ?_|refine Z5 ?_|refine Z9 (by assumption) rfl ?_|refine ZA (by assumption) rfl ?_|refine ZB (by assumption) rfl ?_|refine Z6 ?_|refine Z7 ?_|refine Z8 ?_)|((with_reducible refine ZM ?_ ?_);(focus rfl)));(conv=>whnf)))
    refine store_blk o3 (by simp) (by simp [isOne]) ?_
    intro h4 f4 z4 o4
    replace o4 : BlkW h4 bf 58 [.string ⟨#[]⟩, .int .i64 0, .bool false, .bool false, .string ⟨#[118, 102, 102, 98]⟩] := by simpa using o4
    clear o3
    ((conv=>whnf);repeat((first|(with_reducible first|refine Z1 ?_|refine Z2 ?_|refine Z3 ?_|refine Z4 ?_|refine Z5 ?_|refine Z9 (by assumption) rfl ?_|refine ZA (by assumption) rfl ?_|refine ZB (by assumption) rfl ?_|refine Z6 ?_|refine Z7 ?_|refine Z8 ?_)|((with_reducible refine ZM ?_ ?_);(focus rfl)));(conv=>whnf)))
    exact ⟨⟨[.string ⟨#[]⟩, .int .i64 0, .bool false, .bool false, .string ⟨#[118, 102, 102, 98]⟩], rfl, ⟨rfl, by simp [isOne]⟩, fun f hf => by cases hf; rfl⟩, x3.offNew f4 (by omega)⟩
  by_cases hk30 : k = 30
  · subst hk30
    ((conv=>whnf);repeat((first|(with_reducible first|refine Z1 ?_|refine Z2 ?_|refine Z3 ?_|refine Z4 ?_|refine Z5 ?_|refine Z9 (by assumption) rfl ?_|refine ZA (by assumption) rfl ?_|refine ZB (by assumption) rfl ?_|refine Z6 ?_|refine Z7 ?_|refine Z8 ?_)|((with_reducible refine ZM ?_ ?_);(focus rfl)));(conv=>whnf)))
    refine blk_st (o := 4) o2 (by simp) rfl ?_
    intro h3 f3 z3 o3
    replace o3 : BlkW h3 bf 58 [.string ⟨#[]⟩, .int .i64 0, .bool false, .bool false, .string ⟨#[119, 101, 98]⟩] := o3
    have x3 := x02.offNew f3 (by omega)
    clear o2
    ((conv=>whnf);repeat((first|(with_reducible first|refine Z1 ?_|refine Z2 ?_|refine Z3 ?_|refine Z4 ?_|refine Z5 ?_|refine Z9 (by assumption) rfl ?_|refine ZA (by assumption) rfl ?_|refine ZB (by assumption) rfl ?_|refine Z6 ?_|refine Z7 ?_|refine Z8 ?_)|((with_reducible refine ZM ?_ ?_);(focus rfl)));(conv=>whnf)))
    refine store_blk o3 (by simp) (by simp [isOne]) ?_
    intro h4 f4 z4 o4
    replace o4 : BlkW h4 bf 58 [.string ⟨#[]⟩, .int .i64 0, .bool false, .bool false, .string ⟨#[119, 101, 98]⟩] := by simpa using o4
    clear o3
    ((conv=>whnf);repeat((first|(with_reducible first|refine Z1 ?_|refine Z2 ?_|refine Z3 ?_|refine Z4 ?_|refine Z5 ?_|refine Z9 (by assumption) rfl ?_|refine ZA (by assumption) rfl ?_|refine ZB (by assumption) rfl ?_|refine Z6 ?_|refine Z7 ?_|refine Z8 ?_)|((with_reducible refine ZM ?_ ?_);(focus rfl)));(conv=>whnf)))
    exact ⟨⟨[.string ⟨#[]⟩, .int .i64 0, .bool false, .bool false, .string ⟨#[119, 101, 98]⟩], rfl, ⟨rfl, by simp [isOne]⟩, fun f hf => by cases hf; rfl⟩, x3.offNew f4 (by omega)⟩
  by_cases hk31 : k = 31
  · subst hk31
    ((conv=>whnf);repeat((first|(with_reducible first|refine Z1 ?_|refine Z2 ?_|refine Z3 ?_|refine Z4 ?_|refine Z5 ?_|refine Z9 (by assumption) rfl ?_|refine ZA (by assumption) rfl ?_|refine ZB (by assumption) rfl ?_|refine Z6 ?_|refine Z7 ?_|refine Z8 ?_)|((with_reducible refine ZM ?_ ?_);(focus rfl)));(conv=>whnf)))
    refine blk_st (o := 0) o2 (by simp) rfl ?_
    intro h3 f3 z3 o3
    replace o3 : BlkW h3 bf 58 [.string ⟨#[109]⟩, .int .i64 0, .bool false, .bool false, .string ⟨#[]⟩] := o3
    have x3 := x02.offNew f3 (by omega)
    clear o2
    ((conv=>whnf);repeat((first|(with_reducible first|refine Z1 ?_|refine Z2 ?_|refine Z3 ?_|refine Z4 ?_|refine Z5 ?_|refine Z9 (by assumption) rfl ?_|refine ZA (by assumption) rfl ?_|refine ZB (by assumption) rfl ?_|refine Z6 ?_|refine Z7 ?_|refine Z8 ?_)|((with_reducible refine ZM ?_ ?_);(focus rfl)));(conv=>whnf)))
    refine store_blk o3 (by simp) (by simp [isOne]) ?_
    intro h4 f4 z4 o4
    replace o4 : BlkW h4 bf 58 [.string ⟨#[109]⟩, .int .i64 0, .bool false, .bool false, .string ⟨#[]⟩] := by simpa using o4
    clear o3
    ((conv=>whnf);repeat((first|(with_reducible first|refine Z1 ?_|refine Z2 ?_|refine Z3 ?_|refine Z4 ?_|refine Z5 ?_|refine Z9 (by assumption) rfl ?_|refine ZA (by assumption) rfl ?_|refine ZB (by assumption) rfl ?_|refine Z6 ?_|refine Z7 ?_|refine Z8 ?_)|((with_reducible refine ZM ?_ ?_);(focus rfl)));(conv=>whnf)))
    exact ⟨⟨[.string ⟨#[109]⟩, .int .i64 0, .bool false, .bool false, .string ⟨#[]⟩], rfl, ⟨rfl, by simp [isOne]⟩, fun f hf => by cases hf; rfl⟩, x3.offNew f4 (by omega)⟩
  by_cases hk32 : k = 32
  · subst hk32
    ((conv=>whnf);repeat((first|(with_reducible first|refine Z1 ?_|refine Z2 ?_|refine Z3 ?_|refine Z4 ?_|refine Z5 ?_|refine Z9 (by assumption) rfl ?_|refine ZA (by assumption) rfl ?_|refine ZB (by assumption) rfl ?_|refine Z6 ?_|refine Z7 ?_|refine Z8 ?_)|((with_reducible refine ZM ?_ ?_);(focus rfl)));(conv=>whnf)))
    refine blk_st (o := 0) o2 (by simp) rfl ?_
    intro h3 f3 z3 o3
    replace o3 : BlkW h3 bf 58 [.string ⟨#[109]⟩, .int .i64 0, .bool false, .bool false, .string ⟨#[]⟩] := o3
    have x3 := x02.offNew f3 (by omega)
    clear o2
    ((conv=>whnf);repeat((first|(with_reducible first|refine Z1 ?_|refine Z2 ?_|refine Z3 ?_|refine Z4 ?_|refine Z5 ?_|refine Z9 (by assumption) rfl ?_|refine ZA (by assumption) rfl ?_|refine ZB (by assumption) rfl ?_|refine Z6 ?_|refine Z7 ?_|refine Z8 ?_)|((with_reducible refine ZM ?_ ?_);(focus rfl)));(conv=>whnf)))
    refine store_blk o3 (by simp) (by simp [isOne]) ?_
    intro h4 f4 z4 o4
    replace o4 : BlkW h4 bf 58 [.string ⟨#[109]⟩, .int .i64 0, .bool false, .bool false, .string ⟨#[]⟩] := by simpa using o4
    clear o3
    ((conv=>whnf);repeat((first|(with_reducible first|refine Z1 ?_|refine Z2 ?_|refine Z3 ?_|refine Z4 ?_|refine Z5 ?_|refine Z9 (by assumption) rfl ?_|refine ZA (by assumption) rfl ?_|refine ZB (by assumption) rfl ?_|refine Z6 ?_|refine Z7 ?_|refine Z8 ?_)|((with_reducible refine ZM ?_ ?_);(focus rfl)));(conv=>whnf)))
    exact ⟨⟨[.string ⟨#[109]⟩, .int .i64 0, .bool false, .bool false, .string ⟨#[]⟩], rfl, ⟨rfl, by simp [isOne]⟩, fun f hf => by cases hf; rfl⟩, x3.offNew f4 (by omega)⟩
  by_cases hk34 : k = 34
  · subst hk34
    ((conv=>whnf);repeat((first|(with_reducible first|refine Z1 ?_|refine Z2 ?_|refine Z3 ?_|refine Z4 ?_|refine Z5 ?_|refine Z9 (by assumption) rfl ?_|refine ZA (by assumption) rfl ?_|refine ZB (by assumption) rfl ?_|refine Z6 ?_|refine Z7 ?_|refine Z8 ?_)|((with_reducible refine ZM ?_ ?_);(focus rfl)));(conv=>whnf)))
    refine blk_st (o := 4) o2 (by simp) rfl ?_
    intro h3 f3 z3 o3
    replace o3 : BlkW h3 bf 58 [.string ⟨#[]⟩, .int .i64 0, .bool false, .bool false, .string ⟨#[101]⟩] := o3
    have x3 := x02.offNew f3 (by omega)
    clear o2
    ((conv=>whnf);repeat((first|(with_reducible first|refine Z1 ?_|refine Z2 ?_|refine Z3 ?_|refine Z4 ?_|refine Z5 ?_|refine Z9 (by assumption) rfl ?_|refine ZA (by assumption) rfl ?_|refine ZB (by assumption) rfl ?_|refine Z6 ?_|refine Z7 ?_|refine Z8 ?_)|((with_reducible refine ZM ?_ ?_);(focus rfl)));(conv=>whnf)))
    refine store_blk o3 (by simp) (by simp [isOne]) ?_
    intro h4 f4 z4 o4
    replace o4 : BlkW h4 bf 58 [.string ⟨#[]⟩, .int .i64 0, .bool false, .bool false, .string ⟨#[101]⟩] := by simpa using o4
    clear o3
    ((conv=>whnf);repeat((first|(with_reducible first|refine Z1 ?_|refine Z2 ?_|refine Z3 ?_|refine Z4 ?_|refine Z5 ?_|refine Z9 (by assumption) rfl ?_|refine ZA (by assumption) rfl ?_|refine ZB (by assumption) rfl ?_|refine Z6 ?_|refine Z7 ?_|refine Z8 ?_)|((with_reducible refine ZM ?_ ?_);(focus rfl)));(conv=>whnf)))
    exact ⟨⟨[.string ⟨#[]⟩, .int .i64 0, .bool false, .bool false, .string ⟨#[101]⟩], rfl, ⟨rfl, by simp [isOne]⟩, fun f hf => by cases hf; rfl⟩, x3.offNew f4 (by omega)⟩
  by_cases hk35 : k = 35
  · subst hk35
    ((conv=>whnf);repeat((first|(with_reducible first|refine Z1 ?_|refine Z2 ?_|refine Z3 ?_|refine Z4 ?_|refine Z5 ?_|refine Z9 (by assumption) rfl ?_|refine ZA (by assumption) rfl ?_|refine ZB (by assumption) rfl ?_|refine Z6 ?_|refine Z7 ?_|refine Z8 ?_)|((with_reducible refine ZM ?_ ?_);(focus rfl)));(conv=>whnf)))
    refine blk_st (o := 0) o2 (by simp) rfl ?_
    intro h3 f3 z3 o3
    replace o3 : BlkW h3 bf 58 [.string ⟨#[99]⟩, .int .i64 0, .bool false, .bool false, .string ⟨#[]⟩] := o3
    have x3 := x02.offNew f3 (by omega)
    clear o2
    ((conv=>whnf);repeat((first|(with_reducible first|refine Z1 ?_|refine Z2 ?_|refine Z3 ?_|refine Z4 ?_|refine Z5 ?_|refine Z9 (by assumption) rfl ?_|refine ZA (by assumption) rfl ?_|refine ZB (by assumption) rfl ?_|refine Z6 ?_|refine Z7 ?_|refine Z8 ?_)|((with_reducible refine ZM ?_ ?_);(focus rfl)));(conv=>whnf)))
    refine blk_st (o := 4) o3 (by simp) rfl ?_
    intro h4 f4 z4 o4
    replace o4 : BlkW h4 bf 58 [.string ⟨#[99]⟩, .int .i64 0, .bool false, .bool false, .string ⟨#[98, 99, 99]⟩] := o4
    have x4 := x3.offNew f4 (by omega)
    clear o3
    ((conv=>whnf);repeat((first|(with_reducible first|refine Z1 ?_|refine Z2 ?_|refine Z3 ?_|refine Z4 ?_|refine Z5 ?_|refine Z9 (by assumption) rfl ?_|refine ZA (by assumption) rfl ?_|refine ZB (by assumption) rfl ?_|refine Z6 ?_|refine Z7 ?_|refine Z8 ?_)|((with_reducible refine ZM ?_ ?_);(focus rfl)));(conv=>whnf)))
    refine store_blk o4 (by simp) (by simp [isOne]) ?_
    intro h5 f5 z5 o5
    replace o5 : BlkW h5 bf 58 [.string ⟨#[99]⟩, .int .i64 0, .bool false, .bool false, .string ⟨#[98, 99, 99]⟩] := by simpa using o5
    clear o4
    ((conv=>whnf);repeat((first|(with_reducible first|refine Z1 ?_|refine Z2 ?_|refine Z3 ?_|refine Z4 ?_|refine Z5 ?_|refine Z9 (by assumption) rfl ?_|refine ZA (by assumption) rfl ?_|refine ZB (by assumption) rfl ?_|refine Z6 ?_|refine Z7 ?_|refine Z8 ?_)|((with_reducible refine ZM ?_ ?_);(focus rfl)));(conv=>whnf)))
    exact ⟨⟨[.string ⟨#[99]⟩, .int .i64 0, .bool false, .bool false, .string ⟨#[98, 99, 99]⟩], rfl, ⟨rfl, by simp [isOne]⟩, fun f hf => by cases hf; rfl⟩, x4.offNew f5 (by omega)⟩
  by_cases hk36 : k = 36
  · subst hk36
    ((conv=>whnf);repeat((first|(with_reducible first|refine Z1 ?_|refine Z2 ?_|refine Z3 ?_|refine Z4 ?_|refine Z5 ?_|refine Z9 (by assumption) rfl ?_|refine ZA (by assumption) rfl ?_|refine ZB (by assumption) rfl ?_|refine Z6 ?_|refine Z7 ?_|refine Z8 ?_)|((with_reducible refine ZM ?_ ?_);(focus rfl)));(conv=>whnf)))
    refine blk_st (o := 4) o2 (by simp) rfl ?_
    intro h3 f3 z3 o3
    replace o3 : BlkW h3 bf 58 [.string ⟨#[]⟩, .int .i64 0, .bool false, .bool false, .string ⟨#[101, 42, 107]⟩] := o3
    have x3 := x02.offNew f3 (by omega)
    clear o2
    ((conv=>whnf);repeat((first|(with_reducible first|refine Z1 ?_|refine Z2 ?_|refine Z3 ?_|refine Z4 ?_|refine Z5 ?_|refine Z9 (by assumption) rfl ?_|refine ZA (by assumption) rfl ?_|refine ZB (by assumption) rfl ?_|refine Z6 ?_|refine Z7 ?_|refine Z8 ?_)|((with_reducible refine ZM ?_ ?_);(focus rfl)));(conv=>whnf)))
    refine store_blk o3 (by simp) (by simp [isOne]) ?_
    intro h4 f4 z4 o4
    replace o4 : BlkW h4 bf 58 [.string ⟨#[]⟩, .int .i64 0, .bool false, .bool false, .string ⟨#[101, 42, 107]⟩] := by simpa using o4
    clear o3
    ((conv=>whnf);repeat((first|(with_reducible first|refine Z1 ?_|refine Z2 ?_|refine Z3 ?_|refine Z4 ?_|refine Z5 ?_|refine Z9 (by assumption) rfl ?_|refine ZA (by assumption) rfl ?_|refine ZB (by assumption) rfl ?_|refine Z6 ?_|refine Z7 ?_|refine Z8 ?_)|((with_reducible refine ZM ?_ ?_);(focus rfl)));(conv=>whnf)))
    exact ⟨⟨[.string ⟨#[]⟩, .int .i64 0, .bool false, .bool false, .string ⟨#[101, 42, 107]⟩], rfl, ⟨rfl, by simp [isOne]⟩, fun f hf => by cases hf; rfl⟩, x3.offNew f4 (by omega)⟩
  by_cases hk37 : k = 37
  · subst hk37
    ((conv=>whnf);repeat((first|(with_reducible first|refine Z1 ?_|refine Z2 ?_|refine Z3 ?_|refine Z4 ?_|refine Z5 ?_|refine Z9 (by assumption) rfl ?_|refine ZA (by assumption) rfl ?_|refine ZB (by assumption) rfl ?_|refine Z6 ?_|refine Z7 ?_|refine Z8 ?_)|((with_reducible refine ZM ?_ ?_);(focus rfl)));(conv=>whnf)))
    refine blk_st (o := 4) o2 (by simp) rfl ?_
    intro h3 f3 z3 o3
    replace o3 : BlkW h3 bf 58 [.string ⟨#[]⟩, .int .i64 0, .bool false, .bool false, .string ⟨#[102, 42, 115]⟩] := o3
    have x3 := x02.offNew f3 (by omega)
    clear o2
    ((conv=>whnf);repeat((first|(with_reducible first|refine Z1 ?_|refine Z2 ?_|refine Z3 ?_|refine Z4 ?_|refine Z5 ?_|refine Z9 (by assumption) rfl ?_|refine ZA (by assumption) rfl ?_|refine ZB (by assumption) rfl ?_|refine Z6 ?_|refine Z7 ?_|refine Z8 ?_)|((with_reducible refine ZM ?_ ?_);(focus rfl)));(conv=>whnf)))
    refine store_blk o3 (by simp) (by simp [isOne]) ?_
    intro h4 f4 z4 o4
    replace o4 : BlkW h4 bf 58 [.string ⟨#[]⟩, .int .i64 0, .bool false, .bool false, .string ⟨#[102, 42, 115]⟩] := by simpa using o4
    clear o3
    ((conv=>whnf);repeat((first|(with_reducible first|refine Z1 ?_|refine Z2 ?_|refine Z3 ?_|refine Z4 ?_|refine Z5 ?_|refine Z9 (by assumption) rfl ?_|refine ZA (by assumption) rfl ?_|refine ZB (by assumption) rfl ?_|refine Z6 ?_|refine Z7 ?_|refine Z8 ?_)|((with_reducible refine ZM ?_ ?_);(focus rfl)));(conv=>whnf)))
    exact ⟨⟨[.string ⟨#[]⟩, .int .i64 0, .bool false, .bool false, .string ⟨#[102, 42, 115]⟩], rfl, ⟨rfl, by simp [isOne]⟩, fun f hf => by cases hf; rfl⟩, x3.offNew f4 (by omega)⟩
  by_cases hk38 : k = 38
  · subst hk38
    ((conv=>whnf);repeat((first|(with_reducible first|refine Z1 ?_|refine Z2 ?_|refine Z3 ?_|refine Z4 ?_|refine Z5 ?_|refine Z9 (by assumption) rfl ?_|refine ZA (by assumption) rfl ?_|refine ZB (by assumption) rfl ?_|refine Z6 ?_|refine Z7 ?_|refine Z8 ?_)|((with_reducible refine ZM ?_ ?_);(focus rfl)));(conv=>whnf)))
    refine blk_st (o := 0) o2 (by simp) rfl ?_
    intro h3 f3 z3 o3
    replace o3 : BlkW h3 bf 58 [.string ⟨#[110]⟩, .int .i64 0, .bool false, .bool false, .string ⟨#[]⟩] := o3
    have x3 := x02.offNew f3 (by omega)
    clear o2
    ((conv=>whnf);repeat((first|(with_reducible first|refine Z1 ?_|refine Z2 ?_|refine Z3 ?_|refine Z4 ?_|refine Z5 ?_|refine Z9 (by assumption) rfl ?_|refine ZA (by assumption) rfl ?_|refine ZB (by assumption) rfl ?_|refine Z6 ?_|refine Z7 ?_|refine Z8 ?_)|((with_reducible refine ZM ?_ ?_);(focus rfl)));(conv=>whnf)))
    refine blk_st (o := 4) o3 (by simp) rfl ?_
    intro h4 f4 z4 o4
    replace o4 : BlkW h4 bf 58 [.string ⟨#[110]⟩, .int .i64 0, .bool false, .bool false, .string ⟨#[115]⟩] := o4
    have x4 := x3.offNew f4 (by omega)
    clear o3
    ((conv=>whnf);repeat((first|(with_reducible first|refine Z1 ?_|refine Z2 ?_|refine Z3 ?_|refine Z4 ?_|refine Z5 ?_|refine Z9 (by assumption) rfl ?_|refine ZA (by assumption) rfl ?_|refine ZB (by assumption) rfl ?_|refine Z6 ?_|refine Z7 ?_|refine Z8 ?_)|((with_reducible refine ZM ?_ ?_);(focus rfl)));(conv=>whnf)))
    refine store_blk o4 (by simp) (by simp [isOne]) ?_
    intro h5 f5 z5 o5
    replace o5 : BlkW h5 bf 58 [.string ⟨#[110]⟩, .int .i64 0, .bool false, .bool false, .string ⟨#[115]⟩] := by simpa using o5
    clear o4
    ((conv=>whnf);repeat((first|(with_reducible first|refine Z1 ?_|refine Z2 ?_|refine Z3 ?_|refine Z4 ?_|refine Z5 ?_|refine Z9 (by assumption) rfl ?_|refine ZA (by assumption) rfl ?_|refine ZB (by assumption) rfl ?_|refine Z6 ?_|refine Z7 ?_|refine Z8 ?_)|((with_reducible refine ZM ?_ ?_);(focus rfl)));(conv=>whnf)))
    exact ⟨⟨[.string ⟨#[110]⟩, .int .i64 0, .bool false, .bool false, .string ⟨#[115]⟩], rfl, ⟨rfl, by simp [isOne]⟩, fun f hf => by cases hf; rfl⟩, x4.offNew f5 (by omega)⟩
  by_cases hk39 : k = 39
  · subst hk39
    ((conv=>whnf);repeat((first|(with_reducible first|refine Z1 ?_|refine Z2 ?_|refine Z3 ?_|refine Z4 ?_|refine Z5 ?_|refine Z9 (by assumption) rfl ?_|refine ZA (by assumption) rfl ?_|refine ZB (by assumption) rfl ?_|refine Z6 ?_|refine Z7 ?_|refine Z8 ?_)|((with_reducible refine ZM ?_ ?_);(focus rfl)));(conv=>whnf)))
    refine blk_st (o := 0) o2 (by simp) rfl ?_
    intro h3 f3 z3 o3
    replace o3 : BlkW h3 bf 58 [.string ⟨#[110]⟩, .int .i64 0, .bool false, .bool false, .string ⟨#[]⟩] := o3
    have x3 := x02.offNew f3 (by omega)
    clear o2
    ((conv=>whnf);repeat((first|(with_reducible first|refine Z1 ?_|refine Z2 ?_|refine Z3 ?_|refine Z4 ?_|refine Z5 ?_|refine Z9 (by assumption) rfl ?_|refine ZA (by assumption) rfl ?_|refine ZB (by assumption) rfl ?_|refine Z6 ?_|refine Z7 ?_|refine Z8 ?_)|((with_reducible refine ZM ?_ ?_);(focus rfl)));(conv=>whnf)))
    refine blk_st (o := 3) o3 (by simp) rfl ?_
    intro h4 f4 z4 o4
    replace o4 : BlkW h4 bf 58 [.string ⟨#[110]⟩, .int .i64 0, .bool false, .bool true, .string ⟨#[]⟩] := o4
    have x4 := x3.offNew f4 (by omega)
    clear o3
    ((conv=>whnf);repeat((first|(with_reducible first|refine Z1 ?_|refine Z2 ?_|refine Z3 ?_|refine Z4 ?_|refine Z5 ?_|refine Z9 (by assumption) rfl ?_|refine ZA (by assumption) rfl ?_|refine ZB (by assumption) rfl ?_|refine Z6 ?_|refine Z7 ?_|refine Z8 ?_)|((with_reducible refine ZM ?_ ?_);(focus rfl)));(conv=>whnf)))
    refine blk_st (o := 4) o4 (by simp) rfl ?_
    intro h5 f5 z5 o5
    replace o5 : BlkW h5 bf 58 [.string ⟨#[110]⟩, .int .i64 0, .bool false, .bool true, .string ⟨#[42, 120]⟩] := o5
    have x5 := x4.offNew f5 (by omega)
    clear o4
    ((conv=>whnf);repeat((first|(with_reducible first|refine Z1 ?_|refine Z2 ?_|refine Z3 ?_|refine Z4 ?_|refine Z5 ?_|refine Z9 (by assumption) rfl ?_|refine ZA (by assumption) rfl ?_|refine ZB (by assumption) rfl ?_|refine Z6 ?_|refine Z7 ?_|refine Z8 ?_)|((with_reducible refine ZM ?_ ?_);(focus rfl)));(conv=>whnf)))
    refine store_blk o5 (by simp) (by simp [isOne]) ?_
    intro h6 f6 z6 o6
    replace o6 : BlkW h6 bf 58 [.string ⟨#[110]⟩, .int .i64 0, .bool false, .bool true, .string ⟨#[42, 120]⟩] := by simpa using o6
    clear o5
    ((conv=>whnf);repeat((first|(with_reducible first|refine Z1 ?_|refine Z2 ?_|refine Z3 ?_|refine Z4 ?_|refine Z5 ?_|refine Z9 (by assumption) rfl ?_|refine ZA (by assumption) rfl ?_|refine ZB (by assumption) rfl ?_|refine Z6 ?_|refine Z7 ?_|refine Z8 ?_)|((with_reducible refine ZM ?_ ?_);(focus rfl)));(conv=>whnf)))
    exact ⟨⟨[.string ⟨#[110]⟩, .int .i64 0, .bool false, .bool true, .string ⟨#[42, 120]⟩], rfl, ⟨rfl, by simp [isOne]⟩, fun f hf => by cases hf; rfl⟩, x5.offNew f6 (by omega)⟩
  by_cases hk41 : k = 41
  · subst hk41
    ((conv=>whnf);repeat((first|(with_reducible first|refine Z1 ?_|refine Z2 ?_|refine Z3 ?_|refine Z4 ?_|refine Z5 ?_|refine Z9 (by assumption) rfl ?_|refine ZA (by assumption) rfl ?_|refine ZB (by assumption) rfl ?_|refine Z6 ?_|refine Z7 ?_|refine Z8 ?_)|((with_reducible refine ZM ?_ ?_);(focus rfl)));(conv=>whnf)))
    refine blk_st (o := 4) o2 (by simp) rfl ?_
    intro h3 f3 z3 o3
    replace o3 : BlkW h3 bf 58 [.string ⟨#[]⟩, .int .i64 0, .bool false, .bool false, .string ⟨#[42, 120]⟩] := o3
    have x3 := x02.offNew f3 (by omega)
    clear o2
    ((conv=>whnf);repeat((first|(with_reducible first|refine Z1 ?_|refine Z2 ?_|refine Z3 ?_|refine Z4 ?_|refine Z5 ?_|refine Z9 (by assumption) rfl ?_|refine ZA (by assumption) rfl ?_|refine ZB (by assumption) rfl ?_|refine Z6 ?_|refine Z7 ?_|refine Z8 ?_)|((with_reducible refine ZM ?_ ?_);(focus rfl)));(conv=>whnf)))
    refine store_blk o3 (by simp) (by simp [isOne]) ?_
    intro h4 f4 z4 o4
    replace o4 : BlkW h4 bf 58 [.string ⟨#[]⟩, .int .i64 0, .bool false, .bool false, .string ⟨#[42, 120]⟩] := by simpa using o4
    clear o3
    ((conv=>whnf);repeat((first|(with_reducible first|refine Z1 ?_|refine Z2 ?_|refine Z3 ?_|refine Z4 ?_|refine Z5 ?_|refine Z9 (by assumption) rfl ?_|refine ZA (by assumption) rfl ?_|refine ZB (by assumption) rfl ?_|refine Z6 ?_|refine Z7 ?_|refine Z8 ?_)|((with_reducible refine ZM ?_ ?_);(focus rfl)));(conv=>whnf)))
    exact ⟨⟨[.string ⟨#[]⟩, .int .i64 0, .bool false, .bool false, .string ⟨#[42, 120]⟩], rfl, ⟨rfl, by simp [isOne]⟩, fun f hf => by cases hf; rfl⟩, x3.offNew f4 (by omega)⟩
  by_cases hk23 : k = 23
  · subst hk23
    by_cases hl : l.length = 0
    · have he : stmtOf 23 l.length = some ⟨⟨#[110]⟩, 0, false, false, ⟨#[]⟩⟩ := by unfold stmtOf; rw [hl]; rfl
      rw [he]
      ((conv=>whnf);repeat((first|(with_reducible first|refine Z1 ?_|refine Z2 ?_|refine Z3 ?_|refine Z4 ?_|refine Z5 ?_|refine Z9 (by assumption) rfl ?_|refine ZA (by assumption) rfl ?_|refine ZB (by assumption) rfl ?_|refine Z6 ?_|refine Z7 ?_|refine Z8 ?_)|((with_reducible refine ZM ?_ ?_);(focus rfl)));(conv=>whnf)))
      refine HAlt.mk ?_ ?_
      · ((conv=>whnf);repeat((first|(with_reducible first|refine Z1 ?_|refine Z2 ?_|refine Z3 ?_|refine Z4 ?_|refine Z5 ?_|refine Z9 (by assumption) rfl ?_|refine ZA (by assumption) rfl ?_|refine ZB (by assumption) rfl ?_|refine Z6 ?_|refine Z7 ?_|refine Z8 ?_)|((with_reducible refine ZM ?_ ?_);(focus rfl)));(conv=>whnf)))
        refine HBound.mk 0 (by show (if (1 : Int) < ((l.length : Nat) : Int) then (1 : Int) else ((l.length : Nat) : Int)) = ((0 : Nat) : Int); rw [if_neg (by omega)]; omega) (show 0 ≤ (⟨#[101]⟩ : ByteArray).size by decide) ?_
        ((conv=>whnf);repeat((first|(with_reducible first|refine Z1 ?_|refine Z2 ?_|refine Z3 ?_|refine Z4 ?_|refine Z5 ?_|refine Z9 (by assumption) rfl ?_|refine ZA (by assumption) rfl ?_|refine ZB (by assumption) rfl ?_|refine Z6 ?_|refine Z7 ?_|refine Z8 ?_)|((with_reducible refine ZM ?_ ?_);(focus rfl)));(conv=>whnf)))
        refine blk_st (o := 0) o2 (by simp) rfl ?_
        intro h3 f3 z3 o3
        replace o3 : BlkW h3 bf 58 [.string ⟨#[110]⟩, .int .i64 0, .bool false, .bool false, .string ⟨#[]⟩] := o3
        have x3 := x02.offNew f3 (by omega)
        clear o2
        ((conv=>whnf);repeat((first|(with_reducible first|refine Z1 ?_|refine Z2 ?_|refine Z3 ?_|refine Z4 ?_|refine Z5 ?_|refine Z9 (by assumption) rfl ?_|refine ZA (by assumption) rfl ?_|refine ZB (by assumption) rfl ?_|refine Z6 ?_|refine Z7 ?_|refine Z8 ?_)|((with_reducible refine ZM ?_ ?_);(focus rfl)));(conv=>whnf)))
        refine blk_st (o := 4) o3 (by simp) rfl ?_
        intro h4 f4 z4 o4
        replace o4 : BlkW h4 bf 58 [.string ⟨#[110]⟩, .int .i64 0, .bool false, .bool false, .string ⟨#[]⟩] := o4
        have x4 := x3.offNew f4 (by omega)
        clear o3
        ((conv=>whnf);repeat((first|(with_reducible first|refine Z1 ?_|refine Z2 ?_|refine Z3 ?_|refine Z4 ?_|refine Z5 ?_|refine Z9 (by assumption) rfl ?_|refine ZA (by assumption) rfl ?_|refine ZB (by assumption) rfl ?_|refine Z6 ?_|refine Z7 ?_|refine Z8 ?_)|((with_reducible refine ZM ?_ ?_);(focus rfl)));(conv=>whnf)))
        refine store_blk o4 (by simp) (by simp [isOne]) ?_
        intro h5 f5 z5 o5
        replace o5 : BlkW h5 bf 58 [.string ⟨#[110]⟩, .int .i64 0, .bool false, .bool false, .string ⟨#[]⟩] := by simpa using o5
        clear o4
        ((conv=>whnf);repeat((first|(with_reducible first|refine Z1 ?_|refine Z2 ?_|refine Z3 ?_|refine Z4 ?_|refine Z5 ?_|refine Z9 (by assumption) rfl ?_|refine ZA (by assumption) rfl ?_|refine ZB (by assumption) rfl ?_|refine Z6 ?_|refine Z7 ?_|refine Z8 ?_)|((with_reducible refine ZM ?_ ?_);(focus rfl)));(conv=>whnf)))
        exact ⟨⟨[.string ⟨#[110]⟩, .int .i64 0, .bool false, .bool false, .string ⟨#[]⟩], rfl, ⟨rfl, by simp [isOne]⟩, fun f hf => by cases hf; rfl⟩, x4.offNew f5 (by omega)⟩
      · ((conv=>whnf);repeat((first|(with_reducible first|refine Z1 ?_|refine Z2 ?_|refine Z3 ?_|refine Z4 ?_|refine Z5 ?_|refine Z9 (by assumption) rfl ?_|refine ZA (by assumption) rfl ?_|refine ZB (by assumption) rfl ?_|refine Z6 ?_|refine Z7 ?_|refine Z8 ?_)|((with_reducible refine ZM ?_ ?_);(focus rfl)));(conv=>whnf)))
        refine blk_st (o := 0) o2 (by simp) rfl ?_
        intro h3 f3 z3 o3
        replace o3 : BlkW h3 bf 58 [.string ⟨#[110]⟩, .int .i64 0, .bool false, .bool false, .string ⟨#[]⟩] := o3
        have x3 := x02.offNew f3 (by omega)
        clear o2
        replace o12 := o12.of (f3.2 _ o12.lt (by omega))
        ((conv=>whnf);repeat((first|(with_reducible first|refine Z1 ?_|refine Z2 ?_|refine Z3 ?_|refine Z4 ?_|refine Z5 ?_|refine Z9 (by assumption) rfl ?_|refine ZA (by assumption) rfl ?_|refine ZB (by assumption) rfl ?_|refine Z6 ?_|refine Z7 ?_|refine Z8 ?_)|((with_reducible refine ZM ?_ ?_);(focus rfl)));(conv=>whnf)))
        refine HBound.mk 0 (by show (if (1 : Int) < ((l.length : Nat) : Int) then (1 : Int) else ((l.length : Nat) : Int)) = ((0 : Nat) : Int); rw [if_neg (by omega)]; omega) (show 0 ≤ (⟨#[101]⟩ : ByteArray).size by decide) ?_
        ((conv=>whnf);repeat((first|(with_reducible first|refine Z1 ?_|refine Z2 ?_|refine Z3 ?_|refine Z4 ?_|refine Z5 ?_|refine Z9 (by assumption) rfl ?_|refine ZA (by assumption) rfl ?_|refine ZB (by assumption) rfl ?_|refine Z6 ?_|refine Z7 ?_|refine Z8 ?_)|((with_reducible refine ZM ?_ ?_);(focus rfl)));(conv=>whnf)))
        refine blk_st (o := 4) o3 (by simp) rfl ?_
        intro h4 f4 z4 o4
        replace o4 : BlkW h4 bf 58 [.string ⟨#[110]⟩, .int .i64 0, .bool false, .bool false, .string ⟨#[]⟩] := o4
        have x4 := x3.offNew f4 (by omega)
        clear o3
        ((conv=>whnf);repeat((first|(with_reducible first|refine Z1 ?_|refine Z2 ?_|refine Z3 ?_|refine Z4 ?_|refine Z5 ?_|refine Z9 (by assumption) rfl ?_|refine ZA (by assumption) rfl ?_|refine ZB (by assumption) rfl ?_|refine Z6 ?_|refine Z7 ?_|refine Z8 ?_)|((with_reducible refine ZM ?_ ?_);(focus rfl)));(conv=>whnf)))
        refine store_blk o4 (by simp) (by simp [isOne]) ?_
        intro h5 f5 z5 o5
        replace o5 : BlkW h5 bf 58 [.string ⟨#[110]⟩, .int .i64 0, .bool false, .bool false, .string ⟨#[]⟩] := by simpa using o5
        clear o4
        ((conv=>whnf);repeat((first|(with_reducible first|refine Z1 ?_|refine Z2 ?_|refine Z3 ?_|refine Z4 ?_|refine Z5 ?_|refine Z9 (by assumption) rfl ?_|refine ZA (by assumption) rfl ?_|refine ZB (by assumption) rfl ?_|refine Z6 ?_|refine Z7 ?_|refine Z8 ?_)|((with_reducible refine ZM ?_ ?_);(focus rfl)));(conv=>whnf)))
        exact ⟨⟨[.string ⟨#[110]⟩, .int .i64 0, .bool false, .bool false, .string ⟨#[]⟩], rfl, ⟨rfl, by simp [isOne]⟩, fun f hf => by cases hf; rfl⟩, x4.offNew f5 (by omega)⟩
    · have he : stmtOf 23 l.length = some ⟨⟨#[110]⟩, 0, false, false, ⟨#[101]⟩⟩ := by unfold stmtOf; simp [hl]
      rw [he]
      ((conv=>whnf);repeat((first|(with_reducible first|refine Z1 ?_|refine Z2 ?_|refine Z3 ?_|refine Z4 ?_|refine Z5 ?_|refine Z9 (by assumption) rfl ?_|refine ZA (by assumption) rfl ?_|refine ZB (by assumption) rfl ?_|refine Z6 ?_|refine Z7 ?_|refine Z8 ?_)|((with_reducible refine ZM ?_ ?_);(focus rfl)));(conv=>whnf)))
      refine HAlt.mk ?_ ?_
      · ((conv=>whnf);repeat((first|(with_reducible first|refine Z1 ?_|refine Z2 ?_|refine Z3 ?_|refine Z4 ?_|refine Z5 ?_|refine Z9 (by assumption) rfl ?_|refine ZA (by assumption) rfl ?_|refine ZB (by assumption) rfl ?_|refine Z6 ?_|refine Z7 ?_|refine Z8 ?_)|((with_reducible refine ZM ?_ ?_);(focus rfl)));(conv=>whnf)))
        refine HBound.mk 1 (by show (if (1 : Int) < ((l.length : Nat) : Int) then (1 : Int) else ((l.length : Nat) : Int)) = ((1 : Nat) : Int); split <;> omega) (show 1 ≤ (⟨#[101]⟩ : ByteArray).size by decide) ?_
        ((conv=>whnf);repeat((first|(with_reducible first|refine Z1 ?_|refine Z2 ?_|refine Z3 ?_|refine Z4 ?_|refine Z5 ?_|refine Z9 (by assumption) rfl ?_|refine ZA (by assumption) rfl ?_|refine ZB (by assumption) rfl ?_|refine Z6 ?_|refine Z7 ?_|refine Z8 ?_)|((with_reducible refine ZM ?_ ?_);(focus rfl)));(conv=>whnf)))
        refine blk_st (o := 0) o2 (by simp) rfl ?_
        intro h3 f3 z3 o3
        replace o3 : BlkW h3 bf 58 [.string ⟨#[110]⟩, .int .i64 0, .bool false, .bool false, .string ⟨#[]⟩] := o3
        have x3 := x02.offNew f3 (by omega)
        clear o2
        ((conv=>whnf);repeat((first|(with_reducible first|refine Z1 ?_|refine Z2 ?_|refine Z3 ?_|refine Z4 ?_|refine Z5 ?_|refine Z9 (by assumption) rfl ?_|refine ZA (by assumption) rfl ?_|refine ZB (by assumption) rfl ?_|refine Z6 ?_|refine Z7 ?_|refine Z8 ?_)|((with_reducible refine ZM ?_ ?_);(focus rfl)));(conv=>whnf)))
        refine blk_st (o := 4) o3 (by simp) rfl ?_
        intro h4 f4 z4 o4
        replace o4 : BlkW h4 bf 58 [.string ⟨#[110]⟩, .int .i64 0, .bool false, .bool false, .string ⟨#[101]⟩] := o4
        have x4 := x3.offNew f4 (by omega)
        clear o3
        ((conv=>whnf);repeat((first|(with_reducible first|refine Z1 ?_|refine Z2 ?_|refine Z3 ?_|refine Z4 ?_|refine Z5 ?_|refine Z9 (by assumption) rfl ?_|refine ZA (by assumption) rfl ?_|refine ZB (by assumption) rfl ?_|refine Z6 ?_|refine Z7 ?_|refine Z8 ?_)|((with_reducible refine ZM ?_ ?_);(focus rfl)));(conv=>whnf)))
        refine store_blk o4 (by simp) (by simp [isOne]) ?_
        intro h5 f5 z5 o5
        replace o5 : BlkW h5 bf 58 [.string ⟨#[110]⟩, .int .i64 0, .bool false, .bool false, .string ⟨#[101]⟩] := by simpa using o5
        clear o4
        ((conv=>whnf);repeat((first|(with_reducible first|refine Z1 ?_|refine Z2 ?_|refine Z3 ?_|refine Z4 ?_|refine Z5 ?_|refine Z9 (by assumption) rfl ?_|refine ZA (by assumption) rfl ?_|refine ZB (by assumption) rfl ?_|refine Z6 ?_|refine Z7 ?_|refine Z8 ?_)|((with_reducible refine ZM ?_ ?_);(focus rfl)));(conv=>whnf)))
        exact ⟨⟨[.string ⟨#[110]⟩, .int .i64 0, .bool false, .bool false, .string ⟨#[101]⟩], rfl, ⟨rfl, by simp [isOne]⟩, fun f hf => by cases hf; rfl⟩, x4.offNew f5 (by omega)⟩
      · ((conv=>whnf);repeat((first|(with_reducible first|refine Z1 ?_|refine Z2 ?_|refine Z3 ?_|refine Z4 ?_|refine Z5 ?_|refine Z9 (by assumption) rfl ?_|refine ZA (by assumption) rfl ?_|refine ZB (by assumption) rfl ?_|refine Z6 ?_|refine Z7 ?_|refine Z8 ?_)|((with_reducible refine ZM ?_ ?_);(focus rfl)));(conv=>whnf)))
        refine blk_st (o := 0) o2 (by simp) rfl ?_
        intro h3 f3 z3 o3
        replace o3 : BlkW h3 bf 58 [.string ⟨#[110]⟩, .int .i64 0, .bool false, .bool false, .string ⟨#[]⟩] := o3
        have x3 := x02.offNew f3 (by omega)
        clear o2
        replace o12 := o12.of (f3.2 _ o12.lt (by omega))
        ((conv=>whnf);repeat((first|(with_reducible first|refine Z1 ?_|refine Z2 ?_|refine Z3 ?_|refine Z4 ?_|refine Z5 ?_|refine Z9 (by assumption) rfl ?_|refine ZA (by assumption) rfl ?_|refine ZB (by assumption) rfl ?_|refine Z6 ?_|refine Z7 ?_|refine Z8 ?_)|((with_reducible refine ZM ?_ ?_);(focus rfl)));(conv=>whnf)))
        refine HBound.mk 1 (by show (if (1 : Int) < ((l.length : Nat) : Int) then (1 : Int) else ((l.length : Nat) : Int)) = ((1 : Nat) : Int); split <;> omega) (show 1 ≤ (⟨#[101]⟩ : ByteArray).size by decide) ?_
        ((conv=>whnf);repeat((first|(with_reducible first|refine Z1 ?_|refine Z2 ?_|refine Z3 ?_|refine Z4 ?_|refine Z5 ?_|refine Z9 (by assumption) rfl ?_|refine ZA (by assumption) rfl ?_|refine ZB (by assumption) rfl ?_|refine Z6 ?_|refine Z7 ?_|refine Z8 ?_)|((with_reducible refine ZM ?_ ?_);(focus rfl)));(conv=>whnf)))
        refine blk_st (o := 4) o3 (by simp) rfl ?_
        intro h4 f4 z4 o4
        replace o4 : BlkW h4 bf 58 [.string ⟨#[110]⟩, .int .i64 0, .bool false, .bool false, .string ⟨#[101]⟩] := o4
        have x4 := x3.offNew f4 (by omega)
        clear o3
        ((conv=>whnf);repeat((first|(with_reducible first|refine Z1 ?_|refine Z2 ?_|refine Z3 ?_|refine Z4 ?_|refine Z5 ?_|refine Z9 (by assumption) rfl ?_|refine ZA (by assumption) rfl ?_|refine ZB (by assumption) rfl ?_|refine Z6 ?_|refine Z7 ?_|refine Z8 ?_)|((with_reducible refine ZM ?_ ?_);(focus rfl)));(conv=>whnf)))
        refine store_blk o4 (by simp) (by simp [isOne]) ?_
        intro h5 f5 z5 o5
        replace o5 : BlkW h5 bf 58 [.string ⟨#[110]⟩, .int .i64 0, .bool false, .bool false, .string ⟨#[101]⟩] := by simpa using o5
        clear o4
        ((conv=>whnf);repeat((first|(with_reducible first|refine Z1 ?_|refine Z2 ?_|refine Z3 ?_|refine Z4 ?_|refine Z5 ?_|refine Z9 (by assumption) rfl ?_|refine ZA (by assumption) rfl ?_|refine ZB (by assumption) rfl ?_|refine Z6 ?_|refine Z7 ?_|refine Z8 ?_)|((with_reducible refine ZM ?_ ?_);(focus rfl)));(conv=>whnf)))
        exact ⟨⟨[.string ⟨#[110]⟩, .int .i64 0, .bool false, .bool false, .string ⟨#[101]⟩], rfl, ⟨rfl, by simp [isOne]⟩, fun f hf => by cases hf; rfl⟩, x4.offNew f5 (by omega)⟩
  by_cases hk26 : k = 26
  · subst hk26
    by_cases hl : l.length ≤ 2
    · have he : stmtOf 26 l.length = some ⟨⟨#[]⟩, 0, false, false, ⟨#[101, 98]⟩⟩ := by unfold stmtOf; simp [hl]
      rw [he]
      ((conv=>whnf);repeat((first|(with_reducible first|refine Z1 ?_|refine Z2 ?_|refine Z3 ?_|refine Z4 ?_|refine Z5 ?_|refine Z9 (by assumption) rfl ?_|refine ZA (by assumption) rfl ?_|refine ZB (by assumption) rfl ?_|refine Z6 ?_|refine Z7 ?_|refine Z8 ?_)|((with_reducible refine ZM ?_ ?_);(focus rfl)));(conv=>whnf)))
      refine HBound.mk 2 (by show (if (3 : Int) < (if (2 : Int) > ((l.length : Nat) : Int) then (2 : Int) else ((l.length : Nat) : Int)) then (3 : Int) else (if (2 : Int) > ((l.length : Nat) : Int) then (2 : Int) else ((l.length : Nat) : Int))) = ((2 : Nat) : Int); split <;> split <;> omega) (show 2 ≤ (⟨#[101, 98, 98]⟩ : ByteArray).size by decide) ?_
      ((conv=>whnf);repeat((first|(with_reducible first|refine Z1 ?_|refine Z2 ?_|refine Z3 ?_|refine Z4 ?_|refine Z5 ?_|refine Z9 (by assumption) rfl ?_|refine ZA (by assumption) rfl ?_|refine ZB (by assumption) rfl ?_|refine Z6 ?_|refine Z7 ?_|refine Z8 ?_)|((with_reducible refine ZM ?_ ?_);(focus rfl)));(conv=>whnf)))
      refine blk_st (o := 4) o2 (by simp) rfl ?_
      intro h3 f3 z3 o3
      replace o3 : BlkW h3 bf 58 [.string ⟨#[]⟩, .int .i64 0, .bool false, .bool false, .string ⟨#[101, 98]⟩] := o3
      have x3 := x02.offNew f3 (by omega)
      clear o2
      ((conv=>whnf);repeat((first|(with_reducible first|refine Z1 ?_|refine Z2 ?_|refine Z3 ?_|refine Z4 ?_|refine Z5 ?_|refine Z9 (by assumption) rfl ?_|refine ZA (by assumption) rfl ?_|refine ZB (by assumption) rfl ?_|refine Z6 ?_|refine Z7 ?_|refine Z8 ?_)|((with_reducible refine ZM ?_ ?_);(focus rfl)));(conv=>whnf)))
      refine store_blk o3 (by simp) (by simp [isOne]) ?_
      intro h4 f4 z4 o4
      replace o4 : BlkW h4 bf 58 [.string ⟨#[]⟩, .int .i64 0, .bool false, .bool false, .string ⟨#[101, 98]⟩] := by simpa using o4
      clear o3
      ((conv=>whnf);repeat((first|(with_reducible first|refine Z1 ?_|refine Z2 ?_|refine Z3 ?_|refine Z4 ?_|refine Z5 ?_|refine Z9 (by assumption) rfl ?_|refine ZA (by assumption) rfl ?_|refine ZB (by assumption) rfl ?_|refine Z6 ?_|refine Z7 ?_|refine Z8 ?_)|((with_reducible refine ZM ?_ ?_);(focus rfl)));(conv=>whnf)))
      exact ⟨⟨[.string ⟨#[]⟩, .int .i64 0, .bool false, .bool false, .string ⟨#[101, 98]⟩], rfl, ⟨rfl, by simp [isOne]⟩, fun f hf => by cases hf; rfl⟩, x3.offNew f4 (by omega)⟩
    · have he : stmtOf 26 l.length = some ⟨⟨#[]⟩, 0, false, false, ⟨#[101, 98, 98]⟩⟩ := by unfold stmtOf; simp [hl]
      rw [he]
      ((conv=>whnf);repeat((first|(with_reducible first|refine Z1 ?_|refine Z2 ?_|refine Z3 ?_|refine Z4 ?_|refine Z5 ?_|refine Z9 (by assumption) rfl ?_|refine ZA (by assumption) rfl ?_|refine ZB (by assumption) rfl ?_|refine Z6 ?_|refine Z7 ?_|refine Z8 ?_)|((with_reducible refine ZM ?_ ?_);(focus rfl)));(conv=>whnf)))
      refine HBound.mk 3 (by show (if (3 : Int) < (if (2 : Int) > ((l.length : Nat) : Int) then (2 : Int) else ((l.length : Nat) : Int)) then (3 : Int) else (if (2 : Int) > ((l.length : Nat) : Int) then (2 : Int) else ((l.length : Nat) : Int))) = ((3 : Nat) : Int); split <;> split <;> omega) (show 3 ≤ (⟨#[101, 98, 98]⟩ : ByteArray).size by decide) ?_
      ((conv=>whnf);repeat((first|(with_reducible first|refine Z1 ?_|refine Z2 ?_|refine Z3 ?_|refine Z4 ?_|refine Z5 ?_|refine Z9 (by assumption) rfl ?_|refine ZA (by assumption) rfl ?_|refine ZB (by assumption) rfl ?_|refine Z6 ?_|refine Z7 ?_|refine Z8 ?_)|((with_reducible refine ZM ?_ ?_);(focus rfl)));(conv=>whnf)))
      refine blk_st (o := 4) o2 (by simp) rfl ?_
      intro h3 f3 z3 o3
      replace o3 : BlkW h3 bf 58 [.string ⟨#[]⟩, .int .i64 0, .bool false, .bool false, .string ⟨#[101, 98, 98]⟩] := o3
      have x3 := x02.offNew f3 (by omega)
      clear o2
      ((conv=>whnf);repeat((first|(with_reducible first|refine Z1 ?_|refine Z2 ?_|refine Z3 ?_|refine Z4 ?_|refine Z5 ?_|refine Z9 (by assumption) rfl ?_|refine ZA (by assumption) rfl ?_|refine ZB (by assumption) rfl ?_|refine Z6 ?_|refine Z7 ?_|refine Z8 ?_)|((with_reducible refine ZM ?_ ?_);(focus rfl)));(conv=>whnf)))
      refine store_blk o3 (by simp) (by simp [isOne]) ?_
      intro h4 f4 z4 o4
      replace o4 : BlkW h4 bf 58 [.string ⟨#[]⟩, .int .i64 0, .bool false, .bool false, .string ⟨#[101, 98, 98]⟩] := by simpa using o4
      clear o3
      ((conv=>whnf);repeat((first|(with_reducible first|refine Z1 ?_|refine Z2 ?_|refine Z3 ?_|refine Z4 ?_|refine Z5 ?_|refine Z9 (by assumption) rfl ?_|refine ZA (by assumption) rfl ?_|refine ZB (by assumption) rfl ?_|refine Z6 ?_|refine Z7 ?_|refine Z8 ?_)|((with_reducible refine ZM ?_ ?_);(focus rfl)));(conv=>whnf)))
      exact ⟨⟨[.string ⟨#[]⟩, .int .i64 0, .bool false, .bool false, .string ⟨#[101, 98, 98]⟩], rfl, ⟨rfl, by simp [isOne]⟩, fun f hf => by cases hf; rfl⟩, x3.offNew f4 (by omega)⟩
  by_cases hk33 : k = 33
  · subst hk33
    by_cases hl : l.length = 0
    · have he : stmtOf 33 l.length = some ⟨⟨#[]⟩, 0, false, false, ⟨#[]⟩⟩ := by unfold stmtOf; rw [hl]; rfl
      rw [he]
      ((conv=>whnf);repeat((first|(with_reducible first|refine Z1 ?_|refine Z2 ?_|refine Z3 ?_|refine Z4 ?_|refine Z5 ?_|refine Z9 (by assumption) rfl ?_|refine ZA (by assumption) rfl ?_|refine ZB (by assumption) rfl ?_|refine Z6 ?_|refine Z7 ?_|refine Z8 ?_)|((with_reducible refine ZM ?_ ?_);(focus rfl)));(conv=>whnf)))
      refine HBound.mk 0 (by show (if (1 : Int) < ((l.length : Nat) : Int) then (1 : Int) else ((l.length : Nat) : Int)) = ((0 : Nat) : Int); rw [if_neg (by omega)]; omega) (show 0 ≤ (⟨#[101]⟩ : ByteArray).size by decide) ?_
      ((conv=>whnf);repeat((first|(with_reducible first|refine Z1 ?_|refine Z2 ?_|refine Z3 ?_|refine Z4 ?_|refine Z5 ?_|refine Z9 (by assumption) rfl ?_|refine ZA (by assumption) rfl ?_|refine ZB (by assumption) rfl ?_|refine Z6 ?_|refine Z7 ?_|refine Z8 ?_)|((with_reducible refine ZM ?_ ?_);(focus rfl)));(conv=>whnf)))
      refine blk_st (o := 4) o2 (by simp) rfl ?_
      intro h3 f3 z3 o3
      replace o3 : BlkW h3 bf 58 [.string ⟨#[]⟩, .int .i64 0, .bool false, .bool false, .string ⟨#[]⟩] := o3
      have x3 := x02.offNew f3 (by omega)
      clear o2
      ((conv=>whnf);repeat((first|(with_reducible first|refine Z1 ?_|refine Z2 ?_|refine Z3 ?_|refine Z4 ?_|refine Z5 ?_|refine Z9 (by assumption) rfl ?_|refine ZA (by assumption) rfl ?_|refine ZB (by assumption) rfl ?_|refine Z6 ?_|refine Z7 ?_|refine Z8 ?_)|((with_reducible refine ZM ?_ ?_);(focus rfl)));(conv=>whnf)))
      refine store_blk o3 (by simp) (by simp [isOne]) ?_
      intro h4 f4 z4 o4
      replace o4 : BlkW h4 bf 58 [.string ⟨#[]⟩, .int .i64 0, .bool false, .bool false, .string ⟨#[]⟩] := by simpa using o4
      clear o3
      ((conv=>whnf);repeat((first|(with_reducible first|refine Z1 ?_|refine Z2 ?_|refine Z3 ?_|refine Z4 ?_|refine Z5 ?_|refine Z9 (by assumption) rfl ?_|refine ZA (by assumption) rfl ?_|refine ZB (by assumption) rfl ?_|refine Z6 ?_|refine Z7 ?_|refine Z8 ?_)|((with_reducible refine ZM ?_ ?_);(focus rfl)));(conv=>whnf)))
      exact ⟨⟨[.string ⟨#[]⟩, .int .i64 0, .bool false, .bool false, .string ⟨#[]⟩], rfl, ⟨rfl, by simp [isOne]⟩, fun f hf => by cases hf; rfl⟩, x3.offNew f4 (by omega)⟩
    · have he : stmtOf 33 l.length = some ⟨⟨#[]⟩, 0, false, false, ⟨#[101]⟩⟩ := by unfold stmtOf; simp [hl]
      rw [he]
      ((conv=>whnf);repeat((first|(with_reducible first|refine Z1 ?_|refine Z2 ?_|refine Z3 ?_|refine Z4 ?_|refine Z5 ?_|refine Z9 (by assumption) rfl ?_|refine ZA (by assumption) rfl ?_|refine ZB (by assumption) rfl ?_|refine Z6 ?_|refine Z7 ?_|refine Z8 ?_)|((with_reducible refine ZM ?_ ?_);(focus rfl)));(conv=>whnf)))
      refine HBound.mk 1 (by show (if (1 : Int) < ((l.length : Nat) : Int) then (1 : Int) else ((l.length : Nat) : Int)) = ((1 : Nat) : Int); split <;> omega) (show 1 ≤ (⟨#[101]⟩ : ByteArray).size by decide) ?_
      ((conv=>whnf);repeat((first|(with_reducible first|refine Z1 ?_|refine Z2 ?_|refine Z3 ?_|refine Z4 ?_|refine Z5 ?_|refine Z9 (by assumption) rfl ?_|refine ZA (by assumption) rfl ?_|refine ZB (by assumption) rfl ?_|refine Z6 ?_|refine Z7 ?_|refine Z8 ?_)|((with_reducible refine ZM ?_ ?_);(focus rfl)));(conv=>whnf)))
      refine blk_st (o := 4) o2 (by simp) rfl ?_
      intro h3 f3 z3 o3
      replace o3 : BlkW h3 bf 58 [.string ⟨#[]⟩, .int .i64 0, .bool false, .bool false, .string ⟨#[101]⟩] := o3
      have x3 := x02.offNew f3 (by omega)
      clear o2
      ((conv=>whnf);repeat((first|(with_reducible first|refine Z1 ?_|refine Z2 ?_|refine Z3 ?_|refine Z4 ?_|refine Z5 ?_|refine Z9 (by assumption) rfl ?_|refine ZA (by assumption) rfl ?_|refine ZB (by assumption) rfl ?_|refine Z6 ?_|refine Z7 ?_|refine Z8 ?_)|((with_reducible refine ZM ?_ ?_);(focus rfl)));(conv=>whnf)))
      refine store_blk o3 (by simp) (by simp [isOne]) ?_
      intro h4 f4 z4 o4
      replace o4 : BlkW h4 bf 58 [.string ⟨#[]⟩, .int .i64 0, .bool false, .bool false, .string ⟨#[101]⟩] := by simpa using o4
      clear o3
      ((conv=>whnf);repeat((first|(with_reducible first|refine Z1 ?_|refine Z2 ?_|refine Z3 ?_|refine Z4 ?_|refine Z5 ?_|refine Z9 (by assumption) rfl ?_|refine ZA (by assumption) rfl ?_|refine ZB (by assumption) rfl ?_|refine Z6 ?_|refine Z7 ?_|refine Z8 ?_)|((with_reducible refine ZM ?_ ?_);(focus rfl)));(conv=>whnf)))
      exact ⟨⟨[.string ⟨#[]⟩, .int .i64 0, .bool false, .bool false, .string ⟨#[101]⟩], rfl, ⟨rfl, by simp [isOne]⟩, fun f hf => by cases hf; rfl⟩, x3.offNew f4 (by omega)⟩
  have q22 : (k == 22) = false := beq_eq_false_iff_ne.2 hk22
  have q23 : (k == 23) = false := beq_eq_false_iff_ne.2 hk23
  have q24 : (k == 24) = false := beq_eq_false_iff_ne.2 hk24
  have q25 : (k == 25) = false := beq_eq_false_iff_ne.2 hk25
  have q26 : (k == 26) = false := beq_eq_false_iff_ne.2 hk26
  have q27 : (k == 27) = false := beq_eq_false_iff_ne.2 hk27
  have q28 : (k == 28) = false := beq_eq_false_iff_ne.2 hk28
  have q29 : (k == 29) = false := beq_eq_false_iff_ne.2 hk29
  have q30 : (k == 30) = false := beq_eq_false_iff_ne.2 hk30
  have q31 : (k == 31) = false := beq_eq_false_iff_ne.2 hk31
  have q32 : (k == 32) = false := beq_eq_false_iff_ne.2 hk32
  have q33 : (k == 33) = false := beq_eq_false_iff_ne.2 hk33
  have q34 : (k == 34) = false := beq_eq_false_iff_ne.2 hk34
  have q35 : (k == 35) = false := beq_eq_false_iff_ne.2 hk35
  have q36 : (k == 36) = false := beq_eq_false_iff_ne.2 hk36
  have q37 : (k == 37) = false := beq_eq_false_iff_ne.2 hk37
  have q38 : (k == 38) = false := beq_eq_false_iff_ne.2 hk38
  have q39 : (k == 39) = false := beq_eq_false_iff_ne.2 hk39
  have q41 : (k == 41) = false := beq_eq_false_iff_ne.2 hk41
  have e : stmtOf k l.length = none := by unfold stmtOf; rw [if_neg hk22, if_neg hk23, if_neg hk24, if_neg hk25, if_neg hk26, if_neg hk27, if_neg hk28, if_neg hk29, if_neg hk30, if_neg hk31, if_neg hk32, if_neg hk33, if_neg hk34, if_neg hk35, if_neg hk36, if_neg hk37, if_neg hk38, if_neg hk39, if_neg hk41]
  rw [e]
  ((conv=>whnf);repeat((first|(with_reducible first|refine Z1 ?_|refine Z2 ?_|refine Z3 ?_|refine Z4 ?_|refine Z5 ?_|refine Z9 (by assumption) rfl ?_|refine ZA (by assumption) rfl ?_|refine ZB (by assumption) rfl ?_|refine Z6 ?_|refine Z7 ?_|refine Z8 ?_)|((with_reducible refine ZM ?_ ?_);(focus rfl)));(conv=>whnf)))
  refine store_blk o2 (by simp) (by simp [isOne]) ?_
  intro h3 f3 z3 o3
  replace o3 : BlkW h3 bf 58 zeroF := by simpa using o3
  clear o2
  ((conv=>whnf);repeat((first|(with_reducible first|refine Z1 ?_|refine Z2 ?_|refine Z3 ?_|refine Z4 ?_|refine Z5 ?_|refine Z9 (by assumption) rfl ?_|refine ZA (by assumption) rfl ?_|refine ZB (by assumption) rfl ?_|refine Z6 ?_|refine Z7 ?_|refine Z8 ?_)|((with_reducible refine ZM ?_ ?_);(focus rfl)));(conv=>whnf)))
  exact ⟨⟨zeroF, rfl, ⟨rfl, by simp [isOne]⟩, fun f hf => by cases hf⟩, x02.offNew f3 (by omega)⟩
theorem of_spec {h : Heap} {d : NT} {cs : List Value} (r : TRep h d cs) : HCalls Try.prog 44 #[.agg cs.toArray] h fun e h' => (∃ v, e = .returned (.tuple #[.agg (v : List Value).toArray, .bool (formOf d.kind d.l.length).isSome]) ∧ (v.length = 5 ∧ (∀ x ∈ v, isOne x = true)) ∧ ∀ f, formOf d.kind d.l.length = some f → v = f.cells) ∧ Ext h h' := by
  cases d with
  | mk k nm n t ns l =>
  simp only [TRep] at r
  have r0 := r
  obtain ⟨b1, b2, b3, b4, b5, b6, b7, ka, kc, la, lc, ys, rfl, s1, s2, s3⟩ := r
  show HCalls Try.prog 44 _ h fun e h' => (∃ v, e = .returned (.tuple #[.agg (v : List Value).toArray, .bool (formOf k l.length).isSome]) ∧ (v.length = 5 ∧ (∀ x ∈ v, isOne x = true)) ∧ ∀ f, formOf k l.length = some f → v = f.cells) ∧ Ext h h'
  refine c44 (by simp) ?_
  ((conv=>whnf);repeat((first|(with_reducible first|refine Z1 ?_|refine Z2 ?_|refine Z3 ?_|refine Z4 ?_|refine Z5 ?_|refine Z9 (by assumption) rfl ?_|refine ZA (by assumption) rfl ?_|refine ZB (by assumption) rfl ?_|refine Z6 ?_|refine Z7 ?_|refine Z8 ?_)|((with_reducible refine ZM ?_ ?_);(focus rfl)));(conv=>whnf)))
  refine new_var (e := 26) [.int .i64 k, .string nm, .int .i64 n, .string t, .slice ka ns.length kc, .slice la l.length lc] rfl ?_
  intro h1 bn o1 x1 z1 hbn
  ((conv=>whnf);repeat((first|(with_reducible first|refine Z1 ?_|refine Z2 ?_|refine Z3 ?_|refine Z4 ?_|refine Z5 ?_|refine Z9 (by assumption) rfl ?_|refine ZA (by assumption) rfl ?_|refine ZB (by assumption) rfl ?_|refine Z6 ?_|refine Z7 ?_|refine Z8 ?_)|((with_reducible refine ZM ?_ ?_);(focus rfl)));(conv=>whnf)))
  refine new_var (e := 58) zeroF rfl ?_
  intro h2 bf o2 x2 z2 hbf
  have o12 := o1.ext x2
  have x02 := x1.trans x2
  have hh1 := x1.1
  have hbn1 : bn < h1.size := o1.lt
  clear o1
  by_cases hk1 : k = 1
  · subst hk1
    ((conv=>whnf);repeat((first|(with_reducible first|refine Z1 ?_|refine Z2 ?_|refine Z3 ?_|refine Z4 ?_|refine Z5 ?_|refine Z9 (by assumption) rfl ?_|refine ZA (by assumption) rfl ?_|refine ZB (by assumption) rfl ?_|refine Z6 ?_|refine Z7 ?_|refine Z8 ?_)|((with_reducible refine ZM ?_ ?_);(focus rfl)));(conv=>whnf)))
    refine blk_st (o := 1) o2 (by simp) rfl ?_
    intro h3 f3 z3 o3
    replace o3 : BlkW h3 bf 58 [.string ⟨#[]⟩, .int .i64 9007199254740991, .bool false, .bool false, .string ⟨#[]⟩] := o3
    have x3 := x02.offNew f3 (by omega)
    clear o2
    ((conv=>whnf);repeat((first|(with_reducible first|refine Z1 ?_|refine Z2 ?_|refine Z3 ?_|refine Z4 ?_|refine Z5 ?_|refine Z9 (by assumption) rfl ?_|refine ZA (by assumption) rfl ?_|refine ZB (by assumption) rfl ?_|refine Z6 ?_|refine Z7 ?_|refine Z8 ?_)|((with_reducible refine ZM ?_ ?_);(focus rfl)));(conv=>whnf)))
    refine store_blk o3 (by simp) (by simp [isOne]) ?_
    intro h4 f4 z4 o4
    replace o4 : BlkW h4 bf 58 [.string ⟨#[]⟩, .int .i64 9007199254740991, .bool false, .bool false, .string ⟨#[]⟩] := by simpa using o4
    clear o3
    ((conv=>whnf);repeat((first|(with_reducible first|refine Z1 ?_|refine Z2 ?_|refine Z3 ?_|refine Z4 ?_|refine Z5 ?_|refine Z9 (by assumption) rfl ?_|refine ZA (by assumption) rfl ?_|refine ZB (by assumption) rfl ?_|refine Z6 ?_|refine Z7 ?_|refine Z8 ?_)|((with_reducible refine ZM ?_ ?_);(focus rfl)));(conv=>whnf)))
    exact ⟨⟨[.string ⟨#[]⟩, .int .i64 9007199254740991, .bool false, .bool false, .string ⟨#[]⟩], rfl, ⟨rfl, by simp [isOne]⟩, fun f hf => by cases hf; rfl⟩, x3.offNew f4 (by omega)⟩
  by_cases hk2 : k = 2
  · subst hk2
    ((conv=>whnf);repeat((first|(with_reducible first|refine Z1 ?_|refine Z2 ?_|refine Z3 ?_|refine Z4 ?_|refine Z5 ?_|refine Z9 (by assumption) rfl ?_|refine ZA (by assumption) rfl ?_|refine ZB (by assumption) rfl ?_|refine Z6 ?_|refine Z7 ?_|refine Z8 ?_)|((with_reducible refine ZM ?_ ?_);(focus rfl)));(conv=>whnf)))
    refine blk_st (o := 2) o2 (by simp) rfl ?_
    intro h3 f3 z3 o3
    replace o3 : BlkW h3 bf 58 [.string ⟨#[]⟩, .int .i64 0, .bool true, .bool false, .string ⟨#[]⟩] := o3
    have x3 := x02.offNew f3 (by omega)
    clear o2
    ((conv=>whnf);repeat((first|(with_reducible first|refine Z1 ?_|refine Z2 ?_|refine Z3 ?_|refine Z4 ?_|refine Z5 ?_|refine Z9 (by assumption) rfl ?_|refine ZA (by assumption) rfl ?_|refine ZB (by assumption) rfl ?_|refine Z6 ?_|refine Z7 ?_|refine Z8 ?_)|((with_reducible refine ZM ?_ ?_);(focus rfl)));(conv=>whnf)))
    refine store_blk o3 (by simp) (by simp [isOne]) ?_
    intro h4 f4 z4 o4
    replace o4 : BlkW h4 bf 58 [.string ⟨#[]⟩, .int .i64 0, .bool true, .bool false, .string ⟨#[]⟩] := by simpa using o4
    clear o3
    ((conv=>whnf);repeat((first|(with_reducible first|refine Z1 ?_|refine Z2 ?_|refine Z3 ?_|refine Z4 ?_|refine Z5 ?_|refine Z9 (by assumption) rfl ?_|refine ZA (by assumption) rfl ?_|refine ZB (by assumption) rfl ?_|refine Z6 ?_|refine Z7 ?_|refine Z8 ?_)|((with_reducible refine ZM ?_ ?_);(focus rfl)));(conv=>whnf)))
    exact ⟨⟨[.string ⟨#[]⟩, .int .i64 0, .bool true, .bool false, .string ⟨#[]⟩], rfl, ⟨rfl, by simp [isOne]⟩, fun f hf => by cases hf; rfl⟩, x3.offNew f4 (by omega)⟩
  by_cases hk3 : k = 3
  · subst hk3
    ((conv=>whnf);repeat((first|(with_reducible first|refine Z1 ?_|refine Z2 ?_|refine Z3 ?_|refine Z4 ?_|refine Z5 ?_|refine Z9 (by assumption) rfl ?_|refine ZA (by assumption) rfl ?_|refine ZB (by assumption) rfl ?_|refine Z6 ?_|refine Z7 ?_|refine Z8 ?_)|((with_reducible refine ZM ?_ ?_);(focus rfl)));(conv=>whnf)))
    refine blk_st (o := 0) o2 (by simp) rfl ?_
    intro h3 f3 z3 o3
    replace o3 : BlkW h3 bf 58 [.string ⟨#[110]⟩, .int .i64 0, .bool false, .bool false, .string ⟨#[]⟩] := o3
    have x3 := x02.offNew f3 (by omega)
    clear o2
    ((conv=>whnf);repeat((first|(with_reducible first|refine Z1 ?_|refine Z2 ?_|refine Z3 ?_|refine Z4 ?_|refine Z5 ?_|refine Z9 (by assumption) rfl ?_|refine ZA (by assumption) rfl ?_|refine ZB (by assumption) rfl ?_|refine Z6 ?_|refine Z7 ?_|refine Z8 ?_)|((with_reducible refine ZM ?_ ?_);(focus rfl)));(conv=>whnf)))
    refine store_blk o3 (by simp) (by simp [isOne]) ?_
    intro h4 f4 z4 o4
    replace o4 : BlkW h4 bf 58 [.string ⟨#[110]⟩, .int .i64 0, .bool false, .bool false, .string ⟨#[]⟩] := by simpa using o4
    clear o3
    ((conv=>whnf);repeat((first|(with_reducible first|refine Z1 ?_|refine Z2 ?_|refine Z3 ?_|refine Z4 ?_|refine Z5 ?_|refine Z9 (by assumption) rfl ?_|refine ZA (by assumption) rfl ?_|refine ZB (by assumption) rfl ?_|refine Z6 ?_|refine Z7 ?_|refine Z8 ?_)|((with_reducible refine ZM ?_ ?_);(focus rfl)));(conv=>whnf)))
    exact ⟨⟨[.string ⟨#[110]⟩, .int .i64 0, .bool false, .bool false, .string ⟨#[]⟩], rfl, ⟨rfl, by simp [isOne]⟩, fun f hf => by cases hf; rfl⟩, x3.offNew f4 (by omega)⟩
  by_cases hk4 : k = 4
  · subst hk4
    ((conv=>whnf);repeat((first|(with_reducible first|refine Z1 ?_|refine Z2 ?_|refine Z3 ?_|refine Z4 ?_|refine Z5 ?_|refine Z9 (by assumption) rfl ?_|refine ZA (by assumption) rfl ?_|refine ZB (by assumption) rfl ?_|refine Z6 ?_|refine Z7 ?_|refine Z8 ?_)|((with_reducible refine ZM ?_ ?_);(focus rfl)));(conv=>whnf)))
    refine store_blk o2 (by simp) (by simp [isOne]) ?_
    intro h3 f3 z3 o3
    replace o3 : BlkW h3 bf 58 [.string ⟨#[]⟩, .int .i64 0, .bool false, .bool false, .string ⟨#[]⟩] := by simpa using o3
    clear o2
    ((conv=>whnf);repeat((first|(with_reducible first|refine Z1 ?_|refine Z2 ?_|refine Z3 ?_|refine Z4 ?_|refine Z5 ?_|refine Z9 (by assumption) rfl ?_|refine ZA (by assumption) rfl ?_|refine ZB (by assumption) rfl ?_|refine Z6 ?_|refine Z7 ?_|refine Z8 ?_)|((with_reducible refine ZM ?_ ?_);(focus rfl)));(conv=>whnf)))
    exact ⟨⟨[.string ⟨#[]⟩, .int .i64 0, .bool false, .bool false, .string ⟨#[]⟩], rfl, ⟨rfl, by simp [isOne]⟩, fun f hf => by cases hf; rfl⟩, x02.offNew f3 (by omega)⟩
  by_cases hk5 : k = 5
  · subst hk5
    ((conv=>whnf);repeat((first|(with_reducible first|refine Z1 ?_|refine Z2 ?_|refine Z3 ?_|refine Z4 ?_|refine Z5 ?_|refine Z9 (by assumption) rfl ?_|refine ZA (by assumption) rfl ?_|refine ZB (by assumption) rfl ?_|refine Z6 ?_|refine Z7 ?_|refine Z8 ?_)|((with_reducible refine ZM ?_ ?_);(focus rfl)));(conv=>whnf)))
    refine store_blk o2 (by simp) (by simp [isOne]) ?_
    intro h3 f3 z3 o3
    replace o3 : BlkW h3 bf 58 [.string ⟨#[]⟩, .int .i64 0, .bool false, .bool false, .string ⟨#[]⟩] := by simpa using o3
    clear o2
    ((conv=>whnf);repeat((first|(with_reducible first|refine Z1 ?_|refine Z2 ?_|refine Z3 ?_|refine Z4 ?_|refine Z5 ?_|refine Z9 (by assumption) rfl ?_|refine ZA (by assumption) rfl ?_|refine ZB (by assumption) rfl ?_|refine Z6 ?_|refine Z7 ?_|refine Z8 ?_)|((with_reducible refine ZM ?_ ?_);(focus rfl)));(conv=>whnf)))
    exact ⟨⟨[.string ⟨#[]⟩, .int .i64 0, .bool false, .bool false, .string ⟨#[]⟩], rfl, ⟨rfl, by simp [isOne]⟩, fun f hf => by cases hf; rfl⟩, x02.offNew f3 (by omega)⟩
  by_cases hk6 : k = 6
  · subst hk6
    ((conv=>whnf);repeat((first|(with_reducible first|refine Z1 ?_|refine Z2 ?_|refine Z3 ?_|refine Z4 ?_|refine Z5 ?_|refine Z9 (by assumption) rfl ?_|refine ZA (by assumption) rfl ?_|refine ZB (by assumption) rfl ?_|refine Z6 ?_|refine Z7 ?_|refine Z8 ?_)|((with_reducible refine ZM ?_ ?_);(focus rfl)));(conv=>whnf)))
    refine blk_st (o := 1) o2 (by simp) rfl ?_
    intro h3 f3 z3 o3
    replace o3 : BlkW h3 bf 58 [.string ⟨#[]⟩, .int .i64 1, .bool false, .bool false, .string ⟨#[]⟩] := o3
    have x3 := x02.offNew f3 (by omega)
    clear o2
    ((conv=>whnf);repeat((first|(with_reducible first|refine Z1 ?_|refine Z2 ?_|refine Z3 ?_|refine Z4 ?_|refine Z5 ?_|refine Z9 (by assumption) rfl ?_|refine ZA (by assumption) rfl ?_|refine ZB (by assumption) rfl ?_|refine Z6 ?_|refine Z7 ?_|refine Z8 ?_)|((with_reducible refine ZM ?_ ?_);(focus rfl)));(conv=>whnf)))
    refine store_blk o3 (by simp) (by simp [isOne]) ?_
    intro h4 f4 z4 o4
    replace o4 : BlkW h4 bf 58 [.string ⟨#[]⟩, .int .i64 1, .bool false, .bool false, .string ⟨#[]⟩] := by simpa using o4
    clear o3
    ((conv=>whnf);repeat((first|(with_reducible first|refine Z1 ?_|refine Z2 ?_|refine Z3 ?_|refine Z4 ?_|refine Z5 ?_|refine Z9 (by assumption) rfl ?_|refine ZA (by assumption) rfl ?_|refine ZB (by assumption) rfl ?_|refine Z6 ?_|refine Z7 ?_|refine Z8 ?_)|((with_reducible refine ZM ?_ ?_);(focus rfl)));(conv=>whnf)))
    exact ⟨⟨[.string ⟨#[]⟩, .int .i64 1, .bool false, .bool false, .string ⟨#[]⟩], rfl, ⟨rfl, by simp [isOne]⟩, fun f hf => by cases hf; rfl⟩, x3.offNew f4 (by omega)⟩
  by_cases hk7 : k = 7
  · subst hk7
    ((conv=>whnf);repeat((first|(with_reducible first|refine Z1 ?_|refine Z2 ?_|refine Z3 ?_|refine Z4 ?_|refine Z5 ?_|refine Z9 (by assumption) rfl ?_|refine ZA (by assumption) rfl ?_|refine ZB (by assumption) rfl ?_|refine Z6 ?_|refine Z7 ?_|refine Z8 ?_)|((with_reducible refine ZM ?_ ?_);(focus rfl)));(conv=>whnf)))
    refine blk_st (o := 4) o2 (by simp) rfl ?_
    intro h3 f3 z3 o3
    replace o3 : BlkW h3 bf 58 [.string ⟨#[]⟩, .int .i64 0, .bool false, .bool false, .string ⟨#[42, 101]⟩] := o3
    have x3 := x02.offNew f3 (by omega)
    clear o2
    ((conv=>whnf);repeat((first|(with_reducible first|refine Z1 ?_|refine Z2 ?_|refine Z3 ?_|refine Z4 ?_|refine Z5 ?_|refine Z9 (by assumption) rfl ?_|refine ZA (by assumption) rfl ?_|refine ZB (by assumption) rfl ?_|refine Z6 ?_|refine Z7 ?_|refine Z8 ?_)|((with_reducible refine ZM ?_ ?_);(focus rfl)));(conv=>whnf)))
    refine store_blk o3 (by simp) (by simp [isOne]) ?_
    intro h4 f4 z4 o4
    replace o4 : BlkW h4 bf 58 [.string ⟨#[]⟩, .int .i64 0, .bool false, .bool false, .string ⟨#[42, 101]⟩] := by simpa using o4
    clear o3
    ((conv=>whnf);repeat((first|(with_reducible first|refine Z1 ?_|refine Z2 ?_|refine Z3 ?_|refine Z4 ?_|refine Z5 ?_|refine Z9 (by assumption) rfl ?_|refine ZA (by assumption) rfl ?_|refine ZB (by assumption) rfl ?_|refine Z6 ?_|refine Z7 ?_|refine Z8 ?_)|((with_reducible refine ZM ?_ ?_);(focus rfl)));(conv=>whnf)))
    exact ⟨⟨[.string ⟨#[]⟩, .int .i64 0, .bool false, .bool false, .string ⟨#[42, 101]⟩], rfl, ⟨rfl, by simp [isOne]⟩, fun f hf => by cases hf; rfl⟩, x3.offNew f4 (by omega)⟩
  by_cases hk8 : k = 8
  · subst hk8
    ((conv=>whnf);repeat((first|(with_reducible first|refine Z1 ?_|refine Z2 ?_|refine Z3 ?_|refine Z4 ?_|refine Z5 ?_|refine Z9 (by assumption) rfl ?_|refine ZA (by assumption) rfl ?_|refine ZB (by assumption) rfl ?_|refine Z6 ?_|refine Z7 ?_|refine Z8 ?_)|((with_reducible refine ZM ?_ ?_);(focus rfl)));(conv=>whnf)))
    refine blk_st (o := 4) o2 (by simp) rfl ?_
    intro h3 f3 z3 o3
    replace o3 : BlkW h3 bf 58 [.string ⟨#[]⟩, .int .i64 0, .bool false, .bool false, .string ⟨#[42, 112]⟩] := o3
    have x3 := x02.offNew f3 (by omega)
    clear o2
    ((conv=>whnf);repeat((first|(with_reducible first|refine Z1 ?_|refine Z2 ?_|refine Z3 ?_|refine Z4 ?_|refine Z5 ?_|refine Z9 (by assumption) rfl ?_|refine ZA (by assumption) rfl ?_|refine ZB (by assumption) rfl ?_|refine Z6 ?_|refine Z7 ?_|refine Z8 ?_)|((with_reducible refine ZM ?_ ?_);(focus rfl)));(conv=>whnf)))
    refine store_blk o3 (by simp) (by simp [isOne]) ?_
    intro h4 f4 z4 o4
    replace o4 : BlkW h4 bf 58 [.string ⟨#[]⟩, .int .i64 0, .bool false, .bool false, .string ⟨#[42, 112]⟩] := by simpa using o4
    clear o3
    ((conv=>whnf);repeat((first|(with_reducible first|refine Z1 ?_|refine Z2 ?_|refine Z3 ?_|refine Z4 ?_|refine Z5 ?_|refine Z9 (by assumption) rfl ?_|refine ZA (by assumption) rfl ?_|refine ZB (by assumption) rfl ?_|refine Z6 ?_|refine Z7 ?_|refine Z8 ?_)|((with_reducible refine ZM ?_ ?_);(focus rfl)));(conv=>whnf)))
    exact ⟨⟨[.string ⟨#[]⟩, .int .i64 0, .bool false, .bool false, .string ⟨#[42, 112]⟩], rfl, ⟨rfl, by simp [isOne]⟩, fun f hf => by cases hf; rfl⟩, x3.offNew f4 (by omega)⟩
  by_cases hk9 : k = 9
  · subst hk9
    ((conv=>whnf);repeat((first|(with_reducible first|refine Z1 ?_|refine Z2 ?_|refine Z3 ?_|refine Z4 ?_|refine Z5 ?_|refine Z9 (by assumption) rfl ?_|refine ZA (by assumption) rfl ?_|refine ZB (by assumption) rfl ?_|refine Z6 ?_|refine Z7 ?_|refine Z8 ?_)|((with_reducible refine ZM ?_ ?_);(focus rfl)));(conv=>whnf)))
    refine blk_st (o := 2) o2 (by simp) rfl ?_
    intro h3 f3 z3 o3
    replace o3 : BlkW h3 bf 58 [.string ⟨#[]⟩, .int .i64 0, .bool true, .bool false, .string ⟨#[]⟩] := o3
    have x3 := x02.offNew f3 (by omega)
    clear o2
    ((conv=>whnf);repeat((first|(with_reducible first|refine Z1 ?_|refine Z2 ?_|refine Z3 ?_|refine Z4 ?_|refine Z5 ?_|refine Z9 (by assumption) rfl ?_|refine ZA (by assumption) rfl ?_|refine ZB (by assumption) rfl ?_|refine Z6 ?_|refine Z7 ?_|refine Z8 ?_)|((with_reducible refine ZM ?_ ?_);(focus rfl)));(conv=>whnf)))
    refine blk_st (o := 4) o3 (by simp) rfl ?_
    intro h4 f4 z4 o4
    replace o4 : BlkW h4 bf 58 [.string ⟨#[]⟩, .int .i64 0, .bool true, .bool false, .string ⟨#[101]⟩] := o4
    have x4 := x3.offNew f4 (by omega)
    clear o3
    ((conv=>whnf);repeat((first|(with_reducible first|refine Z1 ?_|refine Z2 ?_|refine Z3 ?_|refine Z4 ?_|refine Z5 ?_|refine Z9 (by assumption) rfl ?_|refine ZA (by assumption) rfl ?_|refine ZB (by assumption) rfl ?_|refine Z6 ?_|refine Z7 ?_|refine Z8 ?_)|((with_reducible refine ZM ?_ ?_);(focus rfl)));(conv=>whnf)))
    refine store_blk o4 (by simp) (by simp [isOne]) ?_
    intro h5 f5 z5 o5
    replace o5 : BlkW h5 bf 58 [.string ⟨#[]⟩, .int .i64 0, .bool true, .bool false, .string ⟨#[101]⟩] := by simpa using o5
    clear o4
    ((conv=>whnf);repeat((first|(with_reducible first|refine Z1 ?_|refine Z2 ?_|refine Z3 ?_|refine Z4 ?_|refine Z5 ?_|refine Z9 (by assumption) rfl ?_|refine ZA (by assumption) rfl ?_|refine ZB (by assumption) rfl ?_|refine Z6 ?_|refine Z7 ?_|refine Z8 ?_)|((with_reducible refine ZM ?_ ?_);(focus rfl)));(conv=>whnf)))
    exact ⟨⟨[.string ⟨#[]⟩, .int .i64 0, .bool true, .bool false, .string ⟨#[101]⟩], rfl, ⟨rfl, by simp [isOne]⟩, fun f hf => by cases hf; rfl⟩, x4.offNew f5 (by omega)⟩
  by_cases hk10 : k = 10
  · subst hk10
    ((conv=>whnf);repeat((first|(with_reducible first|refine Z1 ?_|refine Z2 ?_|refine Z3 ?_|refine Z4 ?_|refine Z5 ?_|refine Z9 (by assumption) rfl ?_|refine ZA (by assumption) rfl ?_|refine ZB (by assumption) rfl ?_|refine Z6 ?_|refine Z7 ?_|refine Z8 ?_)|((with_reducible refine ZM ?_ ?_);(focus rfl)));(conv=>whnf)))
    refine blk_st (o := 0) o2 (by simp) rfl ?_
    intro h3 f3 z3 o3
    replace o3 : BlkW h3 bf 58 [.string ⟨#[109]⟩, .int .i64 0, .bool false, .bool false, .string ⟨#[]⟩] := o3
    have x3 := x02.offNew f3 (by omega)
    clear o2
    ((conv=>whnf);repeat((first|(with_reducible first|refine Z1 ?_|refine Z2 ?_|refine Z3 ?_|refine Z4 ?_|refine Z5 ?_|refine Z9 (by assumption) rfl ?_|refine ZA (by assumption) rfl ?_|refine ZB (by assumption) rfl ?_|refine Z6 ?_|refine Z7 ?_|refine Z8 ?_)|((with_reducible refine ZM ?_ ?_);(focus rfl)));(conv=>whnf)))
    refine blk_st (o := 3) o3 (by simp) rfl ?_
    intro h4 f4 z4 o4
    replace o4 : BlkW h4 bf 58 [.string ⟨#[109]⟩, .int .i64 0, .bool false, .bool true, .string ⟨#[]⟩] := o4
    have x4 := x3.offNew f4 (by omega)
    clear o3
    ((conv=>whnf);repeat((first|(with_reducible first|refine Z1 ?_|refine Z2 ?_|refine Z3 ?_|refine Z4 ?_|refine Z5 ?_|refine Z9 (by assumption) rfl ?_|refine ZA (by assumption) rfl ?_|refine ZB (by assumption) rfl ?_|refine Z6 ?_|refine Z7 ?_|refine Z8 ?_)|((with_reducible refine ZM ?_ ?_);(focus rfl)));(conv=>whnf)))
    refine blk_st (o := 4) o4 (by simp) rfl ?_
    intro h5 f5 z5 o5
    replace o5 : BlkW h5 bf 58 [.string ⟨#[109]⟩, .int .i64 0, .bool false, .bool true, .string ⟨#[42, 120]⟩] := o5
    have x5 := x4.offNew f5 (by omega)
    clear o4
    ((conv=>whnf);repeat((first|(with_reducible first|refine Z1 ?_|refine Z2 ?_|refine Z3 ?_|refine Z4 ?_|refine Z5 ?_|refine Z9 (by assumption) rfl ?_|refine ZA (by assumption) rfl ?_|refine ZB (by assumption) rfl ?_|refine Z6 ?_|refine Z7 ?_|refine Z8 ?_)|((with_reducible refine ZM ?_ ?_);(focus rfl)));(conv=>whnf)))
    refine store_blk o5 (by simp) (by simp [isOne]) ?_
    intro h6 f6 z6 o6
    replace o6 : BlkW h6 bf 58 [.string ⟨#[109]⟩, .int .i64 0, .bool false, .bool true, .string ⟨#[42, 120]⟩] := by simpa using o6
    clear o5
    ((conv=>whnf);repeat((first|(with_reducible first|refine Z1 ?_|refine Z2 ?_|refine Z3 ?_|refine Z4 ?_|refine Z5 ?_|refine Z9 (by assumption) rfl ?_|refine ZA (by assumption) rfl ?_|refine ZB (by assumption) rfl ?_|refine Z6 ?_|refine Z7 ?_|refine Z8 ?_)|((with_reducible refine ZM ?_ ?_);(focus rfl)));(conv=>whnf)))
    exact ⟨⟨[.string ⟨#[109]⟩, .int .i64 0, .bool false, .bool true, .string ⟨#[42, 120]⟩], rfl, ⟨rfl, by simp [isOne]⟩, fun f hf => by cases hf; rfl⟩, x5.offNew f6 (by omega)⟩
  by_cases hk11 : k = 11
  · subst hk11
    ((conv=>whnf);repeat((first|(with_reducible first|refine Z1 ?_|refine Z2 ?_|refine Z3 ?_|refine Z4 ?_|refine Z5 ?_|refine Z9 (by assumption) rfl ?_|refine ZA (by assumption) rfl ?_|refine ZB (by assumption) rfl ?_|refine Z6 ?_|refine Z7 ?_|refine Z8 ?_)|((with_reducible refine ZM ?_ ?_);(focus rfl)));(conv=>whnf)))
    refine blk_st (o := 0) o2 (by simp) rfl ?_
    intro h3 f3 z3 o3
    replace o3 : BlkW h3 bf 58 [.string ⟨#[105]⟩, .int .i64 0, .bool false, .bool false, .string ⟨#[]⟩] := o3
    have x3 := x02.offNew f3 (by omega)
    clear o2
    ((conv=>whnf);repeat((first|(with_reducible first|refine Z1 ?_|refine Z2 ?_|refine Z3 ?_|refine Z4 ?_|refine Z5 ?_|refine Z9 (by assumption) rfl ?_|refine ZA (by assumption) rfl ?_|refine ZB (by assumption) rfl ?_|refine Z6 ?_|refine Z7 ?_|refine Z8 ?_)|((with_reducible refine ZM ?_ ?_);(focus rfl)));(conv=>whnf)))
    refine blk_st (o := 4) o3 (by simp) rfl ?_
    intro h4 f4 z4 o4
    replace o4 : BlkW h4 bf 58 [.string ⟨#[105]⟩, .int .i64 0, .bool false, .bool false, .string ⟨#[101]⟩] := o4
    have x4 := x3.offNew f4 (by omega)
    clear o3
    ((conv=>whnf);repeat((first|(with_reducible first|refine Z1 ?_|refine Z2 ?_|refine Z3 ?_|refine Z4 ?_|refine Z5 ?_|refine Z9 (by assumption) rfl ?_|refine ZA (by assumption) rfl ?_|refine ZB (by assumption) rfl ?_|refine Z6 ?_|refine Z7 ?_|refine Z8 ?_)|((with_reducible refine ZM ?_ ?_);(focus rfl)));(conv=>whnf)))
    refine store_blk o4 (by simp) (by simp [isOne]) ?_
    intro h5 f5 z5 o5
    replace o5 : BlkW h5 bf 58 [.string ⟨#[105]⟩, .int .i64 0, .bool false, .bool false, .string ⟨#[101]⟩] := by simpa using o5
    clear o4
    ((conv=>whnf);repeat((first|(with_reducible first|refine Z1 ?_|refine Z2 ?_|refine Z3 ?_|refine Z4 ?_|refine Z5 ?_|refine Z9 (by assumption) rfl ?_|refine ZA (by assumption) rfl ?_|refine ZB (by assumption) rfl ?_|refine Z6 ?_|refine Z7 ?_|refine Z8 ?_)|((with_reducible refine ZM ?_ ?_);(focus rfl)));(conv=>whnf)))
    exact ⟨⟨[.string ⟨#[105]⟩, .int .i64 0, .bool false, .bool false, .string ⟨#[101]⟩], rfl, ⟨rfl, by simp [isOne]⟩, fun f hf => by cases hf; rfl⟩, x4.offNew f5 (by omega)⟩
  by_cases hk12 : k = 12
  · subst hk12
    ((conv=>whnf);repeat((first|(with_reducible first|refine Z1 ?_|refine Z2 ?_|refine Z3 ?_|refine Z4 ?_|refine Z5 ?_|refine Z9 (by assumption) rfl ?_|refine ZA (by assumption) rfl ?_|refine ZB (by assumption) rfl ?_|refine Z6 ?_|refine Z7 ?_|refine Z8 ?_)|((with_reducible refine ZM ?_ ?_);(focus rfl)));(conv=>whnf)))
    refine blk_st (o := 4) o2 (by simp) rfl ?_
    intro h3 f3 z3 o3
    replace o3 : BlkW h3 bf 58 [.string ⟨#[]⟩, .int .i64 0, .bool false, .bool false, .string ⟨#[101, 101]⟩] := o3
    have x3 := x02.offNew f3 (by omega)
    clear o2
    ((conv=>whnf);repeat((first|(with_reducible first|refine Z1 ?_|refine Z2 ?_|refine Z3 ?_|refine Z4 ?_|refine Z5 ?_|refine Z9 (by assumption) rfl ?_|refine ZA (by assumption) rfl ?_|refine ZB (by assumption) rfl ?_|refine Z6 ?_|refine Z7 ?_|refine Z8 ?_)|((with_reducible refine ZM ?_ ?_);(focus rfl)));(conv=>whnf)))
    refine store_blk o3 (by simp) (by simp [isOne]) ?_
    intro h4 f4 z4 o4
    replace o4 : BlkW h4 bf 58 [.string ⟨#[]⟩, .int .i64 0, .bool false, .bool false, .string ⟨#[101, 101]⟩] := by simpa using o4
    clear o3
    ((conv=>whnf);repeat((first|(with_reducible first|refine Z1 ?_|refine Z2 ?_|refine Z3 ?_|refine Z4 ?_|refine Z5 ?_|refine Z9 (by assumption) rfl ?_|refine ZA (by assumption) rfl ?_|refine ZB (by assumption) rfl ?_|refine Z6 ?_|refine Z7 ?_|refine Z8 ?_)|((with_reducible refine ZM ?_ ?_);(focus rfl)));(conv=>whnf)))
    exact ⟨⟨[.string ⟨#[]⟩, .int .i64 0, .bool false, .bool false, .string ⟨#[101, 101]⟩], rfl, ⟨rfl, by simp [isOne]⟩, fun f hf => by cases hf; rfl⟩, x3.offNew f4 (by omega)⟩
  by_cases hk13 : k = 13
  · subst hk13
    ((conv=>whnf);repeat((first|(with_reducible first|refine Z1 ?_|refine Z2 ?_|refine Z3 ?_|refine Z4 ?_|refine Z5 ?_|refine Z9 (by assumption) rfl ?_|refine ZA (by assumption) rfl ?_|refine ZB (by assumption) rfl ?_|refine Z6 ?_|refine Z7 ?_|refine Z8 ?_)|((with_reducible refine ZM ?_ ?_);(focus rfl)));(conv=>whnf)))
    refine blk_st (o := 4) o2 (by simp) rfl ?_
    intro h3 f3 z3 o3
    replace o3 : BlkW h3 bf 58 [.string ⟨#[]⟩, .int .i64 0, .bool false, .bool false, .string ⟨#[101, 42, 101]⟩] := o3
    have x3 := x02.offNew f3 (by omega)
    clear o2
    ((conv=>whnf);repeat((first|(with_reducible first|refine Z1 ?_|refine Z2 ?_|refine Z3 ?_|refine Z4 ?_|refine Z5 ?_|refine Z9 (by assumption) rfl ?_|refine ZA (by assumption) rfl ?_|refine ZB (by assumption) rfl ?_|refine Z6 ?_|refine Z7 ?_|refine Z8 ?_)|((with_reducible refine ZM ?_ ?_);(focus rfl)));(conv=>whnf)))
    refine store_blk o3 (by simp) (by simp [isOne]) ?_
    intro h4 f4 z4 o4
    replace o4 : BlkW h4 bf 58 [.string ⟨#[]⟩, .int .i64 0, .bool false, .bool false, .string ⟨#[101, 42, 101]⟩] := by simpa using o4
    clear o3
    ((conv=>whnf);repeat((first|(with_reducible first|refine Z1 ?_|refine Z2 ?_|refine Z3 ?_|refine Z4 ?_|refine Z5 ?_|refine Z9 (by assumption) rfl ?_|refine ZA (by assumption) rfl ?_|refine ZB (by assumption) rfl ?_|refine Z6 ?_|refine Z7 ?_|refine Z8 ?_)|((with_reducible refine ZM ?_ ?_);(focus rfl)));(conv=>whnf)))
    exact ⟨⟨[.string ⟨#[]⟩, .int .i64 0, .bool false, .bool false, .string ⟨#[101, 42, 101]⟩], rfl, ⟨rfl, by simp [isOne]⟩, fun f hf => by cases hf; rfl⟩, x3.offNew f4 (by omega)⟩
  by_cases hk14 : k = 14
  · subst hk14
    ((conv=>whnf);repeat((first|(with_reducible first|refine Z1 ?_|refine Z2 ?_|refine Z3 ?_|refine Z4 ?_|refine Z5 ?_|refine Z9 (by assumption) rfl ?_|refine ZA (by assumption) rfl ?_|refine ZB (by assumption) rfl ?_|refine Z6 ?_|refine Z7 ?_|refine Z8 ?_)|((with_reducible refine ZM ?_ ?_);(focus rfl)));(conv=>whnf)))
    refine blk_st (o := 4) o2 (by simp) rfl ?_
    intro h3 f3 z3 o3
    replace o3 : BlkW h3 bf 58 [.string ⟨#[]⟩, .int .i64 0, .bool false, .bool false, .string ⟨#[101, 42, 101]⟩] := o3
    have x3 := x02.offNew f3 (by omega)
    clear o2
    ((conv=>whnf);repeat((first|(with_reducible first|refine Z1 ?_|refine Z2 ?_|refine Z3 ?_|refine Z4 ?_|refine Z5 ?_|refine Z9 (by assumption) rfl ?_|refine ZA (by assumption) rfl ?_|refine ZB (by assumption) rfl ?_|refine Z6 ?_|refine Z7 ?_|refine Z8 ?_)|((with_reducible refine ZM ?_ ?_);(focus rfl)));(conv=>whnf)))
    refine store_blk o3 (by simp) (by simp [isOne]) ?_
    intro h4 f4 z4 o4
    replace o4 : BlkW h4 bf 58 [.string ⟨#[]⟩, .int .i64 0, .bool false, .bool false, .string ⟨#[101, 42, 101]⟩] := by simpa using o4
    clear o3
    ((conv=>whnf);repeat((first|(with_reducible first|refine Z1 ?_|refine Z2 ?_|refine Z3 ?_|refine Z4 ?_|refine Z5 ?_|refine Z9 (by assumption) rfl ?_|refine ZA (by assumption) rfl ?_|refine ZB (by assumption) rfl ?_|refine Z6 ?_|refine Z7 ?_|refine Z8 ?_)|((with_reducible refine ZM ?_ ?_);(focus rfl)));(conv=>whnf)))
    exact ⟨⟨[.string ⟨#[]⟩, .int .i64 0, .bool false, .bool false, .string ⟨#[101, 42, 101]⟩], rfl, ⟨rfl, by simp [isOne]⟩, fun f hf => by cases hf; rfl⟩, x3.offNew f4 (by omega)⟩
  by_cases hk15 : k = 15
  · subst hk15
    ((conv=>whnf);repeat((first|(with_reducible first|refine Z1 ?_|refine Z2 ?_|refine Z3 ?_|refine Z4 ?_|refine Z5 ?_|refine Z9 (by assumption) rfl ?_|refine ZA (by assumption) rfl ?_|refine ZB (by assumption) rfl ?_|refine Z6 ?_|refine Z7 ?_|refine Z8 ?_)|((with_reducible refine ZM ?_ ?_);(focus rfl)));(conv=>whnf)))
    refine blk_st (o := 0) o2 (by simp) rfl ?_
    intro h3 f3 z3 o3
    replace o3 : BlkW h3 bf 58 [.string ⟨#[32, 45, 32, 43, 32, 33, 32, 116, 121, 112, 101, 111, 102, 32, 100, 101, 108, 101, 116, 101, 32, 118, 111, 105, 100, 32]⟩, .int .i64 0, .bool false, .bool false, .string ⟨#[]⟩] := o3
    have x3 := x02.offNew f3 (by omega)
    clear o2
    ((conv=>whnf);repeat((first|(with_reducible first|refine Z1 ?_|refine Z2 ?_|refine Z3 ?_|refine Z4 ?_|refine Z5 ?_|refine Z9 (by assumption) rfl ?_|refine ZA (by assumption) rfl ?_|refine ZB (by assumption) rfl ?_|refine Z6 ?_|refine Z7 ?_|refine Z8 ?_)|((with_reducible refine ZM ?_ ?_);(focus rfl)));(conv=>whnf)))
    refine blk_st (o := 4) o3 (by simp) rfl ?_
    intro h4 f4 z4 o4
    replace o4 : BlkW h4 bf 58 [.string ⟨#[32, 45, 32, 43, 32, 33, 32, 116, 121, 112, 101, 111, 102, 32, 100, 101, 108, 101, 116, 101, 32, 118, 111, 105, 100, 32]⟩, .int .i64 0, .bool false, .bool false, .string ⟨#[101]⟩] := o4
    have x4 := x3.offNew f4 (by omega)
    clear o3
    ((conv=>whnf);repeat((first|(with_reducible first|refine Z1 ?_|refine Z2 ?_|refine Z3 ?_|refine Z4 ?_|refine Z5 ?_|refine Z9 (by assumption) rfl ?_|refine ZA (by assumption) rfl ?_|refine ZB (by assumption) rfl ?_|refine Z6 ?_|refine Z7 ?_|refine Z8 ?_)|((with_reducible refine ZM ?_ ?_);(focus rfl)));(conv=>whnf)))
    refine store_blk o4 (by simp) (by simp [isOne]) ?_
    intro h5 f5 z5 o5
    replace o5 : BlkW h5 bf 58 [.string ⟨#[32, 45, 32, 43, 32, 33, 32, 116, 121, 112, 101, 111, 102, 32, 100, 101, 108, 101, 116, 101, 32, 118, 111, 105, 100, 32]⟩, .int .i64 0, .bool false, .bool false, .string ⟨#[101]⟩] := by simpa using o5
    clear o4
    ((conv=>whnf);repeat((first|(with_reducible first|refine Z1 ?_|refine Z2 ?_|refine Z3 ?_|refine Z4 ?_|refine Z5 ?_|refine Z9 (by assumption) rfl ?_|refine ZA (by assumption) rfl ?_|refine ZB (by assumption) rfl ?_|refine Z6 ?_|refine Z7 ?_|refine Z8 ?_)|((with_reducible refine ZM ?_ ?_);(focus rfl)));(conv=>whnf)))
    exact ⟨⟨[.string ⟨#[32, 45, 32, 43, 32, 33, 32, 116, 121, 112, 101, 111, 102, 32, 100, 101, 108, 101, 116, 101, 32, 118, 111, 105, 100, 32]⟩, .int .i64 0, .bool false, .bool false, .string ⟨#[101]⟩], rfl, ⟨rfl, by simp [isOne]⟩, fun f hf => by cases hf; rfl⟩, x4.offNew f5 (by omega)⟩
  by_cases hk16 : k = 16
  · subst hk16
    ((conv=>whnf);repeat((first|(with_reducible first|refine Z1 ?_|refine Z2 ?_|refine Z3 ?_|refine Z4 ?_|refine Z5 ?_|refine Z9 (by assumption) rfl ?_|refine ZA (by assumption) rfl ?_|refine ZB (by assumption) rfl ?_|refine Z6 ?_|refine Z7 ?_|refine Z8 ?_)|((with_reducible refine ZM ?_ ?_);(focus rfl)));(conv=>whnf)))
    refine blk_st (o := 0) o2 (by simp) rfl ?_
    intro h3 f3 z3 o3
    replace o3 : BlkW h3 bf 58 [.string ⟨#[32, 43, 43, 32, 45, 45, 32]⟩, .int .i64 0, .bool false, .bool false, .string ⟨#[]⟩] := o3
    have x3 := x02.offNew f3 (by omega)
    clear o2
    ((conv=>whnf);repeat((first|(with_reducible first|refine Z1 ?_|refine Z2 ?_|refine Z3 ?_|refine Z4 ?_|refine Z5 ?_|refine Z9 (by assumption) rfl ?_|refine ZA (by assumption) rfl ?_|refine ZB (by assumption) rfl ?_|refine Z6 ?_|refine Z7 ?_|refine Z8 ?_)|((with_reducible refine ZM ?_ ?_);(focus rfl)));(conv=>whnf)))
    refine blk_st (o := 1) o3 (by simp) rfl ?_
    intro h4 f4 z4 o4
    replace o4 : BlkW h4 bf 58 [.string ⟨#[32, 43, 43, 32, 45, 45, 32]⟩, .int .i64 1, .bool false, .bool false, .string ⟨#[]⟩] := o4
    have x4 := x3.offNew f4 (by omega)
    clear o3
    ((conv=>whnf);repeat((first|(with_reducible first|refine Z1 ?_|refine Z2 ?_|refine Z3 ?_|refine Z4 ?_|refine Z5 ?_|refine Z9 (by assumption) rfl ?_|refine ZA (by assumption) rfl ?_|refine ZB (by assumption) rfl ?_|refine Z6 ?_|refine Z7 ?_|refine Z8 ?_)|((with_reducible refine ZM ?_ ?_);(focus rfl)));(conv=>whnf)))
    refine blk_st (o := 4) o4 (by simp) rfl ?_
    intro h5 f5 z5 o5
    replace o5 : BlkW h5 bf 58 [.string ⟨#[32, 43, 43, 32, 45, 45, 32]⟩, .int .i64 1, .bool false, .bool false, .string ⟨#[116]⟩] := o5
    have x5 := x4.offNew f5 (by omega)
    clear o4
    ((conv=>whnf);repeat((first|(with_reducible first|refine Z1 ?_|refine Z2 ?_|refine Z3 ?_|refine Z4 ?_|refine Z5 ?_|refine Z9 (by assumption) rfl ?_|refine ZA (by assumption) rfl ?_|refine ZB (by assumption) rfl ?_|refine Z6 ?_|refine Z7 ?_|refine Z8 ?_)|((with_reducible refine ZM ?_ ?_);(focus rfl)));(conv=>whnf)))
    refine store_blk o5 (by simp) (by simp [isOne]) ?_
    intro h6 f6 z6 o6
    replace o6 : BlkW h6 bf 58 [.string ⟨#[32, 43, 43, 32, 45, 45, 32]⟩, .int .i64 1, .bool false, .bool false, .string ⟨#[116]⟩] := by simpa using o6
    clear o5
    ((conv=>whnf);repeat((first|(with_reducible first|refine Z1 ?_|refine Z2 ?_|refine Z3 ?_|refine Z4 ?_|refine Z5 ?_|refine Z9 (by assumption) rfl ?_|refine ZA (by assumption) rfl ?_|refine ZB (by assumption) rfl ?_|refine Z6 ?_|refine Z7 ?_|refine Z8 ?_)|((with_reducible refine ZM ?_ ?_);(focus rfl)));(conv=>whnf)))
    exact ⟨⟨[.string ⟨#[32, 43, 43, 32, 45, 45, 32]⟩, .int .i64 1, .bool false, .bool false, .string ⟨#[116]⟩], rfl, ⟨rfl, by simp [isOne]⟩, fun f hf => by cases hf; rfl⟩, x5.offNew f6 (by omega)⟩
  by_cases hk17 : k = 17
  · subst hk17
    ((conv=>whnf);repeat((first|(with_reducible first|refine Z1 ?_|refine Z2 ?_|refine Z3 ?_|refine Z4 ?_|refine Z5 ?_|refine Z9 (by assumption) rfl ?_|refine ZA (by assumption) rfl ?_|refine ZB (by assumption) rfl ?_|refine Z6 ?_|refine Z7 ?_|refine Z8 ?_)|((with_reducible refine ZM ?_ ?_);(focus rfl)));(conv=>whnf)))
    refine blk_st (o := 0) o2 (by simp) rfl ?_
    intro h3 f3 z3 o3
    replace o3 : BlkW h3 bf 58 [.string ⟨#[32, 43, 32, 45, 32, 42, 32, 47, 32, 37, 32, 60, 32, 62, 32, 60, 61, 32, 62, 61, 32, 61, 61, 32, 33, 61, 32, 61, 61, 61, 32, 33, 61, 61, 32, 105, 110, 32, 105, 110, 115, 116, 97, 110, 99, 101, 111, 102, 32]⟩, .int .i64 0, .bool false, .bool false, .string ⟨#[]⟩] := o3
    have x3 := x02.offNew f3 (by omega)
    clear o2
    ((conv=>whnf);repeat((first|(with_reducible first|refine Z1 ?_|refine Z2 ?_|refine Z3 ?_|refine Z4 ?_|refine Z5 ?_|refine Z9 (by assumption) rfl ?_|refine ZA (by assumption) rfl ?_|refine ZB (by assumption) rfl ?_|refine Z6 ?_|refine Z7 ?_|refine Z8 ?_)|((with_reducible refine ZM ?_ ?_);(focus rfl)));(conv=>whnf)))
    refine blk_st (o := 4) o3 (by simp) rfl ?_
    intro h4 f4 z4 o4
    replace o4 : BlkW h4 bf 58 [.string ⟨#[32, 43, 32, 45, 32, 42, 32, 47, 32, 37, 32, 60, 32, 62, 32, 60, 61, 32, 62, 61, 32, 61, 61, 32, 33, 61, 32, 61, 61, 61, 32, 33, 61, 61, 32, 105, 110, 32, 105, 110, 115, 116, 97, 110, 99, 101, 111, 102, 32]⟩, .int .i64 0, .bool false, .bool false, .string ⟨#[101, 101]⟩] := o4
    have x4 := x3.offNew f4 (by omega)
    clear o3
    ((conv=>whnf);repeat((first|(with_reducible first|refine Z1 ?_|refine Z2 ?_|refine Z3 ?_|refine Z4 ?_|refine Z5 ?_|refine Z9 (by assumption) rfl ?_|refine ZA (by assumption) rfl ?_|refine ZB (by assumption) rfl ?_|refine Z6 ?_|refine Z7 ?_|refine Z8 ?_)|((with_reducible refine ZM ?_ ?_);(focus rfl)));(conv=>whnf)))
    refine store_blk o4 (by simp) (by simp [isOne]) ?_
    intro h5 f5 z5 o5
    replace o5 : BlkW h5 bf 58 [.string ⟨#[32, 43, 32, 45, 32, 42, 32, 47, 32, 37, 32, 60, 32, 62, 32, 60, 61, 32, 62, 61, 32, 61, 61, 32, 33, 61, 32, 61, 61, 61, 32, 33, 61, 61, 32, 105, 110, 32, 105, 110, 115, 116, 97, 110, 99, 101, 111, 102, 32]⟩, .int .i64 0, .bool false, .bool false, .string ⟨#[101, 101]⟩] := by simpa using o5
    clear o4
    ((conv=>whnf);repeat((first|(with_reducible first|refine Z1 ?_|refine Z2 ?_|refine Z3 ?_|refine Z4 ?_|refine Z5 ?_|refine Z9 (by assumption) rfl ?_|refine ZA (by assumption) rfl ?_|refine ZB (by assumption) rfl ?_|refine Z6 ?_|refine Z7 ?_|refine Z8 ?_)|((with_reducible refine ZM ?_ ?_);(focus rfl)));(conv=>whnf)))
    exact ⟨⟨[.string ⟨#[32, 43, 32, 45, 32, 42, 32, 47, 32, 37, 32, 60, 32, 62, 32, 60, 61, 32, 62, 61, 32, 61, 61, 32, 33, 61, 32, 61, 61, 61, 32, 33, 61, 61, 32, 105, 110, 32, 105, 110, 115, 116, 97, 110, 99, 101, 111, 102, 32]⟩, .int .i64 0, .bool false, .bool false, .string ⟨#[101, 101]⟩], rfl, ⟨rfl, by simp [isOne]⟩, fun f hf => by cases hf; rfl⟩, x4.offNew f5 (by omega)⟩
  by_cases hk18 : k = 18
  · subst hk18
    ((conv=>whnf);repeat((first|(with_reducible first|refine Z1 ?_|refine Z2 ?_|refine Z3 ?_|refine Z4 ?_|refine Z5 ?_|refine Z9 (by assumption) rfl ?_|refine ZA (by assumption) rfl ?_|refine ZB (by assumption) rfl ?_|refine Z6 ?_|refine Z7 ?_|refine Z8 ?_)|((with_reducible refine ZM ?_ ?_);(focus rfl)));(conv=>whnf)))
    refine blk_st (o := 0) o2 (by simp) rfl ?_
    intro h3 f3 z3 o3
    replace o3 : BlkW h3 bf 58 [.string ⟨#[32, 38, 38, 32, 124, 124, 32]⟩, .int .i64 0, .bool false, .bool false, .string ⟨#[]⟩] := o3
    have x3 := x02.offNew f3 (by omega)
    clear o2
    ((conv=>whnf);repeat((first|(with_reducible first|refine Z1 ?_|refine Z2 ?_|refine Z3 ?_|refine Z4 ?_|refine Z5 ?_|refine Z9 (by assumption) rfl ?_|refine ZA (by assumption) rfl ?_|refine ZB (by assumption) rfl ?_|refine Z6 ?_|refine Z7 ?_|refine Z8 ?_)|((with_reducible refine ZM ?_ ?_);(focus rfl)));(conv=>whnf)))
    refine blk_st (o := 4) o3 (by simp) rfl ?_
    intro h4 f4 z4 o4
    replace o4 : BlkW h4 bf 58 [.string ⟨#[32, 38, 38, 32, 124, 124, 32]⟩, .int .i64 0, .bool false, .bool false, .string ⟨#[101, 101]⟩] := o4
    have x4 := x3.offNew f4 (by omega)
    clear o3
    ((conv=>whnf);repeat((first|(with_reducible first|refine Z1 ?_|refine Z2 ?_|refine Z3 ?_|refine Z4 ?_|refine Z5 ?_|refine Z9 (by assumption) rfl ?_|refine ZA (by assumption) rfl ?_|refine ZB (by assumption) rfl ?_|refine Z6 ?_|refine Z7 ?_|refine Z8 ?_)|((with_reducible refine ZM ?_ ?_);(focus rfl)));(conv=>whnf)))
    refine store_blk o4 (by simp) (by simp [isOne]) ?_
    intro h5 f5 z5 o5
    replace o5 : BlkW h5 bf 58 [.string ⟨#[32, 38, 38, 32, 124, 124, 32]⟩, .int .i64 0, .bool false, .bool false, .string ⟨#[101, 101]⟩] := by simpa using o5
    clear o4
    ((conv=>whnf);repeat((first|(with_reducible first|refine Z1 ?_|refine Z2 ?_|refine Z3 ?_|refine Z4 ?_|refine Z5 ?_|refine Z9 (by assumption) rfl ?_|refine ZA (by assumption) rfl ?_|refine ZB (by assumption) rfl ?_|refine Z6 ?_|refine Z7 ?_|refine Z8 ?_)|((with_reducible refine ZM ?_ ?_);(focus rfl)));(conv=>whnf)))
    exact ⟨⟨[.string ⟨#[32, 38, 38, 32, 124, 124, 32]⟩, .int .i64 0, .bool false, .bool false, .string ⟨#[101, 101]⟩], rfl, ⟨rfl, by simp [isOne]⟩, fun f hf => by cases hf; rfl⟩, x4.offNew f5 (by omega)⟩
  by_cases hk19 : k = 19
  · subst hk19
    ((conv=>whnf);repeat((first|(with_reducible first|refine Z1 ?_|refine Z2 ?_|refine Z3 ?_|refine Z4 ?_|refine Z5 ?_|refine Z9 (by assumption) rfl ?_|refine ZA (by assumption) rfl ?_|refine ZB (by assumption) rfl ?_|refine Z6 ?_|refine Z7 ?_|refine Z8 ?_)|((with_reducible refine ZM ?_ ?_);(focus rfl)));(conv=>whnf)))
    refine blk_st (o := 4) o2 (by simp) rfl ?_
    intro h3 f3 z3 o3
    replace o3 : BlkW h3 bf 58 [.string ⟨#[]⟩, .int .i64 0, .bool false, .bool false, .string ⟨#[101, 101, 101]⟩] := o3
    have x3 := x02.offNew f3 (by omega)
    clear o2
    ((conv=>whnf);repeat((first|(with_reducible first|refine Z1 ?_|refine Z2 ?_|refine Z3 ?_|refine Z4 ?_|refine Z5 ?_|refine Z9 (by assumption) rfl ?_|refine ZA (by assumption) rfl ?_|refine ZB (by assumption) rfl ?_|refine Z6 ?_|refine Z7 ?_|refine Z8 ?_)|((with_reducible refine ZM ?_ ?_);(focus rfl)));(conv=>whnf)))
    refine store_blk o3 (by simp) (by simp [isOne]) ?_
    intro h4 f4 z4 o4
    replace o4 : BlkW h4 bf 58 [.string ⟨#[]⟩, .int .i64 0, .bool false, .bool false, .string ⟨#[101, 101, 101]⟩] := by simpa using o4
    clear o3
    ((conv=>whnf);repeat((first|(with_reducible first|refine Z1 ?_|refine Z2 ?_|refine Z3 ?_|refine Z4 ?_|refine Z5 ?_|refine Z9 (by assumption) rfl ?_|refine ZA (by assumption) rfl ?_|refine ZB (by assumption) rfl ?_|refine Z6 ?_|refine Z7 ?_|refine Z8 ?_)|((with_reducible refine ZM ?_ ?_);(focus rfl)));(conv=>whnf)))
    exact ⟨⟨[.string ⟨#[]⟩, .int .i64 0, .bool false, .bool false, .string ⟨#[101, 101, 101]⟩], rfl, ⟨rfl, by simp [isOne]⟩, fun f hf => by cases hf; rfl⟩, x3.offNew f4 (by omega)⟩
  by_cases hk20 : k = 20
  · subst hk20
    ((conv=>whnf);repeat((first|(with_reducible first|refine Z1 ?_|refine Z2 ?_|refine Z3 ?_|refine Z4 ?_|refine Z5 ?_|refine Z9 (by assumption) rfl ?_|refine ZA (by assumption) rfl ?_|refine ZB (by assumption) rfl ?_|refine Z6 ?_|refine Z7 ?_|refine Z8 ?_)|((with_reducible refine ZM ?_ ?_);(focus rfl)));(conv=>whnf)))
    refine blk_st (o := 0) o2 (by simp) rfl ?_
    intro h3 f3 z3 o3
    replace o3 : BlkW h3 bf 58 [.string ⟨#[32, 61, 32, 43, 61, 32, 45, 61, 32, 42, 61, 32, 47, 61, 32, 37, 61, 32]⟩, .int .i64 0, .bool false, .bool false, .string ⟨#[]⟩] := o3
    have x3 := x02.offNew f3 (by omega)
    clear o2
    ((conv=>whnf);repeat((first|(with_reducible first|refine Z1 ?_|refine Z2 ?_|refine Z3 ?_|refine Z4 ?_|refine Z5 ?_|refine Z9 (by assumption) rfl ?_|refine ZA (by assumption) rfl ?_|refine ZB (by assumption) rfl ?_|refine Z6 ?_|refine Z7 ?_|refine Z8 ?_)|((with_reducible refine ZM ?_ ?_);(focus rfl)));(conv=>whnf)))
    refine blk_st (o := 4) o3 (by simp) rfl ?_
    intro h4 f4 z4 o4
    replace o4 : BlkW h4 bf 58 [.string ⟨#[32, 61, 32, 43, 61, 32, 45, 61, 32, 42, 61, 32, 47, 61, 32, 37, 61, 32]⟩, .int .i64 0, .bool false, .bool false, .string ⟨#[116, 101]⟩] := o4
    have x4 := x3.offNew f4 (by omega)
    clear o3
    ((conv=>whnf);repeat((first|(with_reducible first|refine Z1 ?_|refine Z2 ?_|refine Z3 ?_|refine Z4 ?_|refine Z5 ?_|refine Z9 (by assumption) rfl ?_|refine ZA (by assumption) rfl ?_|refine ZB (by assumption) rfl ?_|refine Z6 ?_|refine Z7 ?_|refine Z8 ?_)|((with_reducible refine ZM ?_ ?_);(focus rfl)));(conv=>whnf)))
    refine store_blk o4 (by simp) (by simp [isOne]) ?_
    intro h5 f5 z5 o5
    replace o5 : BlkW h5 bf 58 [.string ⟨#[32, 61, 32, 43, 61, 32, 45, 61, 32, 42, 61, 32, 47, 61, 32, 37, 61, 32]⟩, .int .i64 0, .bool false, .bool false, .string ⟨#[116, 101]⟩] := by simpa using o5
    clear o4
    ((conv=>whnf);repeat((first|(with_reducible first|refine Z1 ?_|refine Z2 ?_|refine Z3 ?_|refine Z4 ?_|refine Z5 ?_|refine Z9 (by assumption) rfl ?_|refine ZA (by assumption) rfl ?_|refine ZB (by assumption) rfl ?_|refine Z6 ?_|refine Z7 ?_|refine Z8 ?_)|((with_reducible refine ZM ?_ ?_);(focus rfl)));(conv=>whnf)))
    exact ⟨⟨[.string ⟨#[32, 61, 32, 43, 61, 32, 45, 61, 32, 42, 61, 32, 47, 61, 32, 37, 61, 32]⟩, .int .i64 0, .bool false, .bool false, .string ⟨#[116, 101]⟩], rfl, ⟨rfl, by simp [isOne]⟩, fun f hf => by cases hf; rfl⟩, x4.offNew f5 (by omega)⟩
  by_cases hk21 : k = 21
  · subst hk21
    ((conv=>whnf);repeat((first|(with_reducible first|refine Z1 ?_|refine Z2 ?_|refine Z3 ?_|refine Z4 ?_|refine Z5 ?_|refine Z9 (by assumption) rfl ?_|refine ZA (by assumption) rfl ?_|refine ZB (by assumption) rfl ?_|refine Z6 ?_|refine Z7 ?_|refine Z8 ?_)|((with_reducible refine ZM ?_ ?_);(focus rfl)));(conv=>whnf)))
    refine blk_st (o := 4) o2 (by simp) rfl ?_
    intro h3 f3 z3 o3
    replace o3 : BlkW h3 bf 58 [.string ⟨#[]⟩, .int .i64 0, .bool false, .bool false, .string ⟨#[101, 101]⟩] := o3
    have x3 := x02.offNew f3 (by omega)
    clear o2
    ((conv=>whnf);repeat((first|(with_reducible first|refine Z1 ?_|refine Z2 ?_|refine Z3 ?_|refine Z4 ?_|refine Z5 ?_|refine Z9 (by assumption) rfl ?_|refine ZA (by assumption) rfl ?_|refine ZB (by assumption) rfl ?_|refine Z6 ?_|refine Z7 ?_|refine Z8 ?_)|((with_reducible refine ZM ?_ ?_);(focus rfl)));(conv=>whnf)))
    refine store_blk o3 (by simp) (by simp [isOne]) ?_
    intro h4 f4 z4 o4
    replace o4 : BlkW h4 bf 58 [.string ⟨#[]⟩, .int .i64 0, .bool false, .bool false, .string ⟨#[101, 101]⟩] := by simpa using o4
    clear o3
    ((conv=>whnf);repeat((first|(with_reducible first|refine Z1 ?_|refine Z2 ?_|refine Z3 ?_|refine Z4 ?_|refine Z5 ?_|refine Z9 (by assumption) rfl ?_|refine ZA (by assumption) rfl ?_|refine ZB (by assumption) rfl ?_|refine Z6 ?_|refine Z7 ?_|refine Z8 ?_)|((with_reducible refine ZM ?_ ?_);(focus rfl)));(conv=>whnf)))
    exact ⟨⟨[.string ⟨#[]⟩, .int .i64 0, .bool false, .bool false, .string ⟨#[101, 101]⟩], rfl, ⟨rfl, by simp [isOne]⟩, fun f hf => by cases hf; rfl⟩, x3.offNew f4 (by omega)⟩
  by_cases hk40 : k = 40
  · subst hk40
    ((conv=>whnf);repeat((first|(with_reducible first|refine Z1 ?_|refine Z2 ?_|refine Z3 ?_|refine Z4 ?_|refine Z5 ?_|refine Z9 (by assumption) rfl ?_|refine ZA (by assumption) rfl ?_|refine ZB (by assumption) rfl ?_|refine Z6 ?_|refine Z7 ?_|refine Z8 ?_)|((with_reducible refine ZM ?_ ?_);(focus rfl)));(conv=>whnf)))
    refine store_blk o2 (by simp) (by simp [isOne]) ?_
    intro h3 f3 z3 o3
    replace o3 : BlkW h3 bf 58 [.string ⟨#[]⟩, .int .i64 0, .bool false, .bool false, .string ⟨#[]⟩] := by simpa using o3
    clear o2
    ((conv=>whnf);repeat((first|(with_reducible first|refine Z1 ?_|refine Z2 ?_|refine Z3 ?_|refine Z4 ?_|refine Z5 ?_|refine Z9 (by assumption) rfl ?_|refine ZA (by assumption) rfl ?_|refine ZB (by assumption) rfl ?_|refine Z6 ?_|refine Z7 ?_|refine Z8 ?_)|((with_reducible refine ZM ?_ ?_);(focus rfl)));(conv=>whnf)))
    exact ⟨⟨[.string ⟨#[]⟩, .int .i64 0, .bool false, .bool false, .string ⟨#[]⟩], rfl, ⟨rfl, by simp [isOne]⟩, fun f hf => by cases hf; rfl⟩, x02.offNew f3 (by omega)⟩
  by_cases hk42 : k = 42
  · subst hk42
    ((conv=>whnf);repeat((first|(with_reducible first|refine Z1 ?_|refine Z2 ?_|refine Z3 ?_|refine Z4 ?_|refine Z5 ?_|refine Z9 (by assumption) rfl ?_|refine ZA (by assumption) rfl ?_|refine ZB (by assumption) rfl ?_|refine Z6 ?_|refine Z7 ?_|refine Z8 ?_)|((with_reducible refine ZM ?_ ?_);(focus rfl)));(conv=>whnf)))
    refine store_blk o2 (by simp) (by simp [isOne]) ?_
    intro h3 f3 z3 o3
    replace o3 : BlkW h3 bf 58 [.string ⟨#[]⟩, .int .i64 0, .bool false, .bool false, .string ⟨#[]⟩] := by simpa using o3
    clear o2
    ((conv=>whnf);repeat((first|(with_reducible first|refine Z1 ?_|refine Z2 ?_|refine Z3 ?_|refine Z4 ?_|refine Z5 ?_|refine Z9 (by assumption) rfl ?_|refine ZA (by assumption) rfl ?_|refine ZB (by assumption) rfl ?_|refine Z6 ?_|refine Z7 ?_|refine Z8 ?_)|((with_reducible refine ZM ?_ ?_);(focus rfl)));(conv=>whnf)))
    exact ⟨⟨[.string ⟨#[]⟩, .int .i64 0, .bool false, .bool false, .string ⟨#[]⟩], rfl, ⟨rfl, by simp [isOne]⟩, fun f hf => by cases hf; rfl⟩, x02.offNew f3 (by omega)⟩
  have q1 : (k == 1) = false := beq_eq_false_iff_ne.2 hk1
  have q2 : (k == 2) = false := beq_eq_false_iff_ne.2 hk2
  have q3 : (k == 3) = false := beq_eq_false_iff_ne.2 hk3
  have q4 : (k == 4) = false := beq_eq_false_iff_ne.2 hk4
  have q5 : (k == 5) = false := beq_eq_false_iff_ne.2 hk5
  have q6 : (k == 6) = false := beq_eq_false_iff_ne.2 hk6
  have q7 : (k == 7) = false := beq_eq_false_iff_ne.2 hk7
  have q8 : (k == 8) = false := beq_eq_false_iff_ne.2 hk8
  have q9 : (k == 9) = false := beq_eq_false_iff_ne.2 hk9
  have q10 : (k == 10) = false := beq_eq_false_iff_ne.2 hk10
  have q11 : (k == 11) = false := beq_eq_false_iff_ne.2 hk11
  have q12 : (k == 12) = false := beq_eq_false_iff_ne.2 hk12
  have q13 : (k == 13) = false := beq_eq_false_iff_ne.2 hk13
  have q14 : (k == 14) = false := beq_eq_false_iff_ne.2 hk14
  have q15 : (k == 15) = false := beq_eq_false_iff_ne.2 hk15
  have q16 : (k == 16) = false := beq_eq_false_iff_ne.2 hk16
  have q17 : (k == 17) = false := beq_eq_false_iff_ne.2 hk17
  have q18 : (k == 18) = false := beq_eq_false_iff_ne.2 hk18
  have q19 : (k == 19) = false := beq_eq_false_iff_ne.2 hk19
  have q20 : (k == 20) = false := beq_eq_false_iff_ne.2 hk20
  have q21 : (k == 21) = false := beq_eq_false_iff_ne.2 hk21
  have q40 : (k == 40) = false := beq_eq_false_iff_ne.2 hk40
  have q42 : (k == 42) = false := beq_eq_false_iff_ne.2 hk42
  have e : formOf k l.length = stmtOf k l.length := by unfold formOf; rw [if_neg hk1, if_neg hk2, if_neg hk3, if_neg hk4, if_neg hk5, if_neg hk6, if_neg hk7, if_neg hk8, if_neg hk9, if_neg hk10, if_neg hk11, if_neg hk12, if_neg hk13, if_neg hk14, if_neg hk15, if_neg hk16, if_neg hk17, if_neg hk18, if_neg hk19, if_neg hk20, if_neg hk21, if_neg hk40, if_neg hk42]
  rw [e]
  ((conv=>whnf);repeat((first|(with_reducible first|refine Z1 ?_|refine Z2 ?_|refine Z3 ?_|refine Z4 ?_|refine Z5 ?_|refine Z9 (by assumption) rfl ?_|refine ZA (by assumption) rfl ?_|refine ZB (by assumption) rfl ?_|refine Z6 ?_|refine Z7 ?_|refine Z8 ?_)|((with_reducible refine ZM ?_ ?_);(focus rfl)));(conv=>whnf)))
  refine HCall.mk ((stmt_spec (d := .mk k nm n t ns l) (TRep.ext x02 (by simp only [TRep]; exact r0))).mono ?_)
  rintro e h3 ⟨⟨v, rfl, ⟨hv5, hv1⟩, hv⟩, x3⟩
  have o3 := o2.ext x3
  clear o2
  ((conv=>whnf);repeat((first|(with_reducible first|refine Z1 ?_|refine Z2 ?_|refine Z3 ?_|refine Z4 ?_|refine Z5 ?_|refine Z9 (by assumption) rfl ?_|refine ZA (by assumption) rfl ?_|refine ZB (by assumption) rfl ?_|refine Z6 ?_|refine Z7 ?_|refine Z8 ?_)|((with_reducible refine ZM ?_ ?_);(focus rfl)));(conv=>whnf)))
  refine HMust.mk (by simpa using hv5) ?_
  refine store_blk o3 (by simp [hv5]) (by simpa using hv1) ?_
  intro h4 f4 z4 o4
  have o4' : BlkW h4 bf 58 v := by
    have e : (zeroF : List Value).drop (0 + v.toArray.toList.length) = [] := by simp [hv5]
    rw [e] at o4
    simpa using o4
  clear o4
  ((conv=>whnf);repeat((first|(with_reducible first|refine Z1 ?_|refine Z2 ?_|refine Z3 ?_|refine Z4 ?_|refine Z5 ?_|refine Z9 (by assumption) rfl ?_|refine ZA (by assumption) rfl ?_|refine ZB (by assumption) rfl ?_|refine Z6 ?_|refine Z7 ?_|refine Z8 ?_)|((with_reducible refine ZM ?_ ?_);(focus rfl)));(conv=>whnf)))
  refine blk_ldN o4' hv5 ?_
  exact ⟨⟨v, rfl, ⟨hv5, hv1⟩, hv⟩, (x02.trans x3).offNew f4 (by have := x3.1; omega)⟩
end Go.Proofs.Ytlogpojkkbcpjaa.Hc

