/- Code with its types resolved, and what it does to slots and heap; a compiler from the given code, with its soundness. -/
import Derived.Test.YtadkdfecmpjmdaaGreatDoorH1
set_option linter.unusedVariables false
set_option linter.unusedSimpArgs false
namespace Go.H

/-! ### The places where a proof has a say: inductive, so that nothing unfolds them -/

inductive HLoad (h : Heap) (a : Addr) (K : Value → Prop) : Prop
  | mk (v : Value) (e : hcell h a = some v) (k : K v)
inductive HLoadN (h : Heap) (a : Addr) (n : Nat) (K : Value → Prop) : Prop
  | mk (vs : List Value) (l : vs.length = n) (e : ∀ i, i < n → hcell h (a.add i) = vs[i]?) (k : K (.agg vs.toArray))
def hstores : Heap → Addr → List Value → Nat → Heap
  | h, _, [], _ => h
  | h, a, v :: rest, i => hstores (hsetCell h (a.add i) v) a rest (i + 1)
inductive HStore (h : Heap) (a : Addr) (vs : List Value) (K : Heap → Prop) : Prop
  | mk (one : ∀ v ∈ vs, isOne v = true) (there : ∀ i, i < vs.length → (hcell h (a.add i)).isSome = true ∧ hfrozen h (a.add i) = false) (k : K (hstores h a vs 0))
inductive HNew (h : Heap) (o : Obj) (K : Nat → Heap → Prop) : Prop
  | mk (k : K h.size (h.push o))
inductive HIf (b : Bool) (T F : Prop) : Prop
  | mk (t : b = true → T) (f : b = false → F)
inductive HInt (k : IntKind) (n : Int) (K : Int → Prop) : Prop
  | mk (m : Int) (e : k.wrap n = m) (k : K m)
inductive HIdx (i : Int) (n : Nat) (K : Nat → Prop) : Prop
  | mk (j : Nat) (e : i = j) (l : j < n) (k : K j)
inductive HBound (i : Int) (n : Nat) (K : Nat → Prop) : Prop
  | mk (j : Nat) (e : i = j) (l : j ≤ n) (k : K j)
inductive HMust (c : Prop) (K : Prop) : Prop
  | mk (c : c) (k : K)
inductive HAppend (h : Heap) (e size bytes : Nat) (zs : List Value) (base : Option Addr) (len cap : Nat) (more : List Value) (n : Nat) (K : Value → Heap → Prop) : Prop
  | fits (f : len + n ≤ cap) (a : Addr) (ea : base = some a) (one : ∀ v ∈ more, isOne v = true)
      (there : ∀ i, i < more.length → (hcell h ((a.add (len * size)).add i)).isSome = true ∧ hfrozen h ((a.add (len * size)).add i) = false)
      (k : K (.slice base (len + n) cap) (hstores h (a.add (len * size)) more 0))
  | fitsNone (f : len + n ≤ cap) (ea : base = none) (k : K (.slice base (len + n) cap) h)
  | grows (f : cap < len + n) (room : (len + n) * bytes ≤ 140737488355328) (old : List Value) (lo : old.length = len * size)
      (eo : ∀ a, base = some a → ∀ i, i < len * size → hcell h (a.add i) = old[i]?) (en : base = none → len = 0)
      (k : ∀ c, len + n ≤ c → K (.slice (some ⟨h.size, 0, none⟩) (len + n) c)
        (h.push (.cells (old ++ more ++ (Builtin.zeroCells zs.toArray (c - (len + n))).toList).toArray e)))
inductive HBytes (h : Heap) (v : Value) (K : ByteArray → Prop) : Prop
  | nil (c n : Nat) (e : v = .slice none n c) (k : K .empty)
  | mk (a : Addr) (c : Nat) (s : ByteArray) (e : v = .slice (some a) s.size c)
      (r : ∀ i, i < s.size → hcell h (a.add i) = some (.int .u8 (s.data[i]!.toNat : Nat))) (k : K s)
inductive HSome (a : Option Addr) (K : Addr → Prop) : Prop
  | mk (p : Addr) (e : a = some p) (k : K p)
inductive HStoreO (h : Heap) (a : Option Addr) (vs : List Value) (K : Heap → Prop) : Prop
  | mk (p : Addr) (e : a = some p) (k : HStore h p vs K)
  | none (e : a = none) (z : vs = []) (k : K h)
inductive HCall (P : Program) (f : FuncId) (args : Array Value) (h : Heap) (R : Ending → Heap → Prop) : Prop
  | mk (k : HCalls P f args h R)
inductive HYieldN (l : Nat) (args : Array Value) (h : Heap) (K : Next → Heap → Prop) : Prop
  | mk (r : Loop) (hl : h[l]? = some (.loop r)) (hs : args.size = r.params.size) (k : K (.round l r.fn ((r.params.zip args).foldl (fun tmps (t, a) => tmps.setIfInBounds t a) r.tmps) r.assign r.body) h)
inductive HRoundI (P : Program) (l : Nat) (f : FuncId) (tmps : Array Value) (assign body : Code) (h : Heap) (R : Ending → Heap → Prop) : Prop
  | mk (k : HRound P l f tmps assign body h R)
def HYield (P : Program) (l : Nat) (args : Array Value) (h : Heap) (R : Ending → Heap → Prop) : Prop :=
  ∃ r : Loop, h[l]? = some (.loop r) ∧ args.size = r.params.size ∧ HRound P l r.fn ((r.params.zip args).foldl (fun tmps (t, a) => tmps.setIfInBounds t a) r.tmps) r.assign r.body h R
inductive HRaw (P : Program) (o : Oper) (ev : Operand → Value) (h : Heap) (K : Next → Heap → Prop) (E : Halt → Heap → Prop) : Prop
  | mk (k : hw P false (execOp ev o) h K E)

inductive HUStr (P : Program) (t : TypeId) (h : Heap) (a : Addr) (m : Int) (K : ByteArray → Heap → Prop) : Prop
  | zero (e : m = 0) (k : K .empty h)
  | mk (s : ByteArray) (cells : Nat) (e : m = s.size) (hn : 0 < s.size) (hx : s.size ≤ 9223372036854775807) (h0 : a.off = 0) (hs : hshape h a.block = some (t, cells)) (hl : s.size ≤ cells) (hc : P.cellsOf t = 1)
      (r : ∀ i, i < s.size → hcell h (a.add i) = some (.int .u8 (s.data[i]!.toNat : Nat))) (k : K s (hfreeze h a s.size))

inductive HEqI (P : Program) (tx : TypeId) (vx : Value) (ty : TypeId) (vy : Value) (K : Bool → Prop) : Prop
  | ne (e : tx ≠ ty) (k : K false)
  | int (i : TypeInfo) (k k' : IntKind) (a b : Int) (e : tx = ty) (ex : vx = .int k a) (ey : vy = .int k b) (hi : P.info? tx = some i) (hc : i.comparable = true) (hu : P.underlying tx = some (.int k')) (kk : K (a == b))

/-! ### The code -/

inductive HMapF (h : Heap) (r : Nat) (d : TypeDesc) (k : Value) (K : Array MapEntry → Nat → Option (Nat × Value) → Prop) : Prop
  | mk (es : Array MapEntry) (clock : Nat) (f : Option (Nat × Value)) (e : h[r]? = some (.map es clock)) (hf : Instr.findNow d k es.toList 0 = some f) (k : K es clock f)
inductive HMapL (h : Heap) (r : Nat) (K : Nat → Prop) : Prop
  | mk (es : Array MapEntry) (clock : Nat) (e : h[r]? = some (.map es clock)) (k : K es.size)
def lookRes (ok : Bool) (z : Value) (f : Option (Nat × Value)) : Value :=
  match f with
  | some (_, v) => match ok with
    | true => .tuple #[v, .bool true]
    | false => v
  | none => match ok with
    | true => .tuple #[z, .bool false]
    | false => z

def nilB : Nat → Value → Option Bool
  | 0, .nilIface => some true
  | 0, .iface _ _ => some false
  | 1, .pointer a => some a.isNone
  | 2, .slice a _ _ => some a.isNone
  | 3, .map r => some r.isNone
  | _, _ => none

inductive AOp where
  | mv (x : Operand)
  | val (v : Value)
  | pick (c a b : Operand)
  | new (e : TypeId) (cs : List Value)
  | box (e : TypeId) (x : Operand)
  | build (zs : List Value) (parts : List (Nat × Nat × Operand))
  | buildSlice (e len : Nat) (cells : List Value) (parts : List (Nat × Nat × Operand))
  | load1 (x : Operand)
  | loadN (n : Nat) (x : Operand)
  | store1 (a x : Operand)
  | storeN (n : Nat) (a x : Operand)
  | nilCheck (x : Operand)
  | bin (op : BinOp) (x y : Operand)
  | eqB (neg : Bool) (x y : Operand)
  | eqI (neg : Bool) (x y : Operand)
  | ustr (t : TypeId) (x y : Operand)
  | sldata (x : Operand)
  | un (op : UnOp) (x : Operand)
  | convInt (k : IntKind) (x : Operand)
  | strStr (x : Operand)
  | strOfBytes (x : Operand)
  | bytesOfStr (e : TypeId) (x : Operand)
  | mkIface (t : TypeId) (x : Operand)
  | mkFunc (fn : Fn) (first captured : List Operand)
  | mkSlice (e size bytes : Nat) (zs : List Value) (len cap : Operand)
  | sliceStr (x : Operand) (lo hi : Option Operand)
  | sliceSl (size : Nat) (x : Operand) (lo hi mx : Option Operand)
  | sliceArr (n size : Nat) (x : Operand) (lo hi mx : Option Operand)
  | fieldAddr (off : Nat) (x : Operand)
  | field1 (off : Nat) (x : Operand)
  | fieldN (off n : Nat) (x : Operand)
  | idxSl (size : Nat) (x i : Operand)
  | idxArrP (len size : Nat) (x i : Operand)
  | idxStr (x i : Operand)
  | extract (x : Operand) (i : Nat)
  | lenStr (x : Operand)
  | lenSl (x : Operand)
  | append (e size bytes : Nat) (zs : List Value) (x y : Operand)
  | appendZ (e size bytes : Nat) (zs : List Value) (x y : Operand)
  | copy (size : Nat) (x y : Operand)
  | callF (f : FuncId) (args : List Operand)
  | callV (x : Operand) (args : List Operand)
  | minmax (mx : Bool) (x : Operand) (ys : List Operand)
  | panicI (x : Operand)
  | mkMap
  | lookMap (d : TypeDesc) (z : Value) (ok : Bool) (x i : Operand)
  | setMap (d : TypeDesc) (m k x : Operand)
  | lenMap (x : Operand)
  | isNil (tag : Nat) (neg : Bool) (x : Operand)
  | assertT (t : TypeId) (z : Value) (ok : Bool) (x : Operand)
  | deferV (x : Operand)
  | raw (o : Oper)
  deriving Inhabited

def quietK : AOp → Bool
  | .mv _ | .val _ | .pick .. | .build .. | .load1 _ | .loadN .. | .nilCheck _ | .bin .. | .eqB .. | .un .. | .convInt .. | .strStr _ | .strOfBytes _ | .mkIface .. | .mkFunc ..
  | .sliceStr .. | .sliceSl .. | .sliceArr .. | .fieldAddr .. | .field1 .. | .fieldN .. | .idxSl .. | .idxArrP .. | .idxStr .. | .extract .. | .lenStr _ | .lenSl _ | .minmax .. | .isNil .. => true
  | _ => false

structure AOper where
  dst : Option Nat
  op : AOp
  guard : Option (Nat × Bool)
  deriving Inhabited

def upd (fr : Nat → Value) (d : Nat) (v : Value) : Nat → Value := fun i => bif Nat.beq i d then v else fr i
def evf (fr : Nat → Value) : Operand → Value
  | .tmp t => fr t
  | .const v => v
  | .global g => .pointer (some ⟨g, 0, none⟩)
  | .func f => .func (.func f) #[] #[]

def force (v : Value) (K : Value → Prop) : Prop :=
  match v with
  | .bool b => K (.bool b)
  | .int k n => K (.int k n)
  | .float k n => K (.float k n)
  | .complex k a b => K (.complex k a b)
  | .string s => K (.string s)
  | .pointer a => K (.pointer a)
  | .slice a n c => K (.slice a n c)
  | .map r => K (.map r)
  | .chan r => K (.chan r)
  | .func f a b => K (.func f a b)
  | .nilFunc => K .nilFunc
  | .iface t v => K (.iface t v)
  | .nilIface => K .nilIface
  | .agg cs => K (.agg cs)
  | .tuple vs => K (.tuple vs)
theorem force_eq (v : Value) (K : Value → Prop) : force v K = K v := by cases v <;> rfl

def splN : List Value → Nat → List Value → Nat → (List Value → Prop) → Prop
  | cs, 0, [], 0, K => K cs
  | _ :: cs, 0, v :: vs, s + 1, K => splN cs 0 vs s fun r => K (v :: r)
  | c :: cs, n + 1, vs, s, K => splN cs n vs s fun r => K (c :: r)
  | _, _, _, _, _ => False
theorem splN_eq : ∀ (cs : List Value) (n : Nat) (vs : List Value) (s : Nat) (K : List Value → Prop), splN cs n vs s K →
    s = vs.length ∧ n + s ≤ cs.length ∧ K (cs.take n ++ (vs ++ cs.drop (n + s))) := by
  intro cs n vs s K hh
  fun_induction splN cs n vs s K with
  | case1 cs K => exact ⟨rfl, by omega, by simpa using hh⟩
  | case2 c cs v vs s K ih =>
    obtain ⟨h1, h2, h3⟩ := ih hh
    exact ⟨by simp [h1], by simp; omega, by simpa [Nat.add_comm] using h3⟩
  | case3 c cs n vs s K ih =>
    obtain ⟨h1, h2, h3⟩ := ih hh
    exact ⟨h1, by simp; omega, by rw [show n + 1 + s = (n + s) + 1 by omega]; simpa using h3⟩
  | case4 => exact hh.elim
theorem splN_of : ∀ (cs : List Value) (n : Nat) (vs : List Value) (K : List Value → Prop), n + vs.length ≤ cs.length → K (cs.take n ++ (vs ++ cs.drop (n + vs.length))) → splN cs n vs vs.length K
  | cs, 0, [], K, _, k => by simpa [splN] using k
  | [], 0, v :: vs, K, h, _ => by simp at h
  | c :: cs, 0, v :: vs, K, h, k => by
    simp only [List.length_cons, splN]
    exact splN_of cs 0 vs _ (by simpa using h) (by simpa [Nat.add_comm] using k)
  | [], n + 1, vs, K, h, _ => by simp at h
  | c :: cs, n + 1, vs, K, h, k => by
    simp only [splN]
    refine splN_of cs n vs _ (by simp at h; omega) ?_
    rw [show n + 1 + vs.length = (n + vs.length) + 1 by omega] at k
    simpa using k

def fillL (ev : Operand → Value) : List (Nat × Nat × Operand) → List Value → (List Value → Prop) → Prop
  | [], cells, K => K cells
  | (off, size, x) :: rest, cells, K => force (ev x) fun v => match v with
    | .agg cs => splN cells off cs.toList size fun r => fillL ev rest r K
    | v => splN cells off [v] size fun r => fillL ev rest r K

def ibits (op : BinOp) (k : IntKind) (x y : Int) : Int :=
  let a := BitVec.ofInt k.bits x
  let b := BitVec.ofInt k.bits y
  k.wrap ((match op with
    | .and => a &&& b
    | .or => a ||| b
    | .xor => a ^^^ b
    | _ => a &&& ~~~b : BitVec k.bits).toNat)

def strEq (x y : ByteArray) : Bool := x.toList == y.toList
def strLt (x y : ByteArray) : Bool := Op.bytesLess x.toList y.toList

def ibin (op : BinOp) (k : IntKind) (a b : Int) (K : Value → Prop) : Prop :=
  match op with
  | .add => HInt k (a + b) fun n => K (.int k n)
  | .sub => HInt k (a - b) fun n => K (.int k n)
  | .mul => HInt k (a * b) fun n => K (.int k n)
  | .quo => HMust (b ≠ 0) (HInt k (a.tdiv b) fun n => K (.int k n))
  | .rem => HMust (b ≠ 0) (K (.int k (a.tmod b)))
  | .and => K (.int k (ibits .and k a b))
  | .or => K (.int k (ibits .or k a b))
  | .xor => K (.int k (ibits .xor k a b))
  | .andNot => K (.int k (ibits .andNot k a b))
  | .shl => False
  | .shr => False
  | .eql => K (.bool (a == b))
  | .neq => K (.bool (a != b))
  | .lss => K (.bool (decide (a < b)))
  | .leq => K (.bool (decide (a ≤ b)))
  | .gtr => K (.bool (decide (a > b)))
  | .geq => K (.bool (decide (a ≥ b)))
def sbin (op : BinOp) (a b : ByteArray) (K : Value → Prop) : Prop :=
  match op with
  | .add => HMust (a.size + b.size ≤ 9223372036854775807) (K (.string (a ++ b)))
  | .eql => K (.bool (strEq a b))
  | .neq => K (.bool (!strEq a b))
  | .lss => K (.bool (strLt a b))
  | .leq => K (.bool (strLt a b || strEq a b))
  | .gtr => K (.bool (!(strLt a b || strEq a b)))
  | .geq => K (.bool (!strLt a b))
  | _ => False
def ishift (op : BinOp) (k : IntKind) (a b : Int) (K : Value → Prop) : Prop :=
  match op with
  | .shl => HMust (0 ≤ b) (HInt k (a * 2 ^ (min b.toNat k.bits)) fun n => K (.int k n))
  | .shr => HMust (0 ≤ b) (K (.int k (a.fdiv (2 ^ (min b.toNat k.bits)))))
  | _ => False
def IntKind.same : IntKind → IntKind → Bool
  | .i8, .i8 | .i16, .i16 | .i32, .i32 | .i64, .i64 | .u8, .u8 | .u16, .u16 | .u32, .u32 | .u64, .u64 => true
  | _, _ => false
def isShift : BinOp → Bool
  | .shl | .shr => true
  | _ => false
def abin (op : BinOp) (x y : Value) (K : Value → Prop) : Prop :=
  match x, y with
  | .int k a, .int k' b => match isShift op with
    | true => ishift op k a b K
    | false => match IntKind.same k k' with
      | true => ibin op k a b K
      | false => False
  | .string a, .string b => sbin op a b K
  | _, _ => False

def obound (ev : Operand → Value) (o : Option Operand) (d : Nat) (n : Nat) (K : Nat → Prop) : Prop :=
  match o with
  | none => K d
  | some x => match ev x with
    | .int _ i => HBound i n K
    | _ => False

def movedTo (a : Addr) (m l size : Nat) : Addr := if m = l then a else a.add (l * size)

def lenOf : Value → Option Nat
  | .slice _ n _ => some n
  | .string s => some s.size
  | _ => none

inductive HCells (h : Heap) (v : Value) (n : Nat) (K : List Value → Prop) : Prop
  | nil (c m : Nat) (e : v = .slice none m c) (z : n = 0) (k : K [])
  | mk (a : Addr) (m c : Nat) (e : v = .slice (some a) m c) (vs : List Value) (l : vs.length = n) (r : ∀ i, i < n → hcell h (a.add i) = vs[i]?) (k : K vs)

def goesIn (P : Program) (f : FuncId) : Bool :=
  match P.funcs[f]? with
  | some fn => fn.body.isSome && fn.name != "runtime.NumGoroutine"
  | none => false

def mnmx (mx : Bool) (ev : Operand → Value) (k : IntKind) : List Operand → Int → (Int → Prop) → Prop
  | [], a, K => K a
  | y :: ys, a, K => match ev y with
    | .int _ b => mnmx mx ev k ys (match mx with | true => (if b > a then b else a) | false => (if b < a then b else a)) K
    | _ => False
def noDefer (K : Next → Heap → Prop) (n : Next) (h : Heap) : Prop :=
  match n with
  | .defer _ => False
  | n => K n h

def aop (P : Program) (x : AOp) (ev : Operand → Value) (h : Heap) (K : Next → Heap → Prop) (E : Halt → Heap → Prop) : Prop :=
  match x with
  | .mv x => K (.value (ev x)) h
  | .val v => K (.value v) h
  | .pick c a b => match ev c with
    | .bool t => HIf t (K (.value (ev a)) h) (K (.value (ev b)) h)
    | _ => False
  | .new e cs => HNew h (.cells cs.toArray e) fun b h' => K (.value (.pointer (some ⟨b, 0, none⟩))) h'
  | .box e x => HNew h (.cells (ev x).cells e) fun b h' => K (.value (.pointer (some ⟨b, 0, none⟩))) h'
  | .build zs parts => fillL ev parts zs fun cells => K (.value (.agg cells.toArray)) h
  | .buildSlice e len cells parts => fillL ev parts cells fun cells => HNew h (.cells cells.toArray e) fun b h' => K (.value (.slice (some ⟨b, 0, none⟩) len len)) h'
  | .load1 x => match ev x with
    | .pointer (some a) => HLoad h a fun v => K (.value v) h
    | _ => False
  | .loadN n x => match ev x with
    | .pointer (some a) => HLoadN h a n fun v => K (.value v) h
    | _ => False
  | .store1 a x => match ev a with
    | .pointer (some p) => HStore h p [ev x] fun h' => K .skip h'
    | _ => False
  | .storeN n a x => match ev a, ev x with
    | .pointer (some p), .agg cs => HMust (cs.size = n) (HStore h p cs.toList fun h' => K .skip h')
    | _, _ => False
  | .nilCheck x => match ev x with
    | .pointer (some a) => K (.value (.pointer (some a))) h
    | .iface t v => K (.value (.iface t v)) h
    | .func (.func f) as bs => K (.value (.func (.func f) as bs)) h
    | .func (.yield l) as bs => K (.value (.func (.yield l) as bs)) h
    | _ => False
  | .bin op x y => abin op (ev x) (ev y) fun v => K (.value v) h
  | .eqB neg x y => match ev x, ev y with
    | .bool a, .bool b => K (.value (.bool (bif neg then !(a == b) else a == b))) h
    | _, _ => False
  | .eqI neg x y => match ev x, ev y with
    | .iface tx vx, .iface ty vy => HEqI P tx vx ty vy fun b => K (.value (.bool (bif neg then !b else b))) h
    | .iface _ _, .nilIface => K (.value (.bool neg)) h
    | .nilIface, .iface _ _ => K (.value (.bool neg)) h
    | _, _ => False
  | .ustr t x y => match ev x, ev y with
    | .pointer none, .int _ m => HMust (m = 0) (K (.value (.string .empty)) h)
    | .pointer (some a), .int _ m => HUStr P t h a m fun s h' => K (.value (.string s)) h'
    | _, _ => False
  | .sldata x => match ev x with
    | .slice none _ _ => K (.value (.pointer none)) h
    | .slice (some a) _ c => HMust (c ≠ 0) (K (.value (.pointer (some a))) h)
    | _ => False
  | .un op x => match op, ev x with
    | .not, .bool b => K (.value (.bool !b)) h
    | .neg, .int k n => HInt k (0 - n) fun m => K (.value (.int k m)) h
    | .xor, .int k n => K (.value (.int k (ibits .xor k (if k.signed then -1 else k.max) n))) h
    | _, _ => False
  | .convInt k x => match ev x with
    | .int _ n => HInt k n fun m => K (.value (.int k m)) h
    | _ => False
  | .strStr x => match ev x with
    | .string s => K (.value (.string s)) h
    | _ => False
  | .strOfBytes x => HBytes h (ev x) fun s => K (.value (.string s)) h
  | .bytesOfStr e x => match ev x with
    | .string s => HMust (s.size < 9223372036854775808) (∀ c, s.size ≤ c →
        HNew h (.cells ((s.data.map fun b => Value.int .u8 b.toNat) ++ Array.replicate (c - s.size) (.int .u8 0)) e (c, c + 1)) fun b h' => K (.value (.slice (some ⟨b, 0, none⟩) s.size c)) h')
    | _ => False
  | .mkIface t x => K (.value (.iface t (ev x))) h
  | .mkFunc fn first captured => K (.value (.func fn (first.map ev).toArray (captured.map ev).toArray)) h
  | .mkSlice e size bytes zs len cap => match ev len, ev cap with
    | .int _ l, .int _ c => HBound l 9223372036854775807 fun l => HBound c 9223372036854775807 fun c => HMust (l ≤ c ∧ c * bytes ≤ 281474976710656)
        (HNew h (.cells (Builtin.zeroCells zs.toArray c) e) fun b h' => K (.value (.slice (some ⟨b, 0, none⟩) l c)) h')
    | _, _ => False
  | .sliceStr x lo hi => match ev x with
    | .string s => obound ev hi s.size s.size fun j => obound ev lo 0 j fun i => K (.value (.string (s.extract i j))) h
    | _ => False
  | .sliceSl size x lo hi mx => match ev x with
    | .slice a len cap => obound ev mx cap cap fun m => obound ev hi len m fun j => obound ev lo 0 j fun i =>
        K (.value (.slice (a.map fun a => movedTo a m i size) (j - i) (m - i))) h
    | _ => False
  | .sliceArr n size x lo hi mx => match ev x with
    | .pointer (some a) => obound ev mx n n fun m => obound ev hi n m fun j => obound ev lo 0 j fun i =>
        K (.value (.slice (some (movedTo a m i size)) (j - i) (m - i))) h
    | _ => False
  | .fieldAddr off x => match ev x with
    | .pointer (some a) => K (.value (.pointer (some (a.add off)))) h
    | _ => False
  | .field1 off x => match ev x with
    | .agg cs => match cs.toList[off]? with
      | some v => K (.value v) h
      | none => False
    | _ => False
  | .fieldN off n x => match ev x with
    | .agg cs => K (.value (.agg ((cs.toList.drop off).take n).toArray)) h
    | _ => False
  | .idxSl size x i => match ev x, ev i with
    | .slice a len _, .int _ i => HIdx i len fun j => HSome a fun p => K (.value (.pointer (some (p.add (j * size))))) h
    | _, _ => False
  | .idxArrP len size x i => match ev x, ev i with
    | .pointer (some a), .int _ i => HIdx i len fun j => K (.value (.pointer (some (a.add (j * size))))) h
    | _, _ => False
  | .idxStr x i => match ev x, ev i with
    | .string s, .int _ i => HIdx i s.size fun j => K (.value (.int .u8 (s.data[j]!.toNat : Nat))) h
    | _, _ => False
  | .extract x i => match ev x with
    | .tuple vs => match vs.toList[i]? with
      | some v => K (.value v) h
      | none => False
    | _ => False
  | .lenStr x => match ev x with
    | .string s => K (.value (.int .i64 s.size)) h
    | _ => False
  | .lenSl x => match ev x with
    | .slice _ n _ => K (.value (.int .i64 n)) h
    | _ => False
  | .append e size bytes zs x y => match ev x, lenOf (ev y) with
    | .slice base len cap, some n => match ev y with
      | .string s => HAppend h e size bytes zs base len cap (s.data.toList.map fun b => Value.int .u8 b.toNat) n fun v h' => K (.value v) h'
      | _ => HCells h (ev y) (n * size) fun more => HAppend h e size bytes zs base len cap more n fun v h' => K (.value v) h'
    | _, _ => False
  | .appendZ e size bytes zs x y => match ev x, ev y with
    | .slice base len cap, .int _ m => HBound m 281474976710656 fun n => HMust (n * bytes ≤ 281474976710656)
        (HAppend h e size bytes zs base len cap (Builtin.zeroCells zs.toArray n).toList n fun v h' => K (.value v) h')
    | _, _ => False
  | .copy size x y => match ev x, lenOf (ev y) with
    | .slice a len _, some n => match ev y with
      | .string s => HStoreO h a ((s.data.toList.take (Nat.min n len)).map fun b => Value.int .u8 b.toNat) fun h' => K (.value (.int .i64 (Nat.min n len : Nat))) h'
      | _ => HCells h (ev y) (Nat.min n len * size) fun vs => HStoreO h a vs fun h' => K (.value (.int .i64 (Nat.min n len : Nat))) h'
    | _, _ => False
  | .callF f args => K (.enter f (args.map ev).toArray) h
  | .callV x args => match ev x with
    | .func (.func f) first captured => HMust (goesIn P f = true) (K (.enter f ((first.toList ++ args.map ev) ++ captured.toList).toArray) h)
    | .func (.yield l) first _ => HYieldN l (first.toList ++ args.map ev).toArray h K
    | _ => False
  | .minmax mx x ys => match ev x with
    | .int k a => mnmx mx ev k ys a fun m => K (.value (.int k m)) h
    | _ => False
  | .panicI x => match ev x with
    | .iface t v => E (.panic (.iface t v)) h
    | _ => False
  | .mkMap => HNew h (.map #[] 0) fun b h' => K (.value (.map (some b))) h'
  | .lookMap d z ok x i => match ev x with
    | .map none => K (.value (lookRes ok z none)) h
    | .map (some r) => HMapF h r d (ev i) fun _ _ f => K (.value (lookRes ok z f)) h
    | _ => False
  | .setMap d m k x => match ev m with
    | .map (some r) => HMapF h r d (ev k) fun es clock f => match f with
      | some (i, _) => HMust (Instr.sameBits 10000 (((es[i]?).map (·.key)).getD (ev k)) (ev k) = true)
          (K .skip (h.setIfInBounds r (.map (es.modify i fun e => { e with key := ev k, val := ev x }) clock)))
      | none => K .skip (h.setIfInBounds r (.map (es.push { key := ev k, val := ev x, born := clock }) (clock + 1)))
    | _ => False
  | .lenMap x => match ev x with
    | .map none => K (.value (.int .i64 0)) h
    | .map (some r) => HMapL h r fun n => K (.value (.int .i64 n)) h
    | _ => False
  | .isNil tag neg x => match nilB tag (ev x) with
    | some b => K (.value (.bool (bif neg then !b else b))) h
    | none => False
  | .assertT t z ok x => match ev x with
    | .nilIface => match ok with
      | true => K (.value (.tuple #[z, .bool false])) h
      | false => False
    | .iface u v => HIf (Nat.beq u t) (match ok with
      | true => K (.value (.tuple #[v, .bool true])) h
      | false => K (.value v) h) (match ok with
      | true => K (.value (.tuple #[z, .bool false])) h
      | false => False)
    | _ => False
  | .deferV x => match ev x with
    | .func (.func f) first captured => HMust (goesIn P f = true) (K (.defer { target := .fn (.func f) captured, args := first }) h)
    | _ => False
  | .raw o => HRaw P o ev h (noDefer K) E

end Go.H
