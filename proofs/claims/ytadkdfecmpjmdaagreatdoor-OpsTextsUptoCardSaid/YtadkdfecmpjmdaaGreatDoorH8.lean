/- The code, resolved; how it runs; the compiler for code, with its soundness. -/
import Derived.Test.YtadkdfecmpjmdaaGreatDoorHI
set_option linter.unusedVariables false
set_option linter.unusedSimpArgs false
namespace Go.H

inductive ACode where
  | skip
  | ops (l : List AOper)
  | any (w : List Nat) (l : List AOper)
  | seq (a b : ACode)
  | cond (c : Operand) (t e : ACode)
  | block (id : Nat) (b : ACode)
  | loop (b : ACode)
  | exit (id : Nat)
  | ret
  | alt (a b : ACode)
  | range (g : Operand) (ps : List Nat) (x b : ACode)
  | raw (c : Code)
  deriving Inhabited

structure AF where
  fr : Nat → Value
  df : List Deferred

abbrev APost := Exit → AF → Heap → Prop

def updO (fr : Nat → Value) (o : Option Nat) (v : Value) : Nat → Value :=
  match o with
  | some d => upd fr d v
  | none => fr

def anext (P : Program) (dst : Option Nat) (a : AF) (next : AF → Heap → Prop) (K : APost) (n : Next) (h : Heap) : Prop :=
  match a with
  | ⟨fr, df⟩ => match n with
    | .value v => force v fun v => next ⟨updO fr dst v, df⟩ h
    | .skip => next ⟨updO fr dst undef, df⟩ h
    | .defer d => next ⟨updO fr dst undef, d :: df⟩ h
    | .enter f args => HCall P f args h fun e h' => match e with
      | .returned v => force v fun v => next ⟨updO fr dst v, df⟩ h'
      | .panicked ch => K (.panic ch) ⟨fr, df⟩ h'
      | .outgrown => False
    | .round l f tmps assign body => HRoundI P l f tmps assign body h fun e h' => match e with
      | .returned v => force v fun v => next ⟨updO fr dst v, df⟩ h'
      | .panicked ch => K (.panic ch) ⟨fr, df⟩ h'
      | .outgrown => False
    | _ => False
def ahalt (K : APost) (a : AF) (x : Halt) (h : Heap) : Prop :=
  match x with
  | .panic v => K (.panic [{ v, recovered := false }]) a h
  | _ => False

def aops (P : Program) (K : APost) : List AOper → AF → Heap → Prop
  | [], a, h => K .normal a h
  | o :: rest, a, h =>
    match a with
    | ⟨fr, df⟩ => match o.guard with
      | none => aop P o.op (evf fr) h (anext P o.dst ⟨fr, df⟩ (aops P K rest) K) (ahalt K ⟨fr, df⟩)
      | some (t, want) => match fr t with
        | .bool b => match want with
          | true => HIf b (aop P o.op (evf fr) h (anext P o.dst ⟨fr, df⟩ (aops P K rest) K) (ahalt K ⟨fr, df⟩)) (aops P K rest ⟨updO fr o.dst undef, df⟩ h)
          | false => HIf b (aops P K rest ⟨updO fr o.dst undef, df⟩ h) (aop P o.op (evf fr) h (anext P o.dst ⟨fr, df⟩ (aops P K rest) K) (ahalt K ⟨fr, df⟩))
        | _ => aops P K rest ⟨updO fr o.dst undef, df⟩ h

def aopN (P : Program) (o : AOper) (next : AF → Heap → Prop) (K : APost) (a : AF) (h : Heap) : Prop :=
  match a with
  | ⟨fr, df⟩ => match o.guard with
    | none => aop P o.op (evf fr) h (anext P o.dst ⟨fr, df⟩ next K) (ahalt K ⟨fr, df⟩)
    | some (t, want) => match fr t with
      | .bool b => match want with
        | true => HIf b (aop P o.op (evf fr) h (anext P o.dst ⟨fr, df⟩ next K) (ahalt K ⟨fr, df⟩)) (next ⟨updO fr o.dst undef, df⟩ h)
        | false => HIf b (next ⟨updO fr o.dst undef, df⟩ h) (aop P o.op (evf fr) h (anext P o.dst ⟨fr, df⟩ next K) (ahalt K ⟨fr, df⟩))
      | _ => next ⟨updO fr o.dst undef, df⟩ h
theorem aops_cons {P : Program} {K : APost} {o : AOper} {rest : List AOper} {a : AF} {h : Heap} : aops P K (o :: rest) a h = aopN P o (aops P K rest) K a h := rfl

def thenA (next : AF → Heap → Prop) (K : APost) (e : Exit) (a : AF) (h : Heap) : Prop :=
  match e with
  | .normal => next a h
  | e => K e a h
def blockA (id : Nat) (K : APost) (e : Exit) (a : AF) (h : Heap) : Prop :=
  match e with
  | .exit id' => match Nat.beq id' id with
    | true => K .normal a h
    | false => K (.exit id') a h
  | e => K e a h

inductive HLoop (body : APost → AF → Heap → Prop) (K : APost) (a : AF) (h : Heap) : Prop
  | mk (I : AF → Heap → Prop) (μ : AF → Heap → Nat) (start : I a h)
      (round : ∀ a h, I a h → body (thenA (fun a' h' => I a' h' ∧ μ a' h' < μ a h) K) a h)
inductive HSeq (x y : APost → AF → Heap → Prop) (K : APost) (a : AF) (h : Heap) : Prop
  | go (k : x (thenA (y K) K) a h)
def toAF (b : Act) : AF := ⟨fun t => b.tmps.getD t undef, b.defers⟩
inductive HAlt (a b : Prop) : Prop
  | mk (l : a) (r : b)
inductive HRawC (P : Program) (c : Code) (K : APost) (a : AF) (h : Heap) : Prop
  | mk (k : ∀ b : Act, toAF b = a → HWp P c (fun e b' h' => b'.tmps.size = b.tmps.size ∧ K e (toAF b') h') b h)

def markAt (D : Nat) : Deferred := { target := .collected D, args := #[] }
def setPs : (Nat → Value) → List Nat → List Value → Nat → Value
  | fr, p :: ps, v :: vs => setPs (upd fr p v) ps vs
  | fr, _, _ => fr
abbrev Rec := LoopState → Option Code → Loop
def HasRec (rec : Rec) (l : Nat) (h : Heap) : Prop := ∃ st pe, h[l]? = some (.loop (rec st pe))
def roundK (rec : Rec) (l : Nat) (R : Ending → Heap → Prop) (e : Exit) (a : AF) (h : Heap) : Prop :=
  match e with
  | .normal => HasRec rec l h ∧ R (.returned (.bool true)) (h.setIfInBounds l (.loop (rec .ready none)))
  | .ret => HasRec rec l h ∧ R (.returned (.bool false)) (h.setIfInBounds l (.loop (rec .done (some .ret))))
  | .exit id => HasRec rec l h ∧ R (.returned (.bool false)) (h.setIfInBounds l (.loop (rec .done (some (.exit id)))))
  | _ => False
def beginK (rec : Rec) (l : Nat) (next : AF → Heap → Prop) (e : Exit) (a : AF) (h : Heap) : Prop :=
  match e with
  | .normal => h[l]? = some (.loop (rec .ready none)) ∧ next a (h.setIfInBounds l (.loop (rec .busy none)))
  | _ => False
def rangeK (rec : Rec) (K : APost) (a : AF) (D : Nat) (e : Ending) (h : Heap) : Prop :=
  match e with
  | .returned _ => ∃ st pe, h[D + 1]? = some (.loop (rec st pe)) ∧ st ≠ .busy ∧ (match pe with
    | none => K .normal ⟨a.fr, markAt D :: a.df⟩ (h.setIfInBounds (D + 1) (.loop (rec .exhausted none)))
    | some .ret => K .ret ⟨a.fr, markAt D :: a.df⟩ (h.setIfInBounds (D + 1) (.loop (rec .exhausted (some .ret))))
    | some (.exit id) => K (.exit id) ⟨a.fr, markAt D :: a.df⟩ (h.setIfInBounds (D + 1) (.loop (rec .exhausted (some (.exit id)))))
    | _ => False)
  | .panicked ch => K (.panic ch) ⟨a.fr, markAt D :: a.df⟩ h
  | .outgrown => False
inductive HRange (P : Program) (g : Operand) (ps : List Nat) (asn body : APost → AF → Heap → Prop) (K : APost) (a : AF) (h : Heap) : Prop
  | mk (gf : FuncId) (lb : Array Value) (hg : evf a.fr g = .func (.func gf) #[] lb) (hgo : goesIn P gf = true)
    (k : ∀ rec : Rec, (∀ (args : List Value) (h' : Heap) (R : Ending → Heap → Prop), args.length = ps.length → h'[h.size + 1]? = some (.loop (rec .ready none)) →
        asn (beginK rec (h.size + 1) (body (roundK rec (h.size + 1) R))) ⟨setPs a.fr ps args, []⟩ h' → HYield P (h.size + 1) args.toArray h' R) →
      HCalls P gf (.func (.yield (h.size + 1)) #[] #[] :: lb.toList).toArray ((h.push (.deferred (some []))).push (.loop (rec .ready none))) (rangeK rec K a h.size))
def havoc (w : List Nat) (K : APost) (e : Exit) (a : AF) (h : Heap) : Prop :=
  match e with
  | .panic c => ∀ fr' : Nat → Value, (∀ t, w.contains t = false → fr' t = a.fr t) → K (.panic c) ⟨fr', a.df⟩ h
  | e => K e a h

def isOps : ACode → Bool
  | .ops _ => true
  | .any .. => true
  | .skip => true
  | _ => false

def aexec (P : Program) : ACode → APost → AF → Heap → Prop
  | .skip, K, a, h => K .normal a h
  | .ops l, K, a, h => aops P K l a h
  | .any w l, K, a, h => aops P (havoc w K) l a h
  | .seq x y, K, a, h => match isOps x with
    | true => aexec P x (thenA (aexec P y K) K) a h
    | false => HSeq (aexec P x) (aexec P y) K a h
  | .cond c x y, K, a, h => match evf a.fr c with
    | .bool b => HIf b (aexec P x K a h) (aexec P y K a h)
    | _ => False
  | .block id b, K, a, h => aexec P b (blockA id K) a h
  | .loop b, K, a, h => HLoop (aexec P b) K a h
  | .exit id, K, a, h => K (.exit id) a h
  | .ret, K, a, h => K .ret a h
  | .alt x y, K, a, h => HAlt (aexec P x K a h) (aexec P y K a h)
  | .range g ps x b, K, a, h => HRange P g ps (aexec P x) (aexec P b) K a h
  | .raw c, K, a, h => HRawC P c K a h

/-! ### The compiler -/

def dstOk (n : Nat) : Option Nat → Bool
  | some d => Nat.blt d n
  | none => true

def compOper (P : Program) (n : Nat) (ops : Array Oper) (o : Oper) : Option AOper :=
  match dstOk n o.dst with
  | false => none
  | true => match o.guard with
    | none => some ⟨o.dst, compOp P o, none⟩
    | some (j, w) => match (ops[j]?).bind (·.dst) with
      | some d => match Nat.blt d n with
        | true => some ⟨o.dst, compOp P o, some (d, w)⟩
        | false => none
      | none => none

def compList (P : Program) (n : Nat) (ops : Array Oper) : List Nat → Option (List AOper)
  | [] => some []
  | i :: l => match ops[i]? with
    | some o => match compOper P n ops o, compList P n ops l with
      | some x, some r => some (x :: r)
      | _, _ => none
    | none => none

def pureK : AOp → Bool
  | .load1 _ | .loadN .. | .strOfBytes _ => false
  | x => quietK x

def loadK : AOp → Bool
  | .load1 _ | .loadN .. => true
  | _ => false
def isSelect : Op → Bool
  | .select .. => true
  | _ => false

def waits (ops : Array Oper) (i : Nat) : List Nat :=
  (List.range ops.size).foldl (fun acc j => match ops[j]? with
    | some oj => if oj.after.any (fun e => Region.binds .any e && (e.on == i || acc.contains e.on)) then j :: acc else acc
    | none => acc) []

def okFirst (P : Program) (ops : Array Oper) (listed : Array Bool) (i : Nat) : Bool :=
  match ops[i]? with
  | none => false
  | some oi => quietK (compOp P oi) && match waits ops i with
    | ws => (List.range ops.size).all fun j =>
      j == i || listed.getD j true || ws.contains j || match ops[j]? with
        | none => true
        | some oj => oi.apart ops oj && (pureK (compOp P oi) || quietK (compOp P oj) || (loadK (compOp P oi) && growO oj))

inductive PTree where
  | done
  | take (k : Nat) (t : PTree)
  | alt (a b : PTree)
def mkAlt : List (Nat × PTree) → PTree
  | [] => .done
  | [(k, t)] => .take k t
  | (k, t) :: r => .alt (.take k t) (mkAlt r)
def allPlans (f : Nat → Option PTree) : List Nat → Option (List (Nat × PTree))
  | [] => some []
  | k :: r => match f k, allPlans f r with
    | some t, some l => some ((k, t) :: l)
    | _, _ => none
def few : List Nat → Bool
  | [] | [_] | [_, _] | [_, _, _] | [_, _, _, _] | [_, _, _, _, _] => true
  | _ => false
def plan (P : Program) (ops : Array Oper) : Nat → Array Bool → Option PTree
  | 0, listed => if Region.ready .any ops listed = [] then some .done else none
  | fuel + 1, listed =>
    match Region.ready .any ops listed with
    | [] => some .done
    | i :: rs => match (i :: rs).find? (okFirst P ops listed) with
      | some k => match plan P ops fuel (listed.setIfInBounds k true) with
        | some t => some (.take k t)
        | none => none
      | none => match few (i :: rs) with
        | true => match allPlans (fun k => plan P ops fuel (listed.setIfInBounds k true)) (i :: rs) with
          | some l => some (mkAlt l)
          | none => none
        | false => none

def consAny (w : List Nat) (x : AOper) : ACode → ACode
  | .any w' l => match decide (w' = w) with
    | true => .any w (x :: l)
    | false => .seq (.any w [x]) (.any w' l)
  | .seq (.any w' l) r => match decide (w' = w) with
    | true => .seq (.any w (x :: l)) r
    | false => .seq (.any w [x]) (.seq (.any w' l) r)
  | r => .seq (.any w [x]) r

/-! ### Orders that meet again -/

inductive PT where
  | done
  | take (k : Nat) (t : PT)
  | alt (a b : PT)
  | join (a b : PT)
def mkAltT : List (Nat × PT) → PT
  | [] => .done
  | [(k, t)] => .take k t
  | (k, t) :: r => .alt (.take k t) (mkAltT r)
def allPlansT (f : Nat → Option PT) : List Nat → Option (List (Nat × PT))
  | [] => some []
  | k :: r => match f k, allPlansT f r with
    | some t, some l => some ((k, t) :: l)
    | _, _ => none
def isReady : List Nat → Nat → Bool
  | [k], p => k == p
  | _, _ => false
def planSeg (P : Program) (ops : Array Oper) (p : Nat) : Nat → Array Bool → Option PT
  | 0, _ => none
  | fuel + 1, listed =>
    match Region.ready .any ops listed with
    | [] => none
    | i :: rs => match isReady (i :: rs) p with
      | true => some .done
      | false => match (i :: rs).find? (okFirst P ops listed) with
        | some k => match planSeg P ops p fuel (listed.setIfInBounds k true) with
          | some t => some (.take k t)
          | none => none
        | none => match few (i :: rs) with
          | true => match allPlansT (fun k => planSeg P ops p fuel (listed.setIfInBounds k true)) (i :: rs) with
            | some l => some (mkAltT l)
            | none => none
          | false => none
def isPivot (ops : Array Oper) (ws : List (List Nat)) (listed : Array Bool) (p : Nat) : Bool :=
  !(listed.getD p true) && (List.range ops.size).all fun j => j == p || listed.getD j true || (ws.getD p []).contains j || (ws.getD j []).contains p
def uptoP (ops : Array Oper) (ws : List (List Nat)) (listed : Array Bool) (p : Nat) : Array Bool :=
  (List.range ops.size).foldl (fun l j => if (ws.getD j []).contains p then l.setIfInBounds j true else l) listed
def planJ (P : Program) (ops : Array Oper) (ws : List (List Nat)) : Nat → Array Bool → Option PT
  | 0, listed => if Region.ready .any ops listed = [] then some .done else none
  | fuel + 1, listed =>
    match Region.ready .any ops listed with
    | [] => some .done
    | i :: rs => match (i :: rs).find? (okFirst P ops listed) with
      | some k => match planJ P ops ws fuel (listed.setIfInBounds k true) with
        | some t => some (.take k t)
        | none => none
      | none => match rs with
        | [] => match planJ P ops ws fuel (listed.setIfInBounds i true) with
          | some t => some (.take i t)
          | none => none
        | _ => match (List.range ops.size).find? (isPivot ops ws listed) with
          | some p => match planSeg P ops p ops.size listed, planJ P ops ws fuel (uptoP ops ws listed p) with
            | some a, some b => some (.join a b)
            | _, _ => none
          | none => match few (i :: rs) with
            | true => match allPlansT (fun k => planJ P ops ws fuel (listed.setIfInBounds k true)) (i :: rs) with
              | some l => some (mkAltT l)
              | none => none
            | false => none
def heads : PT → List Nat
  | .take k _ => [k]
  | .alt a b => heads a ++ heads b
  | _ => []
def verify (P : Program) (ops : Array Oper) : Bool → PT → Nat → Array Bool → Option (Nat × Array Bool)
  | false, .done, fuel, listed => some (fuel, listed)
  | true, .take k t, fuel + 1, listed => verify P ops false t fuel (listed.setIfInBounds k true)
  | false, .take k t, fuel + 1, listed => match Region.ready .any ops listed with
    | [i] => if i = k then verify P ops false t fuel (listed.setIfInBounds k true) else none
    | rs => if rs.contains k && okFirst P ops listed k then verify P ops false t fuel (listed.setIfInBounds k true) else none
  | m, .alt a b, fuel, listed => if m || decide (Region.ready .any ops listed = heads a ++ heads b) then match verify P ops true a fuel listed, verify P ops true b fuel listed with
    | some x, some y => if x = y then some x else none
    | _, _ => none
    else none
  | false, .join a b, fuel, listed => match verify P ops false a fuel listed with
    | some l => verify P ops false b l.1 l.2
    | none => none
  | _, _, _, _ => none
def compPT (P : Program) (n : Nat) (ops : Array Oper) (w : List Nat) : PT → Option ACode
  | .done => some (.any w [])
  | .take k t => match ops[k]? with
    | some o => match compOper P n ops o, compPT P n ops w t with
      | some x, some r => some (consAny w x r)
      | _, _ => none
    | none => none
  | .alt a b => match heads a, compPT P n ops w a, compPT P n ops w b with
    | _ :: _, some x, some y => some (.alt x y)
    | _, _, _ => none
  | .join a b => match compPT P n ops w a, compPT P n ops w b with
    | some x, some y => some (.seq x y)
    | _, _ => none
def noSelect (ops : Array Oper) : Bool := ops.toList.all fun o => !isSelect o.op

def compTree (P : Program) (n : Nat) (ops : Array Oper) (w : List Nat) : PTree → Option ACode
  | .done => some (.any w [])
  | .take k t => match ops[k]? with
    | some o => match compOper P n ops o, compTree P n ops w t with
      | some x, some r => some (consAny w x r)
      | _, _ => none
    | none => none
  | .alt a b => match compTree P n ops w a, compTree P n ops w b with
    | some x, some y => some (.alt x y)
    | _, _ => none

def compCode (P : Program) (n : Nat) : Code → ACode
  | .skip => .skip
  | .region id ops d => match d with
    | false => match compList P n ops (List.range ops.size) with
      | some l => .ops l
      | none => .raw (.region id ops d)
    | true => match Nat.ble ops.size 24 with
      | true => match noSelect ops, P.follows .mixedOrders, plan P ops ops.size (Array.replicate ops.size false) with
        | true, true, some t => match compTree P n ops (ops.toList.filterMap (·.dst)) t with
          | some c => c
          | none => .raw (.region id ops d)
        | _, _, _ => .raw (.region id ops d)
      | false => match noSelect ops, P.follows .mixedOrders, planJ P ops ((List.range ops.size).map (waits ops)) ops.size (Array.replicate ops.size false) with
        | true, true, some t => match verify P ops false t ops.size (Array.replicate ops.size false), compPT P n ops (ops.toList.filterMap (·.dst)) t with
          | some l, some c => match Region.ready .any ops l.2 with
            | [] => c
            | _ => .raw (.region id ops d)
          | _, _ => .raw (.region id ops d)
        | _, _, _ => .raw (.region id ops d)
  | .seq a b => .seq (compCode P n a) (compCode P n b)
  | .cond c a b => .cond c (compCode P n a) (compCode P n b)
  | .block id b => .block id (compCode P n b)
  | .loop b => .loop (compCode P n b)
  | .exit id => .exit id
  | .ret => .ret
  | .rangeFunc g ps x c => match plain x && plain c && ps.toList.all (Nat.blt · n) with
    | true => .range g ps.toList (compCode P n x) (compCode P n c)
    | false => .raw (.rangeFunc g ps x c)
  | c => .raw c

end Go.H
