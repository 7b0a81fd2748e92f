/- From the given operations to resolved ones, with the proof that nothing is lost. -/
import Derived.Test.YtadkdfecmpjmdaaGreatDoorH2
set_option linter.unusedVariables false
set_option linter.unusedSimpArgs false
namespace Go.H

def zeroOf (P : Program) (t : TypeId) : Option Value := (P.info? t).bind (·.zero)
def sizeOfT (P : Program) (t : TypeId) : Option Nat := (P.info? t).map (·.size)
def isAggT (P : Program) (t : TypeId) : Option Bool :=
  match P.underlying t with
  | some (.struct _) | some (.array _ _) => some true
  | some _ => some false
  | none => none

def placesL (f : Nat → Option (Nat × Nat)) : List (Nat × Operand) → Option (List (Nat × Nat × Operand))
  | [] => some []
  | (i, x) :: rest => match f i, placesL f rest with
    | some (off, size), some r => some ((off, size, x) :: r)
    | _, _ => none
def fieldPlaces (P : Program) (fs : Array Field) (i : Nat) : Option (Nat × Nat) :=
  match fs[i]? with
  | some f => (sizeOfT P f.type).map fun s => (f.offset, s)
  | none => none

def nilTag : TypeDesc → Operand → Option Nat
  | .interface _, .const .nilIface => some 0
  | .pointer _, .const (.pointer none) => some 1
  | .slice _, .const (.slice none 0 0) => some 2
  | .map _ _, .const (.map none) => some 3
  | _, _ => none

def compOp (P : Program) (o : Oper) : AOp :=
  match o.op with
  | .move x => .mv x
  | .assign x => .mv x
  | .pick c a b => .pick c a b
  | .alloc e => match zeroOf P e with
    | some z => .new e z.cells.toList
    | none => .raw o
  | .box e x => .box e x
  | .build t parts => match zeroOf P t, P.underlying t with
    | some z, some (.struct fs) => match (fs.toList.all fun f => (sizeOfT P f.type).isSome), placesL (fieldPlaces P fs) parts.toList with
      | true, some ps => .build z.cells.toList ps
      | _, _ => .raw o
    | some z, some (.array _ elem) => match sizeOfT P elem with
      | some s => match placesL (fun i => some (i * s, s)) parts.toList with
        | some ps => .build z.cells.toList ps
        | none => .raw o
      | none => .raw o
    | _, _ => .raw o
  | .buildSlice t len parts => match P.underlying t with
    | some (.slice elem) => match sizeOfT P elem, zeroOf P elem with
      | some s, some z => match placesL (fun i => some (i * s, s)) parts.toList with
        | some ps => if len * s > 2 ^ 24 then .raw o else .buildSlice elem len ((Array.range (len * s)).map (z.cells[· % z.cells.size]!)).toList ps
        | none => .raw o
      | _, _ => .raw o
    | _ => .raw o
  | .load t x => match isAggT P t, sizeOfT P t with
    | some true, some n => .loadN n x
    | some false, _ => .load1 x
    | _, _ => .raw o
  | .store t a x => match isAggT P t, sizeOfT P t with
    | some true, some n => .storeN n a x
    | some false, some 1 => .store1 a x
    | _, _ => .raw o
  | .nilCheck x => .nilCheck x
  | .binOp op t x y _ => match P.underlying t with
    | some (.int _) => .bin op x y
    | some .string => .bin op x y
    | some .bool => match op with
      | .eql => .eqB false x y
      | .neq => .eqB true x y
      | _ => .raw o
    | some d => match op with
      | .eql => match nilTag d y with
        | some tag => .isNil tag false x
        | none => match d with
          | .interface _ => .eqI false x y
          | _ => .raw o
      | .neq => match nilTag d y with
        | some tag => .isNil tag true x
        | none => match d with
          | .interface _ => .eqI true x y
          | _ => .raw o
      | _ => .raw o
    | _ => .raw o
  | .unOp op _ x => .un op x
  | .convert src dst x => match P.underlying src, P.underlying dst with
    | some (.int _), some (.int k) => .convInt k x
    | some .string, some .string => .strStr x
    | some (.slice e), some .string => match P.underlying e with
      | some (.int .u8) => .strOfBytes x
      | _ => .raw o
    | some .string, some (.slice e) => match P.underlying e with
      | some (.int .u8) => .bytesOfStr e x
      | _ => .raw o
    | _, _ => .raw o
  | .makeInterface t x => match P.underlying t with
    | some (.interface _) => .raw o
    | some _ => .mkIface t x
    | none => .raw o
  | .makeFunc fn first captured => .mkFunc fn first.toList captured.toList
  | .makeSlice t l c => match P.underlying t with
    | some (.slice e) => match P.info? e with
      | some i => match i.zero with
        | some z => if z.cells.size = i.size then .mkSlice e i.size i.bytes z.cells.toList l c else .raw o
        | none => .raw o
      | none => .raw o
    | _ => .raw o
  | .slice t x lo hi mx => match P.underlying t with
    | some .string => match mx with
      | none => .sliceStr x lo hi
      | some _ => .raw o
    | some (.slice e) => match sizeOfT P e with
      | some s => match hi, mx with
        | none, some _ => .raw o
        | _, _ => .sliceSl s x lo hi mx
      | none => .raw o
    | some (.array n e) => match sizeOfT P e with
      | some s => match hi, mx with
        | none, some _ => .raw o
        | _, _ => .sliceArr n s x lo hi mx
      | none => .raw o
    | _ => .raw o
  | .fieldAddr t x i => match P.underlying t with
    | some (.struct fs) => match fs[i]? with
      | some f => match sizeOfT P f.type with
        | some 0 => .raw o
        | some _ => .fieldAddr f.offset x
        | none => .raw o
      | none => .raw o
    | _ => .raw o
  | .field t x i => match P.underlying t with
    | some (.struct fs) => match fs[i]? with
      | some f => match isAggT P f.type, sizeOfT P f.type with
        | some true, some n => .fieldN f.offset n x
        | some false, _ => .field1 f.offset x
        | _, _ => .raw o
      | none => .raw o
    | _ => .raw o
  | .indexAddr t x i => match P.underlying t with
    | some (.slice e) => match sizeOfT P e with
      | some s => .idxSl s x i
      | none => .raw o
    | some (.array n e) => match sizeOfT P e with
      | some s => .idxArrP n s x i
      | none => .raw o
    | _ => .raw o
  | .index t x i => match P.underlying t with
    | some .string => .idxStr x i
    | _ => .raw o
  | .extract x i => .extract x i
  | .call { callee := .builtin .len, args, argTypes } => match args.toList, argTypes.toList with
    | [x], [t] => match P.underlying t with
      | some .string => .lenStr x
      | some (.slice _) => .lenSl x
      | some (.array n _) => .val (.int .i64 n)
      | some (.map _ _) => .lenMap x
      | _ => .raw o
    | _, _ => .raw o
  | .call { callee := .builtin .append, args, argTypes } => match args.toList, argTypes.toList with
    | [x, y], t :: u :: _ => match P.underlying t, P.underlying u with
      | some (.slice e), some (.int _) => match P.info? e with
        | some i => match i.zero with
          | some z => if z.cells.size = i.size ∧ 0 < i.bytes then .appendZ e i.size i.bytes z.cells.toList x y else .raw o
          | none => .raw o
        | none => .raw o
      | _, some (.int _) => .raw o
      | some (.slice e), some _ => match P.info? e with
        | some i => match i.zero with
          | some z => if z.cells.size = i.size ∧ 0 < i.bytes then .append e i.size i.bytes z.cells.toList x y else .raw o
          | none => .raw o
        | none => .raw o
      | _, _ => .raw o
    | _, _ => .raw o
  | .call { callee := .builtin .copy, args, argTypes } => match args.toList, argTypes.toList with
    | [x, y], t :: _ => match P.underlying t with
      | some (.slice e) => match sizeOfT P e with
        | some s => .copy s x y
        | none => .raw o
      | _ => .raw o
    | _, _ => .raw o
  | .call { callee := .builtin .max, args, .. } => match args.toList with
    | x :: ys => .minmax true x ys
    | [] => .raw o
  | .call { callee := .builtin .min, args, .. } => match args.toList with
    | x :: ys => .minmax false x ys
    | [] => .raw o
  | .call { callee := .builtin .unsafeString, args, argTypes } => match args.toList, argTypes.toList with
    | [x, y], t :: _ => match P.underlying t with
      | some (.pointer e) => .ustr e x y
      | _ => .raw o
    | _, _ => .raw o
  | .call { callee := .builtin .unsafeSliceData, args, .. } => match args.toList with
    | [x] => .sldata x
    | _ => .raw o
  | .call { callee := .value (.func f), args, .. } => if goesIn P f then .callF f args.toList else .raw o
  | .call { callee := .value (.tmp t), args, .. } => .callV (.tmp t) args.toList
  | .panic x => .panicI x
  | .typeAssert x _ t ok => match P.underlying t, zeroOf P t with
    | some (.interface _), _ => .raw o
    | some _, some z => .assertT t z ok x
    | _, _ => .raw o
  | .defer { callee := .value (.tmp t), args, .. } => match args.toList with
    | [] => .deferV (.tmp t)
    | _ => .raw o
  | .makeMap _ none => .mkMap
  | .lookup t x i ok => match P.underlying t with
    | some (.map key elem) => match P.underlying key, zeroOf P elem with
      | some .string, some z => .lookMap .string z ok x i
      | some (.int k), some z => .lookMap (.int k) z ok x i
      | _, _ => .raw o
    | _ => .raw o
  | .mapUpdate t m k x => match P.underlying t with
    | some (.map key _) => match P.underlying key with
      | some .string => .setMap .string m k x
      | some (.int kk) => .setMap (.int kk) m k x
      | _ => .raw o
    | _ => .raw o
  | _ => .raw o

end Go.H
