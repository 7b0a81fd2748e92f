/-
  No cell of these rows narrows 'for every input' (looked for: loops, veiled, ifaces, maps, wideKeys, modest, calm, conditions, laid).
  DERIVED. THE GIVEN ROWS OF THIS SEAT. 7 by the template 'for every input the law returns true; each argument reads behind the call as it read before'; 0 by the template 'total and deterministic' (their statements: YtgmlbaikeepniaaTotals.lean).
  GIVEN WITH THE SEED: the statements are not yours to turn. If you find one false, say at which input.
  Laid BY PROGRAM, IN A SANDBOX (cutbox-rows.mjs): the forced cells as the released guide's own fill.sh prints them over the translation 8ece3cfa94260e05… (all of the seat's roots in one cut). By AI agents, Wed Nov 11 2026. No macro, syntax, notation, axiom, sorry.
-/
import Derived.Test.YtgmlbaikeepniaaChecked
import GoSem.Claim
import GoSem.ClaimJoined
import GoSem.ClaimMapViews
import Derived.JoinedTies
import Derived.KernelRfl
namespace Go.Proofs.Ytgmlbaikeepniaa
/- THE CELL 'sum', in the pinned program and in every row, IS THE sha256 OF THE DUMP (.gsa) THAT YtgmlbaikeepniaaProg.lean LOADS. Nothing in Lean hashes anything: it is a label: what it is worth is what the hold of that sum in a sandbox is worth. -/
noncomputable def Try.pinned : Pinned := { name := "ytgmlbaikeepniaa", sum := "8ece3cfa94260e05b2c830ef68ef48229b81758214c27167ef945e7c25b04a31", checked := Try.checked }
namespace Rows
def none {H : Type} : Left H := { results := [], args := [] }

/-- 'credenzalaw02.OctetsOrder': WHATEVER THE INPUT: true; the input reads as it did. -/
def octetsOrderSpec : ChangeSpec := { name := "octetsOrder", fn := fun _ => fun
  | [d1, d2] => { results := [.lit (.bool true)], args := [d1, d2] }
  | _ => none }
def octetsOrderRow : OpenClaim := { program := "ytgmlbaikeepniaa", sum := "8ece3cfa94260e05b2c830ef68ef48229b81758214c27167ef945e7c25b04a31", func := "credenza/credenzalaw02.OctetsOrder", spec := "octetsOrder", apart := false }
def OctetsOrderSaid : Prop := octetsOrderRow.holds Try.pinned (OpenSpec.ofChange octetsOrderSpec)

/-- ITS FALSE NEIGHBOUR: 'it returns false'. Refute it at one input. -/
def octetsOrderWrong : ChangeSpec := { name := "octetsOrder", fn := fun _ => fun
  | [d1, d2] => { results := [.lit (.bool false)], args := [d1, d2] }
  | _ => none }
def OctetsOrderWrongFalsely : Prop := octetsOrderRow.holds Try.pinned (OpenSpec.ofChange octetsOrderWrong)

/-- 'credenzalaw02.OctetsWrite': WHATEVER THE INPUT: true; the input reads as it did. -/
def octetsWriteSpec : ChangeSpec := { name := "octetsWrite", fn := fun _ => fun
  | [d1, d2] => { results := [.lit (.bool true)], args := [d1, d2] }
  | _ => none }
def octetsWriteRow : OpenClaim := { program := "ytgmlbaikeepniaa", sum := "8ece3cfa94260e05b2c830ef68ef48229b81758214c27167ef945e7c25b04a31", func := "credenza/credenzalaw02.OctetsWrite", spec := "octetsWrite", recurses := true, apart := false }
def OctetsWriteSaid : Prop := octetsWriteRow.holds Try.pinned (OpenSpec.ofChange octetsWriteSpec)

/-- ITS FALSE NEIGHBOUR: 'it returns false'. Refute it at one input. -/
def octetsWriteWrong : ChangeSpec := { name := "octetsWrite", fn := fun _ => fun
  | [d1, d2] => { results := [.lit (.bool false)], args := [d1, d2] }
  | _ => none }
def OctetsWriteWrongFalsely : Prop := octetsWriteRow.holds Try.pinned (OpenSpec.ofChange octetsWriteWrong)

/-- 'credenzalaw02.OctetsRead': WHATEVER THE INPUT: true; the input reads as it did. -/
def octetsReadSpec : ChangeSpec := { name := "octetsRead", fn := fun _ => fun
  | [d1, d2] => { results := [.lit (.bool true)], args := [d1, d2] }
  | _ => none }
def octetsReadRow : OpenClaim := { program := "ytgmlbaikeepniaa", sum := "8ece3cfa94260e05b2c830ef68ef48229b81758214c27167ef945e7c25b04a31", func := "credenza/credenzalaw02.OctetsRead", spec := "octetsRead", apart := false }
def OctetsReadSaid : Prop := octetsReadRow.holds Try.pinned (OpenSpec.ofChange octetsReadSpec)

/-- ITS FALSE NEIGHBOUR: 'it returns false'. Refute it at one input. -/
def octetsReadWrong : ChangeSpec := { name := "octetsRead", fn := fun _ => fun
  | [d1, d2] => { results := [.lit (.bool false)], args := [d1, d2] }
  | _ => none }
def OctetsReadWrongFalsely : Prop := octetsReadRow.holds Try.pinned (OpenSpec.ofChange octetsReadWrong)

/-- 'credenzalaw02.OctetsBursts': WHATEVER THE INPUT: true; the input reads as it did. -/
def octetsBurstsSpec : ChangeSpec := { name := "octetsBursts", fn := fun _ => fun
  | [d1, d2, d3] => { results := [.lit (.bool true)], args := [d1, d2, d3] }
  | _ => none }
def octetsBurstsRow : OpenClaim := { program := "ytgmlbaikeepniaa", sum := "8ece3cfa94260e05b2c830ef68ef48229b81758214c27167ef945e7c25b04a31", func := "credenza/credenzalaw02.OctetsBursts", spec := "octetsBursts", apart := false }
def OctetsBurstsSaid : Prop := octetsBurstsRow.holds Try.pinned (OpenSpec.ofChange octetsBurstsSpec)

/-- ITS FALSE NEIGHBOUR: 'it returns false'. Refute it at one input. -/
def octetsBurstsWrong : ChangeSpec := { name := "octetsBursts", fn := fun _ => fun
  | [d1, d2, d3] => { results := [.lit (.bool false)], args := [d1, d2, d3] }
  | _ => none }
def OctetsBurstsWrongFalsely : Prop := octetsBurstsRow.holds Try.pinned (OpenSpec.ofChange octetsBurstsWrong)

/-- 'credenzalaw02.OctetsFrames': WHATEVER THE INPUT: true; the input reads as it did. -/
def octetsFramesSpec : ChangeSpec := { name := "octetsFrames", fn := fun _ => fun
  | [d1, d2] => { results := [.lit (.bool true)], args := [d1, d2] }
  | _ => none }
def octetsFramesRow : OpenClaim := { program := "ytgmlbaikeepniaa", sum := "8ece3cfa94260e05b2c830ef68ef48229b81758214c27167ef945e7c25b04a31", func := "credenza/credenzalaw02.OctetsFrames", spec := "octetsFrames", apart := false }
def OctetsFramesSaid : Prop := octetsFramesRow.holds Try.pinned (OpenSpec.ofChange octetsFramesSpec)

/-- ITS FALSE NEIGHBOUR: 'it returns false'. Refute it at one input. -/
def octetsFramesWrong : ChangeSpec := { name := "octetsFrames", fn := fun _ => fun
  | [d1, d2] => { results := [.lit (.bool false)], args := [d1, d2] }
  | _ => none }
def OctetsFramesWrongFalsely : Prop := octetsFramesRow.holds Try.pinned (OpenSpec.ofChange octetsFramesWrong)

/-- 'credenzalaw02.OctetsBack': WHATEVER THE INPUT: true; the input reads as it did. -/
def octetsBackSpec : ChangeSpec := { name := "octetsBack", fn := fun _ => fun
  | [d1, d2, d3, d4] => { results := [.lit (.bool true)], args := [d1, d2, d3, d4] }
  | _ => none }
def octetsBackRow : OpenClaim := { program := "ytgmlbaikeepniaa", sum := "8ece3cfa94260e05b2c830ef68ef48229b81758214c27167ef945e7c25b04a31", func := "credenza/credenzalaw02.OctetsBack", spec := "octetsBack", apart := false }
def OctetsBackSaid : Prop := octetsBackRow.holds Try.pinned (OpenSpec.ofChange octetsBackSpec)

/-- ITS FALSE NEIGHBOUR: 'it returns false'. Refute it at one input. -/
def octetsBackWrong : ChangeSpec := { name := "octetsBack", fn := fun _ => fun
  | [d1, d2, d3, d4] => { results := [.lit (.bool false)], args := [d1, d2, d3, d4] }
  | _ => none }
def OctetsBackWrongFalsely : Prop := octetsBackRow.holds Try.pinned (OpenSpec.ofChange octetsBackWrong)

/-- 'credenzalaw02.OctetsCut': WHATEVER THE INPUT: true; the input reads as it did. -/
def octetsCutSpec : ChangeSpec := { name := "octetsCut", fn := fun _ => fun
  | [d1, d2, d3, d4] => { results := [.lit (.bool true)], args := [d1, d2, d3, d4] }
  | _ => none }
def octetsCutRow : OpenClaim := { program := "ytgmlbaikeepniaa", sum := "8ece3cfa94260e05b2c830ef68ef48229b81758214c27167ef945e7c25b04a31", func := "credenza/credenzalaw02.OctetsCut", spec := "octetsCut", apart := false }
def OctetsCutSaid : Prop := octetsCutRow.holds Try.pinned (OpenSpec.ofChange octetsCutSpec)

/-- ITS FALSE NEIGHBOUR: 'it returns false'. Refute it at one input. -/
def octetsCutWrong : ChangeSpec := { name := "octetsCut", fn := fun _ => fun
  | [d1, d2, d3, d4] => { results := [.lit (.bool false)], args := [d1, d2, d3, d4] }
  | _ => none }
def OctetsCutWrongFalsely : Prop := octetsCutRow.holds Try.pinned (OpenSpec.ofChange octetsCutWrong)

/- THE SECOND FORM. 'bulk': how many values and letters a reading holds, each counted each time it is reached (what is shared counts as often as it is met; a slice's spare places count too). A statement '..UptoSaid' is the law's where the arguments, and the package variables that the reading takes, are together of bulk at most 1048576: NARROWER than '..Said'. Prove '..Said' where nothing that the law and all that it calls make is longer than what came in: it says more and counts as full. Else prove '..UptoSaid'. A law counts once. -/
mutual
def uptoBulk {H : Type} : DataW H → Nat
  | .lit (.string bytes) => bytes.length + 1
  | .lit _ => 1
  | .nil => 1
  | .ptr d => uptoBulk d + 1
  | .slice elems spare => uptoBulkAll elems + uptoBulkAll spare + 1
  | .agg parts => uptoBulkAll parts + 1
  | .iface _ d => uptoBulk d + 1
  | .map entries => uptoBulkEntries entries + 1
  | .held _ => 1
def uptoBulkAll {H : Type} : List (DataW H) → Nat
  | [] => 0
  | d :: r => uptoBulk d + uptoBulkAll r
def uptoBulkEntries {H : Type} : List (Lit × DataW H) → Nat
  | [] => 0
  | x :: r => uptoBulkEntry x + uptoBulkEntries r
def uptoBulkEntry {H : Type} : Lit × DataW H → Nat
  | (.string bytes, d) => bytes.length + uptoBulk d + 1
  | (_, d) => uptoBulk d + 1
 end
def uptoSmall : (H : Type) → List (DataW H) → Bool := fun _ ds => decide (uptoBulkAll ds ≤ 1048576)
def OpenSpec.upto (s : _root_.Go.ChangeSpec) : _root_.Go.OpenSpec := { _root_.Go.OpenSpec.ofChange s with cond := some uptoSmall }

/-- 'credenzalaw02.OctetsOrder', WHERE WHAT IT READS IS OF BULK AT MOST 1048576: true; the input reads as it did. -/
def octetsOrderUptoRow : OpenClaim := { program := "ytgmlbaikeepniaa", sum := "8ece3cfa94260e05b2c830ef68ef48229b81758214c27167ef945e7c25b04a31", func := "credenza/credenzalaw02.OctetsOrder", spec := "octetsOrder", apart := false, narrowed := true }
def OctetsOrderUptoSaid : Prop := octetsOrderUptoRow.holds Try.pinned (OpenSpec.upto octetsOrderSpec)

/-- 'credenzalaw02.OctetsWrite', WHERE WHAT IT READS IS OF BULK AT MOST 1048576: true; the input reads as it did. -/
def octetsWriteUptoRow : OpenClaim := { program := "ytgmlbaikeepniaa", sum := "8ece3cfa94260e05b2c830ef68ef48229b81758214c27167ef945e7c25b04a31", func := "credenza/credenzalaw02.OctetsWrite", spec := "octetsWrite", recurses := true, apart := false, narrowed := true }
def OctetsWriteUptoSaid : Prop := octetsWriteUptoRow.holds Try.pinned (OpenSpec.upto octetsWriteSpec)

/-- 'credenzalaw02.OctetsRead', WHERE WHAT IT READS IS OF BULK AT MOST 1048576: true; the input reads as it did. -/
def octetsReadUptoRow : OpenClaim := { program := "ytgmlbaikeepniaa", sum := "8ece3cfa94260e05b2c830ef68ef48229b81758214c27167ef945e7c25b04a31", func := "credenza/credenzalaw02.OctetsRead", spec := "octetsRead", apart := false, narrowed := true }
def OctetsReadUptoSaid : Prop := octetsReadUptoRow.holds Try.pinned (OpenSpec.upto octetsReadSpec)

/-- 'credenzalaw02.OctetsBursts', WHERE WHAT IT READS IS OF BULK AT MOST 1048576: true; the input reads as it did. -/
def octetsBurstsUptoRow : OpenClaim := { program := "ytgmlbaikeepniaa", sum := "8ece3cfa94260e05b2c830ef68ef48229b81758214c27167ef945e7c25b04a31", func := "credenza/credenzalaw02.OctetsBursts", spec := "octetsBursts", apart := false, narrowed := true }
def OctetsBurstsUptoSaid : Prop := octetsBurstsUptoRow.holds Try.pinned (OpenSpec.upto octetsBurstsSpec)

/-- 'credenzalaw02.OctetsFrames', WHERE WHAT IT READS IS OF BULK AT MOST 1048576: true; the input reads as it did. -/
def octetsFramesUptoRow : OpenClaim := { program := "ytgmlbaikeepniaa", sum := "8ece3cfa94260e05b2c830ef68ef48229b81758214c27167ef945e7c25b04a31", func := "credenza/credenzalaw02.OctetsFrames", spec := "octetsFrames", apart := false, narrowed := true }
def OctetsFramesUptoSaid : Prop := octetsFramesUptoRow.holds Try.pinned (OpenSpec.upto octetsFramesSpec)

/-- 'credenzalaw02.OctetsBack', WHERE WHAT IT READS IS OF BULK AT MOST 1048576: true; the input reads as it did. -/
def octetsBackUptoRow : OpenClaim := { program := "ytgmlbaikeepniaa", sum := "8ece3cfa94260e05b2c830ef68ef48229b81758214c27167ef945e7c25b04a31", func := "credenza/credenzalaw02.OctetsBack", spec := "octetsBack", apart := false, narrowed := true }
def OctetsBackUptoSaid : Prop := octetsBackUptoRow.holds Try.pinned (OpenSpec.upto octetsBackSpec)

/-- 'credenzalaw02.OctetsCut', WHERE WHAT IT READS IS OF BULK AT MOST 1048576: true; the input reads as it did. -/
def octetsCutUptoRow : OpenClaim := { program := "ytgmlbaikeepniaa", sum := "8ece3cfa94260e05b2c830ef68ef48229b81758214c27167ef945e7c25b04a31", func := "credenza/credenzalaw02.OctetsCut", spec := "octetsCut", apart := false, narrowed := true }
def OctetsCutUptoSaid : Prop := octetsCutUptoRow.holds Try.pinned (OpenSpec.upto octetsCutSpec)

end Rows
end Go.Proofs.Ytgmlbaikeepniaa
