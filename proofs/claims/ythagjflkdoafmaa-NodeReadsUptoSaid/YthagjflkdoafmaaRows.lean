/-
  No cell of these rows narrows 'for every input' (looked for: loops, veiled, ifaces, maps, wideKeys, modest, calm, conditions, laid).
  DERIVED. THE GIVEN ROWS OF THIS SEAT. 6 by the template 'for every input the law returns true; each argument reads behind the call as it read before'; 0 by the template 'total and deterministic' (their statements: YthagjflkdoafmaaTotals.lean).
  GIVEN WITH THE SEED: the statements are not yours to turn. If you find one false, say at which input.
  Laid BY PROGRAM, IN A SANDBOX (cutbox-rows.mjs): the forced cells as the released guide's own fill.sh prints them over the translation c735152c0af96c86… (all of the seat's roots in one cut). By AI agents, Wed Nov 11 2026. No macro, syntax, notation, axiom, sorry.
-/
import Derived.Test.YthagjflkdoafmaaChecked
import GoSem.Claim
import GoSem.ClaimJoined
import GoSem.ClaimMapViews
import Derived.JoinedTies
import Derived.KernelRfl
namespace Go.Proofs.Ythagjflkdoafmaa
/- THE CELL 'sum', in the pinned program and in every row, IS THE sha256 OF THE DUMP (.gsa) THAT YthagjflkdoafmaaProg.lean LOADS. Nothing in Lean hashes anything: it is a label: what it is worth is what the hold of that sum in a sandbox is worth. -/
noncomputable def Try.pinned : Pinned := { name := "ythagjflkdoafmaa", sum := "c735152c0af96c865942bc66bb83fd2edbe2872e1fa96f96f525cd455fd3f717", checked := Try.checked }
namespace Rows
def none {H : Type} : Left H := { results := [], args := [] }

/-- 'credenzalaw17.NodeWrites': WHATEVER THE INPUT: true; the input reads as it did. -/
def nodeWritesSpec : ChangeSpec := { name := "nodeWrites", fn := fun _ => fun
  | [d1, d2, d3] => { results := [.lit (.bool true)], args := [d1, d2, d3] }
  | _ => none }
def nodeWritesRow : OpenClaim := { program := "ythagjflkdoafmaa", sum := "c735152c0af96c865942bc66bb83fd2edbe2872e1fa96f96f525cd455fd3f717", func := "credenza/credenzalaw17.NodeWrites", spec := "nodeWrites", unfollowed := true, recurses := true, apart := false }
def NodeWritesSaid : Prop := nodeWritesRow.holds Try.pinned (OpenSpec.ofChange nodeWritesSpec)

/-- ITS FALSE NEIGHBOUR: 'it returns false'. Refute it at one input. -/
def nodeWritesWrong : ChangeSpec := { name := "nodeWrites", fn := fun _ => fun
  | [d1, d2, d3] => { results := [.lit (.bool false)], args := [d1, d2, d3] }
  | _ => none }
def NodeWritesWrongFalsely : Prop := nodeWritesRow.holds Try.pinned (OpenSpec.ofChange nodeWritesWrong)

/-- 'credenzalaw17.NodeReads': WHATEVER THE INPUT: true; the input reads as it did. -/
def nodeReadsSpec : ChangeSpec := { name := "nodeReads", fn := fun _ => fun
  | [d] => { results := [.lit (.bool true)], args := [d] }
  | _ => none }
def nodeReadsRow : OpenClaim := { program := "ythagjflkdoafmaa", sum := "c735152c0af96c865942bc66bb83fd2edbe2872e1fa96f96f525cd455fd3f717", func := "credenza/credenzalaw17.NodeReads", spec := "nodeReads", unfollowed := true, recurses := true, apart := false }
def NodeReadsSaid : Prop := nodeReadsRow.holds Try.pinned (OpenSpec.ofChange nodeReadsSpec)

/-- ITS FALSE NEIGHBOUR: 'it returns false'. Refute it at one input. -/
def nodeReadsWrong : ChangeSpec := { name := "nodeReads", fn := fun _ => fun
  | [d] => { results := [.lit (.bool false)], args := [d] }
  | _ => none }
def NodeReadsWrongFalsely : Prop := nodeReadsRow.holds Try.pinned (OpenSpec.ofChange nodeReadsWrong)

/-- 'credenzalaw17.NodeFrames': WHATEVER THE INPUT: true; the input reads as it did. -/
def nodeFramesSpec : ChangeSpec := { name := "nodeFrames", fn := fun _ => fun
  | [d] => { results := [.lit (.bool true)], args := [d] }
  | _ => none }
def nodeFramesRow : OpenClaim := { program := "ythagjflkdoafmaa", sum := "c735152c0af96c865942bc66bb83fd2edbe2872e1fa96f96f525cd455fd3f717", func := "credenza/credenzalaw17.NodeFrames", spec := "nodeFrames", unfollowed := true, recurses := true, apart := false }
def NodeFramesSaid : Prop := nodeFramesRow.holds Try.pinned (OpenSpec.ofChange nodeFramesSpec)

/-- ITS FALSE NEIGHBOUR: 'it returns false'. Refute it at one input. -/
def nodeFramesWrong : ChangeSpec := { name := "nodeFrames", fn := fun _ => fun
  | [d] => { results := [.lit (.bool false)], args := [d] }
  | _ => none }
def NodeFramesWrongFalsely : Prop := nodeFramesRow.holds Try.pinned (OpenSpec.ofChange nodeFramesWrong)

/-- 'credenzalaw17.NodeBack': WHATEVER THE INPUT: true; the input reads as it did. -/
def nodeBackSpec : ChangeSpec := { name := "nodeBack", fn := fun _ => fun
  | [d1, d2] => { results := [.lit (.bool true)], args := [d1, d2] }
  | _ => none }
def nodeBackRow : OpenClaim := { program := "ythagjflkdoafmaa", sum := "c735152c0af96c865942bc66bb83fd2edbe2872e1fa96f96f525cd455fd3f717", func := "credenza/credenzalaw17.NodeBack", spec := "nodeBack", unfollowed := true, recurses := true, apart := false }
def NodeBackSaid : Prop := nodeBackRow.holds Try.pinned (OpenSpec.ofChange nodeBackSpec)

/-- ITS FALSE NEIGHBOUR: 'it returns false'. Refute it at one input. -/
def nodeBackWrong : ChangeSpec := { name := "nodeBack", fn := fun _ => fun
  | [d1, d2] => { results := [.lit (.bool false)], args := [d1, d2] }
  | _ => none }
def NodeBackWrongFalsely : Prop := nodeBackRow.holds Try.pinned (OpenSpec.ofChange nodeBackWrong)

/-- 'credenzalaw17.NodeChild': WHATEVER THE INPUT: true; the input reads as it did. -/
def nodeChildSpec : ChangeSpec := { name := "nodeChild", fn := fun _ => fun
  | [d1, d2] => { results := [.lit (.bool true)], args := [d1, d2] }
  | _ => none }
def nodeChildRow : OpenClaim := { program := "ythagjflkdoafmaa", sum := "c735152c0af96c865942bc66bb83fd2edbe2872e1fa96f96f525cd455fd3f717", func := "credenza/credenzalaw17.NodeChild", spec := "nodeChild", unfollowed := true, recurses := true, apart := false }
def NodeChildSaid : Prop := nodeChildRow.holds Try.pinned (OpenSpec.ofChange nodeChildSpec)

/-- ITS FALSE NEIGHBOUR: 'it returns false'. Refute it at one input. -/
def nodeChildWrong : ChangeSpec := { name := "nodeChild", fn := fun _ => fun
  | [d1, d2] => { results := [.lit (.bool false)], args := [d1, d2] }
  | _ => none }
def NodeChildWrongFalsely : Prop := nodeChildRow.holds Try.pinned (OpenSpec.ofChange nodeChildWrong)

/-- 'credenzalaw17.NodeTurns': WHATEVER THE INPUT: true; the input reads as it did. -/
def nodeTurnsSpec : ChangeSpec := { name := "nodeTurns", fn := fun _ => fun
  | [d1, d2, d3] => { results := [.lit (.bool true)], args := [d1, d2, d3] }
  | _ => none }
def nodeTurnsRow : OpenClaim := { program := "ythagjflkdoafmaa", sum := "c735152c0af96c865942bc66bb83fd2edbe2872e1fa96f96f525cd455fd3f717", func := "credenza/credenzalaw17.NodeTurns", spec := "nodeTurns", unfollowed := true, recurses := true, apart := false }
def NodeTurnsSaid : Prop := nodeTurnsRow.holds Try.pinned (OpenSpec.ofChange nodeTurnsSpec)

/-- ITS FALSE NEIGHBOUR: 'it returns false'. Refute it at one input. -/
def nodeTurnsWrong : ChangeSpec := { name := "nodeTurns", fn := fun _ => fun
  | [d1, d2, d3] => { results := [.lit (.bool false)], args := [d1, d2, d3] }
  | _ => none }
def NodeTurnsWrongFalsely : Prop := nodeTurnsRow.holds Try.pinned (OpenSpec.ofChange nodeTurnsWrong)

/- THE SECOND FORM. 'bulk': how many values and letters a reading holds, each counted each time it is reached (what is shared counts as often as it is met; a slice's spare places count too). A statement '..UptoSaid' is the law's where the arguments, and the package variables that the reading takes, are together of bulk at most 1048576: NARROWER than '..Said'. Prove '..Said' where nothing that the law and all that it calls make is longer than what came in: it says more and counts as full. Else prove '..UptoSaid'. A law counts once. -/
mutual
def uptoBulk {H : Type} : DataW H → Nat
  | .lit (.string bytes) => bytes.length + 1
  | .lit _ => 1
  | .nil => 1
  | .ptr d => uptoBulk d + 1
  | .slice elems spare => uptoBulkAll elems + uptoBulkAll spare + 1
  | .agg parts => uptoBulkAll parts + 1
  | .iface _ d => uptoBulk d + 1
  | .map entries => uptoBulkEntries entries + 1
  | .held _ => 1
def uptoBulkAll {H : Type} : List (DataW H) → Nat
  | [] => 0
  | d :: r => uptoBulk d + uptoBulkAll r
def uptoBulkEntries {H : Type} : List (Lit × DataW H) → Nat
  | [] => 0
  | x :: r => uptoBulkEntry x + uptoBulkEntries r
def uptoBulkEntry {H : Type} : Lit × DataW H → Nat
  | (.string bytes, d) => bytes.length + uptoBulk d + 1
  | (_, d) => uptoBulk d + 1
 end
def uptoSmall : (H : Type) → List (DataW H) → Bool := fun _ ds => decide (uptoBulkAll ds ≤ 1048576)
def OpenSpec.upto (s : _root_.Go.ChangeSpec) : _root_.Go.OpenSpec := { _root_.Go.OpenSpec.ofChange s with cond := some uptoSmall }

/-- 'credenzalaw17.NodeWrites', WHERE WHAT IT READS IS OF BULK AT MOST 1048576: true; the input reads as it did. -/
def nodeWritesUptoRow : OpenClaim := { program := "ythagjflkdoafmaa", sum := "c735152c0af96c865942bc66bb83fd2edbe2872e1fa96f96f525cd455fd3f717", func := "credenza/credenzalaw17.NodeWrites", spec := "nodeWrites", unfollowed := true, recurses := true, apart := false, narrowed := true }
def NodeWritesUptoSaid : Prop := nodeWritesUptoRow.holds Try.pinned (OpenSpec.upto nodeWritesSpec)

/-- 'credenzalaw17.NodeReads', WHERE WHAT IT READS IS OF BULK AT MOST 1048576: true; the input reads as it did. -/
def nodeReadsUptoRow : OpenClaim := { program := "ythagjflkdoafmaa", sum := "c735152c0af96c865942bc66bb83fd2edbe2872e1fa96f96f525cd455fd3f717", func := "credenza/credenzalaw17.NodeReads", spec := "nodeReads", unfollowed := true, recurses := true, apart := false, narrowed := true }
def NodeReadsUptoSaid : Prop := nodeReadsUptoRow.holds Try.pinned (OpenSpec.upto nodeReadsSpec)

/-- 'credenzalaw17.NodeFrames', WHERE WHAT IT READS IS OF BULK AT MOST 1048576: true; the input reads as it did. -/
def nodeFramesUptoRow : OpenClaim := { program := "ythagjflkdoafmaa", sum := "c735152c0af96c865942bc66bb83fd2edbe2872e1fa96f96f525cd455fd3f717", func := "credenza/credenzalaw17.NodeFrames", spec := "nodeFrames", unfollowed := true, recurses := true, apart := false, narrowed := true }
def NodeFramesUptoSaid : Prop := nodeFramesUptoRow.holds Try.pinned (OpenSpec.upto nodeFramesSpec)

/-- 'credenzalaw17.NodeBack', WHERE WHAT IT READS IS OF BULK AT MOST 1048576: true; the input reads as it did. -/
def nodeBackUptoRow : OpenClaim := { program := "ythagjflkdoafmaa", sum := "c735152c0af96c865942bc66bb83fd2edbe2872e1fa96f96f525cd455fd3f717", func := "credenza/credenzalaw17.NodeBack", spec := "nodeBack", unfollowed := true, recurses := true, apart := false, narrowed := true }
def NodeBackUptoSaid : Prop := nodeBackUptoRow.holds Try.pinned (OpenSpec.upto nodeBackSpec)

/-- 'credenzalaw17.NodeChild', WHERE WHAT IT READS IS OF BULK AT MOST 1048576: true; the input reads as it did. -/
def nodeChildUptoRow : OpenClaim := { program := "ythagjflkdoafmaa", sum := "c735152c0af96c865942bc66bb83fd2edbe2872e1fa96f96f525cd455fd3f717", func := "credenza/credenzalaw17.NodeChild", spec := "nodeChild", unfollowed := true, recurses := true, apart := false, narrowed := true }
def NodeChildUptoSaid : Prop := nodeChildUptoRow.holds Try.pinned (OpenSpec.upto nodeChildSpec)

/-- 'credenzalaw17.NodeTurns', WHERE WHAT IT READS IS OF BULK AT MOST 1048576: true; the input reads as it did. -/
def nodeTurnsUptoRow : OpenClaim := { program := "ythagjflkdoafmaa", sum := "c735152c0af96c865942bc66bb83fd2edbe2872e1fa96f96f525cd455fd3f717", func := "credenza/credenzalaw17.NodeTurns", spec := "nodeTurns", unfollowed := true, recurses := true, apart := false, narrowed := true }
def NodeTurnsUptoSaid : Prop := nodeTurnsUptoRow.holds Try.pinned (OpenSpec.upto nodeTurnsSpec)

end Rows
end Go.Proofs.Ythagjflkdoafmaa
