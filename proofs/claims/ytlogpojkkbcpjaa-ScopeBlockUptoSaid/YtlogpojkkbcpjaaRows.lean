/-
  NARROWER THAN 'FOR EVERY INPUT', by the rows' own cells (each row's printed sentence says how): ScopeOnce: loops · ScopeFinds: loops · ScopeBlock: loops · ScopeJoins: loops.
  DERIVED. THE GIVEN ROWS OF THIS SEAT. 5 by the template 'for every input the law returns true; each argument reads behind the call as it read before'; 0 by the template 'total and deterministic' (their statements: YtlogpojkkbcpjaaTotals.lean).
  GIVEN WITH THE SEED: the statements are not yours to turn. If you find one false, say at which input.
  Laid BY PROGRAM, IN A SANDBOX (cutbox-rows.mjs): the forced cells as the released guide's own fill.sh prints them over the translation c5616a15830b6180… (all of the seat's roots in one cut). By AI agents, Wed Nov 11 2026. No macro, syntax, notation, axiom, sorry.
-/
import Derived.Test.YtlogpojkkbcpjaaChecked
import GoSem.Claim
import GoSem.ClaimJoined
import GoSem.ClaimMapViews
import Derived.JoinedTies
import Derived.KernelRfl
namespace Go.Proofs.Ytlogpojkkbcpjaa
/- THE CELL 'sum', in the pinned program and in every row, IS THE sha256 OF THE DUMP (.gsa) THAT YtlogpojkkbcpjaaProg.lean LOADS. Nothing in Lean hashes anything: it is a label: what it is worth is what the hold of that sum in a sandbox is worth. -/
noncomputable def Try.pinned : Pinned := { name := "ytlogpojkkbcpjaa", sum := "c5616a15830b6180cd4968d6b8f89c8640f52718dac0d055ec4ee013f0c929ca", checked := Try.checked }
namespace Rows
def none {H : Type} : Left H := { results := [], args := [] }

/-- 'credenzalaw09.ScopeWraps': WHATEVER THE INPUT: true; the input reads as it did. -/
def scopeWrapsSpec : ChangeSpec := { name := "scopeWraps", fn := fun _ => fun
  | [d] => { results := [.lit (.bool true)], args := [d] }
  | _ => none }
def scopeWrapsRow : OpenClaim := { program := "ytlogpojkkbcpjaa", sum := "c5616a15830b6180cd4968d6b8f89c8640f52718dac0d055ec4ee013f0c929ca", func := "credenza/credenzalaw09.ScopeWraps", spec := "scopeWraps", inPlace := ["internal/bytealg.IndexByteString", "internal/bytealg.IndexString"], unfollowed := true, recurses := true, named := ["internal/bytealg.MaxLen"], apart := false }
def ScopeWrapsSaid : Prop := scopeWrapsRow.holds Try.pinned (OpenSpec.ofChange scopeWrapsSpec)

/-- ITS FALSE NEIGHBOUR: 'it returns false'. Refute it at one input. -/
def scopeWrapsWrong : ChangeSpec := { name := "scopeWraps", fn := fun _ => fun
  | [d] => { results := [.lit (.bool false)], args := [d] }
  | _ => none }
def ScopeWrapsWrongFalsely : Prop := scopeWrapsRow.holds Try.pinned (OpenSpec.ofChange scopeWrapsWrong)

/-- 'credenzalaw09.ScopeOnce': WHATEVER THE INPUT: true; the input reads as it did. -/
def scopeOnceSpec : ChangeSpec := { name := "scopeOnce", fn := fun _ => fun
  | [d1, d2] => { results := [.lit (.bool true)], args := [d1, d2] }
  | _ => none }
def scopeOnceRow : OpenClaim := { program := "ytlogpojkkbcpjaa", sum := "c5616a15830b6180cd4968d6b8f89c8640f52718dac0d055ec4ee013f0c929ca", func := "credenza/credenzalaw09.ScopeOnce", spec := "scopeOnce", inPlace := ["internal/bytealg.IndexByteString", "internal/bytealg.IndexString"], unfollowed := true, recurses := true, named := ["internal/bytealg.MaxLen"], loops := true, apart := false }
def ScopeOnceSaid : Prop := scopeOnceRow.holds Try.pinned (OpenSpec.ofChange scopeOnceSpec)

/-- ITS FALSE NEIGHBOUR: 'it returns false'. Refute it at one input. -/
def scopeOnceWrong : ChangeSpec := { name := "scopeOnce", fn := fun _ => fun
  | [d1, d2] => { results := [.lit (.bool false)], args := [d1, d2] }
  | _ => none }
def ScopeOnceWrongFalsely : Prop := scopeOnceRow.holds Try.pinned (OpenSpec.ofChange scopeOnceWrong)

/-- 'credenzalaw09.ScopeFinds': WHATEVER THE INPUT: true; the input reads as it did. -/
def scopeFindsSpec : ChangeSpec := { name := "scopeFinds", fn := fun _ => fun
  | [d] => { results := [.lit (.bool true)], args := [d] }
  | _ => none }
def scopeFindsRow : OpenClaim := { program := "ytlogpojkkbcpjaa", sum := "c5616a15830b6180cd4968d6b8f89c8640f52718dac0d055ec4ee013f0c929ca", func := "credenza/credenzalaw09.ScopeFinds", spec := "scopeFinds", inPlace := ["internal/bytealg.IndexByteString", "internal/bytealg.IndexString"], unfollowed := true, recurses := true, named := ["internal/bytealg.MaxLen"], loops := true, apart := false }
def ScopeFindsSaid : Prop := scopeFindsRow.holds Try.pinned (OpenSpec.ofChange scopeFindsSpec)

/-- ITS FALSE NEIGHBOUR: 'it returns false'. Refute it at one input. -/
def scopeFindsWrong : ChangeSpec := { name := "scopeFinds", fn := fun _ => fun
  | [d] => { results := [.lit (.bool false)], args := [d] }
  | _ => none }
def ScopeFindsWrongFalsely : Prop := scopeFindsRow.holds Try.pinned (OpenSpec.ofChange scopeFindsWrong)

/-- 'credenzalaw09.ScopeBlock': WHATEVER THE INPUT: true; the input reads as it did. -/
def scopeBlockSpec : ChangeSpec := { name := "scopeBlock", fn := fun _ => fun
  | [d] => { results := [.lit (.bool true)], args := [d] }
  | _ => none }
def scopeBlockRow : OpenClaim := { program := "ytlogpojkkbcpjaa", sum := "c5616a15830b6180cd4968d6b8f89c8640f52718dac0d055ec4ee013f0c929ca", func := "credenza/credenzalaw09.ScopeBlock", spec := "scopeBlock", inPlace := ["internal/bytealg.IndexByteString", "internal/bytealg.IndexString"], unfollowed := true, recurses := true, named := ["internal/bytealg.MaxLen"], loops := true, apart := false }
def ScopeBlockSaid : Prop := scopeBlockRow.holds Try.pinned (OpenSpec.ofChange scopeBlockSpec)

/-- ITS FALSE NEIGHBOUR: 'it returns false'. Refute it at one input. -/
def scopeBlockWrong : ChangeSpec := { name := "scopeBlock", fn := fun _ => fun
  | [d] => { results := [.lit (.bool false)], args := [d] }
  | _ => none }
def ScopeBlockWrongFalsely : Prop := scopeBlockRow.holds Try.pinned (OpenSpec.ofChange scopeBlockWrong)

/-- 'credenzalaw09.ScopeJoins': WHATEVER THE INPUT: true; the input reads as it did. -/
def scopeJoinsSpec : ChangeSpec := { name := "scopeJoins", fn := fun _ => fun
  | [d1, d2] => { results := [.lit (.bool true)], args := [d1, d2] }
  | _ => none }
def scopeJoinsRow : OpenClaim := { program := "ytlogpojkkbcpjaa", sum := "c5616a15830b6180cd4968d6b8f89c8640f52718dac0d055ec4ee013f0c929ca", func := "credenza/credenzalaw09.ScopeJoins", spec := "scopeJoins", inPlace := ["internal/bytealg.IndexByteString", "internal/bytealg.IndexString"], unfollowed := true, recurses := true, named := ["internal/bytealg.MaxLen"], loops := true, apart := false }
def ScopeJoinsSaid : Prop := scopeJoinsRow.holds Try.pinned (OpenSpec.ofChange scopeJoinsSpec)

/-- ITS FALSE NEIGHBOUR: 'it returns false'. Refute it at one input. -/
def scopeJoinsWrong : ChangeSpec := { name := "scopeJoins", fn := fun _ => fun
  | [d1, d2] => { results := [.lit (.bool false)], args := [d1, d2] }
  | _ => none }
def ScopeJoinsWrongFalsely : Prop := scopeJoinsRow.holds Try.pinned (OpenSpec.ofChange scopeJoinsWrong)

/- THE SECOND FORM. 'bulk': how many values and letters a reading holds, each counted each time it is reached (what is shared counts as often as it is met; a slice's spare places count too). A statement '..UptoSaid' is the law's where the arguments, and the package variables that the reading takes, are together of bulk at most 1048576: NARROWER than '..Said'. Prove '..Said' where nothing that the law and all that it calls make is longer than what came in: it says more and counts as full. Else prove '..UptoSaid'. A law counts once. -/
mutual
def uptoBulk {H : Type} : DataW H → Nat
  | .lit (.string bytes) => bytes.length + 1
  | .lit _ => 1
  | .nil => 1
  | .ptr d => uptoBulk d + 1
  | .slice elems spare => uptoBulkAll elems + uptoBulkAll spare + 1
  | .agg parts => uptoBulkAll parts + 1
  | .iface _ d => uptoBulk d + 1
  | .map entries => uptoBulkEntries entries + 1
  | .held _ => 1
def uptoBulkAll {H : Type} : List (DataW H) → Nat
  | [] => 0
  | d :: r => uptoBulk d + uptoBulkAll r
def uptoBulkEntries {H : Type} : List (Lit × DataW H) → Nat
  | [] => 0
  | x :: r => uptoBulkEntry x + uptoBulkEntries r
def uptoBulkEntry {H : Type} : Lit × DataW H → Nat
  | (.string bytes, d) => bytes.length + uptoBulk d + 1
  | (_, d) => uptoBulk d + 1
 end
def uptoSmall : (H : Type) → List (DataW H) → Bool := fun _ ds => decide (uptoBulkAll ds ≤ 1048576)
def OpenSpec.upto (s : _root_.Go.ChangeSpec) : _root_.Go.OpenSpec := { _root_.Go.OpenSpec.ofChange s with cond := some uptoSmall }

/-- 'credenzalaw09.ScopeWraps', WHERE WHAT IT READS IS OF BULK AT MOST 1048576: true; the input reads as it did. -/
def scopeWrapsUptoRow : OpenClaim := { program := "ytlogpojkkbcpjaa", sum := "c5616a15830b6180cd4968d6b8f89c8640f52718dac0d055ec4ee013f0c929ca", func := "credenza/credenzalaw09.ScopeWraps", spec := "scopeWraps", inPlace := ["internal/bytealg.IndexByteString", "internal/bytealg.IndexString"], unfollowed := true, recurses := true, named := ["internal/bytealg.MaxLen"], apart := false, narrowed := true }
def ScopeWrapsUptoSaid : Prop := scopeWrapsUptoRow.holds Try.pinned (OpenSpec.upto scopeWrapsSpec)

/-- 'credenzalaw09.ScopeOnce', WHERE WHAT IT READS IS OF BULK AT MOST 1048576: true; the input reads as it did. -/
def scopeOnceUptoRow : OpenClaim := { program := "ytlogpojkkbcpjaa", sum := "c5616a15830b6180cd4968d6b8f89c8640f52718dac0d055ec4ee013f0c929ca", func := "credenza/credenzalaw09.ScopeOnce", spec := "scopeOnce", inPlace := ["internal/bytealg.IndexByteString", "internal/bytealg.IndexString"], unfollowed := true, recurses := true, named := ["internal/bytealg.MaxLen"], loops := true, apart := false, narrowed := true }
def ScopeOnceUptoSaid : Prop := scopeOnceUptoRow.holds Try.pinned (OpenSpec.upto scopeOnceSpec)

/-- 'credenzalaw09.ScopeFinds', WHERE WHAT IT READS IS OF BULK AT MOST 1048576: true; the input reads as it did. -/
def scopeFindsUptoRow : OpenClaim := { program := "ytlogpojkkbcpjaa", sum := "c5616a15830b6180cd4968d6b8f89c8640f52718dac0d055ec4ee013f0c929ca", func := "credenza/credenzalaw09.ScopeFinds", spec := "scopeFinds", inPlace := ["internal/bytealg.IndexByteString", "internal/bytealg.IndexString"], unfollowed := true, recurses := true, named := ["internal/bytealg.MaxLen"], loops := true, apart := false, narrowed := true }
def ScopeFindsUptoSaid : Prop := scopeFindsUptoRow.holds Try.pinned (OpenSpec.upto scopeFindsSpec)

/-- 'credenzalaw09.ScopeBlock', WHERE WHAT IT READS IS OF BULK AT MOST 1048576: true; the input reads as it did. -/
def scopeBlockUptoRow : OpenClaim := { program := "ytlogpojkkbcpjaa", sum := "c5616a15830b6180cd4968d6b8f89c8640f52718dac0d055ec4ee013f0c929ca", func := "credenza/credenzalaw09.ScopeBlock", spec := "scopeBlock", inPlace := ["internal/bytealg.IndexByteString", "internal/bytealg.IndexString"], unfollowed := true, recurses := true, named := ["internal/bytealg.MaxLen"], loops := true, apart := false, narrowed := true }
def ScopeBlockUptoSaid : Prop := scopeBlockUptoRow.holds Try.pinned (OpenSpec.upto scopeBlockSpec)

/-- 'credenzalaw09.ScopeJoins', WHERE WHAT IT READS IS OF BULK AT MOST 1048576: true; the input reads as it did. -/
def scopeJoinsUptoRow : OpenClaim := { program := "ytlogpojkkbcpjaa", sum := "c5616a15830b6180cd4968d6b8f89c8640f52718dac0d055ec4ee013f0c929ca", func := "credenza/credenzalaw09.ScopeJoins", spec := "scopeJoins", inPlace := ["internal/bytealg.IndexByteString", "internal/bytealg.IndexString"], unfollowed := true, recurses := true, named := ["internal/bytealg.MaxLen"], loops := true, apart := false, narrowed := true }
def ScopeJoinsUptoSaid : Prop := scopeJoinsUptoRow.holds Try.pinned (OpenSpec.upto scopeJoinsSpec)

end Rows
end Go.Proofs.Ytlogpojkkbcpjaa
