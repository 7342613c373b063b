/-
  No cell of these rows narrows 'for every input' (looked for: loops, veiled, ifaces, maps, wideKeys, modest, calm, conditions, laid).
  DERIVED. THE GIVEN ROWS OF THIS SEAT. 4 by the template 'for every input the law returns true; each argument reads behind the call as it read before'; 0 by the template 'total and deterministic' (their statements: YtpgabimecdldeaaTotals.lean).
  GIVEN WITH THE SEED: the statements are not yours to turn. If you find one false, say at which input.
  Laid BY PROGRAM, IN A SANDBOX (cutbox-rows.mjs): the forced cells as the released guide's own fill.sh prints them over the translation 81bac26a64c33612… (all of the seat's roots in one cut). By AI agents, Wed Nov 11 2026. No macro, syntax, notation, axiom, sorry.
-/
import Derived.Test.YtpgabimecdldeaaChecked
import GoSem.Claim
import GoSem.ClaimJoined
import GoSem.ClaimMapViews
import Derived.JoinedTies
import Derived.KernelRfl
namespace Go.Proofs.Ytpgabimecdldeaa
/- THE CELL 'sum', in the pinned program and in every row, IS THE sha256 OF THE DUMP (.gsa) THAT YtpgabimecdldeaaProg.lean LOADS. Nothing in Lean hashes anything: it is a label: what it is worth is what the hold of that sum in a sandbox is worth. -/
noncomputable def Try.pinned : Pinned := { name := "ytpgabimecdldeaa", sum := "81bac26a64c33612e7fc3029ed5d09003c93ace41392f1697fe240680e5c6239", checked := Try.checked }
namespace Rows
def none {H : Type} : Left H := { results := [], args := [] }

/-- 'laws.FnExactSpan': WHATEVER THE INPUT: true; the input reads as it did. -/
def fnExactSpanSpec : ChangeSpec := { name := "fnExactSpan", fn := fun _ => fun
  | [d] => { results := [.lit (.bool true)], args := [d] }
  | _ => none }
def fnExactSpanRow : OpenClaim := { program := "ytpgabimecdldeaa", sum := "81bac26a64c33612e7fc3029ed5d09003c93ace41392f1697fe240680e5c6239", func := "loop.example/g00066/laws.FnExactSpan", spec := "fnExactSpan", apart := false }
def FnExactSpanSaid : Prop := fnExactSpanRow.holds Try.pinned (OpenSpec.ofChange fnExactSpanSpec)

/-- ITS FALSE NEIGHBOUR: 'it returns false'. Refute it at one input. -/
def fnExactSpanWrong : ChangeSpec := { name := "fnExactSpan", fn := fun _ => fun
  | [d] => { results := [.lit (.bool false)], args := [d] }
  | _ => none }
def FnExactSpanWrongFalsely : Prop := fnExactSpanRow.holds Try.pinned (OpenSpec.ofChange fnExactSpanWrong)

/-- 'laws.FnExactJobOk': WHATEVER THE INPUT: true; the input reads as it did. -/
def fnExactJobOkSpec : ChangeSpec := { name := "fnExactJobOk", fn := fun _ => fun
  | [d] => { results := [.lit (.bool true)], args := [d] }
  | _ => none }
def fnExactJobOkRow : OpenClaim := { program := "ytpgabimecdldeaa", sum := "81bac26a64c33612e7fc3029ed5d09003c93ace41392f1697fe240680e5c6239", func := "loop.example/g00066/laws.FnExactJobOk", spec := "fnExactJobOk", apart := false }
def FnExactJobOkSaid : Prop := fnExactJobOkRow.holds Try.pinned (OpenSpec.ofChange fnExactJobOkSpec)

/-- ITS FALSE NEIGHBOUR: 'it returns false'. Refute it at one input. -/
def fnExactJobOkWrong : ChangeSpec := { name := "fnExactJobOk", fn := fun _ => fun
  | [d] => { results := [.lit (.bool false)], args := [d] }
  | _ => none }
def FnExactJobOkWrongFalsely : Prop := fnExactJobOkRow.holds Try.pinned (OpenSpec.ofChange fnExactJobOkWrong)

/-- 'laws.FnExactCritical': WHATEVER THE INPUT: true; the input reads as it did. -/
def fnExactCriticalSpec : ChangeSpec := { name := "fnExactCritical", fn := fun _ => fun
  | [d] => { results := [.lit (.bool true)], args := [d] }
  | _ => none }
def fnExactCriticalRow : OpenClaim := { program := "ytpgabimecdldeaa", sum := "81bac26a64c33612e7fc3029ed5d09003c93ace41392f1697fe240680e5c6239", func := "loop.example/g00066/laws.FnExactCritical", spec := "fnExactCritical", apart := false }
def FnExactCriticalSaid : Prop := fnExactCriticalRow.holds Try.pinned (OpenSpec.ofChange fnExactCriticalSpec)

/-- ITS FALSE NEIGHBOUR: 'it returns false'. Refute it at one input. -/
def fnExactCriticalWrong : ChangeSpec := { name := "fnExactCritical", fn := fun _ => fun
  | [d] => { results := [.lit (.bool false)], args := [d] }
  | _ => none }
def FnExactCriticalWrongFalsely : Prop := fnExactCriticalRow.holds Try.pinned (OpenSpec.ofChange fnExactCriticalWrong)

/-- 'laws.FnExactResults': WHATEVER THE INPUT: true; the input reads as it did. -/
def fnExactResultsSpec : ChangeSpec := { name := "fnExactResults", fn := fun _ => fun
  | [d] => { results := [.lit (.bool true)], args := [d] }
  | _ => none }
def fnExactResultsRow : OpenClaim := { program := "ytpgabimecdldeaa", sum := "81bac26a64c33612e7fc3029ed5d09003c93ace41392f1697fe240680e5c6239", func := "loop.example/g00066/laws.FnExactResults", spec := "fnExactResults", apart := false }
def FnExactResultsSaid : Prop := fnExactResultsRow.holds Try.pinned (OpenSpec.ofChange fnExactResultsSpec)

/-- ITS FALSE NEIGHBOUR: 'it returns false'. Refute it at one input. -/
def fnExactResultsWrong : ChangeSpec := { name := "fnExactResults", fn := fun _ => fun
  | [d] => { results := [.lit (.bool false)], args := [d] }
  | _ => none }
def FnExactResultsWrongFalsely : Prop := fnExactResultsRow.holds Try.pinned (OpenSpec.ofChange fnExactResultsWrong)

/- THE SECOND FORM. 'bulk': how many values and letters a reading holds, each counted each time it is reached (what is shared counts as often as it is met; a slice's spare places count too). A statement '..UptoSaid' is the law's where the arguments, and the package variables that the reading takes, are together of bulk at most 1048576: NARROWER than '..Said'. Prove '..Said' where nothing that the law and all that it calls make is longer than what came in: it says more and counts as full. Else prove '..UptoSaid'. A law counts once. -/
mutual
def uptoBulk {H : Type} : DataW H → Nat
  | .lit (.string bytes) => bytes.length + 1
  | .lit _ => 1
  | .nil => 1
  | .ptr d => uptoBulk d + 1
  | .slice elems spare => uptoBulkAll elems + uptoBulkAll spare + 1
  | .agg parts => uptoBulkAll parts + 1
  | .iface _ d => uptoBulk d + 1
  | .map entries => uptoBulkEntries entries + 1
  | .held _ => 1
def uptoBulkAll {H : Type} : List (DataW H) → Nat
  | [] => 0
  | d :: r => uptoBulk d + uptoBulkAll r
def uptoBulkEntries {H : Type} : List (Lit × DataW H) → Nat
  | [] => 0
  | x :: r => uptoBulkEntry x + uptoBulkEntries r
def uptoBulkEntry {H : Type} : Lit × DataW H → Nat
  | (.string bytes, d) => bytes.length + uptoBulk d + 1
  | (_, d) => uptoBulk d + 1
 end
def uptoSmall : (H : Type) → List (DataW H) → Bool := fun _ ds => decide (uptoBulkAll ds ≤ 1048576)
def OpenSpec.upto (s : _root_.Go.ChangeSpec) : _root_.Go.OpenSpec := { _root_.Go.OpenSpec.ofChange s with cond := some uptoSmall }

/-- 'laws.FnExactSpan', WHERE WHAT IT READS IS OF BULK AT MOST 1048576: true; the input reads as it did. -/
def fnExactSpanUptoRow : OpenClaim := { program := "ytpgabimecdldeaa", sum := "81bac26a64c33612e7fc3029ed5d09003c93ace41392f1697fe240680e5c6239", func := "loop.example/g00066/laws.FnExactSpan", spec := "fnExactSpan", apart := false, narrowed := true }
def FnExactSpanUptoSaid : Prop := fnExactSpanUptoRow.holds Try.pinned (OpenSpec.upto fnExactSpanSpec)

/-- 'laws.FnExactJobOk', WHERE WHAT IT READS IS OF BULK AT MOST 1048576: true; the input reads as it did. -/
def fnExactJobOkUptoRow : OpenClaim := { program := "ytpgabimecdldeaa", sum := "81bac26a64c33612e7fc3029ed5d09003c93ace41392f1697fe240680e5c6239", func := "loop.example/g00066/laws.FnExactJobOk", spec := "fnExactJobOk", apart := false, narrowed := true }
def FnExactJobOkUptoSaid : Prop := fnExactJobOkUptoRow.holds Try.pinned (OpenSpec.upto fnExactJobOkSpec)

/-- 'laws.FnExactCritical', WHERE WHAT IT READS IS OF BULK AT MOST 1048576: true; the input reads as it did. -/
def fnExactCriticalUptoRow : OpenClaim := { program := "ytpgabimecdldeaa", sum := "81bac26a64c33612e7fc3029ed5d09003c93ace41392f1697fe240680e5c6239", func := "loop.example/g00066/laws.FnExactCritical", spec := "fnExactCritical", apart := false, narrowed := true }
def FnExactCriticalUptoSaid : Prop := fnExactCriticalUptoRow.holds Try.pinned (OpenSpec.upto fnExactCriticalSpec)

/-- 'laws.FnExactResults', WHERE WHAT IT READS IS OF BULK AT MOST 1048576: true; the input reads as it did. -/
def fnExactResultsUptoRow : OpenClaim := { program := "ytpgabimecdldeaa", sum := "81bac26a64c33612e7fc3029ed5d09003c93ace41392f1697fe240680e5c6239", func := "loop.example/g00066/laws.FnExactResults", spec := "fnExactResults", apart := false, narrowed := true }
def FnExactResultsUptoSaid : Prop := fnExactResultsUptoRow.holds Try.pinned (OpenSpec.upto fnExactResultsSpec)

end Rows
end Go.Proofs.Ytpgabimecdldeaa
