/-
  No cell of these rows narrows 'for every input' (looked for: loops, veiled, ifaces, maps, wideKeys, modest, calm, conditions, laid).
  DERIVED. THE GIVEN ROWS OF THIS SEAT. 6 by the template 'for every input the law returns true; each argument reads behind the call as it read before'; 0 by the template 'total and deterministic' (their statements: YtdhhdphpfleikaaTotals.lean).
  GIVEN WITH THE SEED: the statements are not yours to turn. If you find one false, say at which input.
  Laid BY PROGRAM, IN A SANDBOX (cutbox-rows.mjs): the forced cells as the released guide's own fill.sh prints them over the translation 09becffec3957e83… (all of the seat's roots in one cut). By AI agents, Wed Nov 11 2026. No macro, syntax, notation, axiom, sorry.
-/
import Derived.Test.YtdhhdphpfleikaaChecked
import GoSem.Claim
import GoSem.ClaimJoined
import GoSem.ClaimMapViews
import Derived.JoinedTies
import Derived.KernelRfl
namespace Go.Proofs.Ytdhhdphpfleikaa
/- THE CELL 'sum', in the pinned program and in every row, IS THE sha256 OF THE DUMP (.gsa) THAT YtdhhdphpfleikaaProg.lean LOADS. Nothing in Lean hashes anything: it is a label: what it is worth is what the hold of that sum in a sandbox is worth. -/
noncomputable def Try.pinned : Pinned := { name := "ytdhhdphpfleikaa", sum := "09becffec3957e835285c0ce897150d430fb8281e4ac53bb8d40a58e2506cced", checked := Try.checked }
namespace Rows
def none {H : Type} : Left H := { results := [], args := [] }

/-- 'laws.FnExactKeyMask': WHATEVER THE INPUT: true; the input reads as it did. -/
def fnExactKeyMaskSpec : ChangeSpec := { name := "fnExactKeyMask", fn := fun _ => fun
  | [d1, d2, d3, d4] => { results := [.lit (.bool true)], args := [d1, d2, d3, d4] }
  | _ => none }
def fnExactKeyMaskRow : OpenClaim := { program := "ytdhhdphpfleikaa", sum := "09becffec3957e835285c0ce897150d430fb8281e4ac53bb8d40a58e2506cced", func := "loop.example/g00066/laws.FnExactKeyMask", spec := "fnExactKeyMask", apart := false }
def FnExactKeyMaskSaid : Prop := fnExactKeyMaskRow.holds Try.pinned (OpenSpec.ofChange fnExactKeyMaskSpec)

/-- ITS FALSE NEIGHBOUR: 'it returns false'. Refute it at one input. -/
def fnExactKeyMaskWrong : ChangeSpec := { name := "fnExactKeyMask", fn := fun _ => fun
  | [d1, d2, d3, d4] => { results := [.lit (.bool false)], args := [d1, d2, d3, d4] }
  | _ => none }
def FnExactKeyMaskWrongFalsely : Prop := fnExactKeyMaskRow.holds Try.pinned (OpenSpec.ofChange fnExactKeyMaskWrong)

/-- 'laws.FnKeyed': WHATEVER THE INPUT: true; the input reads as it did. -/
def fnKeyedSpec : ChangeSpec := { name := "fnKeyed", fn := fun _ => fun
  | [d] => { results := [.lit (.bool true)], args := [d] }
  | _ => none }
def fnKeyedRow : OpenClaim := { program := "ytdhhdphpfleikaa", sum := "09becffec3957e835285c0ce897150d430fb8281e4ac53bb8d40a58e2506cced", func := "loop.example/g00066/laws.FnKeyed", spec := "fnKeyed", apart := false }
def FnKeyedSaid : Prop := fnKeyedRow.holds Try.pinned (OpenSpec.ofChange fnKeyedSpec)

/-- ITS FALSE NEIGHBOUR: 'it returns false'. Refute it at one input. -/
def fnKeyedWrong : ChangeSpec := { name := "fnKeyed", fn := fun _ => fun
  | [d] => { results := [.lit (.bool false)], args := [d] }
  | _ => none }
def FnKeyedWrongFalsely : Prop := fnKeyedRow.holds Try.pinned (OpenSpec.ofChange fnKeyedWrong)

/-- 'laws.FnExactMatrix': WHATEVER THE INPUT: true; the input reads as it did. -/
def fnExactMatrixSpec : ChangeSpec := { name := "fnExactMatrix", fn := fun _ => fun
  | [d1, d2] => { results := [.lit (.bool true)], args := [d1, d2] }
  | _ => none }
def fnExactMatrixRow : OpenClaim := { program := "ytdhhdphpfleikaa", sum := "09becffec3957e835285c0ce897150d430fb8281e4ac53bb8d40a58e2506cced", func := "loop.example/g00066/laws.FnExactMatrix", spec := "fnExactMatrix", unfollowed := true, recurses := true, apart := false }
def FnExactMatrixSaid : Prop := fnExactMatrixRow.holds Try.pinned (OpenSpec.ofChange fnExactMatrixSpec)

/-- ITS FALSE NEIGHBOUR: 'it returns false'. Refute it at one input. -/
def fnExactMatrixWrong : ChangeSpec := { name := "fnExactMatrix", fn := fun _ => fun
  | [d1, d2] => { results := [.lit (.bool false)], args := [d1, d2] }
  | _ => none }
def FnExactMatrixWrongFalsely : Prop := fnExactMatrixRow.holds Try.pinned (OpenSpec.ofChange fnExactMatrixWrong)

/-- 'laws.FnExactScope': WHATEVER THE INPUT: true; the input reads as it did. -/
def fnExactScopeSpec : ChangeSpec := { name := "fnExactScope", fn := fun _ => fun
  | [d] => { results := [.lit (.bool true)], args := [d] }
  | _ => none }
def fnExactScopeRow : OpenClaim := { program := "ytdhhdphpfleikaa", sum := "09becffec3957e835285c0ce897150d430fb8281e4ac53bb8d40a58e2506cced", func := "loop.example/g00066/laws.FnExactScope", spec := "fnExactScope", unfollowed := true, recurses := true, apart := false }
def FnExactScopeSaid : Prop := fnExactScopeRow.holds Try.pinned (OpenSpec.ofChange fnExactScopeSpec)

/-- ITS FALSE NEIGHBOUR: 'it returns false'. Refute it at one input. -/
def fnExactScopeWrong : ChangeSpec := { name := "fnExactScope", fn := fun _ => fun
  | [d] => { results := [.lit (.bool false)], args := [d] }
  | _ => none }
def FnExactScopeWrongFalsely : Prop := fnExactScopeRow.holds Try.pinned (OpenSpec.ofChange fnExactScopeWrong)

/-- 'laws.FnScope': WHATEVER THE INPUT: true; the input reads as it did. -/
def fnScopeSpec : ChangeSpec := { name := "fnScope", fn := fun _ => fun
  | [d] => { results := [.lit (.bool true)], args := [d] }
  | _ => none }
def fnScopeRow : OpenClaim := { program := "ytdhhdphpfleikaa", sum := "09becffec3957e835285c0ce897150d430fb8281e4ac53bb8d40a58e2506cced", func := "loop.example/g00066/laws.FnScope", spec := "fnScope", unfollowed := true, recurses := true, apart := false }
def FnScopeSaid : Prop := fnScopeRow.holds Try.pinned (OpenSpec.ofChange fnScopeSpec)

/-- ITS FALSE NEIGHBOUR: 'it returns false'. Refute it at one input. -/
def fnScopeWrong : ChangeSpec := { name := "fnScope", fn := fun _ => fun
  | [d] => { results := [.lit (.bool false)], args := [d] }
  | _ => none }
def FnScopeWrongFalsely : Prop := fnScopeRow.holds Try.pinned (OpenSpec.ofChange fnScopeWrong)

/-- 'laws.FnExactGraphOk': WHATEVER THE INPUT: true; the input reads as it did. -/
def fnExactGraphOkSpec : ChangeSpec := { name := "fnExactGraphOk", fn := fun _ => fun
  | [d] => { results := [.lit (.bool true)], args := [d] }
  | _ => none }
def fnExactGraphOkRow : OpenClaim := { program := "ytdhhdphpfleikaa", sum := "09becffec3957e835285c0ce897150d430fb8281e4ac53bb8d40a58e2506cced", func := "loop.example/g00066/laws.FnExactGraphOk", spec := "fnExactGraphOk", inPlace := ["math.Float64bits"], unfollowed := true, recurses := true, apart := false }
def FnExactGraphOkSaid : Prop := fnExactGraphOkRow.holds Try.pinned (OpenSpec.ofChange fnExactGraphOkSpec)

/-- ITS FALSE NEIGHBOUR: 'it returns false'. Refute it at one input. -/
def fnExactGraphOkWrong : ChangeSpec := { name := "fnExactGraphOk", fn := fun _ => fun
  | [d] => { results := [.lit (.bool false)], args := [d] }
  | _ => none }
def FnExactGraphOkWrongFalsely : Prop := fnExactGraphOkRow.holds Try.pinned (OpenSpec.ofChange fnExactGraphOkWrong)

/- THE SECOND FORM. 'bulk': how many values and letters a reading holds, each counted each time it is reached (what is shared counts as often as it is met; a slice's spare places count too). A statement '..UptoSaid' is the law's where the arguments, and the package variables that the reading takes, are together of bulk at most 1048576: NARROWER than '..Said'. Prove '..Said' where nothing that the law and all that it calls make is longer than what came in: it says more and counts as full. Else prove '..UptoSaid'. A law counts once. -/
mutual
def uptoBulk {H : Type} : DataW H → Nat
  | .lit (.string bytes) => bytes.length + 1
  | .lit _ => 1
  | .nil => 1
  | .ptr d => uptoBulk d + 1
  | .slice elems spare => uptoBulkAll elems + uptoBulkAll spare + 1
  | .agg parts => uptoBulkAll parts + 1
  | .iface _ d => uptoBulk d + 1
  | .map entries => uptoBulkEntries entries + 1
  | .held _ => 1
def uptoBulkAll {H : Type} : List (DataW H) → Nat
  | [] => 0
  | d :: r => uptoBulk d + uptoBulkAll r
def uptoBulkEntries {H : Type} : List (Lit × DataW H) → Nat
  | [] => 0
  | x :: r => uptoBulkEntry x + uptoBulkEntries r
def uptoBulkEntry {H : Type} : Lit × DataW H → Nat
  | (.string bytes, d) => bytes.length + uptoBulk d + 1
  | (_, d) => uptoBulk d + 1
 end
def uptoSmall : (H : Type) → List (DataW H) → Bool := fun _ ds => decide (uptoBulkAll ds ≤ 1048576)
def OpenSpec.upto (s : _root_.Go.ChangeSpec) : _root_.Go.OpenSpec := { _root_.Go.OpenSpec.ofChange s with cond := some uptoSmall }

/-- 'laws.FnExactKeyMask', WHERE WHAT IT READS IS OF BULK AT MOST 1048576: true; the input reads as it did. -/
def fnExactKeyMaskUptoRow : OpenClaim := { program := "ytdhhdphpfleikaa", sum := "09becffec3957e835285c0ce897150d430fb8281e4ac53bb8d40a58e2506cced", func := "loop.example/g00066/laws.FnExactKeyMask", spec := "fnExactKeyMask", apart := false, narrowed := true }
def FnExactKeyMaskUptoSaid : Prop := fnExactKeyMaskUptoRow.holds Try.pinned (OpenSpec.upto fnExactKeyMaskSpec)

/-- 'laws.FnKeyed', WHERE WHAT IT READS IS OF BULK AT MOST 1048576: true; the input reads as it did. -/
def fnKeyedUptoRow : OpenClaim := { program := "ytdhhdphpfleikaa", sum := "09becffec3957e835285c0ce897150d430fb8281e4ac53bb8d40a58e2506cced", func := "loop.example/g00066/laws.FnKeyed", spec := "fnKeyed", apart := false, narrowed := true }
def FnKeyedUptoSaid : Prop := fnKeyedUptoRow.holds Try.pinned (OpenSpec.upto fnKeyedSpec)

/-- 'laws.FnExactMatrix', WHERE WHAT IT READS IS OF BULK AT MOST 1048576: true; the input reads as it did. -/
def fnExactMatrixUptoRow : OpenClaim := { program := "ytdhhdphpfleikaa", sum := "09becffec3957e835285c0ce897150d430fb8281e4ac53bb8d40a58e2506cced", func := "loop.example/g00066/laws.FnExactMatrix", spec := "fnExactMatrix", unfollowed := true, recurses := true, apart := false, narrowed := true }
def FnExactMatrixUptoSaid : Prop := fnExactMatrixUptoRow.holds Try.pinned (OpenSpec.upto fnExactMatrixSpec)

/-- 'laws.FnExactScope', WHERE WHAT IT READS IS OF BULK AT MOST 1048576: true; the input reads as it did. -/
def fnExactScopeUptoRow : OpenClaim := { program := "ytdhhdphpfleikaa", sum := "09becffec3957e835285c0ce897150d430fb8281e4ac53bb8d40a58e2506cced", func := "loop.example/g00066/laws.FnExactScope", spec := "fnExactScope", unfollowed := true, recurses := true, apart := false, narrowed := true }
def FnExactScopeUptoSaid : Prop := fnExactScopeUptoRow.holds Try.pinned (OpenSpec.upto fnExactScopeSpec)

/-- 'laws.FnScope', WHERE WHAT IT READS IS OF BULK AT MOST 1048576: true; the input reads as it did. -/
def fnScopeUptoRow : OpenClaim := { program := "ytdhhdphpfleikaa", sum := "09becffec3957e835285c0ce897150d430fb8281e4ac53bb8d40a58e2506cced", func := "loop.example/g00066/laws.FnScope", spec := "fnScope", unfollowed := true, recurses := true, apart := false, narrowed := true }
def FnScopeUptoSaid : Prop := fnScopeUptoRow.holds Try.pinned (OpenSpec.upto fnScopeSpec)

/-- 'laws.FnExactGraphOk', WHERE WHAT IT READS IS OF BULK AT MOST 1048576: true; the input reads as it did. -/
def fnExactGraphOkUptoRow : OpenClaim := { program := "ytdhhdphpfleikaa", sum := "09becffec3957e835285c0ce897150d430fb8281e4ac53bb8d40a58e2506cced", func := "loop.example/g00066/laws.FnExactGraphOk", spec := "fnExactGraphOk", inPlace := ["math.Float64bits"], unfollowed := true, recurses := true, apart := false, narrowed := true }
def FnExactGraphOkUptoSaid : Prop := fnExactGraphOkUptoRow.holds Try.pinned (OpenSpec.upto fnExactGraphOkSpec)

end Rows
end Go.Proofs.Ytdhhdphpfleikaa
