/-
  No cell of these rows narrows 'for every input' (looked for: loops, veiled, ifaces, maps, wideKeys, modest, calm, conditions, laid).
  DERIVED. THE GIVEN ROWS OF THIS SEAT. 10 by the template 'for every input the law returns true; each argument reads behind the call as it read before'; 0 by the template 'total and deterministic' (their statements: YtofiabjphjpglaaTotals.lean).
  GIVEN WITH THE SEED: the statements are not yours to turn. If you find one false, say at which input.
  Laid BY PROGRAM, IN A SANDBOX (cutbox-rows.mjs): the forced cells as the released guide's own fill.sh prints them over the translation 0c0a13f0788461e8… (all of the seat's roots in one cut). By AI agents, Wed Nov 11 2026. No macro, syntax, notation, axiom, sorry.
-/
import Derived.Test.YtofiabjphjpglaaChecked
import GoSem.Claim
import GoSem.ClaimJoined
import GoSem.ClaimMapViews
import Derived.JoinedTies
import Derived.KernelRfl
namespace Go.Proofs.Ytofiabjphjpglaa
/- THE CELL 'sum', in the pinned program and in every row, IS THE sha256 OF THE DUMP (.gsa) THAT YtofiabjphjpglaaProg.lean LOADS. Nothing in Lean hashes anything: it is a label: what it is worth is what the hold of that sum in a sandbox is worth. -/
noncomputable def Try.pinned : Pinned := { name := "ytofiabjphjpglaa", sum := "0c0a13f0788461e8a52e76baf5800ad2ab9e55ddf1c50a01cf49c7a054cc827c", checked := Try.checked }
namespace Rows
def none {H : Type} : Left H := { results := [], args := [] }

/-- 'laws.FnExactPan': WHATEVER THE INPUT: true; the input reads as it did. -/
def fnExactPanSpec : ChangeSpec := { name := "fnExactPan", fn := fun _ => fun
  | [d1, d2] => { results := [.lit (.bool true)], args := [d1, d2] }
  | _ => none }
def fnExactPanRow : OpenClaim := { program := "ytofiabjphjpglaa", sum := "0c0a13f0788461e8a52e76baf5800ad2ab9e55ddf1c50a01cf49c7a054cc827c", func := "loop.example/g00066/laws.FnExactPan", spec := "fnExactPan", apart := false }
def FnExactPanSaid : Prop := fnExactPanRow.holds Try.pinned (OpenSpec.ofChange fnExactPanSpec)

/-- ITS FALSE NEIGHBOUR: 'it returns false'. Refute it at one input. -/
def fnExactPanWrong : ChangeSpec := { name := "fnExactPan", fn := fun _ => fun
  | [d1, d2] => { results := [.lit (.bool false)], args := [d1, d2] }
  | _ => none }
def FnExactPanWrongFalsely : Prop := fnExactPanRow.holds Try.pinned (OpenSpec.ofChange fnExactPanWrong)

/-- 'laws.FnExactConvolve': WHATEVER THE INPUT: true; the input reads as it did. -/
def fnExactConvolveSpec : ChangeSpec := { name := "fnExactConvolve", fn := fun _ => fun
  | [d1, d2] => { results := [.lit (.bool true)], args := [d1, d2] }
  | _ => none }
def fnExactConvolveRow : OpenClaim := { program := "ytofiabjphjpglaa", sum := "0c0a13f0788461e8a52e76baf5800ad2ab9e55ddf1c50a01cf49c7a054cc827c", func := "loop.example/g00066/laws.FnExactConvolve", spec := "fnExactConvolve", apart := false }
def FnExactConvolveSaid : Prop := fnExactConvolveRow.holds Try.pinned (OpenSpec.ofChange fnExactConvolveSpec)

/-- ITS FALSE NEIGHBOUR: 'it returns false'. Refute it at one input. -/
def fnExactConvolveWrong : ChangeSpec := { name := "fnExactConvolve", fn := fun _ => fun
  | [d1, d2] => { results := [.lit (.bool false)], args := [d1, d2] }
  | _ => none }
def FnExactConvolveWrongFalsely : Prop := fnExactConvolveRow.holds Try.pinned (OpenSpec.ofChange fnExactConvolveWrong)

/-- 'laws.FnExactSquares': WHATEVER THE INPUT: true; the input reads as it did. -/
def fnExactSquaresSpec : ChangeSpec := { name := "fnExactSquares", fn := fun _ => fun
  | [d1, d2] => { results := [.lit (.bool true)], args := [d1, d2] }
  | _ => none }
def fnExactSquaresRow : OpenClaim := { program := "ytofiabjphjpglaa", sum := "0c0a13f0788461e8a52e76baf5800ad2ab9e55ddf1c50a01cf49c7a054cc827c", func := "loop.example/g00066/laws.FnExactSquares", spec := "fnExactSquares", apart := false }
def FnExactSquaresSaid : Prop := fnExactSquaresRow.holds Try.pinned (OpenSpec.ofChange fnExactSquaresSpec)

/-- ITS FALSE NEIGHBOUR: 'it returns false'. Refute it at one input. -/
def fnExactSquaresWrong : ChangeSpec := { name := "fnExactSquares", fn := fun _ => fun
  | [d1, d2] => { results := [.lit (.bool false)], args := [d1, d2] }
  | _ => none }
def FnExactSquaresWrongFalsely : Prop := fnExactSquaresRow.holds Try.pinned (OpenSpec.ofChange fnExactSquaresWrong)

/-- 'laws.FnExactFader': WHATEVER THE INPUT: true; the input reads as it did. -/
def fnExactFaderSpec : ChangeSpec := { name := "fnExactFader", fn := fun _ => fun
  | [d1, d2, d3] => { results := [.lit (.bool true)], args := [d1, d2, d3] }
  | _ => none }
def fnExactFaderRow : OpenClaim := { program := "ytofiabjphjpglaa", sum := "0c0a13f0788461e8a52e76baf5800ad2ab9e55ddf1c50a01cf49c7a054cc827c", func := "loop.example/g00066/laws.FnExactFader", spec := "fnExactFader", apart := false }
def FnExactFaderSaid : Prop := fnExactFaderRow.holds Try.pinned (OpenSpec.ofChange fnExactFaderSpec)

/-- ITS FALSE NEIGHBOUR: 'it returns false'. Refute it at one input. -/
def fnExactFaderWrong : ChangeSpec := { name := "fnExactFader", fn := fun _ => fun
  | [d1, d2, d3] => { results := [.lit (.bool false)], args := [d1, d2, d3] }
  | _ => none }
def FnExactFaderWrongFalsely : Prop := fnExactFaderRow.holds Try.pinned (OpenSpec.ofChange fnExactFaderWrong)

/-- 'laws.FnExactMix': WHATEVER THE INPUT: true; the input reads as it did. -/
def fnExactMixSpec : ChangeSpec := { name := "fnExactMix", fn := fun _ => fun
  | [d1, d2, d3, d4] => { results := [.lit (.bool true)], args := [d1, d2, d3, d4] }
  | _ => none }
def fnExactMixRow : OpenClaim := { program := "ytofiabjphjpglaa", sum := "0c0a13f0788461e8a52e76baf5800ad2ab9e55ddf1c50a01cf49c7a054cc827c", func := "loop.example/g00066/laws.FnExactMix", spec := "fnExactMix", apart := false }
def FnExactMixSaid : Prop := fnExactMixRow.holds Try.pinned (OpenSpec.ofChange fnExactMixSpec)

/-- ITS FALSE NEIGHBOUR: 'it returns false'. Refute it at one input. -/
def fnExactMixWrong : ChangeSpec := { name := "fnExactMix", fn := fun _ => fun
  | [d1, d2, d3, d4] => { results := [.lit (.bool false)], args := [d1, d2, d3, d4] }
  | _ => none }
def FnExactMixWrongFalsely : Prop := fnExactMixRow.holds Try.pinned (OpenSpec.ofChange fnExactMixWrong)

/-- 'laws.FnExactLoud': WHATEVER THE INPUT: true; the input reads as it did. -/
def fnExactLoudSpec : ChangeSpec := { name := "fnExactLoud", fn := fun _ => fun
  | [d1, d2, d3] => { results := [.lit (.bool true)], args := [d1, d2, d3] }
  | _ => none }
def fnExactLoudRow : OpenClaim := { program := "ytofiabjphjpglaa", sum := "0c0a13f0788461e8a52e76baf5800ad2ab9e55ddf1c50a01cf49c7a054cc827c", func := "loop.example/g00066/laws.FnExactLoud", spec := "fnExactLoud", apart := false }
def FnExactLoudSaid : Prop := fnExactLoudRow.holds Try.pinned (OpenSpec.ofChange fnExactLoudSpec)

/-- ITS FALSE NEIGHBOUR: 'it returns false'. Refute it at one input. -/
def fnExactLoudWrong : ChangeSpec := { name := "fnExactLoud", fn := fun _ => fun
  | [d1, d2, d3] => { results := [.lit (.bool false)], args := [d1, d2, d3] }
  | _ => none }
def FnExactLoudWrongFalsely : Prop := fnExactLoudRow.holds Try.pinned (OpenSpec.ofChange fnExactLoudWrong)

/-- 'laws.FnPans': WHATEVER THE INPUT: true; the input reads as it did. -/
def fnPansSpec : ChangeSpec := { name := "fnPans", fn := fun _ => fun
  | [d] => { results := [.lit (.bool true)], args := [d] }
  | _ => none }
def fnPansRow : OpenClaim := { program := "ytofiabjphjpglaa", sum := "0c0a13f0788461e8a52e76baf5800ad2ab9e55ddf1c50a01cf49c7a054cc827c", func := "loop.example/g00066/laws.FnPans", spec := "fnPans", apart := false }
def FnPansSaid : Prop := fnPansRow.holds Try.pinned (OpenSpec.ofChange fnPansSpec)

/-- ITS FALSE NEIGHBOUR: 'it returns false'. Refute it at one input. -/
def fnPansWrong : ChangeSpec := { name := "fnPans", fn := fun _ => fun
  | [d] => { results := [.lit (.bool false)], args := [d] }
  | _ => none }
def FnPansWrongFalsely : Prop := fnPansRow.holds Try.pinned (OpenSpec.ofChange fnPansWrong)

/-- 'laws.FnConvolved': WHATEVER THE INPUT: true; the input reads as it did. -/
def fnConvolvedSpec : ChangeSpec := { name := "fnConvolved", fn := fun _ => fun
  | [d] => { results := [.lit (.bool true)], args := [d] }
  | _ => none }
def fnConvolvedRow : OpenClaim := { program := "ytofiabjphjpglaa", sum := "0c0a13f0788461e8a52e76baf5800ad2ab9e55ddf1c50a01cf49c7a054cc827c", func := "loop.example/g00066/laws.FnConvolved", spec := "fnConvolved", apart := false }
def FnConvolvedSaid : Prop := fnConvolvedRow.holds Try.pinned (OpenSpec.ofChange fnConvolvedSpec)

/-- ITS FALSE NEIGHBOUR: 'it returns false'. Refute it at one input. -/
def fnConvolvedWrong : ChangeSpec := { name := "fnConvolved", fn := fun _ => fun
  | [d] => { results := [.lit (.bool false)], args := [d] }
  | _ => none }
def FnConvolvedWrongFalsely : Prop := fnConvolvedRow.holds Try.pinned (OpenSpec.ofChange fnConvolvedWrong)

/-- 'laws.FnMixed': WHATEVER THE INPUT: true; the input reads as it did. -/
def fnMixedSpec : ChangeSpec := { name := "fnMixed", fn := fun _ => fun
  | [d] => { results := [.lit (.bool true)], args := [d] }
  | _ => none }
def fnMixedRow : OpenClaim := { program := "ytofiabjphjpglaa", sum := "0c0a13f0788461e8a52e76baf5800ad2ab9e55ddf1c50a01cf49c7a054cc827c", func := "loop.example/g00066/laws.FnMixed", spec := "fnMixed", apart := false }
def FnMixedSaid : Prop := fnMixedRow.holds Try.pinned (OpenSpec.ofChange fnMixedSpec)

/-- ITS FALSE NEIGHBOUR: 'it returns false'. Refute it at one input. -/
def fnMixedWrong : ChangeSpec := { name := "fnMixed", fn := fun _ => fun
  | [d] => { results := [.lit (.bool false)], args := [d] }
  | _ => none }
def FnMixedWrongFalsely : Prop := fnMixedRow.holds Try.pinned (OpenSpec.ofChange fnMixedWrong)

/-- 'laws.FnLoud': WHATEVER THE INPUT: true; the input reads as it did. -/
def fnLoudSpec : ChangeSpec := { name := "fnLoud", fn := fun _ => fun
  | [d] => { results := [.lit (.bool true)], args := [d] }
  | _ => none }
def fnLoudRow : OpenClaim := { program := "ytofiabjphjpglaa", sum := "0c0a13f0788461e8a52e76baf5800ad2ab9e55ddf1c50a01cf49c7a054cc827c", func := "loop.example/g00066/laws.FnLoud", spec := "fnLoud", apart := false }
def FnLoudSaid : Prop := fnLoudRow.holds Try.pinned (OpenSpec.ofChange fnLoudSpec)

/-- ITS FALSE NEIGHBOUR: 'it returns false'. Refute it at one input. -/
def fnLoudWrong : ChangeSpec := { name := "fnLoud", fn := fun _ => fun
  | [d] => { results := [.lit (.bool false)], args := [d] }
  | _ => none }
def FnLoudWrongFalsely : Prop := fnLoudRow.holds Try.pinned (OpenSpec.ofChange fnLoudWrong)

/- THE SECOND FORM. 'bulk': how many values and letters a reading holds, each counted each time it is reached (what is shared counts as often as it is met; a slice's spare places count too). A statement '..UptoSaid' is the law's where the arguments, and the package variables that the reading takes, are together of bulk at most 1048576: NARROWER than '..Said'. Prove '..Said' where nothing that the law and all that it calls make is longer than what came in: it says more and counts as full. Else prove '..UptoSaid'. A law counts once. -/
mutual
def uptoBulk {H : Type} : DataW H → Nat
  | .lit (.string bytes) => bytes.length + 1
  | .lit _ => 1
  | .nil => 1
  | .ptr d => uptoBulk d + 1
  | .slice elems spare => uptoBulkAll elems + uptoBulkAll spare + 1
  | .agg parts => uptoBulkAll parts + 1
  | .iface _ d => uptoBulk d + 1
  | .map entries => uptoBulkEntries entries + 1
  | .held _ => 1
def uptoBulkAll {H : Type} : List (DataW H) → Nat
  | [] => 0
  | d :: r => uptoBulk d + uptoBulkAll r
def uptoBulkEntries {H : Type} : List (Lit × DataW H) → Nat
  | [] => 0
  | x :: r => uptoBulkEntry x + uptoBulkEntries r
def uptoBulkEntry {H : Type} : Lit × DataW H → Nat
  | (.string bytes, d) => bytes.length + uptoBulk d + 1
  | (_, d) => uptoBulk d + 1
 end
def uptoSmall : (H : Type) → List (DataW H) → Bool := fun _ ds => decide (uptoBulkAll ds ≤ 1048576)
def OpenSpec.upto (s : _root_.Go.ChangeSpec) : _root_.Go.OpenSpec := { _root_.Go.OpenSpec.ofChange s with cond := some uptoSmall }

/-- 'laws.FnExactPan', WHERE WHAT IT READS IS OF BULK AT MOST 1048576: true; the input reads as it did. -/
def fnExactPanUptoRow : OpenClaim := { program := "ytofiabjphjpglaa", sum := "0c0a13f0788461e8a52e76baf5800ad2ab9e55ddf1c50a01cf49c7a054cc827c", func := "loop.example/g00066/laws.FnExactPan", spec := "fnExactPan", apart := false, narrowed := true }
def FnExactPanUptoSaid : Prop := fnExactPanUptoRow.holds Try.pinned (OpenSpec.upto fnExactPanSpec)

/-- 'laws.FnExactConvolve', WHERE WHAT IT READS IS OF BULK AT MOST 1048576: true; the input reads as it did. -/
def fnExactConvolveUptoRow : OpenClaim := { program := "ytofiabjphjpglaa", sum := "0c0a13f0788461e8a52e76baf5800ad2ab9e55ddf1c50a01cf49c7a054cc827c", func := "loop.example/g00066/laws.FnExactConvolve", spec := "fnExactConvolve", apart := false, narrowed := true }
def FnExactConvolveUptoSaid : Prop := fnExactConvolveUptoRow.holds Try.pinned (OpenSpec.upto fnExactConvolveSpec)

/-- 'laws.FnExactSquares', WHERE WHAT IT READS IS OF BULK AT MOST 1048576: true; the input reads as it did. -/
def fnExactSquaresUptoRow : OpenClaim := { program := "ytofiabjphjpglaa", sum := "0c0a13f0788461e8a52e76baf5800ad2ab9e55ddf1c50a01cf49c7a054cc827c", func := "loop.example/g00066/laws.FnExactSquares", spec := "fnExactSquares", apart := false, narrowed := true }
def FnExactSquaresUptoSaid : Prop := fnExactSquaresUptoRow.holds Try.pinned (OpenSpec.upto fnExactSquaresSpec)

/-- 'laws.FnExactFader', WHERE WHAT IT READS IS OF BULK AT MOST 1048576: true; the input reads as it did. -/
def fnExactFaderUptoRow : OpenClaim := { program := "ytofiabjphjpglaa", sum := "0c0a13f0788461e8a52e76baf5800ad2ab9e55ddf1c50a01cf49c7a054cc827c", func := "loop.example/g00066/laws.FnExactFader", spec := "fnExactFader", apart := false, narrowed := true }
def FnExactFaderUptoSaid : Prop := fnExactFaderUptoRow.holds Try.pinned (OpenSpec.upto fnExactFaderSpec)

/-- 'laws.FnExactMix', WHERE WHAT IT READS IS OF BULK AT MOST 1048576: true; the input reads as it did. -/
def fnExactMixUptoRow : OpenClaim := { program := "ytofiabjphjpglaa", sum := "0c0a13f0788461e8a52e76baf5800ad2ab9e55ddf1c50a01cf49c7a054cc827c", func := "loop.example/g00066/laws.FnExactMix", spec := "fnExactMix", apart := false, narrowed := true }
def FnExactMixUptoSaid : Prop := fnExactMixUptoRow.holds Try.pinned (OpenSpec.upto fnExactMixSpec)

/-- 'laws.FnExactLoud', WHERE WHAT IT READS IS OF BULK AT MOST 1048576: true; the input reads as it did. -/
def fnExactLoudUptoRow : OpenClaim := { program := "ytofiabjphjpglaa", sum := "0c0a13f0788461e8a52e76baf5800ad2ab9e55ddf1c50a01cf49c7a054cc827c", func := "loop.example/g00066/laws.FnExactLoud", spec := "fnExactLoud", apart := false, narrowed := true }
def FnExactLoudUptoSaid : Prop := fnExactLoudUptoRow.holds Try.pinned (OpenSpec.upto fnExactLoudSpec)

/-- 'laws.FnPans', WHERE WHAT IT READS IS OF BULK AT MOST 1048576: true; the input reads as it did. -/
def fnPansUptoRow : OpenClaim := { program := "ytofiabjphjpglaa", sum := "0c0a13f0788461e8a52e76baf5800ad2ab9e55ddf1c50a01cf49c7a054cc827c", func := "loop.example/g00066/laws.FnPans", spec := "fnPans", apart := false, narrowed := true }
def FnPansUptoSaid : Prop := fnPansUptoRow.holds Try.pinned (OpenSpec.upto fnPansSpec)

/-- 'laws.FnConvolved', WHERE WHAT IT READS IS OF BULK AT MOST 1048576: true; the input reads as it did. -/
def fnConvolvedUptoRow : OpenClaim := { program := "ytofiabjphjpglaa", sum := "0c0a13f0788461e8a52e76baf5800ad2ab9e55ddf1c50a01cf49c7a054cc827c", func := "loop.example/g00066/laws.FnConvolved", spec := "fnConvolved", apart := false, narrowed := true }
def FnConvolvedUptoSaid : Prop := fnConvolvedUptoRow.holds Try.pinned (OpenSpec.upto fnConvolvedSpec)

/-- 'laws.FnMixed', WHERE WHAT IT READS IS OF BULK AT MOST 1048576: true; the input reads as it did. -/
def fnMixedUptoRow : OpenClaim := { program := "ytofiabjphjpglaa", sum := "0c0a13f0788461e8a52e76baf5800ad2ab9e55ddf1c50a01cf49c7a054cc827c", func := "loop.example/g00066/laws.FnMixed", spec := "fnMixed", apart := false, narrowed := true }
def FnMixedUptoSaid : Prop := fnMixedUptoRow.holds Try.pinned (OpenSpec.upto fnMixedSpec)

/-- 'laws.FnLoud', WHERE WHAT IT READS IS OF BULK AT MOST 1048576: true; the input reads as it did. -/
def fnLoudUptoRow : OpenClaim := { program := "ytofiabjphjpglaa", sum := "0c0a13f0788461e8a52e76baf5800ad2ab9e55ddf1c50a01cf49c7a054cc827c", func := "loop.example/g00066/laws.FnLoud", spec := "fnLoud", apart := false, narrowed := true }
def FnLoudUptoSaid : Prop := fnLoudUptoRow.holds Try.pinned (OpenSpec.upto fnLoudSpec)

end Rows
end Go.Proofs.Ytofiabjphjpglaa
