/-
  No cell of these rows narrows 'for every input' (looked for: loops, veiled, ifaces, maps, wideKeys, modest, calm, conditions, laid).
  DERIVED. THE GIVEN ROWS OF THIS SEAT. 6 by the template 'for every input the law returns true; each argument reads behind the call as it read before'; 0 by the template 'total and deterministic' (their statements: YthlpllmdfhbmiaaTotals.lean).
  GIVEN WITH THE SEED: the statements are not yours to turn. If you find one false, say at which input.
  Laid BY PROGRAM, IN A SANDBOX (cutbox-rows.mjs): the forced cells as the released guide's own fill.sh prints them over the translation 570734a9467a41e6… (all of the seat's roots in one cut). By AI agents, Wed Nov 11 2026. No macro, syntax, notation, axiom, sorry.
-/
import Derived.Test.YthlpllmdfhbmiaaChecked
import GoSem.Claim
import GoSem.ClaimJoined
import GoSem.ClaimMapViews
import Derived.JoinedTies
import Derived.KernelRfl
namespace Go.Proofs.Ythlpllmdfhbmiaa
/- THE CELL 'sum', in the pinned program and in every row, IS THE sha256 OF THE DUMP (.gsa) THAT YthlpllmdfhbmiaaProg.lean LOADS. Nothing in Lean hashes anything: it is a label: what it is worth is what the hold of that sum in a sandbox is worth. -/
noncomputable def Try.pinned : Pinned := { name := "ythlpllmdfhbmiaa", sum := "570734a9467a41e6c63af0da410b5cf95d9120fd28b48f99fbc1d81f2b1e907c", checked := Try.checked }
namespace Rows
def none {H : Type} : Left H := { results := [], args := [] }

/-- 'laws.FnExactTrackOk': WHATEVER THE INPUT: true; the input reads as it did. -/
def fnExactTrackOkSpec : ChangeSpec := { name := "fnExactTrackOk", fn := fun _ => fun
  | [d] => { results := [.lit (.bool true)], args := [d] }
  | _ => none }
def fnExactTrackOkRow : OpenClaim := { program := "ythlpllmdfhbmiaa", sum := "570734a9467a41e6c63af0da410b5cf95d9120fd28b48f99fbc1d81f2b1e907c", func := "loop.example/g00066/laws.FnExactTrackOk", spec := "fnExactTrackOk", unfollowed := true, recurses := true, apart := false }
def FnExactTrackOkSaid : Prop := fnExactTrackOkRow.holds Try.pinned (OpenSpec.ofChange fnExactTrackOkSpec)

/-- ITS FALSE NEIGHBOUR: 'it returns false'. Refute it at one input. -/
def fnExactTrackOkWrong : ChangeSpec := { name := "fnExactTrackOk", fn := fun _ => fun
  | [d] => { results := [.lit (.bool false)], args := [d] }
  | _ => none }
def FnExactTrackOkWrongFalsely : Prop := fnExactTrackOkRow.holds Try.pinned (OpenSpec.ofChange fnExactTrackOkWrong)

/-- 'laws.FnExactLength': WHATEVER THE INPUT: true; the input reads as it did. -/
def fnExactLengthSpec : ChangeSpec := { name := "fnExactLength", fn := fun _ => fun
  | [d] => { results := [.lit (.bool true)], args := [d] }
  | _ => none }
def fnExactLengthRow : OpenClaim := { program := "ythlpllmdfhbmiaa", sum := "570734a9467a41e6c63af0da410b5cf95d9120fd28b48f99fbc1d81f2b1e907c", func := "loop.example/g00066/laws.FnExactLength", spec := "fnExactLength", unfollowed := true, recurses := true, apart := false }
def FnExactLengthSaid : Prop := fnExactLengthRow.holds Try.pinned (OpenSpec.ofChange fnExactLengthSpec)

/-- ITS FALSE NEIGHBOUR: 'it returns false'. Refute it at one input. -/
def fnExactLengthWrong : ChangeSpec := { name := "fnExactLength", fn := fun _ => fun
  | [d] => { results := [.lit (.bool false)], args := [d] }
  | _ => none }
def FnExactLengthWrongFalsely : Prop := fnExactLengthRow.holds Try.pinned (OpenSpec.ofChange fnExactLengthWrong)

/-- 'laws.FnExactFrameAt': WHATEVER THE INPUT: true; the input reads as it did. -/
def fnExactFrameAtSpec : ChangeSpec := { name := "fnExactFrameAt", fn := fun _ => fun
  | [d1, d2] => { results := [.lit (.bool true)], args := [d1, d2] }
  | _ => none }
def fnExactFrameAtRow : OpenClaim := { program := "ythlpllmdfhbmiaa", sum := "570734a9467a41e6c63af0da410b5cf95d9120fd28b48f99fbc1d81f2b1e907c", func := "loop.example/g00066/laws.FnExactFrameAt", spec := "fnExactFrameAt", unfollowed := true, recurses := true, apart := false }
def FnExactFrameAtSaid : Prop := fnExactFrameAtRow.holds Try.pinned (OpenSpec.ofChange fnExactFrameAtSpec)

/-- ITS FALSE NEIGHBOUR: 'it returns false'. Refute it at one input. -/
def fnExactFrameAtWrong : ChangeSpec := { name := "fnExactFrameAt", fn := fun _ => fun
  | [d1, d2] => { results := [.lit (.bool false)], args := [d1, d2] }
  | _ => none }
def FnExactFrameAtWrongFalsely : Prop := fnExactFrameAtRow.holds Try.pinned (OpenSpec.ofChange fnExactFrameAtWrong)

/-- 'laws.FnExactJoined': WHATEVER THE INPUT: true; the input reads as it did. -/
def fnExactJoinedSpec : ChangeSpec := { name := "fnExactJoined", fn := fun _ => fun
  | [d] => { results := [.lit (.bool true)], args := [d] }
  | _ => none }
def fnExactJoinedRow : OpenClaim := { program := "ythlpllmdfhbmiaa", sum := "570734a9467a41e6c63af0da410b5cf95d9120fd28b48f99fbc1d81f2b1e907c", func := "loop.example/g00066/laws.FnExactJoined", spec := "fnExactJoined", unfollowed := true, recurses := true, apart := false }
def FnExactJoinedSaid : Prop := fnExactJoinedRow.holds Try.pinned (OpenSpec.ofChange fnExactJoinedSpec)

/-- ITS FALSE NEIGHBOUR: 'it returns false'. Refute it at one input. -/
def fnExactJoinedWrong : ChangeSpec := { name := "fnExactJoined", fn := fun _ => fun
  | [d] => { results := [.lit (.bool false)], args := [d] }
  | _ => none }
def FnExactJoinedWrongFalsely : Prop := fnExactJoinedRow.holds Try.pinned (OpenSpec.ofChange fnExactJoinedWrong)

/-- 'laws.FnJoined': WHATEVER THE INPUT: true; the input reads as it did. -/
def fnJoinedSpec : ChangeSpec := { name := "fnJoined", fn := fun _ => fun
  | [d] => { results := [.lit (.bool true)], args := [d] }
  | _ => none }
def fnJoinedRow : OpenClaim := { program := "ythlpllmdfhbmiaa", sum := "570734a9467a41e6c63af0da410b5cf95d9120fd28b48f99fbc1d81f2b1e907c", func := "loop.example/g00066/laws.FnJoined", spec := "fnJoined", unfollowed := true, recurses := true, apart := false }
def FnJoinedSaid : Prop := fnJoinedRow.holds Try.pinned (OpenSpec.ofChange fnJoinedSpec)

/-- ITS FALSE NEIGHBOUR: 'it returns false'. Refute it at one input. -/
def fnJoinedWrong : ChangeSpec := { name := "fnJoined", fn := fun _ => fun
  | [d] => { results := [.lit (.bool false)], args := [d] }
  | _ => none }
def FnJoinedWrongFalsely : Prop := fnJoinedRow.holds Try.pinned (OpenSpec.ofChange fnJoinedWrong)

/-- 'laws.FnExactShift': WHATEVER THE INPUT: true; the input reads as it did. -/
def fnExactShiftSpec : ChangeSpec := { name := "fnExactShift", fn := fun _ => fun
  | [d1, d2] => { results := [.lit (.bool true)], args := [d1, d2] }
  | _ => none }
def fnExactShiftRow : OpenClaim := { program := "ythlpllmdfhbmiaa", sum := "570734a9467a41e6c63af0da410b5cf95d9120fd28b48f99fbc1d81f2b1e907c", func := "loop.example/g00066/laws.FnExactShift", spec := "fnExactShift", unfollowed := true, recurses := true, apart := false }
def FnExactShiftSaid : Prop := fnExactShiftRow.holds Try.pinned (OpenSpec.ofChange fnExactShiftSpec)

/-- ITS FALSE NEIGHBOUR: 'it returns false'. Refute it at one input. -/
def fnExactShiftWrong : ChangeSpec := { name := "fnExactShift", fn := fun _ => fun
  | [d1, d2] => { results := [.lit (.bool false)], args := [d1, d2] }
  | _ => none }
def FnExactShiftWrongFalsely : Prop := fnExactShiftRow.holds Try.pinned (OpenSpec.ofChange fnExactShiftWrong)

/- THE SECOND FORM. 'bulk': how many values and letters a reading holds, each counted each time it is reached (what is shared counts as often as it is met; a slice's spare places count too). A statement '..UptoSaid' is the law's where the arguments, and the package variables that the reading takes, are together of bulk at most 1048576: NARROWER than '..Said'. Prove '..Said' where nothing that the law and all that it calls make is longer than what came in: it says more and counts as full. Else prove '..UptoSaid'. A law counts once. -/
mutual
def uptoBulk {H : Type} : DataW H → Nat
  | .lit (.string bytes) => bytes.length + 1
  | .lit _ => 1
  | .nil => 1
  | .ptr d => uptoBulk d + 1
  | .slice elems spare => uptoBulkAll elems + uptoBulkAll spare + 1
  | .agg parts => uptoBulkAll parts + 1
  | .iface _ d => uptoBulk d + 1
  | .map entries => uptoBulkEntries entries + 1
  | .held _ => 1
def uptoBulkAll {H : Type} : List (DataW H) → Nat
  | [] => 0
  | d :: r => uptoBulk d + uptoBulkAll r
def uptoBulkEntries {H : Type} : List (Lit × DataW H) → Nat
  | [] => 0
  | x :: r => uptoBulkEntry x + uptoBulkEntries r
def uptoBulkEntry {H : Type} : Lit × DataW H → Nat
  | (.string bytes, d) => bytes.length + uptoBulk d + 1
  | (_, d) => uptoBulk d + 1
 end
def uptoSmall : (H : Type) → List (DataW H) → Bool := fun _ ds => decide (uptoBulkAll ds ≤ 1048576)
def OpenSpec.upto (s : _root_.Go.ChangeSpec) : _root_.Go.OpenSpec := { _root_.Go.OpenSpec.ofChange s with cond := some uptoSmall }

/-- 'laws.FnExactTrackOk', WHERE WHAT IT READS IS OF BULK AT MOST 1048576: true; the input reads as it did. -/
def fnExactTrackOkUptoRow : OpenClaim := { program := "ythlpllmdfhbmiaa", sum := "570734a9467a41e6c63af0da410b5cf95d9120fd28b48f99fbc1d81f2b1e907c", func := "loop.example/g00066/laws.FnExactTrackOk", spec := "fnExactTrackOk", unfollowed := true, recurses := true, apart := false, narrowed := true }
def FnExactTrackOkUptoSaid : Prop := fnExactTrackOkUptoRow.holds Try.pinned (OpenSpec.upto fnExactTrackOkSpec)

/-- 'laws.FnExactLength', WHERE WHAT IT READS IS OF BULK AT MOST 1048576: true; the input reads as it did. -/
def fnExactLengthUptoRow : OpenClaim := { program := "ythlpllmdfhbmiaa", sum := "570734a9467a41e6c63af0da410b5cf95d9120fd28b48f99fbc1d81f2b1e907c", func := "loop.example/g00066/laws.FnExactLength", spec := "fnExactLength", unfollowed := true, recurses := true, apart := false, narrowed := true }
def FnExactLengthUptoSaid : Prop := fnExactLengthUptoRow.holds Try.pinned (OpenSpec.upto fnExactLengthSpec)

/-- 'laws.FnExactFrameAt', WHERE WHAT IT READS IS OF BULK AT MOST 1048576: true; the input reads as it did. -/
def fnExactFrameAtUptoRow : OpenClaim := { program := "ythlpllmdfhbmiaa", sum := "570734a9467a41e6c63af0da410b5cf95d9120fd28b48f99fbc1d81f2b1e907c", func := "loop.example/g00066/laws.FnExactFrameAt", spec := "fnExactFrameAt", unfollowed := true, recurses := true, apart := false, narrowed := true }
def FnExactFrameAtUptoSaid : Prop := fnExactFrameAtUptoRow.holds Try.pinned (OpenSpec.upto fnExactFrameAtSpec)

/-- 'laws.FnExactJoined', WHERE WHAT IT READS IS OF BULK AT MOST 1048576: true; the input reads as it did. -/
def fnExactJoinedUptoRow : OpenClaim := { program := "ythlpllmdfhbmiaa", sum := "570734a9467a41e6c63af0da410b5cf95d9120fd28b48f99fbc1d81f2b1e907c", func := "loop.example/g00066/laws.FnExactJoined", spec := "fnExactJoined", unfollowed := true, recurses := true, apart := false, narrowed := true }
def FnExactJoinedUptoSaid : Prop := fnExactJoinedUptoRow.holds Try.pinned (OpenSpec.upto fnExactJoinedSpec)

/-- 'laws.FnJoined', WHERE WHAT IT READS IS OF BULK AT MOST 1048576: true; the input reads as it did. -/
def fnJoinedUptoRow : OpenClaim := { program := "ythlpllmdfhbmiaa", sum := "570734a9467a41e6c63af0da410b5cf95d9120fd28b48f99fbc1d81f2b1e907c", func := "loop.example/g00066/laws.FnJoined", spec := "fnJoined", unfollowed := true, recurses := true, apart := false, narrowed := true }
def FnJoinedUptoSaid : Prop := fnJoinedUptoRow.holds Try.pinned (OpenSpec.upto fnJoinedSpec)

/-- 'laws.FnExactShift', WHERE WHAT IT READS IS OF BULK AT MOST 1048576: true; the input reads as it did. -/
def fnExactShiftUptoRow : OpenClaim := { program := "ythlpllmdfhbmiaa", sum := "570734a9467a41e6c63af0da410b5cf95d9120fd28b48f99fbc1d81f2b1e907c", func := "loop.example/g00066/laws.FnExactShift", spec := "fnExactShift", unfollowed := true, recurses := true, apart := false, narrowed := true }
def FnExactShiftUptoSaid : Prop := fnExactShiftUptoRow.holds Try.pinned (OpenSpec.upto fnExactShiftSpec)

end Rows
end Go.Proofs.Ythlpllmdfhbmiaa
