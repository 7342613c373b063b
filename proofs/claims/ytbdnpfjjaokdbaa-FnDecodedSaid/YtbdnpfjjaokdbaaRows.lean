/-
  No cell of these rows narrows 'for every input' (looked for: loops, veiled, ifaces, maps, wideKeys, modest, calm, conditions, laid).
  DERIVED. THE GIVEN ROWS OF THIS SEAT. 11 by the template 'for every input the law returns true; each argument reads behind the call as it read before'; 0 by the template 'total and deterministic' (their statements: YtbdnpfjjaokdbaaTotals.lean).
  GIVEN WITH THE SEED: the statements are not yours to turn. If you find one false, say at which input.
  Laid BY PROGRAM, IN A SANDBOX (cutbox-rows.mjs): the forced cells as the released guide's own fill.sh prints them over the translation 8d74e6c42a3d2b4b… (all of the seat's roots in one cut). By AI agents, Wed Nov 11 2026. No macro, syntax, notation, axiom, sorry.
-/
import Derived.Test.YtbdnpfjjaokdbaaChecked
import GoSem.Claim
import GoSem.ClaimJoined
import GoSem.ClaimMapViews
import Derived.JoinedTies
import Derived.KernelRfl
namespace Go.Proofs.Ytbdnpfjjaokdbaa
/- THE CELL 'sum', in the pinned program and in every row, IS THE sha256 OF THE DUMP (.gsa) THAT YtbdnpfjjaokdbaaProg.lean LOADS. Nothing in Lean hashes anything: it is a label: what it is worth is what the hold of that sum in a sandbox is worth. -/
noncomputable def Try.pinned : Pinned := { name := "ytbdnpfjjaokdbaa", sum := "8d74e6c42a3d2b4b8cfdc69bc7cde1a25a22df08e8070ab0affdfa03ef6e38a6", checked := Try.checked }
namespace Rows
def none {H : Type} : Left H := { results := [], args := [] }

/-- 'laws.FnExactPictureOk': WHATEVER THE INPUT: true; the input reads as it did. -/
def fnExactPictureOkSpec : ChangeSpec := { name := "fnExactPictureOk", fn := fun _ => fun
  | [d] => { results := [.lit (.bool true)], args := [d] }
  | _ => none }
def fnExactPictureOkRow : OpenClaim := { program := "ytbdnpfjjaokdbaa", sum := "8d74e6c42a3d2b4b8cfdc69bc7cde1a25a22df08e8070ab0affdfa03ef6e38a6", func := "loop.example/g00066/laws.FnExactPictureOk", spec := "fnExactPictureOk", unfollowed := true, recurses := true, apart := false }
def FnExactPictureOkSaid : Prop := fnExactPictureOkRow.holds Try.pinned (OpenSpec.ofChange fnExactPictureOkSpec)

/-- ITS FALSE NEIGHBOUR: 'it returns false'. Refute it at one input. -/
def fnExactPictureOkWrong : ChangeSpec := { name := "fnExactPictureOk", fn := fun _ => fun
  | [d] => { results := [.lit (.bool false)], args := [d] }
  | _ => none }
def FnExactPictureOkWrongFalsely : Prop := fnExactPictureOkRow.holds Try.pinned (OpenSpec.ofChange fnExactPictureOkWrong)

/-- 'laws.FnExactTurn': WHATEVER THE INPUT: true; the input reads as it did. -/
def fnExactTurnSpec : ChangeSpec := { name := "fnExactTurn", fn := fun _ => fun
  | [d] => { results := [.lit (.bool true)], args := [d] }
  | _ => none }
def fnExactTurnRow : OpenClaim := { program := "ytbdnpfjjaokdbaa", sum := "8d74e6c42a3d2b4b8cfdc69bc7cde1a25a22df08e8070ab0affdfa03ef6e38a6", func := "loop.example/g00066/laws.FnExactTurn", spec := "fnExactTurn", unfollowed := true, recurses := true, apart := false }
def FnExactTurnSaid : Prop := fnExactTurnRow.holds Try.pinned (OpenSpec.ofChange fnExactTurnSpec)

/-- ITS FALSE NEIGHBOUR: 'it returns false'. Refute it at one input. -/
def fnExactTurnWrong : ChangeSpec := { name := "fnExactTurn", fn := fun _ => fun
  | [d] => { results := [.lit (.bool false)], args := [d] }
  | _ => none }
def FnExactTurnWrongFalsely : Prop := fnExactTurnRow.holds Try.pinned (OpenSpec.ofChange fnExactTurnWrong)

/-- 'laws.FnExactBuffer': WHATEVER THE INPUT: true; the input reads as it did. -/
def fnExactBufferSpec : ChangeSpec := { name := "fnExactBuffer", fn := fun _ => fun
  | [d1, d2, d3] => { results := [.lit (.bool true)], args := [d1, d2, d3] }
  | _ => none }
def fnExactBufferRow : OpenClaim := { program := "ytbdnpfjjaokdbaa", sum := "8d74e6c42a3d2b4b8cfdc69bc7cde1a25a22df08e8070ab0affdfa03ef6e38a6", func := "loop.example/g00066/laws.FnExactBuffer", spec := "fnExactBuffer", unfollowed := true, recurses := true, apart := false }
def FnExactBufferSaid : Prop := fnExactBufferRow.holds Try.pinned (OpenSpec.ofChange fnExactBufferSpec)

/-- ITS FALSE NEIGHBOUR: 'it returns false'. Refute it at one input. -/
def fnExactBufferWrong : ChangeSpec := { name := "fnExactBuffer", fn := fun _ => fun
  | [d1, d2, d3] => { results := [.lit (.bool false)], args := [d1, d2, d3] }
  | _ => none }
def FnExactBufferWrongFalsely : Prop := fnExactBufferRow.holds Try.pinned (OpenSpec.ofChange fnExactBufferWrong)

/-- 'laws.FnTurned': WHATEVER THE INPUT: true; the input reads as it did. -/
def fnTurnedSpec : ChangeSpec := { name := "fnTurned", fn := fun _ => fun
  | [d] => { results := [.lit (.bool true)], args := [d] }
  | _ => none }
def fnTurnedRow : OpenClaim := { program := "ytbdnpfjjaokdbaa", sum := "8d74e6c42a3d2b4b8cfdc69bc7cde1a25a22df08e8070ab0affdfa03ef6e38a6", func := "loop.example/g00066/laws.FnTurned", spec := "fnTurned", unfollowed := true, recurses := true, apart := false }
def FnTurnedSaid : Prop := fnTurnedRow.holds Try.pinned (OpenSpec.ofChange fnTurnedSpec)

/-- ITS FALSE NEIGHBOUR: 'it returns false'. Refute it at one input. -/
def fnTurnedWrong : ChangeSpec := { name := "fnTurned", fn := fun _ => fun
  | [d] => { results := [.lit (.bool false)], args := [d] }
  | _ => none }
def FnTurnedWrongFalsely : Prop := fnTurnedRow.holds Try.pinned (OpenSpec.ofChange fnTurnedWrong)

/-- 'laws.FnBuffered': WHATEVER THE INPUT: true; the input reads as it did. -/
def fnBufferedSpec : ChangeSpec := { name := "fnBuffered", fn := fun _ => fun
  | [d] => { results := [.lit (.bool true)], args := [d] }
  | _ => none }
def fnBufferedRow : OpenClaim := { program := "ytbdnpfjjaokdbaa", sum := "8d74e6c42a3d2b4b8cfdc69bc7cde1a25a22df08e8070ab0affdfa03ef6e38a6", func := "loop.example/g00066/laws.FnBuffered", spec := "fnBuffered", unfollowed := true, recurses := true, apart := false }
def FnBufferedSaid : Prop := fnBufferedRow.holds Try.pinned (OpenSpec.ofChange fnBufferedSpec)

/-- ITS FALSE NEIGHBOUR: 'it returns false'. Refute it at one input. -/
def fnBufferedWrong : ChangeSpec := { name := "fnBuffered", fn := fun _ => fun
  | [d] => { results := [.lit (.bool false)], args := [d] }
  | _ => none }
def FnBufferedWrongFalsely : Prop := fnBufferedRow.holds Try.pinned (OpenSpec.ofChange fnBufferedWrong)

/-- 'laws.FnExactMotion': WHATEVER THE INPUT: true; the input reads as it did. -/
def fnExactMotionSpec : ChangeSpec := { name := "fnExactMotion", fn := fun _ => fun
  | [d1, d2, d3] => { results := [.lit (.bool true)], args := [d1, d2, d3] }
  | _ => none }
def fnExactMotionRow : OpenClaim := { program := "ytbdnpfjjaokdbaa", sum := "8d74e6c42a3d2b4b8cfdc69bc7cde1a25a22df08e8070ab0affdfa03ef6e38a6", func := "loop.example/g00066/laws.FnExactMotion", spec := "fnExactMotion", unfollowed := true, recurses := true, apart := false }
def FnExactMotionSaid : Prop := fnExactMotionRow.holds Try.pinned (OpenSpec.ofChange fnExactMotionSpec)

/-- ITS FALSE NEIGHBOUR: 'it returns false'. Refute it at one input. -/
def fnExactMotionWrong : ChangeSpec := { name := "fnExactMotion", fn := fun _ => fun
  | [d1, d2, d3] => { results := [.lit (.bool false)], args := [d1, d2, d3] }
  | _ => none }
def FnExactMotionWrongFalsely : Prop := fnExactMotionRow.holds Try.pinned (OpenSpec.ofChange fnExactMotionWrong)

/-- 'laws.FnMotion': WHATEVER THE INPUT: true; the input reads as it did. -/
def fnMotionSpec : ChangeSpec := { name := "fnMotion", fn := fun _ => fun
  | [d] => { results := [.lit (.bool true)], args := [d] }
  | _ => none }
def fnMotionRow : OpenClaim := { program := "ytbdnpfjjaokdbaa", sum := "8d74e6c42a3d2b4b8cfdc69bc7cde1a25a22df08e8070ab0affdfa03ef6e38a6", func := "loop.example/g00066/laws.FnMotion", spec := "fnMotion", unfollowed := true, recurses := true, apart := false }
def FnMotionSaid : Prop := fnMotionRow.holds Try.pinned (OpenSpec.ofChange fnMotionSpec)

/-- ITS FALSE NEIGHBOUR: 'it returns false'. Refute it at one input. -/
def fnMotionWrong : ChangeSpec := { name := "fnMotion", fn := fun _ => fun
  | [d] => { results := [.lit (.bool false)], args := [d] }
  | _ => none }
def FnMotionWrongFalsely : Prop := fnMotionRow.holds Try.pinned (OpenSpec.ofChange fnMotionWrong)

/-- 'laws.FnExactDecode': WHATEVER THE INPUT: true; the input reads as it did. -/
def fnExactDecodeSpec : ChangeSpec := { name := "fnExactDecode", fn := fun _ => fun
  | [d1, d2, d3] => { results := [.lit (.bool true)], args := [d1, d2, d3] }
  | _ => none }
def fnExactDecodeRow : OpenClaim := { program := "ytbdnpfjjaokdbaa", sum := "8d74e6c42a3d2b4b8cfdc69bc7cde1a25a22df08e8070ab0affdfa03ef6e38a6", func := "loop.example/g00066/laws.FnExactDecode", spec := "fnExactDecode", unfollowed := true, recurses := true, apart := false }
def FnExactDecodeSaid : Prop := fnExactDecodeRow.holds Try.pinned (OpenSpec.ofChange fnExactDecodeSpec)

/-- ITS FALSE NEIGHBOUR: 'it returns false'. Refute it at one input. -/
def fnExactDecodeWrong : ChangeSpec := { name := "fnExactDecode", fn := fun _ => fun
  | [d1, d2, d3] => { results := [.lit (.bool false)], args := [d1, d2, d3] }
  | _ => none }
def FnExactDecodeWrongFalsely : Prop := fnExactDecodeRow.holds Try.pinned (OpenSpec.ofChange fnExactDecodeWrong)

/-- 'laws.FnExactEncode': WHATEVER THE INPUT: true; the input reads as it did. -/
def fnExactEncodeSpec : ChangeSpec := { name := "fnExactEncode", fn := fun _ => fun
  | [d1, d2, d3] => { results := [.lit (.bool true)], args := [d1, d2, d3] }
  | _ => none }
def fnExactEncodeRow : OpenClaim := { program := "ytbdnpfjjaokdbaa", sum := "8d74e6c42a3d2b4b8cfdc69bc7cde1a25a22df08e8070ab0affdfa03ef6e38a6", func := "loop.example/g00066/laws.FnExactEncode", spec := "fnExactEncode", unfollowed := true, recurses := true, apart := false }
def FnExactEncodeSaid : Prop := fnExactEncodeRow.holds Try.pinned (OpenSpec.ofChange fnExactEncodeSpec)

/-- ITS FALSE NEIGHBOUR: 'it returns false'. Refute it at one input. -/
def fnExactEncodeWrong : ChangeSpec := { name := "fnExactEncode", fn := fun _ => fun
  | [d1, d2, d3] => { results := [.lit (.bool false)], args := [d1, d2, d3] }
  | _ => none }
def FnExactEncodeWrongFalsely : Prop := fnExactEncodeRow.holds Try.pinned (OpenSpec.ofChange fnExactEncodeWrong)

/-- 'laws.FnDecoded': WHATEVER THE INPUT: true; the input reads as it did. -/
def fnDecodedSpec : ChangeSpec := { name := "fnDecoded", fn := fun _ => fun
  | [d] => { results := [.lit (.bool true)], args := [d] }
  | _ => none }
def fnDecodedRow : OpenClaim := { program := "ytbdnpfjjaokdbaa", sum := "8d74e6c42a3d2b4b8cfdc69bc7cde1a25a22df08e8070ab0affdfa03ef6e38a6", func := "loop.example/g00066/laws.FnDecoded", spec := "fnDecoded", unfollowed := true, recurses := true, apart := false }
def FnDecodedSaid : Prop := fnDecodedRow.holds Try.pinned (OpenSpec.ofChange fnDecodedSpec)

/-- ITS FALSE NEIGHBOUR: 'it returns false'. Refute it at one input. -/
def fnDecodedWrong : ChangeSpec := { name := "fnDecoded", fn := fun _ => fun
  | [d] => { results := [.lit (.bool false)], args := [d] }
  | _ => none }
def FnDecodedWrongFalsely : Prop := fnDecodedRow.holds Try.pinned (OpenSpec.ofChange fnDecodedWrong)

/-- 'laws.FnCoded': WHATEVER THE INPUT: true; the input reads as it did. -/
def fnCodedSpec : ChangeSpec := { name := "fnCoded", fn := fun _ => fun
  | [d] => { results := [.lit (.bool true)], args := [d] }
  | _ => none }
def fnCodedRow : OpenClaim := { program := "ytbdnpfjjaokdbaa", sum := "8d74e6c42a3d2b4b8cfdc69bc7cde1a25a22df08e8070ab0affdfa03ef6e38a6", func := "loop.example/g00066/laws.FnCoded", spec := "fnCoded", unfollowed := true, recurses := true, apart := false }
def FnCodedSaid : Prop := fnCodedRow.holds Try.pinned (OpenSpec.ofChange fnCodedSpec)

/-- ITS FALSE NEIGHBOUR: 'it returns false'. Refute it at one input. -/
def fnCodedWrong : ChangeSpec := { name := "fnCoded", fn := fun _ => fun
  | [d] => { results := [.lit (.bool false)], args := [d] }
  | _ => none }
def FnCodedWrongFalsely : Prop := fnCodedRow.holds Try.pinned (OpenSpec.ofChange fnCodedWrong)

/- THE SECOND FORM. 'bulk': how many values and letters a reading holds, each counted each time it is reached (what is shared counts as often as it is met; a slice's spare places count too). A statement '..UptoSaid' is the law's where the arguments, and the package variables that the reading takes, are together of bulk at most 1048576: NARROWER than '..Said'. Prove '..Said' where nothing that the law and all that it calls make is longer than what came in: it says more and counts as full. Else prove '..UptoSaid'. A law counts once. -/
mutual
def uptoBulk {H : Type} : DataW H → Nat
  | .lit (.string bytes) => bytes.length + 1
  | .lit _ => 1
  | .nil => 1
  | .ptr d => uptoBulk d + 1
  | .slice elems spare => uptoBulkAll elems + uptoBulkAll spare + 1
  | .agg parts => uptoBulkAll parts + 1
  | .iface _ d => uptoBulk d + 1
  | .map entries => uptoBulkEntries entries + 1
  | .held _ => 1
def uptoBulkAll {H : Type} : List (DataW H) → Nat
  | [] => 0
  | d :: r => uptoBulk d + uptoBulkAll r
def uptoBulkEntries {H : Type} : List (Lit × DataW H) → Nat
  | [] => 0
  | x :: r => uptoBulkEntry x + uptoBulkEntries r
def uptoBulkEntry {H : Type} : Lit × DataW H → Nat
  | (.string bytes, d) => bytes.length + uptoBulk d + 1
  | (_, d) => uptoBulk d + 1
 end
def uptoSmall : (H : Type) → List (DataW H) → Bool := fun _ ds => decide (uptoBulkAll ds ≤ 1048576)
def OpenSpec.upto (s : _root_.Go.ChangeSpec) : _root_.Go.OpenSpec := { _root_.Go.OpenSpec.ofChange s with cond := some uptoSmall }

/-- 'laws.FnExactPictureOk', WHERE WHAT IT READS IS OF BULK AT MOST 1048576: true; the input reads as it did. -/
def fnExactPictureOkUptoRow : OpenClaim := { program := "ytbdnpfjjaokdbaa", sum := "8d74e6c42a3d2b4b8cfdc69bc7cde1a25a22df08e8070ab0affdfa03ef6e38a6", func := "loop.example/g00066/laws.FnExactPictureOk", spec := "fnExactPictureOk", unfollowed := true, recurses := true, apart := false, narrowed := true }
def FnExactPictureOkUptoSaid : Prop := fnExactPictureOkUptoRow.holds Try.pinned (OpenSpec.upto fnExactPictureOkSpec)

/-- 'laws.FnExactTurn', WHERE WHAT IT READS IS OF BULK AT MOST 1048576: true; the input reads as it did. -/
def fnExactTurnUptoRow : OpenClaim := { program := "ytbdnpfjjaokdbaa", sum := "8d74e6c42a3d2b4b8cfdc69bc7cde1a25a22df08e8070ab0affdfa03ef6e38a6", func := "loop.example/g00066/laws.FnExactTurn", spec := "fnExactTurn", unfollowed := true, recurses := true, apart := false, narrowed := true }
def FnExactTurnUptoSaid : Prop := fnExactTurnUptoRow.holds Try.pinned (OpenSpec.upto fnExactTurnSpec)

/-- 'laws.FnExactBuffer', WHERE WHAT IT READS IS OF BULK AT MOST 1048576: true; the input reads as it did. -/
def fnExactBufferUptoRow : OpenClaim := { program := "ytbdnpfjjaokdbaa", sum := "8d74e6c42a3d2b4b8cfdc69bc7cde1a25a22df08e8070ab0affdfa03ef6e38a6", func := "loop.example/g00066/laws.FnExactBuffer", spec := "fnExactBuffer", unfollowed := true, recurses := true, apart := false, narrowed := true }
def FnExactBufferUptoSaid : Prop := fnExactBufferUptoRow.holds Try.pinned (OpenSpec.upto fnExactBufferSpec)

/-- 'laws.FnTurned', WHERE WHAT IT READS IS OF BULK AT MOST 1048576: true; the input reads as it did. -/
def fnTurnedUptoRow : OpenClaim := { program := "ytbdnpfjjaokdbaa", sum := "8d74e6c42a3d2b4b8cfdc69bc7cde1a25a22df08e8070ab0affdfa03ef6e38a6", func := "loop.example/g00066/laws.FnTurned", spec := "fnTurned", unfollowed := true, recurses := true, apart := false, narrowed := true }
def FnTurnedUptoSaid : Prop := fnTurnedUptoRow.holds Try.pinned (OpenSpec.upto fnTurnedSpec)

/-- 'laws.FnBuffered', WHERE WHAT IT READS IS OF BULK AT MOST 1048576: true; the input reads as it did. -/
def fnBufferedUptoRow : OpenClaim := { program := "ytbdnpfjjaokdbaa", sum := "8d74e6c42a3d2b4b8cfdc69bc7cde1a25a22df08e8070ab0affdfa03ef6e38a6", func := "loop.example/g00066/laws.FnBuffered", spec := "fnBuffered", unfollowed := true, recurses := true, apart := false, narrowed := true }
def FnBufferedUptoSaid : Prop := fnBufferedUptoRow.holds Try.pinned (OpenSpec.upto fnBufferedSpec)

/-- 'laws.FnExactMotion', WHERE WHAT IT READS IS OF BULK AT MOST 1048576: true; the input reads as it did. -/
def fnExactMotionUptoRow : OpenClaim := { program := "ytbdnpfjjaokdbaa", sum := "8d74e6c42a3d2b4b8cfdc69bc7cde1a25a22df08e8070ab0affdfa03ef6e38a6", func := "loop.example/g00066/laws.FnExactMotion", spec := "fnExactMotion", unfollowed := true, recurses := true, apart := false, narrowed := true }
def FnExactMotionUptoSaid : Prop := fnExactMotionUptoRow.holds Try.pinned (OpenSpec.upto fnExactMotionSpec)

/-- 'laws.FnMotion', WHERE WHAT IT READS IS OF BULK AT MOST 1048576: true; the input reads as it did. -/
def fnMotionUptoRow : OpenClaim := { program := "ytbdnpfjjaokdbaa", sum := "8d74e6c42a3d2b4b8cfdc69bc7cde1a25a22df08e8070ab0affdfa03ef6e38a6", func := "loop.example/g00066/laws.FnMotion", spec := "fnMotion", unfollowed := true, recurses := true, apart := false, narrowed := true }
def FnMotionUptoSaid : Prop := fnMotionUptoRow.holds Try.pinned (OpenSpec.upto fnMotionSpec)

/-- 'laws.FnExactDecode', WHERE WHAT IT READS IS OF BULK AT MOST 1048576: true; the input reads as it did. -/
def fnExactDecodeUptoRow : OpenClaim := { program := "ytbdnpfjjaokdbaa", sum := "8d74e6c42a3d2b4b8cfdc69bc7cde1a25a22df08e8070ab0affdfa03ef6e38a6", func := "loop.example/g00066/laws.FnExactDecode", spec := "fnExactDecode", unfollowed := true, recurses := true, apart := false, narrowed := true }
def FnExactDecodeUptoSaid : Prop := fnExactDecodeUptoRow.holds Try.pinned (OpenSpec.upto fnExactDecodeSpec)

/-- 'laws.FnExactEncode', WHERE WHAT IT READS IS OF BULK AT MOST 1048576: true; the input reads as it did. -/
def fnExactEncodeUptoRow : OpenClaim := { program := "ytbdnpfjjaokdbaa", sum := "8d74e6c42a3d2b4b8cfdc69bc7cde1a25a22df08e8070ab0affdfa03ef6e38a6", func := "loop.example/g00066/laws.FnExactEncode", spec := "fnExactEncode", unfollowed := true, recurses := true, apart := false, narrowed := true }
def FnExactEncodeUptoSaid : Prop := fnExactEncodeUptoRow.holds Try.pinned (OpenSpec.upto fnExactEncodeSpec)

/-- 'laws.FnDecoded', WHERE WHAT IT READS IS OF BULK AT MOST 1048576: true; the input reads as it did. -/
def fnDecodedUptoRow : OpenClaim := { program := "ytbdnpfjjaokdbaa", sum := "8d74e6c42a3d2b4b8cfdc69bc7cde1a25a22df08e8070ab0affdfa03ef6e38a6", func := "loop.example/g00066/laws.FnDecoded", spec := "fnDecoded", unfollowed := true, recurses := true, apart := false, narrowed := true }
def FnDecodedUptoSaid : Prop := fnDecodedUptoRow.holds Try.pinned (OpenSpec.upto fnDecodedSpec)

/-- 'laws.FnCoded', WHERE WHAT IT READS IS OF BULK AT MOST 1048576: true; the input reads as it did. -/
def fnCodedUptoRow : OpenClaim := { program := "ytbdnpfjjaokdbaa", sum := "8d74e6c42a3d2b4b8cfdc69bc7cde1a25a22df08e8070ab0affdfa03ef6e38a6", func := "loop.example/g00066/laws.FnCoded", spec := "fnCoded", unfollowed := true, recurses := true, apart := false, narrowed := true }
def FnCodedUptoSaid : Prop := fnCodedUptoRow.holds Try.pinned (OpenSpec.upto fnCodedSpec)

end Rows
end Go.Proofs.Ytbdnpfjjaokdbaa
