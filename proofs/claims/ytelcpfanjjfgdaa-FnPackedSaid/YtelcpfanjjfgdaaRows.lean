/-
  No cell of these rows narrows 'for every input' (looked for: loops, veiled, ifaces, maps, wideKeys, modest, calm, conditions, laid).
  DERIVED. THE GIVEN ROWS OF THIS SEAT. 10 by the template 'for every input the law returns true; each argument reads behind the call as it read before'; 0 by the template 'total and deterministic' (their statements: YtelcpfanjjfgdaaTotals.lean).
  GIVEN WITH THE SEED: the statements are not yours to turn. If you find one false, say at which input.
  Laid BY PROGRAM, IN A SANDBOX (cutbox-rows.mjs): the forced cells as the released guide's own fill.sh prints them over the translation 93b0f51ece84463a… (all of the seat's roots in one cut). By AI agents, Wed Nov 11 2026. No macro, syntax, notation, axiom, sorry.
-/
import Derived.Test.YtelcpfanjjfgdaaChecked
import GoSem.Claim
import GoSem.ClaimJoined
import GoSem.ClaimMapViews
import Derived.JoinedTies
import Derived.KernelRfl
namespace Go.Proofs.Ytelcpfanjjfgdaa
/- THE CELL 'sum', in the pinned program and in every row, IS THE sha256 OF THE DUMP (.gsa) THAT YtelcpfanjjfgdaaProg.lean LOADS. Nothing in Lean hashes anything: it is a label: what it is worth is what the hold of that sum in a sandbox is worth. -/
noncomputable def Try.pinned : Pinned := { name := "ytelcpfanjjfgdaa", sum := "93b0f51ece84463a0974c849bea01c0447900519117d18b92972b6367a183e56", checked := Try.checked }
namespace Rows
def none {H : Type} : Left H := { results := [], args := [] }

/-- 'laws.FnExactDigest': WHATEVER THE INPUT: true; the input reads as it did. -/
def fnExactDigestSpec : ChangeSpec := { name := "fnExactDigest", fn := fun _ => fun
  | [d] => { results := [.lit (.bool true)], args := [d] }
  | _ => none }
def fnExactDigestRow : OpenClaim := { program := "ytelcpfanjjfgdaa", sum := "93b0f51ece84463a0974c849bea01c0447900519117d18b92972b6367a183e56", func := "loop.example/g00066/laws.FnExactDigest", spec := "fnExactDigest", apart := false }
def FnExactDigestSaid : Prop := fnExactDigestRow.holds Try.pinned (OpenSpec.ofChange fnExactDigestSpec)

/-- ITS FALSE NEIGHBOUR: 'it returns false'. Refute it at one input. -/
def fnExactDigestWrong : ChangeSpec := { name := "fnExactDigest", fn := fun _ => fun
  | [d] => { results := [.lit (.bool false)], args := [d] }
  | _ => none }
def FnExactDigestWrongFalsely : Prop := fnExactDigestRow.holds Try.pinned (OpenSpec.ofChange fnExactDigestWrong)

/-- 'laws.FnExactSeal': WHATEVER THE INPUT: true; the input reads as it did. -/
def fnExactSealSpec : ChangeSpec := { name := "fnExactSeal", fn := fun _ => fun
  | [d1, d2] => { results := [.lit (.bool true)], args := [d1, d2] }
  | _ => none }
def fnExactSealRow : OpenClaim := { program := "ytelcpfanjjfgdaa", sum := "93b0f51ece84463a0974c849bea01c0447900519117d18b92972b6367a183e56", func := "loop.example/g00066/laws.FnExactSeal", spec := "fnExactSeal", apart := false }
def FnExactSealSaid : Prop := fnExactSealRow.holds Try.pinned (OpenSpec.ofChange fnExactSealSpec)

/-- ITS FALSE NEIGHBOUR: 'it returns false'. Refute it at one input. -/
def fnExactSealWrong : ChangeSpec := { name := "fnExactSeal", fn := fun _ => fun
  | [d1, d2] => { results := [.lit (.bool false)], args := [d1, d2] }
  | _ => none }
def FnExactSealWrongFalsely : Prop := fnExactSealRow.holds Try.pinned (OpenSpec.ofChange fnExactSealWrong)

/-- 'laws.FnExactOpen': WHATEVER THE INPUT: true; the input reads as it did. -/
def fnExactOpenSpec : ChangeSpec := { name := "fnExactOpen", fn := fun _ => fun
  | [d1, d2, d3] => { results := [.lit (.bool true)], args := [d1, d2, d3] }
  | _ => none }
def fnExactOpenRow : OpenClaim := { program := "ytelcpfanjjfgdaa", sum := "93b0f51ece84463a0974c849bea01c0447900519117d18b92972b6367a183e56", func := "loop.example/g00066/laws.FnExactOpen", spec := "fnExactOpen", apart := false }
def FnExactOpenSaid : Prop := fnExactOpenRow.holds Try.pinned (OpenSpec.ofChange fnExactOpenSpec)

/-- ITS FALSE NEIGHBOUR: 'it returns false'. Refute it at one input. -/
def fnExactOpenWrong : ChangeSpec := { name := "fnExactOpen", fn := fun _ => fun
  | [d1, d2, d3] => { results := [.lit (.bool false)], args := [d1, d2, d3] }
  | _ => none }
def FnExactOpenWrongFalsely : Prop := fnExactOpenRow.holds Try.pinned (OpenSpec.ofChange fnExactOpenWrong)

/-- 'laws.FnExactPackOk': WHATEVER THE INPUT: true; the input reads as it did. -/
def fnExactPackOkSpec : ChangeSpec := { name := "fnExactPackOk", fn := fun _ => fun
  | [d] => { results := [.lit (.bool true)], args := [d] }
  | _ => none }
def fnExactPackOkRow : OpenClaim := { program := "ytelcpfanjjfgdaa", sum := "93b0f51ece84463a0974c849bea01c0447900519117d18b92972b6367a183e56", func := "loop.example/g00066/laws.FnExactPackOk", spec := "fnExactPackOk", apart := false }
def FnExactPackOkSaid : Prop := fnExactPackOkRow.holds Try.pinned (OpenSpec.ofChange fnExactPackOkSpec)

/-- ITS FALSE NEIGHBOUR: 'it returns false'. Refute it at one input. -/
def fnExactPackOkWrong : ChangeSpec := { name := "fnExactPackOk", fn := fun _ => fun
  | [d] => { results := [.lit (.bool false)], args := [d] }
  | _ => none }
def FnExactPackOkWrongFalsely : Prop := fnExactPackOkRow.holds Try.pinned (OpenSpec.ofChange fnExactPackOkWrong)

/-- 'laws.FnSealed': WHATEVER THE INPUT: true; the input reads as it did. -/
def fnSealedSpec : ChangeSpec := { name := "fnSealed", fn := fun _ => fun
  | [d] => { results := [.lit (.bool true)], args := [d] }
  | _ => none }
def fnSealedRow : OpenClaim := { program := "ytelcpfanjjfgdaa", sum := "93b0f51ece84463a0974c849bea01c0447900519117d18b92972b6367a183e56", func := "loop.example/g00066/laws.FnSealed", spec := "fnSealed", apart := false }
def FnSealedSaid : Prop := fnSealedRow.holds Try.pinned (OpenSpec.ofChange fnSealedSpec)

/-- ITS FALSE NEIGHBOUR: 'it returns false'. Refute it at one input. -/
def fnSealedWrong : ChangeSpec := { name := "fnSealed", fn := fun _ => fun
  | [d] => { results := [.lit (.bool false)], args := [d] }
  | _ => none }
def FnSealedWrongFalsely : Prop := fnSealedRow.holds Try.pinned (OpenSpec.ofChange fnSealedWrong)

/-- 'laws.FnExactUpdate': WHATEVER THE INPUT: true; the input reads as it did. -/
def fnExactUpdateSpec : ChangeSpec := { name := "fnExactUpdate", fn := fun _ => fun
  | [d1, d2] => { results := [.lit (.bool true)], args := [d1, d2] }
  | _ => none }
def fnExactUpdateRow : OpenClaim := { program := "ytelcpfanjjfgdaa", sum := "93b0f51ece84463a0974c849bea01c0447900519117d18b92972b6367a183e56", func := "loop.example/g00066/laws.FnExactUpdate", spec := "fnExactUpdate", unfollowed := true, recurses := true, apart := false }
def FnExactUpdateSaid : Prop := fnExactUpdateRow.holds Try.pinned (OpenSpec.ofChange fnExactUpdateSpec)

/-- ITS FALSE NEIGHBOUR: 'it returns false'. Refute it at one input. -/
def fnExactUpdateWrong : ChangeSpec := { name := "fnExactUpdate", fn := fun _ => fun
  | [d1, d2] => { results := [.lit (.bool false)], args := [d1, d2] }
  | _ => none }
def FnExactUpdateWrongFalsely : Prop := fnExactUpdateRow.holds Try.pinned (OpenSpec.ofChange fnExactUpdateWrong)

/-- 'laws.FnUpdated': WHATEVER THE INPUT: true; the input reads as it did. -/
def fnUpdatedSpec : ChangeSpec := { name := "fnUpdated", fn := fun _ => fun
  | [d] => { results := [.lit (.bool true)], args := [d] }
  | _ => none }
def fnUpdatedRow : OpenClaim := { program := "ytelcpfanjjfgdaa", sum := "93b0f51ece84463a0974c849bea01c0447900519117d18b92972b6367a183e56", func := "loop.example/g00066/laws.FnUpdated", spec := "fnUpdated", unfollowed := true, recurses := true, apart := false }
def FnUpdatedSaid : Prop := fnUpdatedRow.holds Try.pinned (OpenSpec.ofChange fnUpdatedSpec)

/-- ITS FALSE NEIGHBOUR: 'it returns false'. Refute it at one input. -/
def fnUpdatedWrong : ChangeSpec := { name := "fnUpdated", fn := fun _ => fun
  | [d] => { results := [.lit (.bool false)], args := [d] }
  | _ => none }
def FnUpdatedWrongFalsely : Prop := fnUpdatedRow.holds Try.pinned (OpenSpec.ofChange fnUpdatedWrong)

/-- 'laws.FnExactVerify': WHATEVER THE INPUT: true; the input reads as it did. -/
def fnExactVerifySpec : ChangeSpec := { name := "fnExactVerify", fn := fun _ => fun
  | [d1, d2, d3] => { results := [.lit (.bool true)], args := [d1, d2, d3] }
  | _ => none }
def fnExactVerifyRow : OpenClaim := { program := "ytelcpfanjjfgdaa", sum := "93b0f51ece84463a0974c849bea01c0447900519117d18b92972b6367a183e56", func := "loop.example/g00066/laws.FnExactVerify", spec := "fnExactVerify", apart := false }
def FnExactVerifySaid : Prop := fnExactVerifyRow.holds Try.pinned (OpenSpec.ofChange fnExactVerifySpec)

/-- ITS FALSE NEIGHBOUR: 'it returns false'. Refute it at one input. -/
def fnExactVerifyWrong : ChangeSpec := { name := "fnExactVerify", fn := fun _ => fun
  | [d1, d2, d3] => { results := [.lit (.bool false)], args := [d1, d2, d3] }
  | _ => none }
def FnExactVerifyWrongFalsely : Prop := fnExactVerifyRow.holds Try.pinned (OpenSpec.ofChange fnExactVerifyWrong)

/-- 'laws.FnPacked': WHATEVER THE INPUT: true; the input reads as it did. -/
def fnPackedSpec : ChangeSpec := { name := "fnPacked", fn := fun _ => fun
  | [d] => { results := [.lit (.bool true)], args := [d] }
  | _ => none }
def fnPackedRow : OpenClaim := { program := "ytelcpfanjjfgdaa", sum := "93b0f51ece84463a0974c849bea01c0447900519117d18b92972b6367a183e56", func := "loop.example/g00066/laws.FnPacked", spec := "fnPacked", unfollowed := true, recurses := true, apart := false }
def FnPackedSaid : Prop := fnPackedRow.holds Try.pinned (OpenSpec.ofChange fnPackedSpec)

/-- ITS FALSE NEIGHBOUR: 'it returns false'. Refute it at one input. -/
def fnPackedWrong : ChangeSpec := { name := "fnPacked", fn := fun _ => fun
  | [d] => { results := [.lit (.bool false)], args := [d] }
  | _ => none }
def FnPackedWrongFalsely : Prop := fnPackedRow.holds Try.pinned (OpenSpec.ofChange fnPackedWrong)

/-- 'laws.FnExactPack': WHATEVER THE INPUT: true; the input reads as it did. -/
def fnExactPackSpec : ChangeSpec := { name := "fnExactPack", fn := fun _ => fun
  | [d1, d2] => { results := [.lit (.bool true)], args := [d1, d2] }
  | _ => none }
def fnExactPackRow : OpenClaim := { program := "ytelcpfanjjfgdaa", sum := "93b0f51ece84463a0974c849bea01c0447900519117d18b92972b6367a183e56", func := "loop.example/g00066/laws.FnExactPack", spec := "fnExactPack", unfollowed := true, recurses := true, apart := false }
def FnExactPackSaid : Prop := fnExactPackRow.holds Try.pinned (OpenSpec.ofChange fnExactPackSpec)

/-- ITS FALSE NEIGHBOUR: 'it returns false'. Refute it at one input. -/
def fnExactPackWrong : ChangeSpec := { name := "fnExactPack", fn := fun _ => fun
  | [d1, d2] => { results := [.lit (.bool false)], args := [d1, d2] }
  | _ => none }
def FnExactPackWrongFalsely : Prop := fnExactPackRow.holds Try.pinned (OpenSpec.ofChange fnExactPackWrong)

/- THE SECOND FORM. 'bulk': how many values and letters a reading holds, each counted each time it is reached (what is shared counts as often as it is met; a slice's spare places count too). A statement '..UptoSaid' is the law's where the arguments, and the package variables that the reading takes, are together of bulk at most 1048576: NARROWER than '..Said'. Prove '..Said' where nothing that the law and all that it calls make is longer than what came in: it says more and counts as full. Else prove '..UptoSaid'. A law counts once. -/
mutual
def uptoBulk {H : Type} : DataW H → Nat
  | .lit (.string bytes) => bytes.length + 1
  | .lit _ => 1
  | .nil => 1
  | .ptr d => uptoBulk d + 1
  | .slice elems spare => uptoBulkAll elems + uptoBulkAll spare + 1
  | .agg parts => uptoBulkAll parts + 1
  | .iface _ d => uptoBulk d + 1
  | .map entries => uptoBulkEntries entries + 1
  | .held _ => 1
def uptoBulkAll {H : Type} : List (DataW H) → Nat
  | [] => 0
  | d :: r => uptoBulk d + uptoBulkAll r
def uptoBulkEntries {H : Type} : List (Lit × DataW H) → Nat
  | [] => 0
  | x :: r => uptoBulkEntry x + uptoBulkEntries r
def uptoBulkEntry {H : Type} : Lit × DataW H → Nat
  | (.string bytes, d) => bytes.length + uptoBulk d + 1
  | (_, d) => uptoBulk d + 1
 end
def uptoSmall : (H : Type) → List (DataW H) → Bool := fun _ ds => decide (uptoBulkAll ds ≤ 1048576)
def OpenSpec.upto (s : _root_.Go.ChangeSpec) : _root_.Go.OpenSpec := { _root_.Go.OpenSpec.ofChange s with cond := some uptoSmall }

/-- 'laws.FnExactDigest', WHERE WHAT IT READS IS OF BULK AT MOST 1048576: true; the input reads as it did. -/
def fnExactDigestUptoRow : OpenClaim := { program := "ytelcpfanjjfgdaa", sum := "93b0f51ece84463a0974c849bea01c0447900519117d18b92972b6367a183e56", func := "loop.example/g00066/laws.FnExactDigest", spec := "fnExactDigest", apart := false, narrowed := true }
def FnExactDigestUptoSaid : Prop := fnExactDigestUptoRow.holds Try.pinned (OpenSpec.upto fnExactDigestSpec)

/-- 'laws.FnExactSeal', WHERE WHAT IT READS IS OF BULK AT MOST 1048576: true; the input reads as it did. -/
def fnExactSealUptoRow : OpenClaim := { program := "ytelcpfanjjfgdaa", sum := "93b0f51ece84463a0974c849bea01c0447900519117d18b92972b6367a183e56", func := "loop.example/g00066/laws.FnExactSeal", spec := "fnExactSeal", apart := false, narrowed := true }
def FnExactSealUptoSaid : Prop := fnExactSealUptoRow.holds Try.pinned (OpenSpec.upto fnExactSealSpec)

/-- 'laws.FnExactOpen', WHERE WHAT IT READS IS OF BULK AT MOST 1048576: true; the input reads as it did. -/
def fnExactOpenUptoRow : OpenClaim := { program := "ytelcpfanjjfgdaa", sum := "93b0f51ece84463a0974c849bea01c0447900519117d18b92972b6367a183e56", func := "loop.example/g00066/laws.FnExactOpen", spec := "fnExactOpen", apart := false, narrowed := true }
def FnExactOpenUptoSaid : Prop := fnExactOpenUptoRow.holds Try.pinned (OpenSpec.upto fnExactOpenSpec)

/-- 'laws.FnExactPackOk', WHERE WHAT IT READS IS OF BULK AT MOST 1048576: true; the input reads as it did. -/
def fnExactPackOkUptoRow : OpenClaim := { program := "ytelcpfanjjfgdaa", sum := "93b0f51ece84463a0974c849bea01c0447900519117d18b92972b6367a183e56", func := "loop.example/g00066/laws.FnExactPackOk", spec := "fnExactPackOk", apart := false, narrowed := true }
def FnExactPackOkUptoSaid : Prop := fnExactPackOkUptoRow.holds Try.pinned (OpenSpec.upto fnExactPackOkSpec)

/-- 'laws.FnSealed', WHERE WHAT IT READS IS OF BULK AT MOST 1048576: true; the input reads as it did. -/
def fnSealedUptoRow : OpenClaim := { program := "ytelcpfanjjfgdaa", sum := "93b0f51ece84463a0974c849bea01c0447900519117d18b92972b6367a183e56", func := "loop.example/g00066/laws.FnSealed", spec := "fnSealed", apart := false, narrowed := true }
def FnSealedUptoSaid : Prop := fnSealedUptoRow.holds Try.pinned (OpenSpec.upto fnSealedSpec)

/-- 'laws.FnExactUpdate', WHERE WHAT IT READS IS OF BULK AT MOST 1048576: true; the input reads as it did. -/
def fnExactUpdateUptoRow : OpenClaim := { program := "ytelcpfanjjfgdaa", sum := "93b0f51ece84463a0974c849bea01c0447900519117d18b92972b6367a183e56", func := "loop.example/g00066/laws.FnExactUpdate", spec := "fnExactUpdate", unfollowed := true, recurses := true, apart := false, narrowed := true }
def FnExactUpdateUptoSaid : Prop := fnExactUpdateUptoRow.holds Try.pinned (OpenSpec.upto fnExactUpdateSpec)

/-- 'laws.FnUpdated', WHERE WHAT IT READS IS OF BULK AT MOST 1048576: true; the input reads as it did. -/
def fnUpdatedUptoRow : OpenClaim := { program := "ytelcpfanjjfgdaa", sum := "93b0f51ece84463a0974c849bea01c0447900519117d18b92972b6367a183e56", func := "loop.example/g00066/laws.FnUpdated", spec := "fnUpdated", unfollowed := true, recurses := true, apart := false, narrowed := true }
def FnUpdatedUptoSaid : Prop := fnUpdatedUptoRow.holds Try.pinned (OpenSpec.upto fnUpdatedSpec)

/-- 'laws.FnExactVerify', WHERE WHAT IT READS IS OF BULK AT MOST 1048576: true; the input reads as it did. -/
def fnExactVerifyUptoRow : OpenClaim := { program := "ytelcpfanjjfgdaa", sum := "93b0f51ece84463a0974c849bea01c0447900519117d18b92972b6367a183e56", func := "loop.example/g00066/laws.FnExactVerify", spec := "fnExactVerify", apart := false, narrowed := true }
def FnExactVerifyUptoSaid : Prop := fnExactVerifyUptoRow.holds Try.pinned (OpenSpec.upto fnExactVerifySpec)

/-- 'laws.FnPacked', WHERE WHAT IT READS IS OF BULK AT MOST 1048576: true; the input reads as it did. -/
def fnPackedUptoRow : OpenClaim := { program := "ytelcpfanjjfgdaa", sum := "93b0f51ece84463a0974c849bea01c0447900519117d18b92972b6367a183e56", func := "loop.example/g00066/laws.FnPacked", spec := "fnPacked", unfollowed := true, recurses := true, apart := false, narrowed := true }
def FnPackedUptoSaid : Prop := fnPackedUptoRow.holds Try.pinned (OpenSpec.upto fnPackedSpec)

/-- 'laws.FnExactPack', WHERE WHAT IT READS IS OF BULK AT MOST 1048576: true; the input reads as it did. -/
def fnExactPackUptoRow : OpenClaim := { program := "ytelcpfanjjfgdaa", sum := "93b0f51ece84463a0974c849bea01c0447900519117d18b92972b6367a183e56", func := "loop.example/g00066/laws.FnExactPack", spec := "fnExactPack", unfollowed := true, recurses := true, apart := false, narrowed := true }
def FnExactPackUptoSaid : Prop := fnExactPackUptoRow.holds Try.pinned (OpenSpec.upto fnExactPackSpec)

end Rows
end Go.Proofs.Ytelcpfanjjfgdaa
