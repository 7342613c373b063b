/-
  DERIVED. GIVEN WITH THE SEED: THE CARDS: each row of YtidogkjhjmcliaaDoorRows.lean that lists a variable, with what it lists TIED to the program's text (the seventh form; the later family's looks); each row that meets fmt, with fmt's text TOLD by the authors' own Lean function (tested against real Go, not proved from fmt's source: count such statements apart). THE CARD IS WHAT COUNTS. Prove the row's statement (the work); the ties are given (YtidogkjhjmcliaaDoorTie.lean); close each card by the builder's one call (the guide's Derived/Test/ToyasCard.lean, 'card_holds'). Laid BY PROGRAM, IN A SANDBOX (cutbox-door.mjs). By AI agents, Wed Nov 11 2026. No macro, syntax, notation, axiom, sorry.
-/
import Derived.Test.YtidogkjhjmcliaaDoorRows
import GoSem.ClaimSeven
namespace Go.Proofs.YtidogkjhjmcliaaDoor
namespace Rows

/-- THE TIED CARD OF 'laws.FnExactShowTitles'. -/
def fnExactShowTitlesCard : Claim7 := { stood := { row := fnExactShowTitlesRow, standIns := [], harness := (true, "863eb966ea530ea0c5a5d43ca9088f5d290f1eef95715f2290e94cb75e4f6914"), looks := false }, kinds := [], alts := [], laidByText := true, laidKinds := [.data, .data, .data], laidTests := true, laidLooks := .later }
def FnExactShowTitlesCardSaid : Prop := Claim7.holds Tryd.pinned (.plain (OpenSpec.ofChange fnExactShowTitlesSpec)) fnExactShowTitlesCard

/-- THE TIED CARD OF 'laws.FnExactReadTitles'. -/
def fnExactReadTitlesCard : Claim7 := { stood := { row := fnExactReadTitlesRow, standIns := [], harness := (true, "863eb966ea530ea0c5a5d43ca9088f5d290f1eef95715f2290e94cb75e4f6914"), looks := false }, kinds := [], alts := [], laidByText := true, laidKinds := [.data, .data, .data], laidTests := true, laidLooks := .later }
def FnExactReadTitlesCardSaid : Prop := Claim7.holds Tryd.pinned (.plain (OpenSpec.ofChange fnExactReadTitlesSpec)) fnExactReadTitlesCard

/-- THE TIED CARD OF 'laws.FnTitlesBack'. -/
def fnTitlesBackCard : Claim7 := { stood := { row := fnTitlesBackRow, standIns := [], harness := (true, "863eb966ea530ea0c5a5d43ca9088f5d290f1eef95715f2290e94cb75e4f6914"), looks := false }, kinds := [], alts := [], laidByText := true, laidKinds := [.data, .data, .data], laidTests := true, laidLooks := .later }
def FnTitlesBackCardSaid : Prop := Claim7.holds Tryd.pinned (.plain (OpenSpec.ofChange fnTitlesBackSpec)) fnTitlesBackCard

/-- THE SECOND FORM's CARD OF 'laws.FnExactShowTitles'. -/
def fnExactShowTitlesUptoCard : Claim7 := { stood := { row := fnExactShowTitlesUptoRow, standIns := [], harness := (true, "863eb966ea530ea0c5a5d43ca9088f5d290f1eef95715f2290e94cb75e4f6914"), looks := false }, kinds := [], alts := [], laidByText := true, laidKinds := [.data, .data, .data], laidTests := true, laidLooks := .later }
def FnExactShowTitlesUptoCardSaid : Prop := Claim7.holds Tryd.pinned (.plain (OpenSpec.upto fnExactShowTitlesSpec)) fnExactShowTitlesUptoCard

/-- THE SECOND FORM's CARD OF 'laws.FnExactReadTitles'. -/
def fnExactReadTitlesUptoCard : Claim7 := { stood := { row := fnExactReadTitlesUptoRow, standIns := [], harness := (true, "863eb966ea530ea0c5a5d43ca9088f5d290f1eef95715f2290e94cb75e4f6914"), looks := false }, kinds := [], alts := [], laidByText := true, laidKinds := [.data, .data, .data], laidTests := true, laidLooks := .later }
def FnExactReadTitlesUptoCardSaid : Prop := Claim7.holds Tryd.pinned (.plain (OpenSpec.upto fnExactReadTitlesSpec)) fnExactReadTitlesUptoCard

/-- THE SECOND FORM's CARD OF 'laws.FnTitlesBack'. -/
def fnTitlesBackUptoCard : Claim7 := { stood := { row := fnTitlesBackUptoRow, standIns := [], harness := (true, "863eb966ea530ea0c5a5d43ca9088f5d290f1eef95715f2290e94cb75e4f6914"), looks := false }, kinds := [], alts := [], laidByText := true, laidKinds := [.data, .data, .data], laidTests := true, laidLooks := .later }
def FnTitlesBackUptoCardSaid : Prop := Claim7.holds Tryd.pinned (.plain (OpenSpec.upto fnTitlesBackSpec)) fnTitlesBackUptoCard
end Rows
end Go.Proofs.YtidogkjhjmcliaaDoor
