/-
  From a reading of an argument to the kind of a double by its bits.
  Conditions: none beyond what each theorem names.
-/
import Derived.Test.YtmmonaiokageeaaRowBase
import Derived.Test.YtmmonaiokageeaaFlBits
import Derived.Laws.Cover2
namespace Go.Proofs.Ytmmonaiokageeaa.RowBase
open Go.ChangeShapes Go.WideShapes Go.ChangeAt Go.RowKit
open Go.Proofs.YtmmonaiokageeaaW.PrintWords Go.Proofs.Ytmmonaiokageeaa.Fl
set_option linter.unusedVariables false
set_option linter.unusedSimpArgs false
theorem Opn_floatb {P : Program} {T : TypeId} (h : P.underlying T = some (.float .f64)) : Opn P T Kb (fun b => (Lit.float .f64 b).wf = true) := by
  intro H enc w fuel cs x hx
  cases fuel with
  | zero => simp [DataW.trod] at hx
  | succ n =>
    rcases cs with _ | ⟨v, _ | ⟨u, t⟩⟩
    · simp [DataW.trod, h] at hx
    · cases v <;> simp [DataW.trod, h] at hx
      rename_i k b
      obtain ⟨⟨hk, hw⟩, _⟩ := hx
      subst hk
      exact ⟨b, rfl, hw⟩
    · simp [DataW.trod, h] at hx
end Go.Proofs.Ytmmonaiokageeaa.RowBase
