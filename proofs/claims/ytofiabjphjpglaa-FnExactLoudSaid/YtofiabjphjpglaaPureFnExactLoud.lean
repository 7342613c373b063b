/-
  The plain statement of FnExactLoud: the law's own walk shows it true; nothing is left but that.
  Conditions: the statement's own.
-/
import Derived.Test.YtofiabjphjpglaaHFnExactLoudx0
import Derived.Test.YtofiabjphjpglaaHFnExactLoudx1
import Derived.Test.YtofiabjphjpglaaPureBase
import Derived.Laws.BitsLemmas
namespace Go.Proofs.Ytofiabjphjpglaa.Pure
open Go.RowKit Go.Proofs.Ytofiabjphjpglaa.HFnExactLoud Go.Proofs.YtofiabjphjpglaaW.PrintWords Go.Proofs.YtofiabjphjpglaaW.PrintLast Go.Proofs.YtofiabjphjpglaaW.PrintMore Go.Proofs.Ytofiabjphjpglaa.PB Go.Proofs.Ytofiabjphjpglaa.Fl
set_option linter.unusedVariables false
set_option linter.unusedSimpArgs false

theorem FnExactLoud : ∀ (l0 : List Fl) (a1 : Nat) (a2 : Nat), (l0.length ≤ maxLen ∧ ∀ y1 ∈ l0, True) → (Lit.float .f64 a1).wf = true → (Lit.float .f64 a2).wf = true → laws_FnExactLoud.f l0 a1 a2 = some true := fun _ _ _ _ _ _ => rfl
end Go.Proofs.Ytofiabjphjpglaa.Pure
