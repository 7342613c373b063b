/-
  The plain statement of FnConvolved: the law's own walk shows it true; nothing is left but that.
  Conditions: the statement's own.
-/
import Derived.Test.YtofiabjphjpglaaHFnConvolvedx0
import Derived.Test.YtofiabjphjpglaaHFnConvolvedx1
import Derived.Test.YtofiabjphjpglaaHFnConvolvedx2
import Derived.Test.YtofiabjphjpglaaPureBase
import Derived.Laws.BitsLemmas
namespace Go.Proofs.Ytofiabjphjpglaa.Pure
open Go.RowKit Go.Proofs.Ytofiabjphjpglaa.HFnConvolved Go.Proofs.YtofiabjphjpglaaW.PrintWords Go.Proofs.YtofiabjphjpglaaW.PrintLast Go.Proofs.YtofiabjphjpglaaW.PrintMore Go.Proofs.Ytofiabjphjpglaa.PB Go.Proofs.Ytofiabjphjpglaa.Fl
set_option linter.unusedVariables false
set_option linter.unusedSimpArgs false

theorem FnConvolved : ∀ (l0 : List Int), (l0.length ≤ maxLen ∧ ∀ y1 ∈ l0, (Lit.int .u8 y1).wf = true) → laws_FnConvolved.f l0 = some true := fun _ _ => rfl
end Go.Proofs.Ytofiabjphjpglaa.Pure
