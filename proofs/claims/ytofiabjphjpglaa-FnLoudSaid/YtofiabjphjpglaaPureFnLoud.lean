/-
  The plain statement of FnLoud: the law's own walk shows it true where the bytes are bytes.
  Conditions: the statement's own.
-/
import Derived.Test.YtofiabjphjpglaaHFnLoudx0
import Derived.Test.YtofiabjphjpglaaHFnLoudx1
import Derived.Test.YtofiabjphjpglaaHFnLoudx2
import Derived.Test.YtofiabjphjpglaaPureBase
import Derived.Laws.BitsLemmas
namespace Go.Proofs.Ytofiabjphjpglaa.Pure
open Go.RowKit Go.Proofs.Ytofiabjphjpglaa.HFnLoud Go.Proofs.YtofiabjphjpglaaW.PrintWords Go.Proofs.YtofiabjphjpglaaW.PrintLast Go.Proofs.YtofiabjphjpglaaW.PrintMore Go.Proofs.Ytofiabjphjpglaa.PB Go.Proofs.Ytofiabjphjpglaa.Fl
set_option linter.unusedVariables false
set_option linter.unusedSimpArgs false

theorem FnLoud : ∀ (l0 : List Int), (l0.length ≤ maxLen ∧ ∀ y1 ∈ l0, (Lit.int .u8 y1).wf = true) → laws_FnLoud.f l0 = some true := fun l0 h => if_pos fun y hy => wf8 (h.2 y hy)
end Go.Proofs.Ytofiabjphjpglaa.Pure
