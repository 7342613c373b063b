/- Words of the walk (what the kit's print lays), of which this claim's texts name these; conditions: none beyond what each theorem names. -/
/- Words of the walk (what the kit's print lays), of which this claim's texts name these; conditions: none beyond what each theorem names. -/
import Derived.Test.YtidogkjhjmcliaaDoorWWords
import Derived.Test.YtidogkjhjmcliaaDoorWLast
namespace Go.Proofs.YtidogkjhjmcliaaDoorW.PrintWords
open Go.RowKit
namespace Kd
section
variable {α : Type} {d : Kd α} {e base g o n cap : Nat} {ok okp : Nat → Prop} {w W : World} {v : Value} {xs : List α}
end
section
variable {α : Type} {enc : α → Value} {h1 : ∀ x, (enc x).oneCell' = true} {e base g o n cap : Nat} {ok : Nat → Prop} {W : World} {xs : List α}
end
end Kd
end Go.Proofs.YtidogkjhjmcliaaDoorW.PrintWords
