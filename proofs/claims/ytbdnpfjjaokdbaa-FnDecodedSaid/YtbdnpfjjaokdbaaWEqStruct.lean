/- Words of the walk (what the kit's print lays), of which this claim's texts name these; conditions: none beyond what each theorem names. -/
import Derived.Test.YtbdnpfjjaokdbaaWWords
import Derived.Laws.StructEq
namespace Go.Proofs.YtbdnpfjjaokdbaaW.PrintWords
open Go.RowKit
section
variable {P : Program} {d : Nat} {xs ys : Array Value} {f : Field} {fs : List Field} {a b : Value} {r s : Bool} {w : World}
end
end Go.Proofs.YtbdnpfjjaokdbaaW.PrintWords
