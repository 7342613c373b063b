/- Words of the walk (what the kit's print lays), of which this claim's texts name these; conditions: none beyond what each theorem names. -/
import Derived.Test.YtelcpfanjjfgdaaWInv
import Derived.Test.YtelcpfanjjfgdaaWFootNe
namespace Go.Proofs.YtelcpfanjjfgdaaW.PrintWords
open Go.RowKit
end Go.Proofs.YtelcpfanjjfgdaaW.PrintWords
namespace Go.Proofs.YtelcpfanjjfgdaaW.PrintLast
section
variable {ops : Array Oper} {a : Act} {o og : Oper} {g : Nat} {t : Tmp} {u : Bool}
end
end Go.Proofs.YtelcpfanjjfgdaaW.PrintLast
