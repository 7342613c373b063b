/- Words of the walk (what the kit's print lays), of which this claim's texts name these; conditions: none beyond what each theorem names. -/
import Derived.Test.YtelcpfanjjfgdaaWTab
namespace Go.Proofs.YtelcpfanjjfgdaaW.PrintLast
section
variable {P : Program} {ops : Array Oper} {Q : Exit → Act → World → Prop} {md : Region.Mode} {S : World → Prop} {ds : List Nat} {T : Bool × List (List Nat × List Nat)}
end
end Go.Proofs.YtelcpfanjjfgdaaW.PrintLast
