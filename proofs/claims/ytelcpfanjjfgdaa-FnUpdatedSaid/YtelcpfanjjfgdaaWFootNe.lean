/- Words of the walk (what the kit's print lays), of which this claim's texts name these; conditions: none beyond what each theorem names. -/
import Derived.Test.YtelcpfanjjfgdaaWN
namespace Go.Proofs.YtelcpfanjjfgdaaW.PrintWords
open Go.RowKit
namespace Kd
section
variable {α : Type} {d : Kd α} {W : World} {g n : Nat} {S ok : Nat → Prop} {A : Option Addr} {ad : Addr} {xs : List α}
end
end Kd
end Go.Proofs.YtelcpfanjjfgdaaW.PrintWords
