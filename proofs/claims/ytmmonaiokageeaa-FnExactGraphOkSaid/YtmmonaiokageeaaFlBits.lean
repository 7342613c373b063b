/-
  Doubles by their bits: the kind of a cell that holds one (for structs with a field of that type).
  Conditions: none beyond what each theorem names.
-/
import Derived.Test.YtmmonaiokageeaaFloatBase
import Derived.Test.YtmmonaiokageeaaWFoot
import Derived.Laws.Externs
namespace Go.Proofs.Ytmmonaiokageeaa.Fl
open Go Ieee
open Go.RowKit Go.Proofs.YtmmonaiokageeaaW.PrintWords
theorem Kb_heap : Kd.Heap Kb := ⟨fun _ h => h⟩
@[go_sem] theorem run_store_float {P : Program} (w : World) (a : Addr) (b : Nat) : (store a (.float .f64 b)).run P w = stored P w a (.float .f64 b) .plain := run_store P w a _ _ rfl
end Go.Proofs.Ytmmonaiokageeaa.Fl
