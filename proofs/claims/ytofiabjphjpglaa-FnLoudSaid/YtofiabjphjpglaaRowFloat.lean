/-
  From a reading of an argument to the kind of doubles.
  Conditions: none beyond what each theorem names.
-/
import Derived.Test.YtofiabjphjpglaaRowBase
import Derived.Test.YtofiabjphjpglaaFloatBase
import Derived.Laws.Cover2
namespace Go.Proofs.Ytofiabjphjpglaa.RowBase
open Go.ChangeShapes Go.WideShapes Go.ChangeAt Go.RowKit
open Go.Proofs.YtofiabjphjpglaaW.PrintWords Go.Proofs.Ytofiabjphjpglaa.Fl
set_option linter.unusedVariables false
set_option linter.unusedSimpArgs false
theorem Opn_float {P : Program} {T : TypeId} (h : P.underlying T = some (.float .f64)) : Opn P T Kf (fun _ => True) := by
  intro H enc w fuel cs x hx
  cases fuel with
  | zero => simp [DataW.trod] at hx
  | succ n =>
    rcases cs with _ | ⟨v, _ | ⟨u, t⟩⟩
    · simp [DataW.trod, h] at hx
    · cases v <;> simp [DataW.trod, h] at hx
      rename_i k b
      obtain ⟨⟨hk, _⟩, _⟩ := hx
      subst hk
      exact ⟨cv b, ⟨b, rfl, rfl⟩, trivial⟩
    · simp [DataW.trod, h] at hx
theorem float_arg {P : Program} {T : TypeId} {k : FloatKind} {H : Type} {enc : TypeId × Value → H} {W : World} {r : Reach} {b0 : Nat} {v : Value} {dd : DataW H} {p : List MemPlace} (ht : P.underlying T = some (.float k))
    (hok : Value.okWide P W r b0 T v) (h : DataW.Trod enc P W 0 (fun _ => true) true T v dd p) : ∃ b, v = .float k b ∧ (Lit.float k b).wf = true := by
  obtain ⟨b, e, _, _, hw⟩ := open_float ht hok h
  exact ⟨b, e, hw⟩
end Go.Proofs.Ytofiabjphjpglaa.RowBase
