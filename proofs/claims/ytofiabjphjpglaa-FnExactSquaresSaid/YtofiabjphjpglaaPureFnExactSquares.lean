/-
  The plain statement of FnExactSquares: both sides give one row of doubles, the argument is not written, and the answer owns its memory.
  Conditions: the statement's own.
-/
import Derived.Test.YtofiabjphjpglaaHFnExactSquaresx0
import Derived.Test.YtofiabjphjpglaaHFnExactSquaresx1
import Derived.Test.YtofiabjphjpglaaPureBase
import Derived.Laws.BitsLemmas
namespace Go.Proofs.Ytofiabjphjpglaa.Pure
open Go.RowKit Go.Proofs.Ytofiabjphjpglaa.HFnExactSquares Go.Proofs.YtofiabjphjpglaaW.PrintWords Go.Proofs.YtofiabjphjpglaaW.PrintLast Go.Proofs.YtofiabjphjpglaaW.PrintMore Go.Proofs.Ytofiabjphjpglaa.PB Go.Proofs.Ytofiabjphjpglaa.Fl
set_option linter.unusedVariables false
set_option linter.unusedSimpArgs false
/-! #### the laws' own words, at rows alike -/
theorem toF {l : List Fl} (h : l.length ≤ 1048576) : laws_toFloat64S.f l = some l := by unfold laws_toFloat64S.f; rw [if_pos h]
theorem eqF (l : List Fl) : laws_eqFloat64S.f l l = some true := by unfold laws_eqFloat64S.f; rw [if_pos rfl]
theorem markF {l : List Fl} (h : l.length ≤ 1048576) (k : Nat) (hk : k ≤ 2097152) : laws_markFloat64S.f l (k : Int) = some (((k + l.length : Nat) : Int), markG (k : Int) l.length) := by
  unfold laws_markFloat64S.f
  rw [if_pos ⟨by omega, by omega, h⟩]
  simp
theorem markF1 {l : List Fl} (h : l.length ≤ 1048576) : laws_markFloat64S.f l 1 = some (((1 + l.length : Nat) : Int), markG 1 l.length) := markF h 1 (by omega)
theorem heldF1 {n : Nat} (h : n ≤ 1048576) : laws_heldFloat64S.f (markG 1 n) 1 = some ((1 + n : Nat) : Int) := by
  unfold laws_heldFloat64S.f
  rw [if_pos ⟨⟨by omega, by omega, by rw [markG_len]; exact h⟩, by rw [markG_len]⟩, markG_len]
  simp
theorem neg_nat {α : Type} (n : Nat) (a b : α) : (if ((n : Nat) : Int) < 0 then a else b) = b := if_neg (by omega)
theorem panF_len (xs : List Fl) (a : Fl) : (panF xs a).length ≤ 1048576 := by
  unfold panF; split
  · rw [panG_len]; omega
  · simp
theorem mixF_len (xs ys : List Fl) (a b : Fl) : (mixF xs ys a b).length ≤ 1048576 := by
  unfold mixF; split
  · rw [mixG_len]; omega
  · simp
theorem faderF_len (xs : List Fl) (a b : Int) : (faderF xs a b).length ≤ 1048576 := by
  unfold faderF; split
  · rw [faderG_len]; omega
  · simp
theorem sqF_len (xs : List Fl) (n : Int) : (sqF xs n).length ≤ 1048576 := by
  unfold sqF; split
  · rw [sqG_len]; have := Nat.div_le_self xs.length n.toNat; omega
  · simp
theorem convF_len (xs hs : List Fl) : (convF xs hs).length ≤ 1048576 := by
  unfold convF; split
  · simp
  · rw [convG_len]; omega

theorem FnExactSquares : ∀ (l0 : List Fl) (a1 : Int), (l0.length ≤ maxLen ∧ ∀ y1 ∈ l0, True) → (Lit.int .i64 a1).wf = true → ∃ k, laws_FnExactSquares.f k l0 a1 = some true := by
  intro l0 a1 _ _
  refine ⟨1, ?_⟩
  by_cases g0 : (l0.length : Int) > 1048576
  · unfold laws_FnExactSquares.f
    rw [if_pos g0]
  · have h0 : l0.length ≤ 1048576 := by omega
    have hr : (sqF l0 a1).length ≤ 1048576 := sqF_len _ _
    have e1 : spec_Squares.f l0 a1 = some (sqF l0 a1) := rfl
    have e2 : impl_Squares.f l0 a1 = some (sqF l0 a1) := rfl
    unfold laws_FnExactSquares.f laws_FnExactSquares.j0
    rw [if_neg g0]
    simp only [toF h0, e1, e2, eqF, markF1 h0, markF1 hr, heldF1 hr, Option.bind_some, if_true, neg_nat, Bool.not_true, Bool.false_eq_true, if_false]
end Go.Proofs.Ytofiabjphjpglaa.Pure
