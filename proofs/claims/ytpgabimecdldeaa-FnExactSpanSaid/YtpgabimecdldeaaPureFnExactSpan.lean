/-
  The plain statement of FnExactSpan: both sides take the greatest end of the runs, and the argument is not written.
  Conditions: the statement's own.
-/
import Derived.Test.YtpgabimecdldeaaPFnExactSpanx0
import Derived.Test.YtpgabimecdldeaaPFnExactSpanx1
import Derived.Test.YtpgabimecdldeaaPFnExactSpanx2
import Derived.Test.YtpgabimecdldeaaPureBase
namespace Go.Proofs.Ytpgabimecdldeaa.Pure
open Go.RowKit Go.Proofs.Ytpgabimecdldeaa.PFnExactSpan Go.Proofs.YtpgabimecdldeaaW.PrintWords Go.Proofs.YtpgabimecdldeaaW.PrintLast Go.Proofs.YtpgabimecdldeaaW.PrintMore Go.Proofs.Ytpgabimecdldeaa.PB
set_option linter.unusedVariables false
set_option linter.unusedSimpArgs false
/-! #### laws_toRunS -/
def cvRun (a : S45) : S43 := ⟨a.f0, a.f1, a.f2, a.f3⟩
theorem toRunS_ev (xs : List S45) (h : xs.length ≤ 1048576) : Ev (fun k => laws_toRunS.f k xs) (xs.map cvRun) := by
  have key : ∀ d i, i + d = xs.length → Ev (fun k => laws_toRunS.l0 k xs ((xs.take i).map cvRun ++ List.replicate (xs.length - i) z43) (i : Int)) (xs.map cvRun) := by
    intro d
    induction d with
    | zero =>
      intro i hi
      refine ev_succ ?_
      have h1 : ¬ ((i : Int) < (xs.length : Int)) := by omega
      simp only [laws_toRunS.l0, h1, if_false]
      obtain rfl : i = xs.length := by omega
      exact ev_ret (by rw [fill_all])
    | succ d ih =>
      intro i hi
      have hlt : i < xs.length := by omega
      refine ev_succ ?_
      have h1 : (i : Int) < (xs.length : Int) := by omega
      have h2 : (0 : Int) ≤ (i : Int) := by omega
      have h3 : (i : Int) < ((((xs.take i).map cvRun ++ List.replicate (xs.length - i) z43).length : Nat) : Int) := by rw [fill_len _ _ _ _ (by omega)]; omega
      have h4 := w64s (n := i) (by omega)
      simp only [laws_toRunS.l0, laws_toRun.f, h1, h2, h3, if_true, h4, Option.bind_some]
      have := ih (i + 1) (by omega)
      rw [← fill_set cvRun z45 z43 xs i hlt] at this
      exact this
  have h1 : (0 : Int) ≤ (xs.length : Int) := by omega
  have h2 : xs.length ≤ 8796093022208 := by omega
  simp only [laws_toRunS.f, h1, Int.toNat_natCast, h2, if_true]
  have := key xs.length 0 (by omega)
  rw [← fill_none cvRun z43 xs] at this
  exact this

/-! #### laws_eqRunS at one list twice -/
theorem eqRunS_refl (xs : List S43) (h : xs.length ≤ 4611686018427387904) : Ev (fun k => laws_eqRunS.f k xs xs) true := by
  have key : ∀ d i, i + d = xs.length → Ev (fun k => laws_eqRunS.l0 k xs xs (i : Int)) true := by
    intro d
    induction d with
    | zero =>
      intro i hi
      refine ev_succ ?_
      have h1 : ¬ ((i : Int) < (xs.length : Int)) := by omega
      simp only [laws_eqRunS.l0, h1, if_false]
      exact ev_ret rfl
    | succ d ih =>
      intro i hi
      refine ev_succ ?_
      have h1 : (i : Int) < (xs.length : Int) := by omega
      have h2 : (0 : Int) ≤ (i : Int) := by omega
      have h4 := w64s (n := i) (by omega)
      simp only [laws_eqRunS.l0, laws_eqRun.f, h1, h2, if_true, h4, Option.bind_some]
      exact ih (i + 1) (by omega)
  simp only [laws_eqRunS.f, if_true]
  exact key xs.length 0 (by omega)

/-! #### Span -/
def spanV (xs : List S43) : Int := if xs.length = 0 ∨ 200 < xs.length then 0 else xs.foldl (fun m r => mx m r.f3) (rd_T43 xs 0).f3
theorem mx_self (a : Int) : mx a a = a := by unfold mx; split <;> rfl
theorem spec_Span_ev (xs : List S43) (hl : xs.length ≤ 4611686018427387904) : Ev (fun k => spec_Span.f k xs) (spanV xs) := by
  have key : ∀ d i (n : Int), xs.length ≤ 200 → 0 < i → i + d = xs.length → Ev (fun k => spec_Span.l0 k xs n (i : Int)) ((xs.drop i).foldl (fun m r => mx m r.f3) n) := by
    intro d
    induction d with
    | zero =>
      intro i n hl h0 hi
      refine ev_succ ?_
      have h1 : ¬ (i : Int) < (xs.length : Int) := by omega
      simp only [spec_Span.l0, h1, if_false]
      refine ev_succ ?_
      simp only [spec_Span.j1, Bool.false_eq_true, if_false]
      exact ev_ret (by rw [drop_end (by omega)]; rfl)
    | succ d ih =>
      intro i n hl h0 hi
      refine ev_succ ?_
      have h1 : (i : Int) < (xs.length : Int) := by omega
      have h2 : (0 : Int) ≤ (i : Int) := by omega
      have h3 : ¬ (i : Int) = 0 := by omega
      have h4 := w64s (n := i) (by omega)
      have h5 : decide ((xs.length : Int) ≤ 200) = true := decide_eq_true (by omega)
      simp only [spec_Span.l0, h1, if_true, h5]
      refine ev_succ ?_
      simp only [spec_Span.j1, h1, h2, h3, h4, if_true, if_false]
      rw [drop_getD z43 xs i (by omega), List.foldl_cons]
      have he : ∀ n, mx n (xs.getD i z43).f3 = if (rd_T43 xs (i : Int)).f3 > n then (rd_T43 xs (i : Int)).f3 else n := fun n => rfl
      rw [he]
      refine ev_ite (fun h => ?_) (fun h => ?_)
      · rw [if_pos h]; exact ih (i + 1) _ hl (by omega) (by omega)
      · rw [if_neg h]; exact ih (i + 1) _ hl (by omega) (by omega)
  unfold spanV
  simp only [spec_Span.f]
  refine ev_succ ?_
  by_cases h0 : xs.length = 0
  · have h1 : ¬ (0 : Int) < (xs.length : Int) := by omega
    simp only [spec_Span.l0, h1, if_false]
    refine ev_succ ?_
    simp only [spec_Span.j1, Bool.false_eq_true, if_false]
    exact ev_ret (by rw [if_pos (.inl h0)])
  · have h1 : (0 : Int) < (xs.length : Int) := by omega
    simp only [spec_Span.l0, h1, if_true]
    refine ev_succ ?_
    by_cases h2 : (xs.length : Int) ≤ 200
    · have h4 : wrap64 ((0 : Int) + 1) = ((1 : Nat) : Int) := by unfold wrap64; omega
      simp only [spec_Span.j1, decide_eq_true h2, if_true, h1, Int.le_refl, h4]
      rw [if_neg (by omega)]
      refine ev_eq (key (xs.length - 1) 1 _ (by omega) (by omega) (by omega)) ?_
      conv => rhs; rw [← List.drop_zero (l := xs), drop_getD z43 xs 0 (by omega), List.foldl_cons]
      have : mx (rd_T43 (xs.getD 0 z43 :: xs.drop (0 + 1)) 0).f3 (xs.getD 0 z43).f3 = (xs.getD 0 z43).f3 := mx_self _
      rw [this]
      rfl
    · simp only [spec_Span.j1, decide_eq_false h2, Bool.false_eq_true, if_false]
      exact ev_ret (by rw [if_pos (.inr (by omega))])
theorem impl_Span_ev (xs : List S43) (hl : xs.length ≤ 4611686018427387904) : Ev (fun k => impl_Span.f k xs) (spanV xs) := by
  have key : ∀ d i (n : Int), i + d = xs.length → Ev (fun k => impl_Span.l0 k n xs (xs.length : Int) (i : Int)) ((xs.drop i).foldl (fun m r => mx m r.f3) n) := by
    intro d
    induction d with
    | zero =>
      intro i n hi
      refine ev_succ ?_
      have h1 : ¬ (i : Int) < (xs.length : Int) := by omega
      simp only [impl_Span.l0, h1, if_false]
      exact ev_ret (by rw [drop_end (by omega)]; rfl)
    | succ d ih =>
      intro i n hi
      refine ev_succ ?_
      have h1 : (i : Int) < (xs.length : Int) := by omega
      have h2 : (0 : Int) ≤ (i : Int) := by omega
      have h4 := w64s (n := i) (by omega)
      simp only [impl_Span.l0, h1, h2, h4, if_true]
      rw [drop_getD z43 xs i (by omega), List.foldl_cons]
      exact ih (i + 1) _ (by omega)
  unfold spanV
  simp only [impl_Span.f]
  refine ev_ite (fun h => ?_) (fun h => ?_)
  · refine ev_succ ?_
    simp only [impl_Span.j0, if_true]
    exact ev_ret (by rw [if_pos (.inl (by omega))])
  · refine ev_succ ?_
    by_cases h2 : (xs.length : Int) > 200
    · simp only [impl_Span.j0, decide_eq_true h2, if_true]
      exact ev_ret (by rw [if_pos (.inr (by omega))])
    · have h3 : (0 : Int) < (xs.length : Int) := by omega
      simp only [impl_Span.j0, decide_eq_false h2, Bool.false_eq_true, if_false, h3, if_true]
      rw [if_neg (by omega)]
      exact ev_eq (key xs.length 0 _ (by omega)) (by rw [List.drop_zero])

theorem FnExactSpan : ∀ (l0 : List S45), (l0.length ≤ maxLen ∧ ∀ y1 ∈ l0, ((Lit.int .i64 y1.f0).wf = true ∧ ((Lit.int .i64 y1.f1).wf = true ∧ ((Lit.int .i64 y1.f2).wf = true ∧ (Lit.int .i64 y1.f3).wf = true)))) → ∃ k, laws_FnExactSpan.f k l0 = some true := by
  intro l0 ⟨hl, _⟩
  unfold maxLen at hl
  apply Ev.rounds
  have h5 : wrap64 (1048576 - (l0.length : Int)) = 1048576 - (l0.length : Int) := w64 (by omega) (by omega)
  simp only [laws_FnExactSpan.f, laws_szRunS.f, h5]
  by_cases h6 : 1048576 - (l0.length : Int) < 0
  · simp only [h6, if_true, Option.bind_some, show (-1 : Int) < 0 by omega]
    exact ev_ret rfl
  · simp only [h6, if_false, Option.bind_some]
    have h1 : l0.length ≤ 1048576 := by omega
    have h3 : (l0.map cvRun).length ≤ 1048576 := by simpa using h1
    refine ev_bind (toRunS_ev l0 h1) ?_
    refine ev_bind (spec_Span_ev _ (by omega)) ?_
    refine ev_bind (toRunS_ev l0 h1) ?_
    refine ev_bind (impl_Span_ev _ (by omega)) ?_
    simp only [if_true]
    refine ev_bind (toRunS_ev l0 h1) ?_
    refine ev_bind (eqRunS_refl _ (by omega)) ?_
    simp only [if_true]
    exact ev_ret rfl
end Go.Proofs.Ytpgabimecdldeaa.Pure
