/-
  The plain statement of FnExactKeyMask: both sides give one number.
  Conditions: none.
-/
import Derived.Test.YtdhhdphpfleikaaHFnExactKeyMaskx0
import Derived.Test.YtdhhdphpfleikaaHFnExactKeyMaskx1
import Derived.Test.YtdhhdphpfleikaaHFnExactKeyMaskx2
import Derived.Test.YtdhhdphpfleikaaPureBase
import Derived.Laws.BitsLemmas
namespace Go.Proofs.Ytdhhdphpfleikaa.Pure
open Go.RowKit Go.Proofs.Ytdhhdphpfleikaa.HFnExactKeyMask Go.Proofs.YtdhhdphpfleikaaW.PrintWords Go.Proofs.YtdhhdphpfleikaaW.PrintLast Go.Proofs.YtdhhdphpfleikaaW.PrintMore Go.Proofs.Ytdhhdphpfleikaa.PB
set_option linter.unusedVariables false
set_option linter.unusedSimpArgs false
theorem spec_in_eq (a lo hi : Int) : spec_l1In.f a lo hi = some (decide (lo ≤ a ∧ a ≤ hi)) := by
  unfold spec_l1In.f
  by_cases h : a ≥ lo
  · rw [if_pos h]; simp [show lo ≤ a from h]
  · rw [if_neg h]; simp; omega

theorem impl_in_eq (a lo hi : Int) : impl_in.f a lo hi = some (decide (lo ≤ a ∧ a ≤ hi)) := by
  unfold impl_in.f
  by_cases h : lo ≤ a
  · rw [if_pos h]; simp [h]
  · rw [if_neg h]; simp; omega

/-! #### KeyMask -/
def vP (a b c : Int) : Prop := (0 ≤ a ∧ a ≤ 65535) ∧ (0 ≤ b ∧ b ≤ 65535) ∧ (0 ≤ c ∧ c ≤ 65535)
instance (a b c : Int) : Decidable (vP a b c) := by unfold vP; infer_instance
theorem specV (a b c : Int) : spec_l9Rgb.f a b c = some (decide (vP a b c)) := by
  unfold spec_l9Rgb.f spec_l9In.f vP
  simp only [spec_in_eq, Option.bind_some]
  by_cases h1 : 0 ≤ a ∧ a ≤ 65535
  · by_cases h2 : 0 ≤ b ∧ b ≤ 65535
    · simp [h1, h2]
    · simp [h1, h2]
  · simp [h1]
theorem implV (a b c : Int) : impl_Rgb_ok.f a b c = some (decide (vP a b c)) := by
  unfold impl_Rgb_ok.f impl_isValue.f vP
  simp only [impl_in_eq, Option.bind_some]
  by_cases h1 : 0 ≤ a ∧ a ≤ 65535
  · by_cases h2 : 0 ≤ b ∧ b ≤ 65535
    · simp [h1, h2]
    · simp [h1, h2]
  · simp [h1]
def ab (x : Int) : Int := if x < 0 then -x else x
def mx (a b : Int) : Int := if a < b then b else a
theorem ab_ge (x : Int) : 0 ≤ ab x := by unfold ab; split <;> omega
theorem ab_le {x n : Int} (h1 : -n ≤ x) (h2 : x ≤ n) : ab x ≤ n := by unfold ab; split <;> omega
theorem mx_ge {a b : Int} : a ≤ mx a b ∧ b ≤ mx a b := by unfold mx; split <;> omega
theorem mx_le {a b n : Int} (h1 : a ≤ n) (h2 : b ≤ n) : mx a b ≤ n := by unfold mx; split <;> omega
theorem kstep (d p q : Int) (hp : 0 ≤ p ∧ p ≤ 65535) (hq : 0 ≤ q ∧ q ≤ 65535) (hd : 0 ≤ d) :
    (if (if d < wrap64 (p - q) then wrap64 (p - q) else d) < wrap64 (q - p) then wrap64 (q - p) else (if d < wrap64 (p - q) then wrap64 (p - q) else d)) = mx d (ab (p - q)) := by
  rw [w64 (x := p - q) (by omega) (by omega), w64 (x := q - p) (by omega) (by omega)]
  unfold mx ab
  repeat' split
  all_goals omega
def dist (a b c d e f : Int) : Int := mx (mx (ab (c - f)) (ab (b - e))) (ab (a - d))
theorem dist_bd {a b c d e f : Int} (h1 : vP a b c) (h2 : vP d e f) : 0 ≤ dist a b c d e f ∧ dist a b c d e f ≤ 65535 := by
  obtain ⟨h3, h4, h5⟩ := h1
  obtain ⟨h6, h7, h8⟩ := h2
  refine ⟨Int.le_trans (ab_ge _) mx_ge.2, mx_le (mx_le (ab_le (by omega) (by omega)) (ab_le (by omega) (by omega))) (ab_le (by omega) (by omega))⟩
theorem D3 {a b c d e f : Int} (h1 : vP a b c) (h2 : vP d e f) : impl_KeyMask_D a b c d e f 3 = dist a b c d e f := by
  obtain ⟨h3, h4, h5⟩ := h1
  obtain ⟨h6, h7, h8⟩ := h2
  have e1 : impl_KeyMask_D a b c d e f 1 = mx 0 (ab (a - d)) := kstep 0 a d h3 h6 (by omega)
  have g1 : 0 ≤ impl_KeyMask_D a b c d e f 1 := by rw [e1]; exact mx_ge.1
  have e2 : impl_KeyMask_D a b c d e f 2 = mx (impl_KeyMask_D a b c d e f 1) (ab (b - e)) := kstep _ b e h4 h7 g1
  have g2 : 0 ≤ impl_KeyMask_D a b c d e f 2 := by rw [e2]; exact Int.le_trans g1 mx_ge.1
  have e3 : impl_KeyMask_D a b c d e f 3 = mx (impl_KeyMask_D a b c d e f 2) (ab (c - f)) := kstep _ c f h5 h8 g2
  rw [e3, e2, e1]
  unfold dist
  have q1 := ab_ge (a - d)
  have q2 := ab_ge (b - e)
  have q3 := ab_ge (c - f)
  generalize ab (a - d) = x at *
  generalize ab (b - e) = y at *
  generalize ab (c - f) = z at *
  unfold mx
  repeat' split
  all_goals omega
def nv (x y : Int) : Int := (2 * x + y) / (2 * y)
theorem near_eq {x y : Int} (hx : 0 ≤ x ∧ x ≤ 4294967296) (hy : 0 < y ∧ y ≤ 65536) : impl_near.f x y = some (nv x y) := by
  have q0 : 0 ≤ (2 * x + y) / (2 * y) := Int.ediv_nonneg (by omega) (by omega)
  have q1 : (2 * x + y) / (2 * y) ≤ 2 * x + y := Int.ediv_le_self _ (by omega)
  have q2 : ¬ Int.tmod (2 * x + y) (2 * y) < 0 := by
    have := Int.tmod_nonneg (a := 2 * x + y) (2 * y) (by omega)
    omega
  have q3 : ¬ (2 * y = 0) := by omega
  unfold impl_near.f impl_down.f
  rw [w64 (x := 2 * x) (by omega) (by omega), w64 (x := 2 * x + y) (by omega) (by omega), w64 (x := 2 * y) (by omega) (by omega), if_neg q3, if_neg q2, Int.tdiv_eq_ediv_of_nonneg (by omega), w64 (by omega) (by omega)]
  rfl
theorem round_eq (x y : Int) : spec_l9Round.f x y = impl_near.f x y := rfl
def okP (a b c d e f n r : Int) : Prop := vP a b c ∧ vP d e f ∧ 0 ≤ n ∧ n < r ∧ r ≤ 65535
instance (a b c d e f n r : Int) : Decidable (okP a b c d e f n r) := by unfold okP; infer_instance
def gv (D n r : Int) : Int := if D ≤ n then 65535 else if r ≤ D then 0 else nv (65535 * (r - D)) (r - n)
def kmV (a b c d e f n r : Int) : Int := if okP a b c d e f n r then gv (dist a b c d e f) n r else 0
theorem gv_eq {D n r : Int} (hD : 0 ≤ D ∧ D ≤ 65535) (hn : 0 ≤ n ∧ n < r ∧ r ≤ 65535) :
    (if D ≤ n then some 65535 else if r ≤ D then some 0 else impl_near.f (wrap64 (65535 * wrap64 (r - D))) (wrap64 (r - n))) = some (gv D n r) := by
  unfold gv
  by_cases h4 : D ≤ n
  · rw [if_pos h4, if_pos h4]
  · rw [if_neg h4, if_neg h4]
    by_cases h5 : r ≤ D
    · rw [if_pos h5, if_pos h5]
    · rw [if_neg h5, if_neg h5, w64 (x := r - D) (by omega) (by omega), w64 (x := 65535 * (r - D)) (by omega) (by omega), w64 (x := r - n) (by omega) (by omega), near_eq (by omega) (by omega)]
theorem impl_KeyMask_eq (a b c d e f n r : Int) : impl_KeyMask.f a b c d e f n r = some (kmV a b c d e f n r) := by
  unfold impl_KeyMask.f kmV
  simp only [implV, Option.bind_some]
  by_cases h1 : vP a b c
  · rw [if_pos (decide_eq_true h1)]
    by_cases h2 : vP d e f
    · rw [if_pos (decide_eq_true h2)]
      by_cases h3 : 0 ≤ n ∧ n < r ∧ r ≤ 65535
      · rw [if_pos h3, if_pos (show okP a b c d e f n r from ⟨h1, h2, h3⟩), D3 h1 h2]
        exact gv_eq (dist_bd h1 h2) h3
      · rw [if_neg h3, if_neg (show ¬ okP a b c d e f n r from fun h => h3 h.2.2)]
    · rw [if_neg (by simp [h2]), if_neg (show ¬ okP a b c d e f n r from fun h => h2 h.2.1)]
  · rw [if_neg (by simp [h1]), if_neg (show ¬ okP a b c d e f n r from fun h => h1 h.1)]
theorem abs_eq {p q : Int} (hp : 0 ≤ p ∧ p ≤ 65535) (hq : 0 ≤ q ∧ q ≤ 65535) : spec_l1Abs.f (wrap64 (p - q)) = some (ab (p - q)) := by
  unfold spec_l1Abs.f ab
  rw [w64 (x := p - q) (by omega) (by omega)]
  by_cases h : p - q < 0
  · rw [if_pos h, if_pos h, w64 (by omega) (by omega)]
  · rw [if_neg h, if_neg h]
theorem max_eq (p q : Int) : spec_l1Max.f p q = some (mx q p) := by
  unfold spec_l1Max.f mx
  by_cases h : q < p
  · rw [if_pos h, if_pos h]
  · rw [if_neg h, if_neg h]
theorem spec_KeyMask_ev (a b c d e f n r : Int) : Ev (fun k => spec_KeyMask.f k a b c d e f n r) (kmV a b c d e f n r) := by
  have j0 : ∀ z : Bool, (z = true → ¬ okP a b c d e f n r) → (z = false → okP a b c d e f n r) → Ev (fun k => spec_KeyMask.j0 k n r z a b c d e f) (kmV a b c d e f n r) := by
    intro z hz1 hz0
    refine ev_succ ?_
    simp only [spec_KeyMask.j0]
    unfold kmV
    cases z with
    | true =>
      rw [if_neg (hz1 rfl)]
      exact ev_ret rfl
    | false =>
      have h := hz0 rfl
      rw [if_pos h]
      obtain ⟨h1, h2, h3⟩ := h
      have hD := dist_bd h1 h2
      simp only [Bool.false_eq_true, if_false, abs_eq h1.1 h2.1, abs_eq h1.2.1 h2.2.1, abs_eq h1.2.2 h2.2.2, max_eq, Option.bind_some, round_eq]
      refine ev_ret ?_
      rw [← gv_eq hD h3]
      show (if dist a b c d e f ≤ n then some 65535 else if dist a b c d e f ≥ r then some 0 else (impl_near.f (wrap64 (65535 * wrap64 (r - dist a b c d e f))) (wrap64 (r - n))).bind fun t => some t) = _
      have e : ∀ o : Option Int, (o.bind fun t => some t) = o := fun o => by cases o <;> rfl
      simp only [e, ge_iff_le]
  unfold spec_KeyMask.f
  simp only [specV, Option.bind_some]
  refine ev_ite (fun h1 => ?_) (fun h1 => j0 true (fun _ h => h1 (decide_eq_true h.1)) (fun h => by cases h))
  refine ev_ite (fun h2 => ?_) (fun h2 => j0 true (fun _ h => h2 (decide_eq_true h.2.1)) (fun h => by cases h))
  refine ev_ite (fun h3 => j0 true (fun _ h => absurd h.2.2.1 (by omega)) (fun h => by cases h)) (fun h3 => ?_)
  refine ev_ite (fun h4 => j0 true (fun _ h => absurd h.2.2.2.1 (by omega)) (fun h => by cases h)) (fun h4 => ?_)
  refine j0 _ (fun h5 h => ?_) (fun h5 => ⟨of_decide_eq_true h1, of_decide_eq_true h2, by omega, by omega, ?_⟩)
  · have := of_decide_eq_true h5
    have := h.2.2.2.2
    omega
  · have := of_decide_eq_false h5
    omega

theorem FnExactKeyMask : ∀ (a0_0 : Int) (a0_1 : Int) (a0_2 : Int) (a1_0 : Int) (a1_1 : Int) (a1_2 : Int) (a2 : Int) (a3 : Int), ((Lit.int .i64 a0_0).wf = true ∧ ((Lit.int .i64 a0_1).wf = true ∧ (Lit.int .i64 a0_2).wf = true)) → ((Lit.int .i64 a1_0).wf = true ∧ ((Lit.int .i64 a1_1).wf = true ∧ (Lit.int .i64 a1_2).wf = true)) → (Lit.int .i64 a2).wf = true → (Lit.int .i64 a3).wf = true → ∃ k, laws_FnExactKeyMask.f k a0_0 a0_1 a0_2 a1_0 a1_1 a1_2 a2 a3 = some true := by
  intro a b c d e f n r _ _ _ _
  apply Ev.rounds
  simp only [laws_FnExactKeyMask.f, laws_toRgb.f, Option.bind_some, impl_KeyMask_eq]
  refine ev_bind (spec_KeyMask_ev a b c d e f n r) ?_
  simp only [if_true]
  exact ev_ret rfl
end Go.Proofs.Ytdhhdphpfleikaa.Pure
