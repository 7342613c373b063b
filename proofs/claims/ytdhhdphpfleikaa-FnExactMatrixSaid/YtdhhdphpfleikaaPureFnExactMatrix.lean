/-
  The plain statement of FnExactMatrix: both sides give one colour, and the argument is not written.
  Conditions: the statement's own.
-/
import Derived.Test.YtdhhdphpfleikaaHFnExactMatrixx0
import Derived.Test.YtdhhdphpfleikaaHFnExactMatrixx1
import Derived.Test.YtdhhdphpfleikaaHFnExactMatrixx2
import Derived.Test.YtdhhdphpfleikaaHFnExactMatrixx3
import Derived.Test.YtdhhdphpfleikaaHFnExactMatrixx4
import Derived.Test.YtdhhdphpfleikaaPureBase
import Derived.Laws.BitsLemmas
namespace Go.Proofs.Ytdhhdphpfleikaa.Pure
open Go.RowKit Go.Proofs.Ytdhhdphpfleikaa.HFnExactMatrix Go.Proofs.YtdhhdphpfleikaaW.PrintWords Go.Proofs.YtdhhdphpfleikaaW.PrintLast Go.Proofs.YtdhhdphpfleikaaW.PrintMore Go.Proofs.Ytdhhdphpfleikaa.PB
set_option linter.unusedVariables false
set_option linter.unusedSimpArgs false
theorem spec_in_eq (a lo hi : Int) : spec_l1In.f a lo hi = some (decide (lo ≤ a ∧ a ≤ hi)) := by
  unfold spec_l1In.f
  by_cases h : a ≥ lo
  · rw [if_pos h]; simp [show lo ≤ a from h]
  · rw [if_neg h]; simp; omega

theorem impl_in_eq (a lo hi : Int) : impl_in.f a lo hi = some (decide (lo ≤ a ∧ a ≤ hi)) := by
  unfold impl_in.f
  by_cases h : lo ≤ a
  · rw [if_pos h]; simp [h]
  · rw [if_neg h]; simp; omega

/-! #### laws_toInt64S, laws_eqInt64S -/
theorem toInt64S_ev (xs : List Int) (h : xs.length ≤ 1048576) : Ev (fun k => laws_toInt64S.f k xs) xs := by
  have key : ∀ d i, i + d = xs.length → Ev (fun k => laws_toInt64S.l0 k xs ((xs.take i).map id ++ List.replicate (xs.length - i) 0) (i : Int)) (xs.map id) := by
    intro d
    induction d with
    | zero =>
      intro i hi
      refine ev_succ ?_
      have h1 : ¬ ((i : Int) < (xs.length : Int)) := by omega
      simp only [laws_toInt64S.l0, h1, if_false]
      obtain rfl : i = xs.length := by omega
      exact ev_ret (by rw [fill_all])
    | succ d ih =>
      intro i hi
      have hlt : i < xs.length := by omega
      refine ev_succ ?_
      have h1 : (i : Int) < (xs.length : Int) := by omega
      have h2 : (0 : Int) ≤ (i : Int) := by omega
      have h3 : (i : Int) < ((((xs.take i).map id ++ List.replicate (xs.length - i) (0 : Int)).length : Nat) : Int) := by rw [fill_len _ _ _ _ (by omega)]; omega
      have h4 := w64s (n := i) (by omega)
      simp only [laws_toInt64S.l0, h1, h2, h3, if_true, h4]
      have := ih (i + 1) (by omega)
      rw [← fill_set id 0 0 xs i hlt] at this
      exact this
  have h1 : (0 : Int) ≤ (xs.length : Int) := by omega
  have h2 : xs.length ≤ 35184372088832 := by omega
  simp only [laws_toInt64S.f, h1, Int.toNat_natCast, h2, if_true]
  have := key xs.length 0 (by omega)
  rw [← fill_none id 0 xs, List.map_id] at this
  exact this
theorem eqInt64S_ev (xs ys : List Int) (h : xs.length ≤ 4611686018427387904) : Ev (fun k => laws_eqInt64S.f k xs ys) (decide (xs = ys)) := by
  have key : ∀ d i, i + d = xs.length → xs.length = ys.length → Ev (fun k => laws_eqInt64S.l0 k xs ys (i : Int)) (decide (xs.drop i = ys.drop i)) := by
    intro d
    induction d with
    | zero =>
      intro i hi hl
      refine ev_succ ?_
      have h1 : ¬ ((i : Int) < (xs.length : Int)) := by omega
      simp only [laws_eqInt64S.l0, h1, if_false]
      exact ev_ret (by rw [drop_end (by omega), drop_end (by omega)]; simp)
    | succ d ih =>
      intro i hi hl
      refine ev_succ ?_
      have h1 : (i : Int) < (xs.length : Int) := by omega
      have h2 : (0 : Int) ≤ (i : Int) := by omega
      have h3 : (i : Int) < (ys.length : Int) := by omega
      have h4 := w64s (n := i) (by omega)
      simp only [laws_eqInt64S.l0, h1, h2, h3, if_true, h4]
      rw [drop_rd xs i (by omega), drop_rd ys i (by omega)]
      by_cases he : rd xs (i : Int) = rd ys (i : Int)
      · simp only [he, if_true]
        exact ev_eq (ih (i + 1) (by omega) hl) (by simp)
      · simp only [he, if_false]
        exact ev_ret (by simp [he])
  by_cases hl : xs.length = ys.length
  · have h1 : (xs.length : Int) = (ys.length : Int) := by omega
    simp only [laws_eqInt64S.f, h1, if_true]
    exact ev_eq (key xs.length 0 (by omega) hl) (by simp)
  · have h1 : ¬ (xs.length : Int) = (ys.length : Int) := by omega
    simp only [laws_eqInt64S.f, h1, if_false]
    exact ev_ret (by
      have : xs ≠ ys := fun e => hl (by rw [e])
      simp [this])

theorem any_not_all {α : Type} (q : α → Bool) (xs : List α) : (xs.any fun c => !q c) = !(xs.all q) := by
  induction xs with
  | nil => rfl
  | cons c cs ih => simp [List.any_cons, List.all_cons, ih]

theorem mtx_idx_eq {α : Type} (q : α → Bool) : ∀ (l : List α) (i : Int), 0 ≤ i → (mtx_idxO (fun x => some (q x)) l i).bind (fun t => some (decide (0 ≤ t))) = some (l.any q)
  | [], i, _ => by simp [mtx_idxO]
  | x :: xs, i, h => by
    rw [mtx_idxO, List.any_cons]
    simp only [Option.bind_some]
    cases q x with
    | true => simp [h]
    | false => simpa using mtx_idx_eq q xs (i + 1) (by omega)

/-! #### colours -/
def vP (a b c : Int) : Prop := (0 ≤ a ∧ a ≤ 65535) ∧ (0 ≤ b ∧ b ≤ 65535) ∧ (0 ≤ c ∧ c ≤ 65535)
instance (a b c : Int) : Decidable (vP a b c) := by unfold vP; infer_instance
theorem specV (a b c : Int) : spec_l9Rgb.f a b c = some (decide (vP a b c)) := by
  unfold spec_l9Rgb.f spec_l9In.f vP
  simp only [spec_in_eq, Option.bind_some]
  by_cases h1 : 0 ≤ a ∧ a ≤ 65535
  · by_cases h2 : 0 ≤ b ∧ b ≤ 65535
    · simp [h1, h2]
    · simp [h1, h2]
  · simp [h1]
theorem implV (a b c : Int) : impl_Rgb_ok.f a b c = some (decide (vP a b c)) := by
  unfold impl_Rgb_ok.f impl_isValue.f vP
  simp only [impl_in_eq, Option.bind_some]
  by_cases h1 : 0 ≤ a ∧ a ≤ 65535
  · by_cases h2 : 0 ≤ b ∧ b ≤ 65535
    · simp [h1, h2]
    · simp [h1, h2]
  · simp [h1]

/-! #### Matrix -/
theorem near_tot (s : Int) : ∃ v, impl_near.f s 4096 = some v := by
  unfold impl_near.f impl_down.f
  rw [if_neg (show ¬ wrap64 (2 * 4096) = 0 by unfold wrap64; omega)]
  by_cases h : Int.tmod (wrap64 (wrap64 (2 * s) + 4096)) (wrap64 (2 * 4096)) < 0
  · rw [if_pos h]; exact ⟨_, rfl⟩
  · rw [if_neg h]; exact ⟨_, rfl⟩
def nr (s : Int) : Int := (impl_near.f s 4096).getD 0
theorem near_val (s : Int) : impl_near.f s 4096 = some (nr s) := by
  obtain ⟨v, hv⟩ := near_tot s
  unfold nr
  rw [hv]; rfl
theorem round_val (s : Int) : spec_l9Round.f s 4096 = some (nr s) := near_val s
def rowS (l : List Int) (a b c i : Int) : Int := wrap64 (wrap64 (wrap64 (rd l (3 * i) * a) + wrap64 (rd l (3 * i + 1) * b)) + wrap64 (rd l (3 * i + 2) * c))
def rowV (l : List Int) (a b c i : Int) : Int := impl_Matrix_cl (nr (rowS l a b c i))
theorem row_val (l : List Int) (a b c i : Int) : impl_Matrix_row l a b c i = some (nr (rowS l a b c i)) := near_val _
def inF (x : Int) : Bool := decide (-65536 ≤ x ∧ x ≤ 65536)
def matV (l : List Int) (a b c : Int) : Int × Int × Int := if vP a b c ∧ l.length = 9 ∧ l.all inF = true then (rowV l a b c 0, rowV l a b c 1, rowV l a b c 2) else (0, 0, 0)
theorem impl_Matrix_eq (l : List Int) (a b c : Int) : impl_Matrix.f l a b c = some (matV l a b c) := by
  unfold impl_Matrix.f matV
  simp only [implV, Option.bind_some]
  by_cases h1 : vP a b c
  · rw [if_pos (decide_eq_true h1)]
    by_cases h2 : l.length = 9
    · rw [if_pos h2]
      have e : (fun x => impl_Matrix_1.f x) = (fun x => some (!inF x)) := by
        funext x
        unfold impl_Matrix_1.f
        rw [impl_in_eq]
        rfl
      rw [e]
      have h4 := mtx_idx_eq (fun x => !inF x) l 0 (Int.le_refl _)
      obtain ⟨t, ht, h5⟩ := Option.bind_eq_some_iff.1 h4
      rw [ht, Option.bind_some]
      have h6 : decide (0 ≤ t) = !(l.all inF) := (Option.some.inj h5).trans (any_not_all inF l)
      rw [h6]
      cases hA : l.all inF with
      | true =>
        rw [if_neg (by decide), if_pos ⟨h1, h2, rfl⟩]
        simp only [row_val, Option.bind_some]
        rfl
      | false =>
        rw [if_pos (by decide), if_neg (fun h => by simp at h)]
    · rw [if_neg h2, if_neg (fun h => h2 h.2.1)]
  · rw [if_neg (by simp [h1]), if_neg (fun h => h1 h.1)]
theorem cl_val (n : Int) : ((spec_l1Max.f 0 n).bind fun t => spec_l1Min.f 65535 t) = some (impl_Matrix_cl n) := by
  unfold spec_l1Max.f spec_l1Min.f impl_Matrix_cl
  by_cases h : n < 0
  · rw [if_pos (show (0 : Int) > n from h)]
    simp only [Option.bind_some, h, if_true]
    split <;> rfl
  · rw [if_neg (show ¬ (0 : Int) > n from h)]
    simp only [Option.bind_some, h, if_false]
    split <;> rfl

theorem cl_ev {β : Type} (n : Int) (f : Nat → Int → Option β) {r : β} (h : Ev (fun k => f k (impl_Matrix_cl n)) r) : Ev (fun k => (spec_l1Max.f 0 n).bind fun t => (spec_l1Min.f 65535 t).bind fun u => f k u) r := by
  have e := cl_val n
  obtain ⟨t, ht, h2⟩ := Option.bind_eq_some_iff.1 e
  simp only [ht, h2, Option.bind_some]
  exact h
theorem l1_ev (l : List Int) (a b c : Int) (hl : l.length = 9) : Ev (fun k => spec_Matrix.l1 k l [0, 0, 0] 0 a b c) (rowV l a b c 0, rowV l a b c 1, rowV l a b c 2) := by
  have hq : (l.length : Int) = 9 := by omega
  have step : ∀ (i : Int) (out : List Int) (r : Int × Int × Int), 0 ≤ i → i < 3 → out.length = 3 → Ev (fun k => spec_Matrix.l1 k l (out.set i.toNat (rowV l a b c i)) (i + 1) a b c) r → Ev (fun k => spec_Matrix.l1 k l out i a b c) r := by
    intro i out r h0 h3 ho h
    refine ev_succ ?_
    have w1 : wrap64 (3 * i) = 3 * i := w64 (by omega) (by omega)
    have w2 : wrap64 (3 * i + 1) = 3 * i + 1 := w64 (by omega) (by omega)
    have w3 : wrap64 (3 * i + 2) = 3 * i + 2 := w64 (by omega) (by omega)
    have w4 : wrap64 (i + 1) = i + 1 := w64 (by omega) (by omega)
    simp only [spec_Matrix.l1, w1, w2, w3, w4, round_val, Option.bind_some]
    refine ev_pos h3 (ev_pos (by omega) (ev_pos (by omega) (ev_pos (by omega) (ev_pos (by omega) (ev_pos (by omega) (ev_pos (by omega) ?_))))))
    refine cl_ev _ _ ?_
    exact ev_pos h0 (ev_pos (by omega) h)
  refine step 0 _ _ (by omega) (by omega) rfl (step 1 _ _ (by omega) (by omega) rfl (step 2 _ _ (by omega) (by omega) rfl ?_))
  refine ev_succ ?_
  simp only [spec_Matrix.l1]
  exact ev_neg (by omega) (ev_pos (by simp) (ev_pos (by simp) (ev_pos (by simp) (ev_ret rfl))))
theorem l0_ev (l : List Int) (a b c : Int) (hl : l.length = 9) : ∀ d i : Nat, i + d = 9 → Ev (fun k => spec_Matrix.l0 k l (i : Int) a b c) (if (l.drop i).all inF = true then (rowV l a b c 0, rowV l a b c 1, rowV l a b c 2) else (0, 0, 0)) := by
  intro d
  induction d with
  | zero =>
    intro i hi
    refine ev_succ ?_
    rw [drop_end (by omega)]
    simp only [spec_Matrix.l0]
    exact ev_neg (by omega) (l1_ev l a b c hl)
  | succ d ih =>
    intro i hi
    refine ev_succ ?_
    have h4 := w64s (n := i) (by omega)
    rw [drop_rd l i (by omega), List.all_cons]
    simp only [spec_Matrix.l0, h4, spec_in_eq, Option.bind_some]
    refine ev_pos (by omega) (ev_pos (by omega) (ev_pos (by omega) ?_))
    refine ev_ite (fun h => ?_) (fun h => ?_)
    · rw [show inF (rd l (i : Int)) = true from h, Bool.true_and]
      exact ih (i + 1) (by omega)
    · rw [show inF (rd l (i : Int)) = false from Bool.eq_false_iff.2 h, Bool.false_and]
      exact ev_ret rfl
theorem spec_Matrix_ev (l : List Int) (a b c : Int) : Ev (fun k => spec_Matrix.f k l a b c) (matV l a b c) := by
  unfold spec_Matrix.f matV
  simp only [specV, Option.bind_some]
  refine ev_ite (fun h1 => ?_) (fun h1 => ?_)
  · have h1 := of_decide_eq_true h1
    refine ev_succ ?_
    simp only [spec_Matrix.j0]
    refine ev_ite (fun h2 => ?_) (fun h2 => ?_)
    · rw [if_neg (fun h => by have := h.2.1; simp [this] at h2)]
      exact ev_ret rfl
    · have h3 : l.length = 9 := by
        have : (l.length : Int) = 9 := by simpa using h2
        omega
      have := l0_ev l a b c h3 9 0 rfl
      rw [List.drop_zero] at this
      by_cases hA : l.all inF = true
      · rw [if_pos hA] at this
        rw [if_pos ⟨h1, h3, hA⟩]
        exact this
      · rw [if_neg hA] at this
        rw [if_neg (fun h => hA h.2.2)]
        exact this
  · rw [if_neg (fun h => h1 (decide_eq_true h.1))]
    refine ev_succ ?_
    simp only [spec_Matrix.j0, if_true]
    exact ev_ret rfl
theorem FnExactMatrix : ∀ (l0 : List Int) (a1_0 : Int) (a1_1 : Int) (a1_2 : Int), (l0.length ≤ maxLen ∧ ∀ y1 ∈ l0, (Lit.int .i64 y1).wf = true) → ((Lit.int .i64 a1_0).wf = true ∧ ((Lit.int .i64 a1_1).wf = true ∧ (Lit.int .i64 a1_2).wf = true)) → ∃ k, laws_FnExactMatrix.f k l0 a1_0 a1_1 a1_2 = some true := by
  intro l0 a b c _ _
  apply Ev.rounds
  simp only [laws_FnExactMatrix.f, laws_toRgb.f, Option.bind_some]
  refine ev_ite (fun _ => ev_ret rfl) (fun h => ?_)
  have hl : l0.length ≤ 1048576 := by omega
  refine ev_bind (toInt64S_ev l0 (by omega)) ?_
  refine ev_bind (spec_Matrix_ev l0 a b c) ?_
  refine ev_bind (toInt64S_ev l0 (by omega)) ?_
  simp only [impl_Matrix_eq, Option.bind_some, laws_eqRgb.f, if_true]
  refine ev_bind (toInt64S_ev l0 (by omega)) ?_
  refine ev_bind (eqInt64S_ev _ _ (by omega)) ?_
  simp only [decide_true, if_true]
  exact ev_ret rfl
end Go.Proofs.Ytdhhdphpfleikaa.Pure
