/-
  The plain statement of FnExactScope: both sides count the colours alike, the argument is not written, and the answer owns its memory.
  Conditions: the statement's own.
-/
import Derived.Test.YtdhhdphpfleikaaHFnExactScopex0
import Derived.Test.YtdhhdphpfleikaaHFnExactScopex1
import Derived.Test.YtdhhdphpfleikaaHFnExactScopex2
import Derived.Test.YtdhhdphpfleikaaHFnExactScopex3
import Derived.Test.YtdhhdphpfleikaaPureBase
import Derived.Laws.BitsLemmas
namespace Go.Proofs.Ytdhhdphpfleikaa.Pure
open Go.RowKit Go.Proofs.Ytdhhdphpfleikaa.HFnExactScope Go.Proofs.YtdhhdphpfleikaaW.PrintWords Go.Proofs.YtdhhdphpfleikaaW.PrintLast Go.Proofs.YtdhhdphpfleikaaW.PrintMore Go.Proofs.Ytdhhdphpfleikaa.PB
set_option linter.unusedVariables false
set_option linter.unusedSimpArgs false
theorem spec_in_eq (a lo hi : Int) : spec_l1In.f a lo hi = some (decide (lo ≤ a ∧ a ≤ hi)) := by
  unfold spec_l1In.f
  by_cases h : a ≥ lo
  · rw [if_pos h]; simp [show lo ≤ a from h]
  · rw [if_neg h]; simp; omega

theorem impl_in_eq (a lo hi : Int) : impl_in.f a lo hi = some (decide (lo ≤ a ∧ a ≤ hi)) := by
  unfold impl_in.f
  by_cases h : lo ≤ a
  · rw [if_pos h]; simp [h]
  · rw [if_neg h]; simp; omega

/-! #### laws_toRgbS -/
def cvRgb (a : S23) : S25 := ⟨a.f0, a.f1, a.f2⟩
theorem toRgbS_ev (xs : List S23) (h : xs.length ≤ 1048576) : Ev (fun k => laws_toRgbS.f k xs) (xs.map cvRgb) := by
  have key : ∀ d i, i + d = xs.length → Ev (fun k => laws_toRgbS.l0 k xs ((xs.take i).map cvRgb ++ List.replicate (xs.length - i) z25) (i : Int)) (xs.map cvRgb) := by
    intro d
    induction d with
    | zero =>
      intro i hi
      refine ev_succ ?_
      have h1 : ¬ ((i : Int) < (xs.length : Int)) := by omega
      simp only [laws_toRgbS.l0, h1, if_false]
      obtain rfl : i = xs.length := by omega
      exact ev_ret (by rw [fill_all])
    | succ d ih =>
      intro i hi
      have hlt : i < xs.length := by omega
      refine ev_succ ?_
      have h1 : (i : Int) < (xs.length : Int) := by omega
      have h2 : (0 : Int) ≤ (i : Int) := by omega
      have h3 : (i : Int) < ((((xs.take i).map cvRgb ++ List.replicate (xs.length - i) z25).length : Nat) : Int) := by rw [fill_len _ _ _ _ (by omega)]; omega
      have h4 := w64s (n := i) (by omega)
      simp only [laws_toRgbS.l0, laws_toRgb.f, h1, h2, h3, if_true, h4, Option.bind_some]
      have := ih (i + 1) (by omega)
      rw [← fill_set cvRgb z23 z25 xs i hlt] at this
      exact this
  have h1 : (0 : Int) ≤ (xs.length : Int) := by omega
  have h2 : xs.length ≤ 11728124029610 := by omega
  simp only [laws_toRgbS.f, h1, Int.toNat_natCast, h2, if_true]
  have := key xs.length 0 (by omega)
  rw [← fill_none cvRgb z25 xs] at this
  exact this

/-! #### laws_eqRgbS at one list twice -/
theorem eqRgbS_refl (xs : List S25) (h : xs.length ≤ 4611686018427387904) : Ev (fun k => laws_eqRgbS.f k xs xs) true := by
  have key : ∀ d i, i + d = xs.length → Ev (fun k => laws_eqRgbS.l0 k xs xs (i : Int)) true := by
    intro d
    induction d with
    | zero =>
      intro i hi
      refine ev_succ ?_
      have h1 : ¬ ((i : Int) < (xs.length : Int)) := by omega
      simp only [laws_eqRgbS.l0, h1, if_false]
      exact ev_ret rfl
    | succ d ih =>
      intro i hi
      refine ev_succ ?_
      have h1 : (i : Int) < (xs.length : Int) := by omega
      have h2 : (0 : Int) ≤ (i : Int) := by omega
      have h4 := w64s (n := i) (by omega)
      simp only [laws_eqRgbS.l0, laws_eqRgb.f, h1, h2, if_true, h4, Option.bind_some]
      exact ih (i + 1) (by omega)
  simp only [laws_eqRgbS.f, if_true]
  exact key xs.length 0 (by omega)

/-! #### laws_markRgbS, laws_heldRgbS: three whole numbers a row -/
def mkRgb (k0 : Int) (j : Nat) : S25 := ⟨k0 + 3 * (j : Int), k0 + 3 * (j : Int) + 1, k0 + 3 * (j : Int) + 2⟩
def markRgb (k0 : Int) (n : Nat) : List S25 := (List.range n).map (mkRgb k0)
theorem markRgb_len (k0 : Int) (n : Nat) : (markRgb k0 n).length = n := by simp [markRgb]
theorem markRgb_rd (k0 : Int) (n i : Nat) (h : i < n) : rd_T25 (markRgb k0 n) (i : Int) = mkRgb k0 i := by
  simp [markRgb, rd_T25, List.getD_eq_getElem?_getD, List.getElem?_map, List.getElem?_range h]
theorem rdsetRgb (xs : List S25) (i : Nat) (v : S25) (h : i < xs.length) : rd_T25 (xs.set i v) (i : Int) = v := by
  simp [rd_T25, List.getD_eq_getElem?_getD, h]
theorem markRgbS_ev (xs : List S25) (k0 : Int) (hk : 0 ≤ k0) (hk2 : k0 + 3 * (xs.length : Int) < 9223372036854775800) : Ev (fun k => laws_markRgbS.f k xs k0) (k0 + 3 * (xs.length : Int), markRgb k0 xs.length) := by
  have key : ∀ d i, i + d = xs.length → Ev (fun k => laws_markRgbS.l0 k (markRgb k0 i ++ xs.drop i) (k0 + 3 * (i : Int)) (i : Int)) (k0 + 3 * (xs.length : Int), markRgb k0 xs.length) := by
    intro d
    induction d with
    | zero =>
      intro i hi
      refine ev_succ ?_
      obtain rfl : i = xs.length := by omega
      have h1 : ¬ ((xs.length : Int) < ((markRgb k0 xs.length ++ xs.drop xs.length).length : Int)) := by simp [markRgb_len]
      simp only [laws_markRgbS.l0, h1, if_false]
      exact ev_ret (by simp)
    | succ d ih =>
      intro i hi
      refine ev_succ ?_
      have hlt : i < (markRgb k0 i ++ xs.drop i).length := by simp [markRgb_len]; omega
      have h1 : (i : Int) < ((markRgb k0 i ++ xs.drop i).length : Int) := by omega
      have h2 : (0 : Int) ≤ (i : Int) := by omega
      have h4 := w64s (n := i) (by omega)
      have w1 : wrap64 (k0 + 3 * (i : Int) + 1) = k0 + 3 * (i : Int) + 1 := w64 (by omega) (by omega)
      have w2 : wrap64 (k0 + 3 * (i : Int) + 1 + 1) = k0 + 3 * (i : Int) + 2 := by rw [w64 (by omega) (by omega)]; omega
      have w3 : wrap64 (k0 + 3 * (i : Int) + 2 + 1) = k0 + 3 * ((i + 1 : Nat) : Int) := by rw [w64 (by omega) (by omega)]; omega
      simp only [laws_markRgbS.l0, h1, h2, if_true, h4, w1, w2, w3, Option.bind_some, Int.toNat_natCast]
      have := ih (i + 1) (by omega)
      have he : (markRgb k0 i ++ xs.drop i).set i (mkRgb k0 i) = markRgb k0 (i + 1) ++ xs.drop (i + 1) := by
        rw [List.set_append_right _ _ (by rw [markRgb_len]; omega), markRgb_len, Nat.sub_self, drop_getD z25 xs i (by omega)]
        simp [markRgb, List.range_succ]
      rw [← he] at this
      generalize markRgb k0 i ++ xs.drop i = ys at *
      rw [rdsetRgb _ _ _ hlt]
      rw [rdsetRgb _ _ _ (by rw [List.length_set]; exact hlt), List.set_set, List.set_set]
      exact this
  have := key xs.length 0 (by omega)
  simpa [laws_markRgbS.f, markRgb] using this

theorem eqInt64S_ev (xs ys : List Int) (h : xs.length ≤ 4611686018427387904) : Ev (fun k => laws_eqInt64S.f k xs ys) (decide (xs = ys)) := by
  have key : ∀ d i, i + d = xs.length → xs.length = ys.length → Ev (fun k => laws_eqInt64S.l0 k xs ys (i : Int)) (decide (xs.drop i = ys.drop i)) := by
    intro d
    induction d with
    | zero =>
      intro i hi hl
      refine ev_succ ?_
      have h1 : ¬ ((i : Int) < (xs.length : Int)) := by omega
      simp only [laws_eqInt64S.l0, h1, if_false]
      exact ev_ret (by rw [drop_end (by omega), drop_end (by omega)]; simp)
    | succ d ih =>
      intro i hi hl
      refine ev_succ ?_
      have h1 : (i : Int) < (xs.length : Int) := by omega
      have h2 : (0 : Int) ≤ (i : Int) := by omega
      have h3 : (i : Int) < (ys.length : Int) := by omega
      have h4 := w64s (n := i) (by omega)
      simp only [laws_eqInt64S.l0, h1, h2, h3, if_true, h4]
      rw [drop_rd xs i (by omega), drop_rd ys i (by omega)]
      by_cases he : rd xs (i : Int) = rd ys (i : Int)
      · simp only [he, if_true]
        exact ev_eq (ih (i + 1) (by omega) hl) (by simp)
      · simp only [he, if_false]
        exact ev_ret (by simp [he])
  by_cases hl : xs.length = ys.length
  · have h1 : (xs.length : Int) = (ys.length : Int) := by omega
    simp only [laws_eqInt64S.f, h1, if_true]
    exact ev_eq (key xs.length 0 (by omega) hl) (by simp)
  · have h1 : ¬ (xs.length : Int) = (ys.length : Int) := by omega
    simp only [laws_eqInt64S.f, h1, if_false]
    exact ev_ret (by
      have : xs ≠ ys := fun e => hl (by rw [e])
      simp [this])

/-! #### laws_markInt64S, laws_heldInt64S -/
def markInt64 (k0 : Int) (n : Nat) : List Int := (List.range n).map fun (j : Nat) => k0 + (j : Int)
theorem markInt64_len (k0 : Int) (n : Nat) : (markInt64 k0 n).length = n := by simp [markInt64]
theorem markInt64_rd (k0 : Int) (n i : Nat) (h : i < n) : rd (markInt64 k0 n) (i : Int) = k0 + (i : Int) := by
  simp [markInt64, rd_nat, List.getD_eq_getElem?_getD, List.getElem?_map, List.getElem?_range h]
theorem markInt64S_ev (xs : List Int) (k0 : Int) (hk : 0 ≤ k0) (hk2 : k0 + xs.length < 9223372036854775807) : Ev (fun k => laws_markInt64S.f k xs k0) (k0 + xs.length, markInt64 k0 xs.length) := by
  have key : ∀ d i, i + d = xs.length → Ev (fun k => laws_markInt64S.l0 k (markInt64 k0 i ++ xs.drop i) (k0 + (i : Int)) (i : Int)) (k0 + xs.length, markInt64 k0 xs.length) := by
    intro d
    induction d with
    | zero =>
      intro i hi
      refine ev_succ ?_
      obtain rfl : i = xs.length := by omega
      have h1 : ¬ ((xs.length : Int) < ((markInt64 k0 xs.length ++ xs.drop xs.length).length : Int)) := by simp [markInt64_len]
      simp only [laws_markInt64S.l0, h1, if_false]
      exact ev_ret (by simp)
    | succ d ih =>
      intro i hi
      refine ev_succ ?_
      have h1 : (i : Int) < ((markInt64 k0 i ++ xs.drop i).length : Int) := by simp [markInt64_len]; omega
      have h2 : (0 : Int) ≤ (i : Int) := by omega
      have h4 := w64s (n := i) (by omega)
      have h5 : wrap64 (k0 + (i : Int) + 1) = k0 + ((i + 1 : Nat) : Int) := by rw [w64 (by omega) (by omega)]; omega
      simp only [laws_markInt64S.l0, h1, h2, if_true, h4, h5]
      have := ih (i + 1) (by omega)
      have he : (markInt64 k0 i ++ xs.drop i).set i (k0 + (i : Int)) = markInt64 k0 (i + 1) ++ xs.drop (i + 1) := by
        rw [List.set_append_right _ _ (by rw [markInt64_len]; omega), markInt64_len, Nat.sub_self, drop_rd xs i (by omega)]
        simp [markInt64, List.range_succ]
      rw [← he] at this
      exact this
  have := key xs.length 0 (by omega)
  simpa [laws_markInt64S.f, markInt64] using this
theorem heldInt64S_ev (n : Nat) (k0 : Int) (hk : 0 ≤ k0) (hk2 : k0 + n < 9223372036854775807) : Ev (fun k => laws_heldInt64S.f k (markInt64 k0 n) k0) (k0 + n) := by
  have key : ∀ d i, i + d = n → Ev (fun k => laws_heldInt64S.l0 k (markInt64 k0 n) (k0 + (i : Int)) (i : Int)) (k0 + n) := by
    intro d
    induction d with
    | zero =>
      intro i hi
      refine ev_succ ?_
      obtain rfl : i = n := by omega
      have h1 : ¬ ((i : Int) < ((markInt64 k0 i).length : Int)) := by simp [markInt64_len]
      simp only [laws_heldInt64S.l0, h1, if_false]
      exact ev_ret (by simp)
    | succ d ih =>
      intro i hi
      refine ev_succ ?_
      have h1 : (i : Int) < ((markInt64 k0 n).length : Int) := by simp [markInt64_len]; omega
      have h2 : (0 : Int) ≤ (i : Int) := by omega
      have h4 := w64s (n := i) (by omega)
      have h5 : wrap64 (k0 + (i : Int) + 1) = k0 + ((i + 1 : Nat) : Int) := by rw [w64 (by omega) (by omega)]; omega
      simp only [laws_heldInt64S.l0, h1, h2, if_true, h4, h5, markInt64_rd k0 n i (by omega)]
      exact ih (i + 1) (by omega)
  have := key n 0 (by omega)
  simpa [laws_heldInt64S.f] using this

theorem any_not_all {α : Type} (q : α → Bool) (xs : List α) : (xs.any fun c => !q c) = !(xs.all q) := by
  induction xs with
  | nil => rfl
  | cons c cs ih => simp [List.any_cons, List.all_cons, ih]

theorem impl_Scope_idx_eq {α : Type} (q : α → Bool) : ∀ (l : List α) (i : Int), 0 ≤ i → (impl_Scope_idxO (fun x => some (q x)) l i).bind (fun t => some (decide (0 ≤ t))) = some (l.any q)
  | [], i, _ => by simp [impl_Scope_idxO]
  | x :: xs, i, h => by
    rw [impl_Scope_idxO, List.any_cons]
    simp only [Option.bind_some]
    cases q x with
    | true => simp [h]
    | false => simpa using impl_Scope_idx_eq q xs (i + 1) (by omega)

/-! #### Scope -/
def rgbP (c : S25) : Prop := (0 ≤ c.f0 ∧ c.f0 ≤ 65535) ∧ (0 ≤ c.f1 ∧ c.f1 ≤ 65535) ∧ (0 ≤ c.f2 ∧ c.f2 ≤ 65535)
instance (c : S25) : Decidable (rgbP c) := by unfold rgbP; infer_instance
def bin (c : S25) : Nat := ((c.f0 + 2 * c.f1 + c.f2) / 4 / 4096).toNat
def bump (out : List Int) (c : S25) : List Int := out.set (bin c) (rd out (bin c : Int) + 1)
def Inv (out : List Int) (i : Nat) : Prop := out.length = 16 ∧ ∀ x ∈ out, 0 ≤ x ∧ x ≤ i
theorem bin_lt {c : S25} (h : rgbP c) : bin c < 16 := by
  unfold bin
  obtain ⟨h1, h2, h3⟩ := h
  omega
theorem bin_w {c : S25} (h : rgbP c) : wrap64 (Int.tdiv (wrap64 (Int.tdiv (wrap64 (wrap64 (c.f0 + wrap64 (2 * c.f1)) + c.f2)) 4)) 4096) = (bin c : Int) := by
  obtain ⟨h1, h2, h3⟩ := h
  have e1 : Int.tdiv (c.f0 + 2 * c.f1 + c.f2) 4 = (c.f0 + 2 * c.f1 + c.f2) / 4 := Int.tdiv_eq_ediv_of_nonneg (by omega)
  have e2 : Int.tdiv ((c.f0 + 2 * c.f1 + c.f2) / 4) 4096 = (c.f0 + 2 * c.f1 + c.f2) / 4 / 4096 := Int.tdiv_eq_ediv_of_nonneg (by omega)
  rw [w64 (x := 2 * c.f1) (by omega) (by omega), w64 (x := c.f0 + 2 * c.f1) (by omega) (by omega), w64 (x := c.f0 + 2 * c.f1 + c.f2) (by omega) (by omega), e1, w64 (x := (c.f0 + 2 * c.f1 + c.f2) / 4) (by omega) (by omega), e2, w64 (by omega) (by omega)]
  unfold bin
  omega
theorem bump_inv {out : List Int} {i : Nat} {c : S25} (h : Inv out i) (hc : rgbP c) : Inv (bump out c) (i + 1) ∧ 0 ≤ rd out (bin c : Int) ∧ rd out (bin c : Int) ≤ i := by
  obtain ⟨h1, h2⟩ := h
  have hr := h2 _ (rd_mem (xs := out) (i := bin c) (by have := bin_lt hc; omega))
  refine ⟨⟨by rw [bump, List.length_set]; exact h1, fun x hx => ?_⟩, hr⟩
  rcases List.mem_or_eq_of_mem_set hx with hx | rfl
  · have := h2 x hx
    omega
  · omega
def scopeB (xs : List S25) : Bool := decide (xs.length ≤ 4096) && xs.all fun c => decide (rgbP c)
def scopeV (xs : List S25) : List Int := if scopeB xs = true then xs.foldl bump (List.replicate 16 0) else []
theorem fold_inv : ∀ (xs : List S25) (out : List Int) (i : Nat), Inv out i → (xs.all fun c => decide (rgbP c)) = true → Inv (xs.foldl bump out) (i + xs.length)
  | [], out, i, h, _ => h
  | c :: cs, out, i, h, hall => by
    rw [List.all_cons, Bool.and_eq_true] at hall
    have := fold_inv cs (bump out c) (i + 1) (bump_inv h (of_decide_eq_true hall.1)).1 hall.2
    rw [List.foldl_cons, List.length_cons]
    rw [show i + (cs.length + 1) = i + 1 + cs.length by omega]
    exact this
theorem inv0 : Inv (List.replicate 16 0) 0 := ⟨by simp, fun x hx => by rw [List.eq_of_mem_replicate hx]; exact ⟨Int.le_refl _, Int.le_refl _⟩⟩
theorem scopeV_len (xs : List S25) : (scopeV xs).length ≤ 16 := by
  unfold scopeV
  split
  · rename_i h
    rw [scopeB, Bool.and_eq_true] at h
    exact Nat.le_of_eq (fold_inv xs _ 0 inv0 h.2).1
  · simp
theorem spec_rgb_eq (c : S25) : spec_l9Rgb.f c.f0 c.f1 c.f2 = some (decide (rgbP c)) := by
  unfold spec_l9Rgb.f spec_l9In.f rgbP
  simp only [spec_in_eq, Option.bind_some]
  by_cases h1 : 0 ≤ c.f0 ∧ c.f0 ≤ 65535
  · by_cases h2 : 0 ≤ c.f1 ∧ c.f1 ≤ 65535
    · simp [h1, h2]
    · simp [h1, h2]
  · simp [h1]
theorem impl_rgb_eq (c : S25) : impl_Rgb_ok.f c.f0 c.f1 c.f2 = some (decide (rgbP c)) := by
  unfold impl_Rgb_ok.f impl_isValue.f rgbP
  simp only [impl_in_eq, Option.bind_some]
  by_cases h1 : 0 ≤ c.f0 ∧ c.f0 ≤ 65535
  · by_cases h2 : 0 ≤ c.f1 ∧ c.f1 ≤ 65535
    · simp [h1, h2]
    · simp [h1, h2]
  · simp [h1]
theorem spec_Scope_ev (xs : List S25) : Ev (fun k => spec_Scope.f k xs) (scopeV xs) := by
  have key : xs.length ≤ 4096 → ∀ d i (out : List Int), i + d = xs.length → Inv out i → Ev (fun k => spec_Scope.l0 k xs out (i : Int)) (if ((xs.drop i).all fun c => decide (rgbP c)) = true then (xs.drop i).foldl bump out else []) := by
    intro hl d
    induction d with
    | zero =>
      intro i out hi ho
      refine ev_succ ?_
      have h1 : ¬ (i : Int) < (xs.length : Int) := by omega
      simp only [spec_Scope.l0, h1, if_false]
      exact ev_ret (by rw [drop_end (by omega)]; rfl)
    | succ d ih =>
      intro i out hi ho
      refine ev_succ ?_
      have h1 : (i : Int) < (xs.length : Int) := by omega
      have h2 : (0 : Int) ≤ (i : Int) := by omega
      have h4 := w64s (n := i) (by omega)
      have hd : xs.drop i = rd_T25 xs (i : Int) :: xs.drop (i + 1) := drop_getD z25 xs i (by omega)
      simp only [spec_Scope.l0, h1, h2, h4, if_true, spec_rgb_eq, Option.bind_some]
      rw [hd, List.all_cons, List.foldl_cons]
      generalize rd_T25 xs (i : Int) = c
      refine ev_ifb (fun h => ?_) (fun h => ev_ret (by rw [h]; rfl))
      have hc := of_decide_eq_true h
      obtain ⟨b1, b2, b3⟩ := bump_inv ho hc
      have hb := bin_lt hc
      have h5 : (0 : Int) ≤ (bin c : Int) := by omega
      have h6 : (bin c : Int) < (out.length : Int) := by have := ho.1; omega
      have h7 : wrap64 (rd out (bin c : Int) + 1) = rd out (bin c : Int) + 1 := w64 (by omega) (by omega)
      simp only [bin_w hc, h5, h6, h7, if_true, Int.toNat_natCast]
      rw [h, Bool.true_and]
      exact ih (i + 1) _ (by omega) b1
  unfold scopeV scopeB
  simp only [spec_Scope.f]
  refine ev_ite (fun h => ev_ret (by rw [decide_eq_false (show ¬ xs.length ≤ 4096 by omega)]; rfl)) (fun h => ?_)
  rw [decide_eq_true (show xs.length ≤ 4096 by omega), Bool.true_and]
  refine ev_pos (by omega) ?_
  exact ev_eq (key (by omega) xs.length 0 _ (by omega) inv0) (by rw [List.drop_zero])
theorem impl_Scope_ev (xs : List S25) : Ev (fun k => impl_Scope.f k xs) (scopeV xs) := by
  have key : xs.length ≤ 4096 → (xs.all fun c => decide (rgbP c)) = true → ∀ d i (out : List Int), i + d = xs.length → Inv out i → Ev (fun k => impl_Scope.l0 k out xs (xs.length : Int) (i : Int)) ((xs.drop i).foldl bump out) := by
    intro hl hall d
    induction d with
    | zero =>
      intro i out hi ho
      refine ev_succ ?_
      have h1 : ¬ (i : Int) < (xs.length : Int) := by omega
      simp only [impl_Scope.l0, h1, if_false]
      exact ev_ret (by rw [drop_end (by omega)]; rfl)
    | succ d ih =>
      intro i out hi ho
      refine ev_succ ?_
      have h1 : (i : Int) < (xs.length : Int) := by omega
      have h2 : (0 : Int) ≤ (i : Int) := by omega
      have h4 := w64s (n := i) (by omega)
      have hd : xs.drop i = rd_T25 xs (i : Int) :: xs.drop (i + 1) := drop_getD z25 xs i (by omega)
      have hm : rd_T25 xs (i : Int) ∈ xs := getD_mem _ (by omega)
      have hc := of_decide_eq_true (List.all_eq_true.1 hall _ hm)
      obtain ⟨b1, b2, b3⟩ := bump_inv ho hc
      have hb := bin_lt hc
      have h5 : (0 : Int) ≤ (bin (rd_T25 xs (i : Int)) : Int) := by omega
      have h6 : (bin (rd_T25 xs (i : Int)) : Int) < (out.length : Int) := by have := ho.1; omega
      have h7 : wrap64 (rd out (bin (rd_T25 xs (i : Int)) : Int) + 1) = rd out (bin (rd_T25 xs (i : Int)) : Int) + 1 := w64 (by omega) (by omega)
      simp only [impl_Scope.l0, h1, h2, h4, bin_w hc, h5, h6, h7, if_true, Int.toNat_natCast]
      rw [hd, List.foldl_cons]
      exact ih (i + 1) _ (by omega) b1
  have hcon : impl_Scope_contains.f xs = some (!(xs.all fun c => decide (rgbP c))) := by
    have e : (fun x : S25 => impl_Scope_1.f x.f0 x.f1 x.f2) = fun x => some (!(decide (rgbP x))) := by
      funext x
      simp only [impl_Scope_1.f, impl_rgb_eq, Option.bind_some]
    rw [impl_Scope_contains.f, e, impl_Scope_idx_eq _ _ _ (Int.le_refl _), any_not_all]
  unfold scopeV scopeB
  simp only [impl_Scope.f, hcon, Option.bind_some]
  have no : ∀ b, b = false → Ev (fun k => impl_Scope.j0 k xs true) (if b = true then xs.foldl bump (List.replicate 16 0) else []) := fun b hb => by
    refine ev_succ ?_
    simp only [impl_Scope.j0, if_true]
    exact ev_ret (by rw [hb]; rfl)
  refine ev_ite (fun h => no _ (by rw [decide_eq_false (show ¬ xs.length ≤ 4096 by omega)]; rfl)) (fun h => ?_)
  rw [decide_eq_true (show xs.length ≤ 4096 by omega), Bool.true_and]
  cases hall : (xs.all fun c => decide (rgbP c)) with
  | false => exact no _ rfl
  | true =>
    refine ev_succ ?_
    simp only [impl_Scope.j0, Bool.not_true, Bool.false_eq_true, if_false, if_true]
    refine ev_pos (by omega) ?_
    exact ev_eq (key (by omega) hall xs.length 0 _ (by omega) inv0) (by rw [List.drop_zero])

theorem FnExactScope : ∀ (l0 : List S23), (l0.length ≤ maxLen ∧ ∀ y1 ∈ l0, ((Lit.int .i64 y1.f0).wf = true ∧ ((Lit.int .i64 y1.f1).wf = true ∧ (Lit.int .i64 y1.f2).wf = true))) → ∃ k, laws_FnExactScope.f k l0 = some true := by
  intro l0 ⟨hl, _⟩
  unfold maxLen at hl
  apply Ev.rounds
  have h5 : wrap64 (1048576 - (l0.length : Int)) = 1048576 - (l0.length : Int) := w64 (by omega) (by omega)
  simp only [laws_FnExactScope.f, laws_szRgbS.f, h5]
  by_cases h6 : 1048576 - (l0.length : Int) < 0
  · simp only [h6, if_true, Option.bind_some, show (-1 : Int) < 0 by omega]
    exact ev_ret rfl
  · simp only [h6, if_false, Option.bind_some]
    have h1 : l0.length ≤ 1048576 := by omega
    have h3 : (l0.map cvRgb).length ≤ 1048576 := by simpa using h1
    have h2 := scopeV_len (l0.map cvRgb)
    refine ev_bind (toRgbS_ev l0 h1) ?_
    refine ev_bind (spec_Scope_ev _) ?_
    refine ev_bind (toRgbS_ev l0 h1) ?_
    refine ev_bind (impl_Scope_ev _) ?_
    refine ev_bind (eqInt64S_ev _ _ (by omega)) ?_
    simp only [decide_true, if_true]
    refine ev_bind (toRgbS_ev l0 h1) ?_
    refine ev_bind (eqRgbS_refl _ (by omega)) ?_
    simp only [if_true]
    refine ev_bind (markRgbS_ev _ 1 (by omega) (by omega)) ?_
    have h7 : ¬ (1 + 3 * ((l0.map cvRgb).length : Int) < 0) := by omega
    simp only [h7, if_false]
    refine ev_bind (eqInt64S_ev _ _ (by omega)) ?_
    refine ev_succ ?_
    simp only [laws_FnExactScope.j0, decide_true, Bool.not_true, Bool.false_eq_true, if_false]
    refine ev_bind (markInt64S_ev _ 1 (by omega) (by omega)) ?_
    refine ev_bind (heldInt64S_ev _ 1 (by omega) (by omega)) ?_
    have h8 : ¬ (1 + ((scopeV (l0.map cvRgb)).length : Int) < 0) := by omega
    simp only [h8, if_false, if_true]
    refine ev_bind (toRgbS_ev l0 h1) ?_
    refine ev_bind (impl_Scope_ev _) ?_
    refine ev_bind (eqInt64S_ev _ _ (by omega)) ?_
    simp only [decide_true, if_true]
    refine ev_bind (heldInt64S_ev _ 1 (by omega) (by omega)) ?_
    simp only [h8, if_false, if_true]
    exact ev_ret rfl
end Go.Proofs.Ytdhhdphpfleikaa.Pure
