/-
  The plain statement of FnExactShift: both sides tell the same new place of a frame, and the argument is not written.
  Conditions: the statement's own.
-/
import Derived.Test.YthlpllmdfhbmiaaHFnExactShiftx0
import Derived.Test.YthlpllmdfhbmiaaHFnExactShiftx1
import Derived.Test.YthlpllmdfhbmiaaHFnExactShiftx2
import Derived.Test.YthlpllmdfhbmiaaHFnExactShiftx3
import Derived.Test.YthlpllmdfhbmiaaPureBase
import Derived.Laws.BitsLemmas
namespace Go.Proofs.Ythlpllmdfhbmiaa.Pure
open Go.RowKit Go.Proofs.Ythlpllmdfhbmiaa.HFnExactShift Go.Proofs.YthlpllmdfhbmiaaW.PrintWords Go.Proofs.YthlpllmdfhbmiaaW.PrintLast Go.Proofs.YthlpllmdfhbmiaaW.PrintMore Go.Proofs.Ythlpllmdfhbmiaa.PB
set_option linter.unusedVariables false
set_option linter.unusedSimpArgs false
theorem spec_in_eq (a lo hi : Int) : spec_l1In.f a lo hi = some (decide (lo ≤ a ∧ a ≤ hi)) := by
  unfold spec_l1In.f
  by_cases h : a ≥ lo
  · rw [if_pos h]; simp [show lo ≤ a from h]
  · rw [if_neg h]; simp; omega

theorem impl_in_eq (a lo hi : Int) : impl_in.f a lo hi = some (decide (lo ≤ a ∧ a ≤ hi)) := by
  unfold impl_in.f
  by_cases h : lo ≤ a
  · rw [if_pos h]; simp [h]
  · rw [if_neg h]; simp; omega

/-! #### laws_toChangeS -/
def cvChange (a : S60) : S58 := ⟨a.f0, a.f1, a.f2, a.f3⟩
theorem toChangeS_ev (xs : List S60) (h : xs.length ≤ 1048576) : Ev (fun k => laws_toChangeS.f k xs) (xs.map cvChange) := by
  have key : ∀ d i, i + d = xs.length → Ev (fun k => laws_toChangeS.l0 k xs ((xs.take i).map cvChange ++ List.replicate (xs.length - i) z58) (i : Int)) (xs.map cvChange) := by
    intro d
    induction d with
    | zero =>
      intro i hi
      refine ev_succ ?_
      have h1 : ¬ ((i : Int) < (xs.length : Int)) := by omega
      simp only [laws_toChangeS.l0, h1, if_false]
      obtain rfl : i = xs.length := by omega
      exact ev_ret (by rw [fill_all])
    | succ d ih =>
      intro i hi
      have hlt : i < xs.length := by omega
      refine ev_succ ?_
      have h1 : (i : Int) < (xs.length : Int) := by omega
      have h2 : (0 : Int) ≤ (i : Int) := by omega
      have h3 : (i : Int) < ((((xs.take i).map cvChange ++ List.replicate (xs.length - i) z58).length : Nat) : Int) := by rw [fill_len _ _ _ _ (by omega)]; omega
      have h4 := w64s (n := i) (by omega)
      simp only [laws_toChangeS.l0, laws_toChange.f, h1, h2, h3, if_true, h4, Option.bind_some]
      have := ih (i + 1) (by omega)
      rw [← fill_set cvChange z60 z58 xs i hlt] at this
      exact this
  have h1 : (0 : Int) ≤ (xs.length : Int) := by omega
  have h2 : xs.length ≤ 8796093022208 := by omega
  simp only [laws_toChangeS.f, h1, Int.toNat_natCast, h2, if_true]
  have := key xs.length 0 (by omega)
  rw [← fill_none cvChange z58 xs] at this
  exact this

/-! #### laws_eqChangeS at one list twice -/
theorem eqChangeS_refl (xs : List S58) (h : xs.length ≤ 4611686018427387904) : Ev (fun k => laws_eqChangeS.f k xs xs) true := by
  have key : ∀ d i, i + d = xs.length → Ev (fun k => laws_eqChangeS.l0 k xs xs (i : Int)) true := by
    intro d
    induction d with
    | zero =>
      intro i hi
      refine ev_succ ?_
      have h1 : ¬ ((i : Int) < (xs.length : Int)) := by omega
      simp only [laws_eqChangeS.l0, h1, if_false]
      exact ev_ret rfl
    | succ d ih =>
      intro i hi
      refine ev_succ ?_
      have h1 : (i : Int) < (xs.length : Int) := by omega
      have h2 : (0 : Int) ≤ (i : Int) := by omega
      have h4 := w64s (n := i) (by omega)
      simp only [laws_eqChangeS.l0, laws_eqChange.f, h1, h2, if_true, h4, Option.bind_some]
      exact ih (i + 1) (by omega)
  simp only [laws_eqChangeS.f, if_true]
  exact key xs.length 0 (by omega)

/-! #### changes -/
def clipI (a b c : Int) : Prop := (0 ≤ a ∧ a ≤ 500) ∧ (0 ≤ b ∧ b ≤ 10000000) ∧ (1 ≤ c ∧ c ≤ 10000000) ∧ b + c ≤ 10000000 ∧ (a = 0 → b = 0)
instance (a b c : Int) : Decidable (clipI a b c) := by unfold clipI; infer_instance
theorem spec_clip_eq (a b c : Int) : spec_l4Clip.f a b c = some (decide (clipI a b c)) := by
  unfold spec_l4Clip.f spec_l4Src.f
  simp only [spec_in_eq, Option.bind_some]
  by_cases h1 : 1 ≤ c ∧ c ≤ 10000000
  · rw [if_pos (decide_eq_true h1)]
    by_cases h2 : 0 ≤ b ∧ b ≤ 10000000
    · rw [if_pos (decide_eq_true h2), w64 (by omega) (by omega)]
      by_cases h3 : b + c > 10000000
      · rw [if_pos h3, decide_eq_false (fun h : clipI a b c => by have := h.2.2.2.1; omega)]
      · rw [if_neg h3]
        by_cases h4 : 1 ≤ a ∧ a ≤ 500
        · rw [if_pos (decide_eq_true h4), decide_eq_true (show clipI a b c from ⟨by omega, h2, h1, by omega, fun h => by omega⟩)]
        · rw [if_neg (by rw [decide_eq_false h4]; simp)]
          by_cases h5 : a = 0
          · rw [if_pos h5]
            by_cases h6 : b = 0
            · rw [h6, decide_eq_true (show clipI a 0 c from ⟨by omega, by omega, h1, by omega, fun _ => rfl⟩)]
              rfl
            · rw [decide_eq_false (fun h : clipI a b c => h6 (h.2.2.2.2 h5)), beq_eq_false_iff_ne.2 h6]
          · rw [if_neg h5, decide_eq_false (fun h : clipI a b c => by have := h.1; omega)]
    · rw [if_neg (by rw [decide_eq_false h2]; simp), decide_eq_false (fun h : clipI a b c => h2 h.2.1)]
  · rw [if_neg (by rw [decide_eq_false h1]; simp), decide_eq_false (fun h : clipI a b c => h1 h.2.2.1)]
theorem impl_clip_ev (a b c : Int) : Ev (fun k => impl_Clip_ok.f k a b c) (decide (clipI a b c)) := by
  simp only [impl_Clip_ok.f, impl_in_eq, Option.bind_some]
  have no : ¬ clipI a b c → Ev (fun k => impl_Clip_ok.j0 k true a b c) (decide (clipI a b c)) := fun h => by
    refine ev_succ ?_
    simp only [impl_Clip_ok.j0, if_true]
    exact ev_ret (by rw [decide_eq_false h])
  refine ev_ifb (fun h1 => ?_) (fun h1 => no (fun h => of_decide_eq_false h1 h.1))
  refine ev_ifb (fun h2 => ?_) (fun h2 => no (fun h => of_decide_eq_false h2 h.2.1))
  have h1' := of_decide_eq_true h1
  have h2' := of_decide_eq_true h2
  by_cases h3 : 1 ≤ c ∧ c ≤ 10000000
  · rw [decide_eq_true h3]
    refine ev_succ ?_
    have hw : wrap64 (b + c) = b + c := w64 (by omega) (by omega)
    simp only [impl_Clip_ok.j0, impl_Clip_isGap.f, Option.bind_some, Bool.not_true, Bool.false_eq_true, if_false, hw]
    refine ev_ret ?_
    by_cases h4 : a = 0
    · rw [if_pos (beq_iff_eq.2 h4)]
      by_cases h5 : b = 0
      · rw [if_pos h5, decide_eq_true (show clipI a b c from ⟨h1', h2', h3, by omega, fun _ => h5⟩)]
      · rw [if_neg h5, if_pos (beq_iff_eq.2 h4), decide_eq_false (fun h : clipI a b c => h5 (h.2.2.2.2 h4))]
    · have h4' : ¬ ((a == 0) = true) := fun h => h4 (beq_iff_eq.1 h)
      rw [if_neg h4', if_neg h4']
      congr 1
      rw [decide_eq_decide]
      exact ⟨fun h => ⟨h1', h2', h3, h, fun h => absurd h h4⟩, fun h => h.2.2.2.1⟩
  · rw [decide_eq_false h3]
    exact no (fun h => h3 h.2.2.1)
def chgP (x : S58) : Prop := ((x.f0 = 1 ∨ x.f0 = 2) ∧ x.f1 = 0 ∧ x.f2 = 0 ∧ (1 ≤ x.f3 ∧ x.f3 ≤ 10000000)) ∨ (x.f0 = 3 ∧ clipI x.f1 x.f2 x.f3)
instance (x : S58) : Decidable (chgP x) := by unfold chgP; infer_instance
theorem chgP_len {x : S58} (h : chgP x) : 1 ≤ x.f3 ∧ x.f3 ≤ 10000000 := by
  rcases h with h | h
  · exact h.2.2.2
  · exact h.2.2.2.1
theorem chgP_kind {x : S58} (h : chgP x) : x.f0 = 1 ∨ x.f0 = 2 ∨ x.f0 = 3 := by
  rcases h with h | h
  · rcases h.1 with h | h
    · exact .inl h
    · exact .inr (.inl h)
  · exact .inr (.inr h.1)
theorem keep_eq (x : S58) (h : x.f0 = 1 ∨ x.f0 = 2) : decide (chgP x) = (decide (x.f1 = 0) && (decide (x.f2 = 0) && decide (1 ≤ x.f3 ∧ x.f3 ≤ 10000000))) := by
  rw [Bool.eq_iff_iff]
  simp only [Bool.and_eq_true, decide_eq_true_eq]
  constructor
  · rintro (h1 | h1)
    · exact ⟨h1.2.1, h1.2.2.1, h1.2.2.2⟩
    · omega
  · rintro ⟨h1, h2, h3⟩
    exact .inl ⟨h, h1, h2, h3⟩
theorem spec_chg_ev (x : S58) : Ev (fun k => spec_l5Change.f k x.f0 x.f1 x.f2 x.f3) (decide (chgP x)) := by
  have two : x.f0 = 1 ∨ x.f0 = 2 → ∀ b, b = true → Ev (fun k => spec_l5Change.j0 k x.f0 b x.f0 x.f1 x.f2 x.f3) (decide (chgP x)) := by
    rintro h b rfl
    rw [keep_eq x h]
    refine ev_succ ?_
    simp only [spec_l5Change.j0, if_true, spec_in_eq, Option.bind_some]
    refine ev_ite (fun h1 => ?_) (fun h1 => ev_ret (by rw [decide_eq_false h1]; rfl))
    refine ev_ite (fun h2 => ?_) (fun h2 => ev_ret (by rw [decide_eq_false h2, Bool.false_and, Bool.and_false]))
    exact ev_ret (by rw [decide_eq_true h1, decide_eq_true h2]; rfl)
  simp only [spec_l5Change.f]
  refine ev_ite (fun h => two (.inl h) _ (beq_iff_eq.2 h)) (fun h => ?_)
  by_cases h2 : x.f0 = 2
  · exact two (.inr h2) _ (beq_iff_eq.2 h2)
  · rw [beq_eq_false_iff_ne.2 h2]
    refine ev_succ ?_
    simp only [spec_l5Change.j0, Bool.false_eq_true, if_false, spec_clip_eq, Option.bind_some]
    refine ev_ite (fun h3 => ev_ret ?_) (fun h3 => ev_ret ?_)
    · congr 1
      rw [decide_eq_decide]
      exact ⟨fun h4 => .inr ⟨h3, h4⟩, fun h4 => h4.elim (fun h5 => by omega) (fun h5 => h5.2)⟩
    · rw [decide_eq_false (fun h4 : chgP x => by have := chgP_kind h4; omega)]
theorem impl_chg_ev (x : S58) : Ev (fun k => impl_Change_ok.f k x.f0 x.f1 x.f2 x.f3) (decide (chgP x)) := by
  simp only [impl_Change_ok.f, impl_Change_clip.f, impl_in_eq, Option.bind_some]
  refine ev_ite (fun h3 => ?_) (fun h3 => ?_)
  · refine ev_bind (impl_clip_ev _ _ _) (ev_ret ?_)
    congr 1
    rw [decide_eq_decide]
    exact ⟨fun h4 => .inr ⟨h3, h4⟩, fun h4 => h4.elim (fun h5 => by omega) (fun h5 => h5.2)⟩
  · have two : x.f0 = 1 ∨ x.f0 = 2 → Ev (fun _ => if x.f1 = 0 then (if x.f2 = 0 then some (decide (1 ≤ x.f3 ∧ x.f3 ≤ 10000000)) else some false) else some false) (decide (chgP x)) := by
      intro h
      rw [keep_eq x h]
      refine ev_ite (fun h1 => ?_) (fun h1 => ev_ret (by rw [decide_eq_false h1]; rfl))
      refine ev_ite (fun h2 => ?_) (fun h2 => ev_ret (by rw [decide_eq_false h2, Bool.false_and, Bool.and_false]))
      exact ev_ret (by rw [decide_eq_true h1, decide_eq_true h2]; rfl)
    refine ev_ite (fun h => two (.inl h)) (fun h => ?_)
    refine ev_ite (fun h2 => two (.inr h2)) (fun h2 => ev_ret ?_)
    rw [decide_eq_false (fun h4 : chgP x => by have := chgP_kind h4; omega)]
def listB (xs : List S58) : Bool := decide (xs.length ≤ 300) && xs.all fun c => decide (chgP c)
theorem spec_List_ev (xs : List S58) : Ev (fun k => spec_l5List.f k xs) (listB xs) := by
  have key : ∀ d i, xs.length ≤ 300 → i + d = xs.length → Ev (fun k => spec_l5List.l0 k xs (i : Int)) ((xs.drop i).all fun c => decide (chgP c)) := by
    intro d
    induction d with
    | zero =>
      intro i hl hi
      refine ev_succ ?_
      have h1 : ¬ (i : Int) < (xs.length : Int) := by omega
      simp only [spec_l5List.l0, h1, if_false]
      exact ev_ret (by rw [drop_end (by omega)]; rfl)
    | succ d ih =>
      intro i hl hi
      refine ev_succ ?_
      have h1 : (i : Int) < (xs.length : Int) := by omega
      have h2 : (0 : Int) ≤ (i : Int) := by omega
      have h4 := w64s (n := i) (by omega)
      simp only [spec_l5List.l0, h1, h2, h4, if_true]
      have hd : xs.drop i = rd_T58 xs (i : Int) :: xs.drop (i + 1) := drop_getD z58 xs i (by omega)
      rw [hd, List.all_cons]
      refine ev_bind (spec_chg_ev _) ?_
      refine ev_ifb (fun h5 => ?_) (fun h5 => ev_ret (by rw [h5]; rfl))
      rw [h5, Bool.true_and]
      exact ih (i + 1) hl (by omega)
  unfold listB
  simp only [spec_l5List.f]
  refine ev_ite (fun h => ev_ret (by rw [decide_eq_false (show ¬ xs.length ≤ 300 by omega)]; rfl)) (fun h => ?_)
  rw [decide_eq_true (show xs.length ≤ 300 by omega), Bool.true_and]
  exact ev_eq (key xs.length 0 (by omega) (by omega)) (by simp)
def idxV {α : Type} (q : α → Bool) : List α → Int → Int
  | [], _ => -1
  | x :: xs, i => if q x = true then i else idxV q xs (i + 1)
theorem idxV_any {α : Type} (q : α → Bool) : ∀ (l : List α) (i : Int), 0 ≤ i → decide (0 ≤ idxV q l i) = l.any q
  | [], i, _ => by simp [idxV]
  | x :: xs, i, h => by
    rw [idxV, List.any_cons]
    split
    · rename_i hq
      rw [hq, decide_eq_true h, Bool.true_or]
    · rename_i hq
      rw [Bool.eq_false_iff.2 hq, Bool.false_or]
      exact idxV_any q xs (i + 1) (by omega)
theorem any_not_all {α : Type} (q : α → Bool) (xs : List α) : (xs.any fun c => !q c) = !(xs.all q) := by
  induction xs with
  | nil => rfl
  | cons c cs ih => simp [List.any_cons, List.all_cons, ih]
theorem chg_ev (xs : List S58) (i : Int) : Ev (fun k => chg_idxO (fun x => impl_changesOk_1.f k x.f0 x.f1 x.f2 x.f3) xs i) (idxV (fun c => !decide (chgP c)) xs i) := by
  induction xs generalizing i with
  | nil => exact ev_ret rfl
  | cons c cs ih =>
    simp only [chg_idxO, idxV]
    refine ev_bind (a := !decide (chgP c)) ?_ ?_
    · simp only [impl_changesOk_1.f]
      exact ev_bind (impl_chg_ev c) (ev_ret rfl)
    · refine ev_ite (fun h => ev_ret (by rw [if_pos h])) (fun h => ?_)
      rw [if_neg h]
      exact ih _
theorem impl_List_ev (xs : List S58) : Ev (fun k => impl_changesOk.f k xs) (listB xs) := by
  unfold listB
  simp only [impl_changesOk.f]
  refine ev_ite (fun h => ?_) (fun h => ev_ret (by rw [decide_eq_false (show ¬ xs.length ≤ 300 by omega)]; rfl))
  rw [decide_eq_true (show xs.length ≤ 300 by omega), Bool.true_and]
  refine ev_bind (chg_ev xs 0) (ev_ret ?_)
  rw [idxV_any _ _ _ (Int.le_refl _), any_not_all, Bool.not_not]
/-! #### Shift -/
def shiftV : List S58 → Int → Int → Int
  | [], _, _ => -1
  | x :: xs, a, p => if x.f0 = 3 then shiftV xs a (p + x.f3) else if a < x.f3 then (if x.f0 = 2 then -1 else p + a) else shiftV xs (a - x.f3) (if x.f0 = 2 then p else p + x.f3)
def shiftAt (xs : List S58) (a : Int) : Int := if listB xs = true ∧ 0 ≤ a then shiftV xs a 0 else -1
theorem spec_Shift_ev (xs : List S58) (a : Int) (hA : a ≤ 9223372036854775807) : Ev (fun k => spec_Shift.f k xs a) (shiftAt xs a) := by
  have key : xs.length ≤ 300 → (xs.all fun c => decide (chgP c)) = true → 0 ≤ a → ∀ d i (old new : Int), i + d = xs.length → 0 ≤ old → old ≤ a → old ≤ 10000000 * i → 0 ≤ new → new ≤ 10000000 * i →
      Ev (fun k => spec_Shift.l0 k xs a old new (i : Int)) (shiftV (xs.drop i) (a - old) new) := by
    intro hl hall h0 d
    induction d with
    | zero =>
      intro i old new hi o0 o1 o2 n0 n1
      refine ev_succ ?_
      have h1 : ¬ (i : Int) < (xs.length : Int) := by omega
      simp only [spec_Shift.l0, h1, if_false]
      exact ev_ret (by rw [drop_end (by omega)]; rfl)
    | succ d ih =>
      intro i old new hi o0 o1 o2 n0 n1
      refine ev_succ ?_
      have h1 : (i : Int) < (xs.length : Int) := by omega
      have h2 : (0 : Int) ≤ (i : Int) := by omega
      have h4 := w64s (n := i) (by omega)
      have hm : rd_T58 xs (i : Int) ∈ xs := getD_mem _ (by omega)
      have h6 := of_decide_eq_true (List.all_eq_true.1 hall _ hm)
      have h7 := chgP_len h6
      have h8 := chgP_kind h6
      have hd : xs.drop i = rd_T58 xs (i : Int) :: xs.drop (i + 1) := drop_getD z58 xs i (by omega)
      rw [hd, shiftV]
      simp only [spec_Shift.l0, h1, h2, h4, if_true]
      generalize rd_T58 xs (i : Int) = x at *
      have w1 : wrap64 (new + x.f3) = new + x.f3 := w64 (by omega) (by omega)
      have w2 : wrap64 (old + x.f3) = old + x.f3 := w64 (by omega) (by omega)
      rw [w1, w2]
      refine ev_ite (fun h => ?_) (fun h => ?_)
      · rw [if_pos h]
        exact ih (i + 1) _ _ (by omega) o0 o1 (by omega) (by omega) (by omega)
      · rw [if_neg h]
        refine ev_ite (fun h9 => ?_) (fun h9 => ?_)
        · rw [if_pos (show a - old < x.f3 by omega)]
          refine ev_ite (fun h10 => ev_ret (by rw [if_pos h10])) (fun h10 => ev_ret ?_)
          rw [if_neg h10, w64 (x := new + a) (by omega) (by omega), w64 (by omega) (by omega)]
          congr 1
          omega
        · rw [if_neg (show ¬ a - old < x.f3 by omega)]
          refine ev_ite (fun h10 => ?_) (fun h10 => ?_)
          · rw [if_neg (show ¬ x.f0 = 2 by omega)]
            exact ev_eq (ih (i + 1) _ _ (by omega) (by omega) (by omega) (by omega) (by omega) (by omega)) (by rw [show a - (old + x.f3) = a - old - x.f3 by omega])
          · rw [if_pos (show x.f0 = 2 by omega)]
            exact ev_eq (ih (i + 1) _ _ (by omega) (by omega) (by omega) (by omega) (by omega) (by omega)) (by rw [show a - (old + x.f3) = a - old - x.f3 by omega])
  unfold shiftAt
  simp only [spec_Shift.f]
  refine ev_bind (spec_List_ev xs) ?_
  have no : ∀ r, r = (-1 : Int) → Ev (fun k => spec_Shift.j0 k xs a true) r := fun r hr => by
    subst hr
    refine ev_succ ?_
    simp only [spec_Shift.j0, if_true]
    exact ev_ret rfl
  refine ev_ite (fun h => ?_) (fun h => no _ (by rw [if_neg (fun hh => h hh.1)]))
  by_cases h0 : a < 0
  · rw [decide_eq_true h0]
    exact no _ (by rw [if_neg (fun hh => by have := hh.2; omega)])
  · rw [decide_eq_false h0, if_pos ⟨h, by omega⟩]
    refine ev_succ ?_
    simp only [spec_Shift.j0, Bool.false_eq_true, if_false]
    rw [listB, Bool.and_eq_true] at h
    exact ev_eq (key (of_decide_eq_true h.1) h.2 (by omega) xs.length 0 0 0 (by omega) (by omega) (by omega) (by omega) (by omega) (by omega)) (by simp)
theorem impl_Shift_ev (xs : List S58) (a : Int) (hA : a ≤ 9223372036854775807) : Ev (fun k => impl_Shift.f k xs a) (shiftAt xs a) := by
  have key : xs.length ≤ 300 → (xs.all fun c => decide (chgP c)) = true → ∀ d i (b new : Int), i + d = xs.length → 0 ≤ b → b ≤ 9223372036854775807 → 0 ≤ new → new ≤ 10000000 * i →
      Ev (fun k => impl_Shift.l0 k b new xs (xs.length : Int) (i : Int)) (shiftV (xs.drop i) b new) := by
    intro hl hall d
    induction d with
    | zero =>
      intro i b new hi o0 o1 n0 n1
      refine ev_succ ?_
      have h1 : ¬ (i : Int) < (xs.length : Int) := by omega
      simp only [impl_Shift.l0, h1, if_false]
      exact ev_ret (by rw [drop_end (by omega)]; rfl)
    | succ d ih =>
      intro i b new hi o0 o1 n0 n1
      refine ev_succ ?_
      have h1 : (i : Int) < (xs.length : Int) := by omega
      have h2 : (0 : Int) ≤ (i : Int) := by omega
      have h4 := w64s (n := i) (by omega)
      have hm : rd_T58 xs (i : Int) ∈ xs := getD_mem _ (by omega)
      have h6 := of_decide_eq_true (List.all_eq_true.1 hall _ hm)
      have h7 := chgP_len h6
      have h8 := chgP_kind h6
      have hd : xs.drop i = rd_T58 xs (i : Int) :: xs.drop (i + 1) := drop_getD z58 xs i (by omega)
      rw [hd, shiftV]
      simp only [impl_Shift.l0, h1, h2, h4, if_true]
      generalize rd_T58 xs (i : Int) = x at *
      have w1 : wrap64 (new + x.f3) = new + x.f3 := w64 (by omega) (by omega)
      rw [w1]
      refine ev_ite (fun h => ?_) (fun h => ?_)
      · rw [if_pos h]
        refine ev_neg (by omega) ?_
        exact ih (i + 1) _ _ (by omega) o0 o1 (by omega) (by omega)
      · rw [if_neg h]
        refine ev_ite (fun h9 => ?_) (fun h9 => ?_)
        · rw [if_pos h9]
          refine ev_ite (fun h10 => ev_ret (by rw [if_pos h10])) (fun h10 => ev_ret ?_)
          rw [if_neg h10, w64 (by omega) (by omega)]
        · rw [if_neg h9, w64 (x := b - x.f3) (by omega) (by omega)]
          refine ev_ite (fun h10 => ?_) (fun h10 => ?_)
          · rw [if_pos h10]
            exact ih (i + 1) _ _ (by omega) (by omega) (by omega) (by omega) (by omega)
          · rw [if_neg h10]
            exact ih (i + 1) _ _ (by omega) (by omega) (by omega) (by omega) (by omega)
  unfold shiftAt
  simp only [impl_Shift.f]
  refine ev_bind (impl_List_ev xs) ?_
  have no : ∀ r, r = (-1 : Int) → Ev (fun k => impl_Shift.j0 k xs a true) r := fun r hr => by
    subst hr
    refine ev_succ ?_
    simp only [impl_Shift.j0, if_true]
    exact ev_ret rfl
  refine ev_ite (fun h => ?_) (fun h => no _ (by rw [if_neg (fun hh => h hh.1)]))
  by_cases h0 : a < 0
  · rw [decide_eq_true h0]
    exact no _ (by rw [if_neg (fun hh => by have := hh.2; omega)])
  · rw [decide_eq_false h0, if_pos ⟨h, by omega⟩]
    refine ev_succ ?_
    simp only [impl_Shift.j0, Bool.false_eq_true, if_false]
    rw [listB, Bool.and_eq_true] at h
    exact key (of_decide_eq_true h.1) h.2 xs.length 0 a 0 (by omega) (by omega) hA (by omega) (by omega)

theorem FnExactShift : ∀ (l0 : List S60) (a1 : Int), (l0.length ≤ maxLen ∧ ∀ y1 ∈ l0, ((Lit.int .i64 y1.f0).wf = true ∧ ((Lit.int .i64 y1.f1).wf = true ∧ ((Lit.int .i64 y1.f2).wf = true ∧ (Lit.int .i64 y1.f3).wf = true)))) → (Lit.int .i64 a1).wf = true → ∃ k, laws_FnExactShift.f k l0 a1 = some true := by
  intro l0 a1 ⟨hl, _⟩ ha
  have ha := wf64 ha
  unfold maxLen at hl
  apply Ev.rounds
  have h5 : wrap64 (1048576 - (l0.length : Int)) = 1048576 - (l0.length : Int) := w64 (by omega) (by omega)
  simp only [laws_FnExactShift.f, laws_szChangeS.f, h5]
  by_cases h6 : 1048576 - (l0.length : Int) < 0
  · simp only [h6, if_true, Option.bind_some, show (-1 : Int) < 0 by omega]
    exact ev_ret rfl
  · simp only [h6, if_false, Option.bind_some]
    have h1 : l0.length ≤ 1048576 := by omega
    have h3 : (l0.map cvChange).length ≤ 1048576 := by simpa using h1
    refine ev_bind (toChangeS_ev l0 h1) ?_
    refine ev_bind (spec_Shift_ev _ _ ha.2) ?_
    refine ev_bind (toChangeS_ev l0 h1) ?_
    refine ev_bind (impl_Shift_ev _ _ ha.2) ?_
    simp only [if_true]
    refine ev_bind (toChangeS_ev l0 h1) ?_
    refine ev_bind (eqChangeS_refl _ (by omega)) ?_
    simp only [if_true]
    exact ev_ret rfl
end Go.Proofs.Ythlpllmdfhbmiaa.Pure
