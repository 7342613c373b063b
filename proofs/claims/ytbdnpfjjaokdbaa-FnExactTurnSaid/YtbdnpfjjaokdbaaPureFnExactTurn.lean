/-
  The plain statement of FnExactTurn: both sides turn the block by the same sums, the argument is not written, and the answer owns its memory.
  Conditions: the statement's own.
-/
import Derived.Test.YtbdnpfjjaokdbaaHFnExactTurnx0
import Derived.Test.YtbdnpfjjaokdbaaHFnExactTurnx1
import Derived.Test.YtbdnpfjjaokdbaaHFnExactTurnx2
import Derived.Test.YtbdnpfjjaokdbaaHFnExactTurnx3
import Derived.Test.YtbdnpfjjaokdbaaHFnExactTurnx4
import Derived.Test.YtbdnpfjjaokdbaaHFnExactTurnx5
import Derived.Test.YtbdnpfjjaokdbaaPureBase
import Derived.Laws.BitsLemmas
namespace Go.Proofs.Ytbdnpfjjaokdbaa.Pure
open Go.RowKit Go.Proofs.Ytbdnpfjjaokdbaa.HFnExactTurn Go.Proofs.YtbdnpfjjaokdbaaW.PrintWords Go.Proofs.YtbdnpfjjaokdbaaW.PrintLast Go.Proofs.YtbdnpfjjaokdbaaW.PrintMore Go.Proofs.Ytbdnpfjjaokdbaa.PB
set_option linter.unusedVariables false
set_option linter.unusedSimpArgs false
theorem spec_in_eq (a lo hi : Int) : spec_l1In.f a lo hi = some (decide (lo ≤ a ∧ a ≤ hi)) := by
  unfold spec_l1In.f
  by_cases h : a ≥ lo
  · rw [if_pos h]; simp [show lo ≤ a from h]
  · rw [if_neg h]; simp; omega

theorem impl_in_eq (a lo hi : Int) : impl_in.f a lo hi = some (decide (lo ≤ a ∧ a ≤ hi)) := by
  unfold impl_in.f
  by_cases h : lo ≤ a
  · rw [if_pos h]; simp [h]
  · rw [if_neg h]; simp; omega

/-! #### laws_toInt64S, laws_eqInt64S -/
theorem toInt64S_ev (xs : List Int) (h : xs.length ≤ 1048576) : Ev (fun k => laws_toInt64S.f k xs) xs := by
  have key : ∀ d i, i + d = xs.length → Ev (fun k => laws_toInt64S.l0 k xs ((xs.take i).map id ++ List.replicate (xs.length - i) 0) (i : Int)) (xs.map id) := by
    intro d
    induction d with
    | zero =>
      intro i hi
      refine ev_succ ?_
      have h1 : ¬ ((i : Int) < (xs.length : Int)) := by omega
      simp only [laws_toInt64S.l0, h1, if_false]
      obtain rfl : i = xs.length := by omega
      exact ev_ret (by rw [fill_all])
    | succ d ih =>
      intro i hi
      have hlt : i < xs.length := by omega
      refine ev_succ ?_
      have h1 : (i : Int) < (xs.length : Int) := by omega
      have h2 : (0 : Int) ≤ (i : Int) := by omega
      have h3 : (i : Int) < ((((xs.take i).map id ++ List.replicate (xs.length - i) (0 : Int)).length : Nat) : Int) := by rw [fill_len _ _ _ _ (by omega)]; omega
      have h4 := w64s (n := i) (by omega)
      simp only [laws_toInt64S.l0, h1, h2, h3, if_true, h4]
      have := ih (i + 1) (by omega)
      rw [← fill_set id 0 0 xs i hlt] at this
      exact this
  have h1 : (0 : Int) ≤ (xs.length : Int) := by omega
  have h2 : xs.length ≤ 35184372088832 := by omega
  simp only [laws_toInt64S.f, h1, Int.toNat_natCast, h2, if_true]
  have := key xs.length 0 (by omega)
  rw [← fill_none id 0 xs, List.map_id] at this
  exact this
theorem eqInt64S_ev (xs ys : List Int) (h : xs.length ≤ 4611686018427387904) : Ev (fun k => laws_eqInt64S.f k xs ys) (decide (xs = ys)) := by
  have key : ∀ d i, i + d = xs.length → xs.length = ys.length → Ev (fun k => laws_eqInt64S.l0 k xs ys (i : Int)) (decide (xs.drop i = ys.drop i)) := by
    intro d
    induction d with
    | zero =>
      intro i hi hl
      refine ev_succ ?_
      have h1 : ¬ ((i : Int) < (xs.length : Int)) := by omega
      simp only [laws_eqInt64S.l0, h1, if_false]
      exact ev_ret (by rw [drop_end (by omega), drop_end (by omega)]; simp)
    | succ d ih =>
      intro i hi hl
      refine ev_succ ?_
      have h1 : (i : Int) < (xs.length : Int) := by omega
      have h2 : (0 : Int) ≤ (i : Int) := by omega
      have h3 : (i : Int) < (ys.length : Int) := by omega
      have h4 := w64s (n := i) (by omega)
      simp only [laws_eqInt64S.l0, h1, h2, h3, if_true, h4]
      rw [drop_rd xs i (by omega), drop_rd ys i (by omega)]
      by_cases he : rd xs (i : Int) = rd ys (i : Int)
      · simp only [he, if_true]
        exact ev_eq (ih (i + 1) (by omega) hl) (by simp)
      · simp only [he, if_false]
        exact ev_ret (by simp [he])
  by_cases hl : xs.length = ys.length
  · have h1 : (xs.length : Int) = (ys.length : Int) := by omega
    simp only [laws_eqInt64S.f, h1, if_true]
    exact ev_eq (key xs.length 0 (by omega) hl) (by simp)
  · have h1 : ¬ (xs.length : Int) = (ys.length : Int) := by omega
    simp only [laws_eqInt64S.f, h1, if_false]
    exact ev_ret (by
      have : xs ≠ ys := fun e => hl (by rw [e])
      simp [this])

/-! #### laws_markInt64S, laws_heldInt64S -/
def markInt64 (k0 : Int) (n : Nat) : List Int := (List.range n).map fun (j : Nat) => k0 + (j : Int)
theorem markInt64_len (k0 : Int) (n : Nat) : (markInt64 k0 n).length = n := by simp [markInt64]
theorem markInt64_rd (k0 : Int) (n i : Nat) (h : i < n) : rd (markInt64 k0 n) (i : Int) = k0 + (i : Int) := by
  simp [markInt64, rd_nat, List.getD_eq_getElem?_getD, List.getElem?_map, List.getElem?_range h]
theorem markInt64S_ev (xs : List Int) (k0 : Int) (hk : 0 ≤ k0) (hk2 : k0 + xs.length < 9223372036854775807) : Ev (fun k => laws_markInt64S.f k xs k0) (k0 + xs.length, markInt64 k0 xs.length) := by
  have key : ∀ d i, i + d = xs.length → Ev (fun k => laws_markInt64S.l0 k (markInt64 k0 i ++ xs.drop i) (k0 + (i : Int)) (i : Int)) (k0 + xs.length, markInt64 k0 xs.length) := by
    intro d
    induction d with
    | zero =>
      intro i hi
      refine ev_succ ?_
      obtain rfl : i = xs.length := by omega
      have h1 : ¬ ((xs.length : Int) < ((markInt64 k0 xs.length ++ xs.drop xs.length).length : Int)) := by simp [markInt64_len]
      simp only [laws_markInt64S.l0, h1, if_false]
      exact ev_ret (by simp)
    | succ d ih =>
      intro i hi
      refine ev_succ ?_
      have h1 : (i : Int) < ((markInt64 k0 i ++ xs.drop i).length : Int) := by simp [markInt64_len]; omega
      have h2 : (0 : Int) ≤ (i : Int) := by omega
      have h4 := w64s (n := i) (by omega)
      have h5 : wrap64 (k0 + (i : Int) + 1) = k0 + ((i + 1 : Nat) : Int) := by rw [w64 (by omega) (by omega)]; omega
      simp only [laws_markInt64S.l0, h1, h2, if_true, h4, h5]
      have := ih (i + 1) (by omega)
      have he : (markInt64 k0 i ++ xs.drop i).set i (k0 + (i : Int)) = markInt64 k0 (i + 1) ++ xs.drop (i + 1) := by
        rw [List.set_append_right _ _ (by rw [markInt64_len]; omega), markInt64_len, Nat.sub_self, drop_rd xs i (by omega)]
        simp [markInt64, List.range_succ]
      rw [← he] at this
      exact this
  have := key xs.length 0 (by omega)
  simpa [laws_markInt64S.f, markInt64] using this
theorem heldInt64S_ev (n : Nat) (k0 : Int) (hk : 0 ≤ k0) (hk2 : k0 + n < 9223372036854775807) : Ev (fun k => laws_heldInt64S.f k (markInt64 k0 n) k0) (k0 + n) := by
  have key : ∀ d i, i + d = n → Ev (fun k => laws_heldInt64S.l0 k (markInt64 k0 n) (k0 + (i : Int)) (i : Int)) (k0 + n) := by
    intro d
    induction d with
    | zero =>
      intro i hi
      refine ev_succ ?_
      obtain rfl : i = n := by omega
      have h1 : ¬ ((i : Int) < ((markInt64 k0 i).length : Int)) := by simp [markInt64_len]
      simp only [laws_heldInt64S.l0, h1, if_false]
      exact ev_ret (by simp)
    | succ d ih =>
      intro i hi
      refine ev_succ ?_
      have h1 : (i : Int) < ((markInt64 k0 n).length : Int) := by simp [markInt64_len]; omega
      have h2 : (0 : Int) ≤ (i : Int) := by omega
      have h4 := w64s (n := i) (by omega)
      have h5 : wrap64 (k0 + (i : Int) + 1) = k0 + ((i + 1 : Nat) : Int) := by rw [w64 (by omega) (by omega)]; omega
      simp only [laws_heldInt64S.l0, h1, h2, if_true, h4, h5, markInt64_rd k0 n i (by omega)]
      exact ih (i + 1) (by omega)
  have := key n 0 (by omega)
  simpa [laws_heldInt64S.f] using this

theorem any_not_all {α : Type} (q : α → Bool) (xs : List α) : (xs.any fun c => !q c) = !(xs.all q) := by
  induction xs with
  | nil => rfl
  | cons c cs ih => simp [List.any_cons, List.all_cons, ih]

theorem impl_Turn_idx_eq {α : Type} (q : α → Bool) : ∀ (l : List α) (i : Int), 0 ≤ i → (impl_Turn_idxO (fun x => some (q x)) l i).bind (fun t => some (decide (0 ≤ t))) = some (l.any q)
  | [], i, _ => by simp [impl_Turn_idxO]
  | x :: xs, i, h => by
    rw [impl_Turn_idxO, List.any_cons]
    simp only [Option.bind_some]
    cases q x with
    | true => simp [h]
    | false => simpa using impl_Turn_idx_eq q xs (i + 1) (by omega)

/-! #### Turn -/
def trB (x : Int) : Bool := decide (-10000000 ≤ x ∧ x ≤ 10000000)
def turnV (xs : List Int) : List Int := turnG (turnMid xs 4) 4 0
def turnW (xs : List Int) : List Int := if xs.length = 16 then (if xs.all trB = true then turnV xs else []) else []
theorem turnW_len (xs : List Int) : (turnW xs).length ≤ 16 := by
  unfold turnW
  split
  · split
    · rw [turnV, turnG_len]; exact Nat.le_refl _
    · simp
  · simp
theorem turnCol_len (m : List Int) (x : Int) : (turnCol m x).length = 4 := rfl
theorem spec_l14Turn_ev (xs : List Int) (h : xs.length = 16) : Ev (fun k => spec_l14Turn.f k xs) (turnV xs) := by
  have inner : ∀ (m : List Int), m.length = 16 → ∀ V : List Int, ∀ x : Nat, x < 4 → Ev (fun k => spec_l14Turn.l1 k m (turnG m (x + 1) 0) ((x + 1 : Nat) : Int)) V → ∀ d y, y + d = 4 → Ev (fun k => spec_l14Turn.l2 k m (turnG m x y) (x : Int) (turnCol m (x : Int)) (y : Int)) V := by
    intro m hm V x hx hnext d
    induction d with
    | zero =>
      intro y hy
      refine ev_succ ?_
      obtain rfl : y = 4 := by omega
      have h1 : ¬ ((4 : Nat) : Int) < 4 := by omega
      have h4 := w64s (n := x) (by omega)
      simp only [spec_l14Turn.l2, h1, h4, if_false]
      rw [turnG_next]
      exact hnext
    | succ d ih =>
      intro y hy
      refine ev_succ ?_
      have h1 : (y : Int) < 4 := by omega
      have h2 : 0 ≤ (y : Int) := by omega
      have h3 : (y : Int) < ((turnCol m (x : Int)).length : Int) := by rw [turnCol_len]; omega
      have w1 : wrap64 (4 * (y : Int)) = 4 * (y : Int) := w64 (by omega) (by omega)
      have w2 : wrap64 (4 * (y : Int) + (x : Int)) = ((4 * y + x : Nat) : Int) := by rw [w64 (by omega) (by omega)]; omega
      have h5 : 0 ≤ ((4 * y + x : Nat) : Int) := by omega
      have h6 : ((4 * y + x : Nat) : Int) < ((turnG m x y).length : Int) := by rw [turnG_len]; omega
      have h7 := w64s (n := y) (by omega)
      have hset : (turnG m x y).set (4 * y + x) (rd (turnCol m (x : Int)) (y : Int)) = turnG m x (y + 1) := turnG_set m x y hx (by omega)
      simp only [spec_l14Turn.l2, h1, h2, h3, w1, w2, h5, h6, h7, if_true, Int.toNat_natCast, hset]
      exact ih (y + 1) (by omega)
  have outer : ∀ (m : List Int), m.length = 16 → ∀ d x, x + d = 4 → Ev (fun k => spec_l14Turn.l1 k m (turnG m x 0) (x : Int)) (turnG m 4 0) := by
    intro m hm d
    induction d with
    | zero =>
      intro x hx
      refine ev_succ ?_
      obtain rfl : x = 4 := by omega
      have h1 : ¬ ((4 : Nat) : Int) < 4 := by omega
      simp only [spec_l14Turn.l1, h1, if_false]
      exact ev_ret rfl
    | succ d ih =>
      intro x hx
      refine ev_succ ?_
      have h1 : (x : Int) < 4 := by omega
      have h2 : 0 ≤ (x : Int) := by omega
      have h3 : (x : Int) < (m.length : Int) := by omega
      have w1 : wrap64 ((x : Int) + 4) = 4 + (x : Int) := by rw [w64 (by omega) (by omega)]; omega
      have w2 : wrap64 ((x : Int) + 8) = 8 + (x : Int) := by rw [w64 (by omega) (by omega)]; omega
      have w3 : wrap64 ((x : Int) + 12) = 12 + (x : Int) := by rw [w64 (by omega) (by omega)]; omega
      have a1 : 0 ≤ 4 + (x : Int) := by omega
      have a2 : 0 ≤ 8 + (x : Int) := by omega
      have a3 : 0 ≤ 12 + (x : Int) := by omega
      have b1 : 4 + (x : Int) < (m.length : Int) := by omega
      have b2 : 8 + (x : Int) < (m.length : Int) := by omega
      have b3 : 12 + (x : Int) < (m.length : Int) := by omega
      simp only [spec_l14Turn.l1, h1, h2, h3, w1, w2, w3, a1, a2, a3, b1, b2, b3, if_true]
      refine ev_some (a := turnCol m (x : Int)) rfl ?_
      exact inner m hm _ x (by omega) (ih (x + 1) (by omega)) 4 0 (by omega)
  have first : ∀ d i, i + d = 4 → Ev (fun k => spec_l14Turn.l0 k xs (turnMid xs i) (i : Int)) (turnV xs) := by
    intro d
    induction d with
    | zero =>
      intro i hi
      refine ev_succ ?_
      obtain rfl : i = 4 := by omega
      have h1 : ¬ ((4 : Nat) : Int) < 4 := by omega
      have h2 : 16 ≤ 35184372088832 := by omega
      simp only [spec_l14Turn.l0, h1, h2, if_false, if_true]
      have := outer (turnMid xs 4) (turnMid_len xs 4) 4 0 (by omega)
      rw [turnG_0] at this
      exact this
    | succ d ih =>
      intro i hi
      refine ev_succ ?_
      have h1 : (i : Int) < 4 := by omega
      have w0 : wrap64 (4 * (i : Int)) = 4 * (i : Int) := w64 (by omega) (by omega)
      have w1 : wrap64 (4 * (i : Int) + 1) = 4 * (i : Int) + 1 := w64 (by omega) (by omega)
      have w2 : wrap64 (4 * (i : Int) + 2) = 4 * (i : Int) + 2 := w64 (by omega) (by omega)
      have w3 : wrap64 (4 * (i : Int) + 3) = 4 * (i : Int) + 3 := w64 (by omega) (by omega)
      have a0 : 0 ≤ 4 * (i : Int) := by omega
      have a1 : 0 ≤ 4 * (i : Int) + 1 := by omega
      have a2 : 0 ≤ 4 * (i : Int) + 2 := by omega
      have a3 : 0 ≤ 4 * (i : Int) + 3 := by omega
      have b0 : 4 * (i : Int) < (xs.length : Int) := by omega
      have b1 : 4 * (i : Int) + 1 < (xs.length : Int) := by omega
      have b2 : 4 * (i : Int) + 2 < (xs.length : Int) := by omega
      have b3 : 4 * (i : Int) + 3 < (xs.length : Int) := by omega
      have h7 := w64s (n := i) (by omega)
      simp only [spec_l14Turn.l0, h1, w0, w1, w2, w3, a0, a1, a2, a3, b0, b1, b2, b3, h7, if_true]
      refine ev_some (a := turnRow xs (4 * (i : Int))) rfl ?_
      have h8 : (turnMid xs i).length + (turnRow xs (4 * (i : Int))).length < 17592186044416 := by
        rw [turnMid_len, show (turnRow xs (4 * (i : Int))).length = 4 from rfl]; omega
      simp only [h8, if_true]
      exact ih (i + 1) (by omega)
  exact first 4 0 (by omega)
theorem spec_Turn_ev (xs : List Int) : Ev (fun k => spec_Turn.f k xs) (turnW xs) := by
  have hfr : ∀ a, spec_l4By.f a = some (trB a) := by
    intro a
    simp only [spec_l4By.f, spec_in_eq, Option.bind_some, trB]
  unfold turnW
  simp only [spec_Turn.f]
  by_cases h : xs.length = 16
  · rw [if_pos h]
    refine ev_pos (by omega) ?_
    have test : ∀ d i, i + d = 16 → (xs.take i).all trB = true → Ev (fun k => spec_Turn.l0 k xs (i : Int)) (if xs.all trB = true then turnV xs else []) := by
      intro d
      induction d with
      | zero =>
        intro i hi hp
        refine ev_succ ?_
        have h1 : ¬ (i : Int) < 16 := by omega
        simp only [spec_Turn.l0, h1, if_false]
        rw [List.take_of_length_le (by omega)] at hp
        rw [if_pos hp]
        exact ev_bind (spec_l14Turn_ev xs h) (ev_ret rfl)
      | succ d ih =>
        intro i hi hp
        refine ev_succ ?_
        have h1 : (i : Int) < 16 := by omega
        have h2 : (0 : Int) ≤ (i : Int) := by omega
        have h3 : (i : Int) < (xs.length : Int) := by omega
        have h4 := w64s (n := i) (by omega)
        simp only [spec_Turn.l0, h1, h2, h3, h4, if_true, hfr, Option.bind_some]
        refine ev_ifb (fun h => ?_) (fun h => ev_ret ?_)
        · refine ih (i + 1) (by omega) ?_
          rw [take_rd xs i (by omega), List.all_append, hp]
          simp [h]
        · rw [if_neg (fun hh => by rw [List.all_eq_true.1 hh _ (rd_mem (show i < xs.length by omega))] at h; cases h)]
    exact test 16 0 (by omega) (by simp)
  · rw [if_neg h]
    refine ev_neg (by omega) (ev_ret rfl)
theorem impl_Turn_eq (xs : List Int) : impl_Turn.f xs = some (turnW xs) := by
  have hcon : impl_Turn_contains.f xs = some (!(xs.all trB)) := by
    have e : (fun x => impl_Turn_1.f x) = fun x => some (!(trB x)) := by
      funext a
      simp only [impl_Turn_1.f, impl_in_eq, Option.bind_some, trB]
    rw [impl_Turn_contains.f, e, impl_Turn_idx_eq _ xs 0 (by omega), any_not_all]
  unfold turnW impl_Turn.f
  by_cases h : xs.length = 16
  · rw [if_pos h, if_pos (by omega), hcon]
    simp only [Option.bind_some]
    cases hb : xs.all trB with
    | true =>
      rw [if_neg (by simp), if_pos rfl, impl_turn.f, if_pos (by omega)]
      rfl
    | false =>
      rw [if_pos (by simp), if_neg (by simp)]
  · rw [if_neg h, if_neg (by omega)]
theorem impl_Turn_ev (xs : List Int) : Ev (fun _ => impl_Turn.f xs) (turnW xs) := ev_ret (impl_Turn_eq xs)

theorem FnExactTurn : laws_FnExactTurn.Pure := by
  intro l0 _ _ _
  apply Ev.rounds
  by_cases hl : (l0.length : Int) > 1048576
  · simp only [laws_FnExactTurn.f, hl, if_true]
    exact ev_ret rfl
  · simp only [laws_FnExactTurn.f, hl, if_false]
    have h1 : l0.length ≤ 1048576 := by omega
    have h2 := turnW_len l0
    refine ev_bind (toInt64S_ev l0 h1) ?_
    refine ev_bind (spec_Turn_ev l0) ?_
    refine ev_bind (toInt64S_ev l0 h1) ?_
    refine ev_bind (impl_Turn_ev l0) ?_
    refine ev_bind (eqInt64S_ev _ _ (by omega)) ?_
    simp only [decide_true, if_true]
    refine ev_bind (toInt64S_ev l0 h1) ?_
    refine ev_bind (eqInt64S_ev l0 l0 (by omega)) ?_
    simp only [decide_true, if_true]
    refine ev_bind (markInt64S_ev l0 1 (by omega) (by omega)) ?_
    have h3 : ¬ (1 + (l0.length : Int) < 0) := by omega
    simp only [h3, if_false]
    refine ev_bind (eqInt64S_ev _ _ (by omega)) ?_
    refine ev_succ ?_
    simp only [laws_FnExactTurn.j0, decide_true, Bool.not_true, Bool.false_eq_true, if_false]
    refine ev_bind (markInt64S_ev _ 1 (by omega) (by omega)) ?_
    refine ev_bind (heldInt64S_ev _ 1 (by omega) (by omega)) ?_
    have h4 : ¬ (1 + ((turnW l0).length : Int) < 0) := by omega
    simp only [h4, if_false, if_true]
    refine ev_bind (toInt64S_ev l0 h1) ?_
    refine ev_bind (impl_Turn_ev l0) ?_
    refine ev_bind (eqInt64S_ev _ _ (by omega)) ?_
    simp only [decide_true, if_true]
    refine ev_bind (heldInt64S_ev _ 1 (by omega) (by omega)) ?_
    simp only [h4, if_false, if_true]
    exact ev_ret rfl
end Go.Proofs.Ytbdnpfjjaokdbaa.Pure
