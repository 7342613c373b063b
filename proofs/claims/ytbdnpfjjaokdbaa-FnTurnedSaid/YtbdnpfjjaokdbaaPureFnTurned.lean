/-
  The plain statement of FnTurned: a block that is turned twice is sixteen times itself; whatever the draw.
  Conditions: the statement's own.
-/
import Derived.Test.YtbdnpfjjaokdbaaHFnTurnedx0
import Derived.Test.YtbdnpfjjaokdbaaHFnTurnedx1
import Derived.Test.YtbdnpfjjaokdbaaHFnTurnedx2
import Derived.Test.YtbdnpfjjaokdbaaHFnTurnedx3
import Derived.Test.YtbdnpfjjaokdbaaHFnTurnedx4
import Derived.Test.YtbdnpfjjaokdbaaHFnTurnedx5
import Derived.Test.YtbdnpfjjaokdbaaPureBase
import Derived.Laws.BitsLemmas
namespace Go.Proofs.Ytbdnpfjjaokdbaa.Pure
open Go.RowKit Go.Proofs.Ytbdnpfjjaokdbaa.HFnTurned Go.Proofs.YtbdnpfjjaokdbaaW.PrintWords Go.Proofs.YtbdnpfjjaokdbaaW.PrintLast Go.Proofs.YtbdnpfjjaokdbaaW.PrintMore Go.Proofs.Ytbdnpfjjaokdbaa.PB
set_option linter.unusedVariables false
set_option linter.unusedSimpArgs false
theorem spec_in_eq (a lo hi : Int) : spec_l1In.f a lo hi = some (decide (lo ≤ a ∧ a ≤ hi)) := by
  unfold spec_l1In.f
  by_cases h : a ≥ lo
  · rw [if_pos h]; simp [show lo ≤ a from h]
  · rw [if_neg h]; simp; omega

theorem impl_in_eq (a lo hi : Int) : impl_in.f a lo hi = some (decide (lo ≤ a ∧ a ≤ hi)) := by
  unfold impl_in.f
  by_cases h : lo ≤ a
  · rw [if_pos h]; simp [h]
  · rw [if_neg h]; simp; omega

theorem any_not_all {α : Type} (q : α → Bool) (xs : List α) : (xs.any fun c => !q c) = !(xs.all q) := by
  induction xs with
  | nil => rfl
  | cons c cs ih => simp [List.any_cons, List.all_cons, ih]

theorem impl_Turn_idx_eq {α : Type} (q : α → Bool) : ∀ (l : List α) (i : Int), 0 ≤ i → (impl_Turn_idxO (fun x => some (q x)) l i).bind (fun t => some (decide (0 ≤ t))) = some (l.any q)
  | [], i, _ => by simp [impl_Turn_idxO]
  | x :: xs, i, h => by
    rw [impl_Turn_idxO, List.any_cons]
    simp only [Option.bind_some]
    cases q x with
    | true => simp [h]
    | false => simpa using impl_Turn_idx_eq q xs (i + 1) (by omega)

/-! #### Turn -/
def trB (x : Int) : Bool := decide (-10000000 ≤ x ∧ x ≤ 10000000)
def turnV (xs : List Int) : List Int := turnG (turnMid xs 4) 4 0
def turnW (xs : List Int) : List Int := if xs.length = 16 then (if xs.all trB = true then turnV xs else []) else []
theorem turnW_len (xs : List Int) : (turnW xs).length ≤ 16 := by
  unfold turnW
  split
  · split
    · rw [turnV, turnG_len]; exact Nat.le_refl _
    · simp
  · simp
theorem turnCol_len (m : List Int) (x : Int) : (turnCol m x).length = 4 := rfl
theorem spec_l14Turn_ev (xs : List Int) (h : xs.length = 16) : Ev (fun k => spec_l14Turn.f k xs) (turnV xs) := by
  have inner : ∀ (m : List Int), m.length = 16 → ∀ V : List Int, ∀ x : Nat, x < 4 → Ev (fun k => spec_l14Turn.l1 k m (turnG m (x + 1) 0) ((x + 1 : Nat) : Int)) V → ∀ d y, y + d = 4 → Ev (fun k => spec_l14Turn.l2 k m (turnG m x y) (x : Int) (turnCol m (x : Int)) (y : Int)) V := by
    intro m hm V x hx hnext d
    induction d with
    | zero =>
      intro y hy
      refine ev_succ ?_
      obtain rfl : y = 4 := by omega
      have h1 : ¬ ((4 : Nat) : Int) < 4 := by omega
      have h4 := w64s (n := x) (by omega)
      simp only [spec_l14Turn.l2, h1, h4, if_false]
      rw [turnG_next]
      exact hnext
    | succ d ih =>
      intro y hy
      refine ev_succ ?_
      have h1 : (y : Int) < 4 := by omega
      have h2 : 0 ≤ (y : Int) := by omega
      have h3 : (y : Int) < ((turnCol m (x : Int)).length : Int) := by rw [turnCol_len]; omega
      have w1 : wrap64 (4 * (y : Int)) = 4 * (y : Int) := w64 (by omega) (by omega)
      have w2 : wrap64 (4 * (y : Int) + (x : Int)) = ((4 * y + x : Nat) : Int) := by rw [w64 (by omega) (by omega)]; omega
      have h5 : 0 ≤ ((4 * y + x : Nat) : Int) := by omega
      have h6 : ((4 * y + x : Nat) : Int) < ((turnG m x y).length : Int) := by rw [turnG_len]; omega
      have h7 := w64s (n := y) (by omega)
      have hset : (turnG m x y).set (4 * y + x) (rd (turnCol m (x : Int)) (y : Int)) = turnG m x (y + 1) := turnG_set m x y hx (by omega)
      simp only [spec_l14Turn.l2, h1, h2, h3, w1, w2, h5, h6, h7, if_true, Int.toNat_natCast, hset]
      exact ih (y + 1) (by omega)
  have outer : ∀ (m : List Int), m.length = 16 → ∀ d x, x + d = 4 → Ev (fun k => spec_l14Turn.l1 k m (turnG m x 0) (x : Int)) (turnG m 4 0) := by
    intro m hm d
    induction d with
    | zero =>
      intro x hx
      refine ev_succ ?_
      obtain rfl : x = 4 := by omega
      have h1 : ¬ ((4 : Nat) : Int) < 4 := by omega
      simp only [spec_l14Turn.l1, h1, if_false]
      exact ev_ret rfl
    | succ d ih =>
      intro x hx
      refine ev_succ ?_
      have h1 : (x : Int) < 4 := by omega
      have h2 : 0 ≤ (x : Int) := by omega
      have h3 : (x : Int) < (m.length : Int) := by omega
      have w1 : wrap64 ((x : Int) + 4) = 4 + (x : Int) := by rw [w64 (by omega) (by omega)]; omega
      have w2 : wrap64 ((x : Int) + 8) = 8 + (x : Int) := by rw [w64 (by omega) (by omega)]; omega
      have w3 : wrap64 ((x : Int) + 12) = 12 + (x : Int) := by rw [w64 (by omega) (by omega)]; omega
      have a1 : 0 ≤ 4 + (x : Int) := by omega
      have a2 : 0 ≤ 8 + (x : Int) := by omega
      have a3 : 0 ≤ 12 + (x : Int) := by omega
      have b1 : 4 + (x : Int) < (m.length : Int) := by omega
      have b2 : 8 + (x : Int) < (m.length : Int) := by omega
      have b3 : 12 + (x : Int) < (m.length : Int) := by omega
      simp only [spec_l14Turn.l1, h1, h2, h3, w1, w2, w3, a1, a2, a3, b1, b2, b3, if_true]
      refine ev_some (a := turnCol m (x : Int)) rfl ?_
      exact inner m hm _ x (by omega) (ih (x + 1) (by omega)) 4 0 (by omega)
  have first : ∀ d i, i + d = 4 → Ev (fun k => spec_l14Turn.l0 k xs (turnMid xs i) (i : Int)) (turnV xs) := by
    intro d
    induction d with
    | zero =>
      intro i hi
      refine ev_succ ?_
      obtain rfl : i = 4 := by omega
      have h1 : ¬ ((4 : Nat) : Int) < 4 := by omega
      have h2 : 16 ≤ 35184372088832 := by omega
      simp only [spec_l14Turn.l0, h1, h2, if_false, if_true]
      have := outer (turnMid xs 4) (turnMid_len xs 4) 4 0 (by omega)
      rw [turnG_0] at this
      exact this
    | succ d ih =>
      intro i hi
      refine ev_succ ?_
      have h1 : (i : Int) < 4 := by omega
      have w0 : wrap64 (4 * (i : Int)) = 4 * (i : Int) := w64 (by omega) (by omega)
      have w1 : wrap64 (4 * (i : Int) + 1) = 4 * (i : Int) + 1 := w64 (by omega) (by omega)
      have w2 : wrap64 (4 * (i : Int) + 2) = 4 * (i : Int) + 2 := w64 (by omega) (by omega)
      have w3 : wrap64 (4 * (i : Int) + 3) = 4 * (i : Int) + 3 := w64 (by omega) (by omega)
      have a0 : 0 ≤ 4 * (i : Int) := by omega
      have a1 : 0 ≤ 4 * (i : Int) + 1 := by omega
      have a2 : 0 ≤ 4 * (i : Int) + 2 := by omega
      have a3 : 0 ≤ 4 * (i : Int) + 3 := by omega
      have b0 : 4 * (i : Int) < (xs.length : Int) := by omega
      have b1 : 4 * (i : Int) + 1 < (xs.length : Int) := by omega
      have b2 : 4 * (i : Int) + 2 < (xs.length : Int) := by omega
      have b3 : 4 * (i : Int) + 3 < (xs.length : Int) := by omega
      have h7 := w64s (n := i) (by omega)
      simp only [spec_l14Turn.l0, h1, w0, w1, w2, w3, a0, a1, a2, a3, b0, b1, b2, b3, h7, if_true]
      refine ev_some (a := turnRow xs (4 * (i : Int))) rfl ?_
      have h8 : (turnMid xs i).length + (turnRow xs (4 * (i : Int))).length < 17592186044416 := by
        rw [turnMid_len, show (turnRow xs (4 * (i : Int))).length = 4 from rfl]; omega
      simp only [h8, if_true]
      exact ih (i + 1) (by omega)
  exact first 4 0 (by omega)
theorem spec_Turn_ev (xs : List Int) : Ev (fun k => spec_Turn.f k xs) (turnW xs) := by
  have hfr : ∀ a, spec_l4By.f a = some (trB a) := by
    intro a
    simp only [spec_l4By.f, spec_in_eq, Option.bind_some, trB]
  unfold turnW
  simp only [spec_Turn.f]
  by_cases h : xs.length = 16
  · rw [if_pos h]
    refine ev_pos (by omega) ?_
    have test : ∀ d i, i + d = 16 → (xs.take i).all trB = true → Ev (fun k => spec_Turn.l0 k xs (i : Int)) (if xs.all trB = true then turnV xs else []) := by
      intro d
      induction d with
      | zero =>
        intro i hi hp
        refine ev_succ ?_
        have h1 : ¬ (i : Int) < 16 := by omega
        simp only [spec_Turn.l0, h1, if_false]
        rw [List.take_of_length_le (by omega)] at hp
        rw [if_pos hp]
        exact ev_bind (spec_l14Turn_ev xs h) (ev_ret rfl)
      | succ d ih =>
        intro i hi hp
        refine ev_succ ?_
        have h1 : (i : Int) < 16 := by omega
        have h2 : (0 : Int) ≤ (i : Int) := by omega
        have h3 : (i : Int) < (xs.length : Int) := by omega
        have h4 := w64s (n := i) (by omega)
        simp only [spec_Turn.l0, h1, h2, h3, h4, if_true, hfr, Option.bind_some]
        refine ev_ifb (fun h => ?_) (fun h => ev_ret ?_)
        · refine ih (i + 1) (by omega) ?_
          rw [take_rd xs i (by omega), List.all_append, hp]
          simp [h]
        · rw [if_neg (fun hh => by rw [List.all_eq_true.1 hh _ (rd_mem (show i < xs.length by omega))] at h; cases h)]
    exact test 16 0 (by omega) (by simp)
  · rw [if_neg h]
    refine ev_neg (by omega) (ev_ret rfl)
theorem impl_Turn_eq (xs : List Int) : impl_Turn.f xs = some (turnW xs) := by
  have hcon : impl_Turn_contains.f xs = some (!(xs.all trB)) := by
    have e : (fun x => impl_Turn_1.f x) = fun x => some (!(trB x)) := by
      funext a
      simp only [impl_Turn_1.f, impl_in_eq, Option.bind_some, trB]
    rw [impl_Turn_contains.f, e, impl_Turn_idx_eq _ xs 0 (by omega), any_not_all]
  unfold turnW impl_Turn.f
  by_cases h : xs.length = 16
  · rw [if_pos h, if_pos (by omega), hcon]
    simp only [Option.bind_some]
    cases hb : xs.all trB with
    | true =>
      rw [if_neg (by simp), if_pos rfl, impl_turn.f, if_pos (by omega)]
      rfl
    | false =>
      rw [if_pos (by simp), if_neg (by simp)]
  · rw [if_neg h, if_neg (by omega)]
theorem impl_Turn_ev (xs : List Int) : Ev (fun _ => impl_Turn.f xs) (turnW xs) := ev_ret (impl_Turn_eq xs)

/-! #### Turned twice -/
theorem four0_plain {a b c d : Int} (B : Int) (hB : B ≤ 1000000000000) (ha : -B ≤ a ∧ a ≤ B) (hb : -B ≤ b ∧ b ≤ B) (hc : -B ≤ c ∧ c ≤ B) (hd : -B ≤ d ∧ d ≤ B) : four0 a b c d = a + b + c + d := by
  unfold four0
  rw [w64 (x := a + b) (by omega) (by omega), w64 (x := a + b + c) (by omega) (by omega), w64 (by omega) (by omega)]
theorem four1_plain {a b c d : Int} (B : Int) (hB : B ≤ 1000000000000) (ha : -B ≤ a ∧ a ≤ B) (hb : -B ≤ b ∧ b ≤ B) (hc : -B ≤ c ∧ c ≤ B) (hd : -B ≤ d ∧ d ≤ B) : four1 a b c d = a + b - c - d := by
  unfold four1
  rw [w64 (x := a + b) (by omega) (by omega), w64 (x := a + b - c) (by omega) (by omega), w64 (by omega) (by omega)]
theorem four2_plain {a b c d : Int} (B : Int) (hB : B ≤ 1000000000000) (ha : -B ≤ a ∧ a ≤ B) (hb : -B ≤ b ∧ b ≤ B) (hc : -B ≤ c ∧ c ≤ B) (hd : -B ≤ d ∧ d ≤ B) : four2 a b c d = a - b - c + d := by
  unfold four2
  rw [w64 (x := a - b) (by omega) (by omega), w64 (x := a - b - c) (by omega) (by omega), w64 (by omega) (by omega)]
theorem four3_plain {a b c d : Int} (B : Int) (hB : B ≤ 1000000000000) (ha : -B ≤ a ∧ a ≤ B) (hb : -B ≤ b ∧ b ≤ B) (hc : -B ≤ c ∧ c ≤ B) (hd : -B ≤ d ∧ d ≤ B) : four3 a b c d = a - b + c - d := by
  unfold four3
  rw [w64 (x := a - b) (by omega) (by omega), w64 (x := a - b + c) (by omega) (by omega), w64 (by omega) (by omega)]
theorem turn_plain {a0 a1 a2 a3 a4 a5 a6 a7 a8 a9 a10 a11 a12 a13 a14 a15 : Int} (h0 : -10000000 ≤ a0 ∧ a0 ≤ 10000000) (h1 : -10000000 ≤ a1 ∧ a1 ≤ 10000000) (h2 : -10000000 ≤ a2 ∧ a2 ≤ 10000000) (h3 : -10000000 ≤ a3 ∧ a3 ≤ 10000000) (h4 : -10000000 ≤ a4 ∧ a4 ≤ 10000000) (h5 : -10000000 ≤ a5 ∧ a5 ≤ 10000000) (h6 : -10000000 ≤ a6 ∧ a6 ≤ 10000000) (h7 : -10000000 ≤ a7 ∧ a7 ≤ 10000000) (h8 : -10000000 ≤ a8 ∧ a8 ≤ 10000000) (h9 : -10000000 ≤ a9 ∧ a9 ≤ 10000000) (h10 : -10000000 ≤ a10 ∧ a10 ≤ 10000000) (h11 : -10000000 ≤ a11 ∧ a11 ≤ 10000000) (h12 : -10000000 ≤ a12 ∧ a12 ≤ 10000000) (h13 : -10000000 ≤ a13 ∧ a13 ≤ 10000000) (h14 : -10000000 ≤ a14 ∧ a14 ≤ 10000000) (h15 : -10000000 ≤ a15 ∧ a15 ≤ 10000000) : turnV [a0, a1, a2, a3, a4, a5, a6, a7, a8, a9, a10, a11, a12, a13, a14, a15] = [a0 + a1 + a2 + a3 + a4 + a5 + a6 + a7 + a8 + a9 + a10 + a11 + a12 + a13 + a14 + a15, a0 + a1 - a2 - a3 + a4 + a5 - a6 - a7 + a8 + a9 - a10 - a11 + a12 + a13 - a14 - a15, a0 - a1 - a2 + a3 + a4 - a5 - a6 + a7 + a8 - a9 - a10 + a11 + a12 - a13 - a14 + a15, a0 - a1 + a2 - a3 + a4 - a5 + a6 - a7 + a8 - a9 + a10 - a11 + a12 - a13 + a14 - a15, a0 + a1 + a2 + a3 + a4 + a5 + a6 + a7 - a8 - a9 - a10 - a11 - a12 - a13 - a14 - a15, a0 + a1 - a2 - a3 + a4 + a5 - a6 - a7 - a8 - a9 + a10 + a11 - a12 - a13 + a14 + a15, a0 - a1 - a2 + a3 + a4 - a5 - a6 + a7 - a8 + a9 + a10 - a11 - a12 + a13 + a14 - a15, a0 - a1 + a2 - a3 + a4 - a5 + a6 - a7 - a8 + a9 - a10 + a11 - a12 + a13 - a14 + a15, a0 + a1 + a2 + a3 - a4 - a5 - a6 - a7 - a8 - a9 - a10 - a11 + a12 + a13 + a14 + a15, a0 + a1 - a2 - a3 - a4 - a5 + a6 + a7 - a8 - a9 + a10 + a11 + a12 + a13 - a14 - a15, a0 - a1 - a2 + a3 - a4 + a5 + a6 - a7 - a8 + a9 + a10 - a11 + a12 - a13 - a14 + a15, a0 - a1 + a2 - a3 - a4 + a5 - a6 + a7 - a8 + a9 - a10 + a11 + a12 - a13 + a14 - a15, a0 + a1 + a2 + a3 - a4 - a5 - a6 - a7 + a8 + a9 + a10 + a11 - a12 - a13 - a14 - a15, a0 + a1 - a2 - a3 - a4 - a5 + a6 + a7 + a8 + a9 - a10 - a11 - a12 - a13 + a14 + a15, a0 - a1 - a2 + a3 - a4 + a5 + a6 - a7 + a8 - a9 - a10 + a11 - a12 + a13 + a14 - a15, a0 - a1 + a2 - a3 - a4 + a5 - a6 + a7 + a8 - a9 + a10 - a11 - a12 + a13 - a14 + a15] := by
  have e00 := four0_plain 10000000 (by omega) h0 h1 h2 h3
  have e01 := four1_plain 10000000 (by omega) h0 h1 h2 h3
  have e02 := four2_plain 10000000 (by omega) h0 h1 h2 h3
  have e03 := four3_plain 10000000 (by omega) h0 h1 h2 h3
  have e10 := four0_plain 10000000 (by omega) h4 h5 h6 h7
  have e11 := four1_plain 10000000 (by omega) h4 h5 h6 h7
  have e12 := four2_plain 10000000 (by omega) h4 h5 h6 h7
  have e13 := four3_plain 10000000 (by omega) h4 h5 h6 h7
  have e20 := four0_plain 10000000 (by omega) h8 h9 h10 h11
  have e21 := four1_plain 10000000 (by omega) h8 h9 h10 h11
  have e22 := four2_plain 10000000 (by omega) h8 h9 h10 h11
  have e23 := four3_plain 10000000 (by omega) h8 h9 h10 h11
  have e30 := four0_plain 10000000 (by omega) h12 h13 h14 h15
  have e31 := four1_plain 10000000 (by omega) h12 h13 h14 h15
  have e32 := four2_plain 10000000 (by omega) h12 h13 h14 h15
  have e33 := four3_plain 10000000 (by omega) h12 h13 h14 h15
  have hx : turnV [a0, a1, a2, a3, a4, a5, a6, a7, a8, a9, a10, a11, a12, a13, a14, a15] = [four0 (four0 a0 a1 a2 a3) (four0 a4 a5 a6 a7) (four0 a8 a9 a10 a11) (four0 a12 a13 a14 a15), four0 (four1 a0 a1 a2 a3) (four1 a4 a5 a6 a7) (four1 a8 a9 a10 a11) (four1 a12 a13 a14 a15), four0 (four2 a0 a1 a2 a3) (four2 a4 a5 a6 a7) (four2 a8 a9 a10 a11) (four2 a12 a13 a14 a15), four0 (four3 a0 a1 a2 a3) (four3 a4 a5 a6 a7) (four3 a8 a9 a10 a11) (four3 a12 a13 a14 a15), four1 (four0 a0 a1 a2 a3) (four0 a4 a5 a6 a7) (four0 a8 a9 a10 a11) (four0 a12 a13 a14 a15), four1 (four1 a0 a1 a2 a3) (four1 a4 a5 a6 a7) (four1 a8 a9 a10 a11) (four1 a12 a13 a14 a15), four1 (four2 a0 a1 a2 a3) (four2 a4 a5 a6 a7) (four2 a8 a9 a10 a11) (four2 a12 a13 a14 a15), four1 (four3 a0 a1 a2 a3) (four3 a4 a5 a6 a7) (four3 a8 a9 a10 a11) (four3 a12 a13 a14 a15), four2 (four0 a0 a1 a2 a3) (four0 a4 a5 a6 a7) (four0 a8 a9 a10 a11) (four0 a12 a13 a14 a15), four2 (four1 a0 a1 a2 a3) (four1 a4 a5 a6 a7) (four1 a8 a9 a10 a11) (four1 a12 a13 a14 a15), four2 (four2 a0 a1 a2 a3) (four2 a4 a5 a6 a7) (four2 a8 a9 a10 a11) (four2 a12 a13 a14 a15), four2 (four3 a0 a1 a2 a3) (four3 a4 a5 a6 a7) (four3 a8 a9 a10 a11) (four3 a12 a13 a14 a15), four3 (four0 a0 a1 a2 a3) (four0 a4 a5 a6 a7) (four0 a8 a9 a10 a11) (four0 a12 a13 a14 a15), four3 (four1 a0 a1 a2 a3) (four1 a4 a5 a6 a7) (four1 a8 a9 a10 a11) (four1 a12 a13 a14 a15), four3 (four2 a0 a1 a2 a3) (four2 a4 a5 a6 a7) (four2 a8 a9 a10 a11) (four2 a12 a13 a14 a15), four3 (four3 a0 a1 a2 a3) (four3 a4 a5 a6 a7) (four3 a8 a9 a10 a11) (four3 a12 a13 a14 a15)] := rfl
  rw [hx, e00, e01, e02, e03, e10, e11, e12, e13, e20, e21, e22, e23, e30, e31, e32, e33]
  rw [four0_plain (a := (a0 + a1 + a2 + a3)) (b := (a4 + a5 + a6 + a7)) (c := (a8 + a9 + a10 + a11)) (d := (a12 + a13 + a14 + a15)) 40000000 (by omega) (by omega) (by omega) (by omega) (by omega)]
  rw [four0_plain (a := (a0 + a1 - a2 - a3)) (b := (a4 + a5 - a6 - a7)) (c := (a8 + a9 - a10 - a11)) (d := (a12 + a13 - a14 - a15)) 40000000 (by omega) (by omega) (by omega) (by omega) (by omega)]
  rw [four0_plain (a := (a0 - a1 - a2 + a3)) (b := (a4 - a5 - a6 + a7)) (c := (a8 - a9 - a10 + a11)) (d := (a12 - a13 - a14 + a15)) 40000000 (by omega) (by omega) (by omega) (by omega) (by omega)]
  rw [four0_plain (a := (a0 - a1 + a2 - a3)) (b := (a4 - a5 + a6 - a7)) (c := (a8 - a9 + a10 - a11)) (d := (a12 - a13 + a14 - a15)) 40000000 (by omega) (by omega) (by omega) (by omega) (by omega)]
  rw [four1_plain (a := (a0 + a1 + a2 + a3)) (b := (a4 + a5 + a6 + a7)) (c := (a8 + a9 + a10 + a11)) (d := (a12 + a13 + a14 + a15)) 40000000 (by omega) (by omega) (by omega) (by omega) (by omega)]
  rw [four1_plain (a := (a0 + a1 - a2 - a3)) (b := (a4 + a5 - a6 - a7)) (c := (a8 + a9 - a10 - a11)) (d := (a12 + a13 - a14 - a15)) 40000000 (by omega) (by omega) (by omega) (by omega) (by omega)]
  rw [four1_plain (a := (a0 - a1 - a2 + a3)) (b := (a4 - a5 - a6 + a7)) (c := (a8 - a9 - a10 + a11)) (d := (a12 - a13 - a14 + a15)) 40000000 (by omega) (by omega) (by omega) (by omega) (by omega)]
  rw [four1_plain (a := (a0 - a1 + a2 - a3)) (b := (a4 - a5 + a6 - a7)) (c := (a8 - a9 + a10 - a11)) (d := (a12 - a13 + a14 - a15)) 40000000 (by omega) (by omega) (by omega) (by omega) (by omega)]
  rw [four2_plain (a := (a0 + a1 + a2 + a3)) (b := (a4 + a5 + a6 + a7)) (c := (a8 + a9 + a10 + a11)) (d := (a12 + a13 + a14 + a15)) 40000000 (by omega) (by omega) (by omega) (by omega) (by omega)]
  rw [four2_plain (a := (a0 + a1 - a2 - a3)) (b := (a4 + a5 - a6 - a7)) (c := (a8 + a9 - a10 - a11)) (d := (a12 + a13 - a14 - a15)) 40000000 (by omega) (by omega) (by omega) (by omega) (by omega)]
  rw [four2_plain (a := (a0 - a1 - a2 + a3)) (b := (a4 - a5 - a6 + a7)) (c := (a8 - a9 - a10 + a11)) (d := (a12 - a13 - a14 + a15)) 40000000 (by omega) (by omega) (by omega) (by omega) (by omega)]
  rw [four2_plain (a := (a0 - a1 + a2 - a3)) (b := (a4 - a5 + a6 - a7)) (c := (a8 - a9 + a10 - a11)) (d := (a12 - a13 + a14 - a15)) 40000000 (by omega) (by omega) (by omega) (by omega) (by omega)]
  rw [four3_plain (a := (a0 + a1 + a2 + a3)) (b := (a4 + a5 + a6 + a7)) (c := (a8 + a9 + a10 + a11)) (d := (a12 + a13 + a14 + a15)) 40000000 (by omega) (by omega) (by omega) (by omega) (by omega)]
  rw [four3_plain (a := (a0 + a1 - a2 - a3)) (b := (a4 + a5 - a6 - a7)) (c := (a8 + a9 - a10 - a11)) (d := (a12 + a13 - a14 - a15)) 40000000 (by omega) (by omega) (by omega) (by omega) (by omega)]
  rw [four3_plain (a := (a0 - a1 - a2 + a3)) (b := (a4 - a5 - a6 + a7)) (c := (a8 - a9 - a10 + a11)) (d := (a12 - a13 - a14 + a15)) 40000000 (by omega) (by omega) (by omega) (by omega) (by omega)]
  rw [four3_plain (a := (a0 - a1 + a2 - a3)) (b := (a4 - a5 + a6 - a7)) (c := (a8 - a9 + a10 - a11)) (d := (a12 - a13 + a14 - a15)) 40000000 (by omega) (by omega) (by omega) (by omega) (by omega)]
  simp only [List.cons.injEq, and_true]
  refine ⟨?_, ?_, ?_, ?_, ?_, ?_, ?_, ?_, ?_, ?_, ?_, ?_, ?_, ?_, ?_, ?_⟩ <;> omega
theorem turn_list16 (xs : List Int) (h : xs.length = 16) : ∃ a0 a1 a2 a3 a4 a5 a6 a7 a8 a9 a10 a11 a12 a13 a14 a15 : Int, xs = [a0, a1, a2, a3, a4, a5, a6, a7, a8, a9, a10, a11, a12, a13, a14, a15] := by
  match xs, h with
  | [a0, a1, a2, a3, a4, a5, a6, a7, a8, a9, a10, a11, a12, a13, a14, a15], _ => exact ⟨_, _, _, _, _, _, _, _, _, _, _, _, _, _, _, _, rfl⟩
theorem trB_iff {x : Int} (h : trB x = true) : -10000000 ≤ x ∧ x ≤ 10000000 := of_decide_eq_true h
set_option maxHeartbeats 1000000 in
theorem turn_twice (xs : List Int) (h : xs.length = 16) (h1 : xs.all trB = true) (h2 : (turnV xs).all trB = true) : turnV (turnV xs) = xs.map (fun x => 16 * x) := by
  obtain ⟨a0, a1, a2, a3, a4, a5, a6, a7, a8, a9, a10, a11, a12, a13, a14, a15, rfl⟩ := turn_list16 xs h
  simp only [List.all_cons, List.all_nil, Bool.and_true, Bool.and_eq_true] at h1
  obtain ⟨g0, g1, g2, g3, g4, g5, g6, g7, g8, g9, g10, g11, g12, g13, g14, g15⟩ := h1
  obtain ⟨t0, t1, t2, t3, t4, t5, t6, t7, t8, t9, t10, t11, t12, t13, t14, t15, e, q0, q1, q2, q3, q4, q5, q6, q7, q8, q9, q10, q11, q12, q13, q14, q15⟩ : ∃ t0 t1 t2 t3 t4 t5 t6 t7 t8 t9 t10 t11 t12 t13 t14 t15 : Int, turnV [a0, a1, a2, a3, a4, a5, a6, a7, a8, a9, a10, a11, a12, a13, a14, a15] = [t0, t1, t2, t3, t4, t5, t6, t7, t8, t9, t10, t11, t12, t13, t14, t15] ∧ t0 = a0 + a1 + a2 + a3 + a4 + a5 + a6 + a7 + a8 + a9 + a10 + a11 + a12 + a13 + a14 + a15 ∧ t1 = a0 + a1 - a2 - a3 + a4 + a5 - a6 - a7 + a8 + a9 - a10 - a11 + a12 + a13 - a14 - a15 ∧ t2 = a0 - a1 - a2 + a3 + a4 - a5 - a6 + a7 + a8 - a9 - a10 + a11 + a12 - a13 - a14 + a15 ∧ t3 = a0 - a1 + a2 - a3 + a4 - a5 + a6 - a7 + a8 - a9 + a10 - a11 + a12 - a13 + a14 - a15 ∧ t4 = a0 + a1 + a2 + a3 + a4 + a5 + a6 + a7 - a8 - a9 - a10 - a11 - a12 - a13 - a14 - a15 ∧ t5 = a0 + a1 - a2 - a3 + a4 + a5 - a6 - a7 - a8 - a9 + a10 + a11 - a12 - a13 + a14 + a15 ∧ t6 = a0 - a1 - a2 + a3 + a4 - a5 - a6 + a7 - a8 + a9 + a10 - a11 - a12 + a13 + a14 - a15 ∧ t7 = a0 - a1 + a2 - a3 + a4 - a5 + a6 - a7 - a8 + a9 - a10 + a11 - a12 + a13 - a14 + a15 ∧ t8 = a0 + a1 + a2 + a3 - a4 - a5 - a6 - a7 - a8 - a9 - a10 - a11 + a12 + a13 + a14 + a15 ∧ t9 = a0 + a1 - a2 - a3 - a4 - a5 + a6 + a7 - a8 - a9 + a10 + a11 + a12 + a13 - a14 - a15 ∧ t10 = a0 - a1 - a2 + a3 - a4 + a5 + a6 - a7 - a8 + a9 + a10 - a11 + a12 - a13 - a14 + a15 ∧ t11 = a0 - a1 + a2 - a3 - a4 + a5 - a6 + a7 - a8 + a9 - a10 + a11 + a12 - a13 + a14 - a15 ∧ t12 = a0 + a1 + a2 + a3 - a4 - a5 - a6 - a7 + a8 + a9 + a10 + a11 - a12 - a13 - a14 - a15 ∧ t13 = a0 + a1 - a2 - a3 - a4 - a5 + a6 + a7 + a8 + a9 - a10 - a11 - a12 - a13 + a14 + a15 ∧ t14 = a0 - a1 - a2 + a3 - a4 + a5 + a6 - a7 + a8 - a9 - a10 + a11 - a12 + a13 + a14 - a15 ∧ t15 = a0 - a1 + a2 - a3 - a4 + a5 - a6 + a7 + a8 - a9 + a10 - a11 - a12 + a13 - a14 + a15 := ⟨_, _, _, _, _, _, _, _, _, _, _, _, _, _, _, _, turn_plain (trB_iff g0) (trB_iff g1) (trB_iff g2) (trB_iff g3) (trB_iff g4) (trB_iff g5) (trB_iff g6) (trB_iff g7) (trB_iff g8) (trB_iff g9) (trB_iff g10) (trB_iff g11) (trB_iff g12) (trB_iff g13) (trB_iff g14) (trB_iff g15), rfl, rfl, rfl, rfl, rfl, rfl, rfl, rfl, rfl, rfl, rfl, rfl, rfl, rfl, rfl, rfl⟩
  rw [e] at h2 ⊢
  simp only [List.all_cons, List.all_nil, Bool.and_true, Bool.and_eq_true] at h2
  obtain ⟨k0, k1, k2, k3, k4, k5, k6, k7, k8, k9, k10, k11, k12, k13, k14, k15⟩ := h2
  rw [turn_plain (trB_iff k0) (trB_iff k1) (trB_iff k2) (trB_iff k3) (trB_iff k4) (trB_iff k5) (trB_iff k6) (trB_iff k7) (trB_iff k8) (trB_iff k9) (trB_iff k10) (trB_iff k11) (trB_iff k12) (trB_iff k13) (trB_iff k14) (trB_iff k15)]
  simp only [List.map_cons, List.map_nil, List.cons.injEq, and_true]
  clear e h g0 k0 g1 k1 g2 k2 g3 k3 g4 k4 g5 k5 g6 k6 g7 k7 g8 k8 g9 k9 g10 k10 g11 k11 g12 k12 g13 k13 g14 k14 g15 k15
  subst q0 q1 q2 q3 q4 q5 q6 q7 q8 q9 q10 q11 q12 q13 q14 q15
  refine ⟨?_, ?_, ?_, ?_, ?_, ?_, ?_, ?_, ?_, ?_, ?_, ?_, ?_, ?_, ?_, ?_⟩ <;> omega

/-! #### the draws' cursor: where it stands (b: the bytes, i: how many are used) -/
def St (b : List Int) (i : Int) : Prop := 0 ≤ i ∧ i ≤ b.length ∧ b.length ≤ 4096
theorem and255 (x : Int) : 0 ≤ Go.bits .and .i64 x 255 ∧ Go.bits .and .i64 x 255 ≤ 255 := by
  have h : ((BitVec.ofInt 64 x) &&& (BitVec.ofInt 64 255)).toNat ≤ 255 := by
    rw [BitVec.toNat_and]
    exact Nat.le_trans Nat.and_le_right (by decide)
  have e : Go.bits .and .i64 x 255 = IntKind.i64.wrap (((BitVec.ofInt 64 x) &&& (BitVec.ofInt 64 255)).toNat : Int) := rfl
  rw [e, IntKind.wrap_i64]
  omega
theorem byte_some {b : List Int} {i : Int} (h : Int) (hs : St b i) : SomeP (spec_l1Byte.f b i h) (fun r => (0 ≤ r.1 ∧ r.1 ≤ 255) ∧ St b r.2.1) := by
  obtain ⟨h1, h2, h3⟩ := hs
  unfold spec_l1Byte.f
  refine somep_ite (fun hl => somep_pos h1 (somep_now ⟨and255 _, ?_⟩)) (fun hl => somep_now ⟨and255 _, h1, h2, h3⟩)
  show St b (wrap64 (i + 1))
  rw [w64 (by omega) (by omega)]
  exact ⟨by omega, by omega, h3⟩
theorem below_some {b : List Int} {i : Int} (h : Int) (n : Int) (hs : St b i) : SomeP (spec_l1Below.f b i h n) (fun r => (0 ≤ r.1 ∧ (0 < n → r.1 < n)) ∧ St b r.2.1) := by
  unfold spec_l1Below.f
  refine somep_ite (fun hn => somep_now ⟨⟨Int.le_refl _, fun h => by omega⟩, hs⟩) (fun hn => somep_ite (fun h2 => ?_) (fun h2 => ?_))
  · refine somep_bind (byte_some h hs) (fun a ha => somep_neg (by omega) (somep_now ⟨?_, ha.2⟩))
    have e : Int.tmod a.1 n = a.1 % n := Int.tmod_eq_emod_of_nonneg ha.1.1
    show 0 ≤ Int.tmod a.1 n ∧ (0 < n → Int.tmod a.1 n < n)
    rw [e]
    exact ⟨Int.emod_nonneg _ (by omega), fun h => Int.emod_lt_of_pos _ h⟩
  · refine somep_bind (byte_some h hs) (fun a ha => somep_bind (byte_some _ ha.2) (fun c hc => somep_bind (byte_some _ hc.2) (fun d hd => somep_bind (byte_some _ hd.2) (fun e he => somep_neg (by omega) (somep_now ⟨?_, he.2⟩)))))
    have h1 := ha.1; have h3 := hc.1; have h4 := hd.1; have h5 := he.1
    have w1 : wrap64 (a.1 * 16777216) = a.1 * 16777216 := w64 (by omega) (by omega)
    have w2 : wrap64 (c.1 * 65536) = c.1 * 65536 := w64 (by omega) (by omega)
    have w3 : wrap64 (d.1 * 256) = d.1 * 256 := w64 (by omega) (by omega)
    show 0 ≤ Int.tmod (wrap64 (wrap64 (wrap64 (wrap64 (a.1 * 16777216) + wrap64 (c.1 * 65536)) + wrap64 (d.1 * 256)) + e.1)) n ∧ (0 < n → Int.tmod (wrap64 (wrap64 (wrap64 (wrap64 (a.1 * 16777216) + wrap64 (c.1 * 65536)) + wrap64 (d.1 * 256)) + e.1)) n < n)
    rw [w1, w2, w3, w64 (x := a.1 * 16777216 + c.1 * 65536) (by omega) (by omega), w64 (x := a.1 * 16777216 + c.1 * 65536 + d.1 * 256) (by omega) (by omega), w64 (by omega) (by omega), Int.tmod_eq_emod_of_nonneg (by omega)]
    exact ⟨Int.emod_nonneg _ (by omega), fun h => Int.emod_lt_of_pos _ h⟩
theorem new_ev (code : List Int) (hc : code.length ≤ 4096) : EvP (fun k => spec_l1New.f k code) (fun r => r.1 = code ∧ St code r.2.1) := by
  have key : ∀ d i (h : Int), i + d = code.length → EvP (fun k => spec_l1New.l0 k code h (i : Int)) (fun r => r.1 = code ∧ St code r.2.1) := by
    intro d
    induction d with
    | zero =>
      intro i h hi
      refine evp_succ ?_
      have h1 : ¬ (i : Int) < (code.length : Int) := by omega
      simp only [spec_l1New.l0, h1, if_false]
      exact evp_now ⟨rfl, by refine ⟨Int.le_refl _, ?_, hc⟩; show (0 : Int) ≤ code.length; omega⟩
    | succ d ih =>
      intro i h hi
      refine evp_succ ?_
      have h1 : (i : Int) < (code.length : Int) := by omega
      have h2 : (0 : Int) ≤ (i : Int) := by omega
      have h4 := w64s (n := i) (by omega)
      simp only [spec_l1New.l0, h1, h2, h4, if_true]
      exact ih (i + 1) _ (by omega)
  exact key code.length 0 _ (by omega)

theorem once_some {b : List Int} {i : Int} (h : Int) (n : Int) (hs : St b i) : SomeP (spec_l1Once.f b i h n) (fun r => St b r.2.1) := by
  unfold spec_l1Once.f
  exact somep_bind (below_some h n hs) (fun a ha => somep_now ha.2)

theorem from_some {b : List Int} {i : Int} (h : Int) (lo hi : Int) (hs : St b i) (h1 : -1000000000000 ≤ lo) (h2 : lo ≤ hi) (h3 : hi ≤ 1000000000000) : SomeP (spec_l1From.f b i h lo hi) (fun r => (lo ≤ r.1 ∧ r.1 ≤ hi) ∧ St b r.2.1) := by
  unfold spec_l1From.f
  have e : wrap64 (wrap64 (hi - lo) + 1) = hi - lo + 1 := by rw [w64 (x := hi - lo) (by omega) (by omega), w64 (by omega) (by omega)]
  rw [e]
  refine somep_bind (below_some h _ hs) (fun a ha => somep_now ⟨?_, ha.2⟩)
  have := ha.1.2 (by omega)
  have := ha.1.1
  show lo ≤ wrap64 (lo + a.1) ∧ wrap64 (lo + a.1) ≤ hi
  rw [w64 (by omega) (by omega)]
  omega

theorem sameInts_ev (xs ys : List Int) (h : xs.length ≤ 4611686018427387904) : Ev (fun k => laws_sameInts.f k xs ys) (decide (xs = ys)) := by
  have key : ∀ d i, i + d = xs.length → xs.length = ys.length → Ev (fun k => laws_sameInts.l0 k xs ys (i : Int)) (decide (xs.drop i = ys.drop i)) := by
    intro d
    induction d with
    | zero =>
      intro i hi hl
      refine ev_succ ?_
      have h1 : ¬ ((i : Int) < (xs.length : Int)) := by omega
      simp only [laws_sameInts.l0, h1, if_false]
      exact ev_ret (by rw [drop_end (by omega), drop_end (by omega)]; simp)
    | succ d ih =>
      intro i hi hl
      refine ev_succ ?_
      have h1 : (i : Int) < (xs.length : Int) := by omega
      have h2 : (0 : Int) ≤ (i : Int) := by omega
      have h3 : (i : Int) < (ys.length : Int) := by omega
      have h4 := w64s (n := i) (by omega)
      simp only [laws_sameInts.l0, h1, h2, h3, if_true, h4]
      rw [drop_rd xs i (by omega), drop_rd ys i (by omega)]
      by_cases he : rd xs (i : Int) = rd ys (i : Int)
      · simp only [he, if_true]
        exact ev_eq (ih (i + 1) (by omega) hl) (by simp)
      · simp only [he, if_false]
        exact ev_ret (by simp [he])
  by_cases hl : xs.length = ys.length
  · have h1 : (xs.length : Int) = (ys.length : Int) := by omega
    simp only [laws_sameInts.f, h1, if_true]
    exact ev_eq (key xs.length 0 (by omega) hl) (by simp)
  · have h1 : ¬ (xs.length : Int) = (ys.length : Int) := by omega
    simp only [laws_sameInts.f, h1, if_false]
    exact ev_ret (by
      have : xs ≠ ys := fun e => hl (by rw [e])
      simp [this])

theorem DrawTurn_ev (code : List Int) (hc : code.length ≤ 4096) : EvP (fun k => spec_DrawTurn.f k code) (fun _ => True) := by
  have jn : ∀ (out : List Int) (b : List Int) (i h : Int), St b i → out.length = 16 → EvP (fun k => spec_DrawTurn.j1 k out b i h) (fun _ => True) := by
    intro out b i h hs ho
    refine evp_succ ?_
    simp only [spec_DrawTurn.j1]
    refine evp_some (once_some h 24 hs) (fun a ha => ?_)
    refine evp_ite (fun _ => ?_) (fun _ => evp_now trivial)
    refine evp_pos (by omega) ?_
    simp only [Option.bind_some]
    refine evp_some (below_some _ 3 ha) (fun c hc => ?_)
    have h2 := hc.1.1
    have h3 := hc.1.2 (by omega)
    have h4 : wrap64 (15 + c.1) = 15 + c.1 := w64 (by omega) (by omega)
    rw [h4]
    exact evp_pos (by omega) (evp_pos (by simp; omega) (evp_now trivial))
  have key : ∀ (b : List Int) (d n : Nat) (out : List Int) (i h : Int), St b i → out.length = n → n + d = 16 → EvP (fun k => spec_DrawTurn.l0 k out (n : Int) b i h) (fun _ => True) := by
    intro b d
    induction d with
    | zero =>
      intro n out i h hs ho hn
      refine evp_succ ?_
      have h1 : ¬ (n : Int) < 16 := by omega
      simp only [spec_DrawTurn.l0, h1, if_false, Option.bind_some]
      refine evp_some (once_some h 14 hs) (fun o ho2 => ?_)
      refine evp_ite (fun _ => ?_) (fun _ => jn _ _ _ _ ho2 (by omega))
      refine evp_some (below_some _ 16 ho2) (fun a ha => ?_)
      refine evp_some (below_some _ 4 ha.2) (fun c hc => ?_)
      have a1 := ha.1.1
      have a2 := ha.1.2 (by omega)
      have c1 := hc.1.1
      have c2 := hc.1.2 (by omega)
      exact evp_pos c1 (evp_pos (by simp; omega) (evp_pos a1 (evp_pos (by omega) (jn _ _ _ _ hc.2 (by simp; omega)))))
    | succ d ih =>
      intro n out i h hs ho hn
      refine evp_succ ?_
      have h1 : (n : Int) < 16 := by omega
      have h2 := w64s (n := n) (by omega)
      have h5 : out.length < 17592186044416 := by omega
      simp only [spec_DrawTurn.l0, h1, h2, h5, if_true]
      exact evp_some (from_some h (-255) 255 hs (by omega) (by omega) (by omega)) (fun a ha => ih (n + 1) _ _ _ ha.2 (by simp; omega) (by omega))
  unfold spec_DrawTurn.f
  refine evp_bind (new_ev code hc) (fun a ha => ?_)
  obtain ⟨c0, i0, h0⟩ := a
  obtain ⟨rfl, hs⟩ := ha
  exact key _ 16 0 [] _ _ hs rfl rfl
theorem FnTurned : laws_FnTurned.Pure := by
  intro code _ _ _
  apply Ev.rounds
  apply evp_true
  simp only [laws_FnTurned.f, laws_big.f, Option.bind_some]
  refine evp_ite (fun _ => evp_now rfl) (fun hb => ?_)
  have hc : code.length ≤ 4096 := by
    have := of_decide_eq_false (Bool.eq_false_iff.2 hb)
    omega
  refine evp_bind (DrawTurn_ev code hc) (fun xs _ => ?_)
  refine evp_ebind (impl_Turn_ev xs) ?_
  refine evp_ebind (spec_Turn_ev xs) ?_
  have hlen := turnW_len xs
  refine evp_ebind (sameInts_ev _ _ (by omega)) ?_
  simp only [decide_true, if_true]
  refine evp_ite (fun _ => evp_now rfl) (fun hne => ?_)
  have hx : xs.length = 16 ∧ xs.all trB = true ∧ turnW xs = turnV xs := by
    unfold turnW at hne ⊢
    by_cases h1 : xs.length = 16
    · rw [if_pos h1] at hne ⊢
      by_cases h2 : xs.all trB = true
      · rw [if_pos h2]
        exact ⟨h1, h2, rfl⟩
      · rw [if_neg h2] at hne
        exact absurd rfl hne
    · rw [if_neg h1] at hne
      exact absurd rfl hne
  obtain ⟨h16, hall, hw⟩ := hx
  rw [hw]
  have hvl : (turnV xs).length = 16 := turnG_len _ _ _
  have last : (turnV xs).all trB = true → ∀ d i : Nat, i + d = 16 → EvP (fun k => laws_FnTurned.l1 k xs (turnV (turnV xs)) (i : Int)) (fun r => r = true) := by
    intro ht
    have hm := turn_twice xs h16 hall ht
    intro d
    induction d with
    | zero =>
      intro i hi
      refine evp_succ ?_
      have h1 : ¬ (i : Int) < 16 := by omega
      simp only [laws_FnTurned.l1, h1, if_false]
      exact evp_now rfl
    | succ d ih =>
      intro i hi
      refine evp_succ ?_
      have h1 : (i : Int) < 16 := by omega
      have h2 : (0 : Int) ≤ (i : Int) := by omega
      have h3 : (i : Int) < ((turnV (turnV xs)).length : Int) := by rw [show (turnV (turnV xs)).length = 16 from turnG_len _ _ _]; omega
      have h4 := w64s (n := i) (by omega)
      have h5 : (i : Int) < (xs.length : Int) := by omega
      have hb := trB_iff (List.all_eq_true.1 hall _ (rd_mem (show i < xs.length by omega)))
      have h6 : rd (turnV (turnV xs)) (i : Int) = wrap64 (16 * rd xs (i : Int)) := by
        rw [w64 (by omega) (by omega), hm]
        have hi2 : i < xs.length := by omega
        simp [rd, List.getD_eq_getElem?_getD, List.getElem?_map, List.getElem?_eq_getElem hi2]
      simp only [laws_FnTurned.l1, h1, h2, h3, h4, h5, if_true]
      exact evp_pos h6 (ih (i + 1) (by omega))
  have first : ∀ d i : Nat, i + d = 16 → ((turnV xs).take i).all trB = true → EvP (fun k => laws_FnTurned.l0 k xs (turnV xs) (i : Int)) (fun r => r = true) := by
    intro d
    induction d with
    | zero =>
      intro i hi hp
      refine evp_succ ?_
      have h1 : ¬ (i : Int) < 16 := by omega
      rw [List.take_of_length_le (by omega)] at hp
      simp only [laws_FnTurned.l0, h1, if_false]
      have hwt : turnW (turnV xs) = turnV (turnV xs) := by unfold turnW; rw [if_pos hvl, if_pos hp]
      refine evp_ebind (impl_Turn_ev (turnV xs)) ?_
      rw [hwt]
      exact last hp 16 0 (by omega)
    | succ d ih =>
      intro i hi hp
      refine evp_succ ?_
      have h1 : (i : Int) < 16 := by omega
      have h2 : (0 : Int) ≤ (i : Int) := by omega
      have h3 : (i : Int) < ((turnV xs).length : Int) := by omega
      have h4 := w64s (n := i) (by omega)
      simp only [laws_FnTurned.l0, h1, h2, h3, h4, if_true]
      refine evp_ite (fun _ => evp_now rfl) (fun g1 => evp_ite (fun _ => evp_now rfl) (fun g2 => ih (i + 1) (by omega) ?_))
      rw [take_rd _ i (by omega), List.all_append, hp]
      simp [trB]
      omega
  exact first 16 0 (by omega) (by simp)
end Go.Proofs.Ytbdnpfjjaokdbaa.Pure
