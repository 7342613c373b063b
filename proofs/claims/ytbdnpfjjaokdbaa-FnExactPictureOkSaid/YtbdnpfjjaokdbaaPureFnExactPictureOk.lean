/-
  The plain statement of FnExactPictureOk: both sides hold a picture to be right by the same test, and the argument is not written.
  Conditions: the statement's own.
-/
import Derived.Test.YtbdnpfjjaokdbaaHFnExactPictureOkx0
import Derived.Test.YtbdnpfjjaokdbaaHFnExactPictureOkx1
import Derived.Test.YtbdnpfjjaokdbaaHFnExactPictureOkx2
import Derived.Test.YtbdnpfjjaokdbaaPureBase
import Derived.Laws.BitsLemmas
namespace Go.Proofs.Ytbdnpfjjaokdbaa.Pure
open Go.RowKit Go.Proofs.Ytbdnpfjjaokdbaa.HFnExactPictureOk Go.Proofs.YtbdnpfjjaokdbaaW.PrintWords Go.Proofs.YtbdnpfjjaokdbaaW.PrintLast Go.Proofs.YtbdnpfjjaokdbaaW.PrintMore Go.Proofs.Ytbdnpfjjaokdbaa.PB
set_option linter.unusedVariables false
set_option linter.unusedSimpArgs false
theorem spec_in_eq (a lo hi : Int) : spec_l1In.f a lo hi = some (decide (lo ≤ a ∧ a ≤ hi)) := by
  unfold spec_l1In.f
  by_cases h : a ≥ lo
  · rw [if_pos h]; simp [show lo ≤ a from h]
  · rw [if_neg h]; simp; omega

theorem impl_in_eq (a lo hi : Int) : impl_in.f a lo hi = some (decide (lo ≤ a ∧ a ≤ hi)) := by
  unfold impl_in.f
  by_cases h : lo ≤ a
  · rw [if_pos h]; simp [h]
  · rw [if_neg h]; simp; omega

/-! #### laws_toInt64S, laws_eqInt64S -/
theorem toInt64S_ev (xs : List Int) (h : xs.length ≤ 1048576) : Ev (fun k => laws_toInt64S.f k xs) xs := by
  have key : ∀ d i, i + d = xs.length → Ev (fun k => laws_toInt64S.l0 k xs ((xs.take i).map id ++ List.replicate (xs.length - i) 0) (i : Int)) (xs.map id) := by
    intro d
    induction d with
    | zero =>
      intro i hi
      refine ev_succ ?_
      have h1 : ¬ ((i : Int) < (xs.length : Int)) := by omega
      simp only [laws_toInt64S.l0, h1, if_false]
      obtain rfl : i = xs.length := by omega
      exact ev_ret (by rw [fill_all])
    | succ d ih =>
      intro i hi
      have hlt : i < xs.length := by omega
      refine ev_succ ?_
      have h1 : (i : Int) < (xs.length : Int) := by omega
      have h2 : (0 : Int) ≤ (i : Int) := by omega
      have h3 : (i : Int) < ((((xs.take i).map id ++ List.replicate (xs.length - i) (0 : Int)).length : Nat) : Int) := by rw [fill_len _ _ _ _ (by omega)]; omega
      have h4 := w64s (n := i) (by omega)
      simp only [laws_toInt64S.l0, h1, h2, h3, if_true, h4]
      have := ih (i + 1) (by omega)
      rw [← fill_set id 0 0 xs i hlt] at this
      exact this
  have h1 : (0 : Int) ≤ (xs.length : Int) := by omega
  have h2 : xs.length ≤ 35184372088832 := by omega
  simp only [laws_toInt64S.f, h1, Int.toNat_natCast, h2, if_true]
  have := key xs.length 0 (by omega)
  rw [← fill_none id 0 xs, List.map_id] at this
  exact this
theorem eqInt64S_ev (xs ys : List Int) (h : xs.length ≤ 4611686018427387904) : Ev (fun k => laws_eqInt64S.f k xs ys) (decide (xs = ys)) := by
  have key : ∀ d i, i + d = xs.length → xs.length = ys.length → Ev (fun k => laws_eqInt64S.l0 k xs ys (i : Int)) (decide (xs.drop i = ys.drop i)) := by
    intro d
    induction d with
    | zero =>
      intro i hi hl
      refine ev_succ ?_
      have h1 : ¬ ((i : Int) < (xs.length : Int)) := by omega
      simp only [laws_eqInt64S.l0, h1, if_false]
      exact ev_ret (by rw [drop_end (by omega), drop_end (by omega)]; simp)
    | succ d ih =>
      intro i hi hl
      refine ev_succ ?_
      have h1 : (i : Int) < (xs.length : Int) := by omega
      have h2 : (0 : Int) ≤ (i : Int) := by omega
      have h3 : (i : Int) < (ys.length : Int) := by omega
      have h4 := w64s (n := i) (by omega)
      simp only [laws_eqInt64S.l0, h1, h2, h3, if_true, h4]
      rw [drop_rd xs i (by omega), drop_rd ys i (by omega)]
      by_cases he : rd xs (i : Int) = rd ys (i : Int)
      · simp only [he, if_true]
        exact ev_eq (ih (i + 1) (by omega) hl) (by simp)
      · simp only [he, if_false]
        exact ev_ret (by simp [he])
  by_cases hl : xs.length = ys.length
  · have h1 : (xs.length : Int) = (ys.length : Int) := by omega
    simp only [laws_eqInt64S.f, h1, if_true]
    exact ev_eq (key xs.length 0 (by omega) hl) (by simp)
  · have h1 : ¬ (xs.length : Int) = (ys.length : Int) := by omega
    simp only [laws_eqInt64S.f, h1, if_false]
    exact ev_ret (by
      have : xs ≠ ys := fun e => hl (by rw [e])
      simp [this])

theorem any_not_all {α : Type} (q : α → Bool) (xs : List α) : (xs.any fun c => !q c) = !(xs.all q) := by
  induction xs with
  | nil => rfl
  | cons c cs ih => simp [List.any_cons, List.all_cons, ih]

theorem impl_PictureOk_idx_eq {α : Type} (q : α → Bool) : ∀ (l : List α) (i : Int), 0 ≤ i → (impl_PictureOk_idxO (fun x => some (q x)) l i).bind (fun t => some (decide (0 ≤ t))) = some (l.any q)
  | [], i, _ => by simp [impl_PictureOk_idxO]
  | x :: xs, i, h => by
    rw [impl_PictureOk_idxO, List.any_cons]
    simp only [Option.bind_some]
    cases q x with
    | true => simp [h]
    | false => simpa using impl_PictureOk_idx_eq q xs (i + 1) (by omega)

/-! #### PictureOk -/
def byB (x : Int) : Bool := decide (0 ≤ x ∧ x ≤ 255)
def sideP (n : Int) : Prop := 4 ≤ n ∧ n ≤ 16 ∧ n % 4 = 0
instance (n : Int) : Decidable (sideP n) := by unfold sideP; infer_instance
def picB (w h : Int) (px : List Int) : Bool := decide (sideP w ∧ sideP h ∧ (px.length : Int) = w * h) && px.all byB
theorem mul_bd {w h : Int} (h1 : 0 ≤ w) (h2 : w ≤ 16) (h3 : 0 ≤ h) (h4 : h ≤ 16) : 0 ≤ w * h ∧ w * h ≤ 256 :=
  ⟨Int.mul_nonneg h1 h3, Int.le_trans (Int.mul_le_mul h2 h4 h3 (by omega)) (by omega)⟩
theorem spec_side_eq (n : Int) : spec_l14Side.f n = some (decide (sideP n)) := by
  unfold spec_l14Side.f
  simp only [spec_in_eq, Option.bind_some]
  by_cases h : 4 ≤ n ∧ n ≤ 16
  · rw [if_pos (decide_eq_true h), Int.tmod_eq_emod_of_nonneg (by omega)]
    congr 1
    rw [Bool.eq_iff_iff]
    simp only [beq_iff_eq, decide_eq_true_eq]
    exact ⟨fun e => ⟨h.1, h.2, e⟩, fun e => e.2.2⟩
  · rw [if_neg (by rw [decide_eq_false h]; simp), decide_eq_false (fun e : sideP n => h ⟨e.1, e.2.1⟩)]
theorem spec_PictureOk_ev (w h : Int) (px : List Int) : Ev (fun k => spec_PictureOk.f k w h px) (picB w h px) := by
  have hby : ∀ a, spec_l11Byte.f a = some (byB a) := by
    intro a
    simp only [spec_l11Byte.f, spec_in_eq, Option.bind_some, byB]
  have key : px.length ≤ 256 → ∀ d i, i + d = px.length → Ev (fun k => spec_PictureOk.l0 k (i : Int) w h px) ((px.drop i).all byB) := by
    intro hl d
    induction d with
    | zero =>
      intro i hi
      refine ev_succ ?_
      have h1 : ¬ (i : Int) < (px.length : Int) := by omega
      simp only [spec_PictureOk.l0, h1, if_false]
      exact ev_ret (by rw [drop_end (by omega)]; rfl)
    | succ d ih =>
      intro i hi
      refine ev_succ ?_
      have h1 : (i : Int) < (px.length : Int) := by omega
      have h2 : (0 : Int) ≤ (i : Int) := by omega
      have h4 := w64s (n := i) (by omega)
      simp only [spec_PictureOk.l0, h1, h2, h4, if_true, hby, Option.bind_some]
      rw [drop_rd px i (by omega), List.all_cons]
      refine ev_ifb (fun e => ?_) (fun e => ev_ret (by rw [e]; rfl))
      rw [e, Bool.true_and]
      exact ih (i + 1) (by omega)
  unfold picB
  simp only [spec_PictureOk.f, spec_side_eq, Option.bind_some]
  have no : ∀ b, b = false → Ev (fun k => spec_PictureOk.j0 k true w h px) (b && px.all byB) := fun b hb => by
    refine ev_succ ?_
    simp only [spec_PictureOk.j0, if_true]
    exact ev_ret (by rw [hb]; rfl)
  refine ev_ifb (fun h1 => ?_) (fun h1 => no _ (decide_eq_false (fun hh => of_decide_eq_false h1 hh.1)))
  refine ev_ifb (fun h2 => ?_) (fun h2 => no _ (decide_eq_false (fun hh => of_decide_eq_false h2 hh.2.1)))
  have h1' := of_decide_eq_true h1
  have h2' := of_decide_eq_true h2
  have hm := mul_bd (by have := h1'.1; omega) h1'.2.1 (by have := h2'.1; omega) h2'.2.1
  rw [w64 (x := w * h) (by omega) (by omega)]
  by_cases h3 : (px.length : Int) = w * h
  · have e : ((px.length : Int) != w * h) = false := bne_eq_false_iff_eq.2 h3
    rw [e, decide_eq_true (show sideP w ∧ sideP h ∧ (px.length : Int) = w * h from ⟨h1', h2', h3⟩), Bool.true_and]
    refine ev_succ ?_
    simp only [spec_PictureOk.j0, Bool.false_eq_true, if_false]
    exact ev_eq (key (by omega) px.length 0 (by omega)) (by rw [List.drop_zero])
  · have e : ((px.length : Int) != w * h) = true := bne_iff_ne.2 h3
    rw [e]
    exact no _ (decide_eq_false (fun hh => h3 hh.2.2))
theorem impl_PictureOk_eq (w h : Int) (px : List Int) : impl_PictureOk.f w h px = some (picB w h px) := by
  have hcon : impl_PictureOk_contains.f px = some (!(px.all byB)) := by
    have e : (fun x => impl_PictureOk_1.f x) = fun x => some (!(byB x)) := by
      funext x
      simp only [impl_PictureOk_1.f, impl_isByte.f, impl_in_eq, Option.bind_some, byB]
    rw [impl_PictureOk_contains.f, e, impl_PictureOk_idx_eq _ _ _ (Int.le_refl _), any_not_all]
  unfold picB impl_PictureOk.f
  simp only [impl_in_eq, hcon, Option.bind_some]
  by_cases g1 : 4 ≤ w ∧ w ≤ 16
  · by_cases g2 : 4 ≤ h ∧ h ≤ 16
    · rw [Int.tmod_eq_emod_of_nonneg (show 0 ≤ w by omega), Int.tmod_eq_emod_of_nonneg (show 0 ≤ h by omega), decide_eq_true g1, decide_eq_true g2]
      have hm := mul_bd (w := w) (h := h) (by omega) g1.2 (by omega) g2.2
      rw [w64 (x := w * h) (by omega) (by omega)]
      simp only [if_true]
      by_cases a : w % 4 = 0
      · rw [if_pos a]
        by_cases b : h % 4 = 0
        · rw [if_pos b]
          by_cases c : (px.length : Int) = w * h
          · rw [if_pos c, decide_eq_true (show sideP w ∧ sideP h ∧ (px.length : Int) = w * h from ⟨⟨g1.1, g1.2, a⟩, ⟨g2.1, g2.2, b⟩, c⟩), Bool.not_not, Bool.true_and]
          · rw [if_neg c, decide_eq_false (fun hh => c hh.2.2), Bool.false_and]
        · rw [if_neg b, decide_eq_false (fun hh => b hh.2.1.2.2), Bool.false_and]
      · rw [if_neg a, decide_eq_false (fun hh => a hh.1.2.2), Bool.false_and]
    · have e : decide (sideP w ∧ sideP h ∧ (px.length : Int) = w * h) = false := decide_eq_false (fun hh => g2 ⟨hh.2.1.1, hh.2.1.2.1⟩)
      rw [e, decide_eq_true g1, decide_eq_false g2]
      simp
  · have e : decide (sideP w ∧ sideP h ∧ (px.length : Int) = w * h) = false := decide_eq_false (fun hh => g1 ⟨hh.1.1, hh.1.2.1⟩)
    rw [e, decide_eq_false g1]
    simp

theorem toPicture_ev (a b : Int) (xs : List Int) (h : xs.length ≤ 1048576) : Ev (fun k => laws_toPicture.f k a b xs) (a, b, xs) := by
  simp only [laws_toPicture.f]
  exact ev_bind (toInt64S_ev xs h) (ev_ret rfl)
theorem eqPicture_refl (a b : Int) (xs : List Int) (h : xs.length ≤ 1048576) : Ev (fun k => laws_eqPicture.f k a b xs a b xs) true := by
  simp only [laws_eqPicture.f, if_true]
  refine ev_bind (eqInt64S_ev _ _ (by omega)) ?_
  simp only [decide_true, if_true]
  exact ev_ret rfl
theorem szPicture_eq (a b : Int) (xs : List Int) (l : Int) (hx : xs.length ≤ maxLen) (h0 : 0 ≤ l) (hl : l ≤ 1048576) : laws_szPicture.f a b xs l = some (if l - (xs.length : Int) < 0 then -1 else l - (xs.length : Int)) := by
  unfold maxLen at hx
  simp only [laws_szPicture.f, laws_szInt64S.f, w64 (x := l - (xs.length : Int)) (by omega) (by omega)]
  by_cases h : l - (xs.length : Int) < 0
  · rw [if_pos h, if_pos h]; rfl
  · rw [if_neg h, if_neg h, Option.bind_some, if_neg h]

theorem FnExactPictureOk : ∀ (a0_0 : Int) (a0_1 : Int) (l0_2 : List Int), ((Lit.int .i64 a0_0).wf = true ∧ ((Lit.int .i64 a0_1).wf = true ∧ (l0_2.length ≤ maxLen ∧ ∀ y1 ∈ l0_2, (Lit.int .i64 y1).wf = true))) → ∃ k, laws_FnExactPictureOk.f k a0_0 a0_1 l0_2 = some true := by
  intro w h px ⟨_, _, hl, _⟩
  apply Ev.rounds
  simp only [laws_FnExactPictureOk.f, szPicture_eq w h px 1048576 hl (by omega) (by omega), Option.bind_some]
  by_cases h6 : 1048576 - (px.length : Int) < 0
  · simp only [h6, if_true, show (-1 : Int) < 0 by omega]
    exact ev_ret rfl
  · simp only [h6, if_false]
    have h1 : px.length ≤ 1048576 := by omega
    refine ev_bind (toPicture_ev w h px h1) ?_
    refine ev_bind (spec_PictureOk_ev w h px) ?_
    refine ev_bind (toPicture_ev w h px h1) ?_
    simp only [impl_PictureOk_eq, Option.bind_some, bne_self_eq_false, Bool.false_eq_true, if_false]
    refine ev_bind (toPicture_ev w h px h1) ?_
    refine ev_bind (eqPicture_refl w h px h1) ?_
    simp only [if_true]
    exact ev_ret rfl
end Go.Proofs.Ytbdnpfjjaokdbaa.Pure
