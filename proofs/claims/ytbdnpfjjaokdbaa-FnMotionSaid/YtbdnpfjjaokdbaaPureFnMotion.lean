/-
  The plain statement of FnMotion: both sides find the same way, which is no farther than two, and a picture's own way from itself is none.
  Conditions: the statement's own.
-/
import Derived.Test.YtbdnpfjjaokdbaaHFnMotionx0
import Derived.Test.YtbdnpfjjaokdbaaHFnMotionx1
import Derived.Test.YtbdnpfjjaokdbaaHFnMotionx2
import Derived.Test.YtbdnpfjjaokdbaaHFnMotionx3
import Derived.Test.YtbdnpfjjaokdbaaHFnMotionx4
import Derived.Test.YtbdnpfjjaokdbaaHFnMotionx5
import Derived.Test.YtbdnpfjjaokdbaaHFnMotionx6
import Derived.Test.YtbdnpfjjaokdbaaHFnMotionx7
import Derived.Test.YtbdnpfjjaokdbaaHFnMotionx8
import Derived.Test.YtbdnpfjjaokdbaaPureBase
import Derived.Laws.BitsLemmas
namespace Go.Proofs.Ytbdnpfjjaokdbaa.Pure
open Go.RowKit Go.Proofs.Ytbdnpfjjaokdbaa.HFnMotion Go.Proofs.YtbdnpfjjaokdbaaW.PrintWords Go.Proofs.YtbdnpfjjaokdbaaW.PrintLast Go.Proofs.YtbdnpfjjaokdbaaW.PrintMore Go.Proofs.Ytbdnpfjjaokdbaa.PB
set_option linter.unusedVariables false
set_option linter.unusedSimpArgs false
theorem spec_in_eq (a lo hi : Int) : spec_l1In.f a lo hi = some (decide (lo ≤ a ∧ a ≤ hi)) := by
  unfold spec_l1In.f
  by_cases h : a ≥ lo
  · rw [if_pos h]; simp [show lo ≤ a from h]
  · rw [if_neg h]; simp; omega

theorem impl_in_eq (a lo hi : Int) : impl_in.f a lo hi = some (decide (lo ≤ a ∧ a ≤ hi)) := by
  unfold impl_in.f
  by_cases h : lo ≤ a
  · rw [if_pos h]; simp [h]
  · rw [if_neg h]; simp; omega

theorem any_not_all {α : Type} (q : α → Bool) (xs : List α) : (xs.any fun c => !q c) = !(xs.all q) := by
  induction xs with
  | nil => rfl
  | cons c cs ih => simp [List.any_cons, List.all_cons, ih]

theorem impl_PictureOk_idx_eq {α : Type} (q : α → Bool) : ∀ (l : List α) (i : Int), 0 ≤ i → (impl_PictureOk_idxO (fun x => some (q x)) l i).bind (fun t => some (decide (0 ≤ t))) = some (l.any q)
  | [], i, _ => by simp [impl_PictureOk_idxO]
  | x :: xs, i, h => by
    rw [impl_PictureOk_idxO, List.any_cons]
    simp only [Option.bind_some]
    cases q x with
    | true => simp [h]
    | false => simpa using impl_PictureOk_idx_eq q xs (i + 1) (by omega)

/-! #### PictureOk -/
def byB (x : Int) : Bool := decide (0 ≤ x ∧ x ≤ 255)
def sideP (n : Int) : Prop := 4 ≤ n ∧ n ≤ 16 ∧ n % 4 = 0
instance (n : Int) : Decidable (sideP n) := by unfold sideP; infer_instance
def picB (w h : Int) (px : List Int) : Bool := decide (sideP w ∧ sideP h ∧ (px.length : Int) = w * h) && px.all byB
theorem mul_bd {w h : Int} (h1 : 0 ≤ w) (h2 : w ≤ 16) (h3 : 0 ≤ h) (h4 : h ≤ 16) : 0 ≤ w * h ∧ w * h ≤ 256 :=
  ⟨Int.mul_nonneg h1 h3, Int.le_trans (Int.mul_le_mul h2 h4 h3 (by omega)) (by omega)⟩
theorem spec_side_eq (n : Int) : spec_l14Side.f n = some (decide (sideP n)) := by
  unfold spec_l14Side.f
  simp only [spec_in_eq, Option.bind_some]
  by_cases h : 4 ≤ n ∧ n ≤ 16
  · rw [if_pos (decide_eq_true h), Int.tmod_eq_emod_of_nonneg (by omega)]
    congr 1
    rw [Bool.eq_iff_iff]
    simp only [beq_iff_eq, decide_eq_true_eq]
    exact ⟨fun e => ⟨h.1, h.2, e⟩, fun e => e.2.2⟩
  · rw [if_neg (by rw [decide_eq_false h]; simp), decide_eq_false (fun e : sideP n => h ⟨e.1, e.2.1⟩)]
theorem spec_PictureOk_ev (w h : Int) (px : List Int) : Ev (fun k => spec_PictureOk.f k w h px) (picB w h px) := by
  have hby : ∀ a, spec_l11Byte.f a = some (byB a) := by
    intro a
    simp only [spec_l11Byte.f, spec_in_eq, Option.bind_some, byB]
  have key : px.length ≤ 256 → ∀ d i, i + d = px.length → Ev (fun k => spec_PictureOk.l0 k (i : Int) w h px) ((px.drop i).all byB) := by
    intro hl d
    induction d with
    | zero =>
      intro i hi
      refine ev_succ ?_
      have h1 : ¬ (i : Int) < (px.length : Int) := by omega
      simp only [spec_PictureOk.l0, h1, if_false]
      exact ev_ret (by rw [drop_end (by omega)]; rfl)
    | succ d ih =>
      intro i hi
      refine ev_succ ?_
      have h1 : (i : Int) < (px.length : Int) := by omega
      have h2 : (0 : Int) ≤ (i : Int) := by omega
      have h4 := w64s (n := i) (by omega)
      simp only [spec_PictureOk.l0, h1, h2, h4, if_true, hby, Option.bind_some]
      rw [drop_rd px i (by omega), List.all_cons]
      refine ev_ifb (fun e => ?_) (fun e => ev_ret (by rw [e]; rfl))
      rw [e, Bool.true_and]
      exact ih (i + 1) (by omega)
  unfold picB
  simp only [spec_PictureOk.f, spec_side_eq, Option.bind_some]
  have no : ∀ b, b = false → Ev (fun k => spec_PictureOk.j0 k true w h px) (b && px.all byB) := fun b hb => by
    refine ev_succ ?_
    simp only [spec_PictureOk.j0, if_true]
    exact ev_ret (by rw [hb]; rfl)
  refine ev_ifb (fun h1 => ?_) (fun h1 => no _ (decide_eq_false (fun hh => of_decide_eq_false h1 hh.1)))
  refine ev_ifb (fun h2 => ?_) (fun h2 => no _ (decide_eq_false (fun hh => of_decide_eq_false h2 hh.2.1)))
  have h1' := of_decide_eq_true h1
  have h2' := of_decide_eq_true h2
  have hm := mul_bd (by have := h1'.1; omega) h1'.2.1 (by have := h2'.1; omega) h2'.2.1
  rw [w64 (x := w * h) (by omega) (by omega)]
  by_cases h3 : (px.length : Int) = w * h
  · have e : ((px.length : Int) != w * h) = false := bne_eq_false_iff_eq.2 h3
    rw [e, decide_eq_true (show sideP w ∧ sideP h ∧ (px.length : Int) = w * h from ⟨h1', h2', h3⟩), Bool.true_and]
    refine ev_succ ?_
    simp only [spec_PictureOk.j0, Bool.false_eq_true, if_false]
    exact ev_eq (key (by omega) px.length 0 (by omega)) (by rw [List.drop_zero])
  · have e : ((px.length : Int) != w * h) = true := bne_iff_ne.2 h3
    rw [e]
    exact no _ (decide_eq_false (fun hh => h3 hh.2.2))
theorem impl_PictureOk_eq (w h : Int) (px : List Int) : impl_PictureOk.f w h px = some (picB w h px) := by
  have hcon : impl_PictureOk_contains.f px = some (!(px.all byB)) := by
    have e : (fun x => impl_PictureOk_1.f x) = fun x => some (!(byB x)) := by
      funext x
      simp only [impl_PictureOk_1.f, impl_isByte.f, impl_in_eq, Option.bind_some, byB]
    rw [impl_PictureOk_contains.f, e, impl_PictureOk_idx_eq _ _ _ (Int.le_refl _), any_not_all]
  unfold picB impl_PictureOk.f
  simp only [impl_in_eq, hcon, Option.bind_some]
  by_cases g1 : 4 ≤ w ∧ w ≤ 16
  · by_cases g2 : 4 ≤ h ∧ h ≤ 16
    · rw [Int.tmod_eq_emod_of_nonneg (show 0 ≤ w by omega), Int.tmod_eq_emod_of_nonneg (show 0 ≤ h by omega), decide_eq_true g1, decide_eq_true g2]
      have hm := mul_bd (w := w) (h := h) (by omega) g1.2 (by omega) g2.2
      rw [w64 (x := w * h) (by omega) (by omega)]
      simp only [if_true]
      by_cases a : w % 4 = 0
      · rw [if_pos a]
        by_cases b : h % 4 = 0
        · rw [if_pos b]
          by_cases c : (px.length : Int) = w * h
          · rw [if_pos c, decide_eq_true (show sideP w ∧ sideP h ∧ (px.length : Int) = w * h from ⟨⟨g1.1, g1.2, a⟩, ⟨g2.1, g2.2, b⟩, c⟩), Bool.not_not, Bool.true_and]
          · rw [if_neg c, decide_eq_false (fun hh => c hh.2.2), Bool.false_and]
        · rw [if_neg b, decide_eq_false (fun hh => b hh.2.1.2.2), Bool.false_and]
      · rw [if_neg a, decide_eq_false (fun hh => a hh.1.2.2), Bool.false_and]
    · have e : decide (sideP w ∧ sideP h ∧ (px.length : Int) = w * h) = false := decide_eq_false (fun hh => g2 ⟨hh.2.1.1, hh.2.1.2.1⟩)
      rw [e, decide_eq_true g1, decide_eq_false g2]
      simp
  · have e : decide (sideP w ∧ sideP h ∧ (px.length : Int) = w * h) = false := decide_eq_false (fun hh => g1 ⟨hh.1.1, hh.1.2.1⟩)
    rw [e, decide_eq_false g1]
    simp

/-! #### Motion: the best of some ways -/
structure Wy where
  o : Int
  d : Int
  y : Int
  x : Int
/-- Less by what it is off, then by how far, then by dy, then by dx. -/
def Wy.lt (a b : Wy) : Prop := a.o < b.o ∨ (a.o = b.o ∧ (a.d < b.d ∨ (a.d = b.d ∧ (a.y < b.y ∨ (a.y = b.y ∧ a.x < b.x)))))
instance (a b : Wy) : Decidable (Wy.lt a b) := by unfold Wy.lt; infer_instance
/-- Less by all but what it is off. -/
def Wy.ahead (a b : Wy) : Prop := a.d < b.d ∨ (a.d = b.d ∧ (a.y < b.y ∨ (a.y = b.y ∧ a.x < b.x)))
instance (a b : Wy) : Decidable (Wy.ahead a b) := by unfold Wy.ahead; infer_instance
def bestLt : Wy → List Wy → Wy
  | m, [] => m
  | m, x :: xs => if Wy.lt x m then bestLt x xs else bestLt m xs
def bestOff : Wy → List Wy → Wy
  | m, [] => m
  | m, x :: xs => if x.o < m.o then bestOff x xs else bestOff m xs
theorem Wy.not_trans {a b c : Wy} (h1 : ¬ Wy.lt b a) (h2 : ¬ Wy.lt c b) : ¬ Wy.lt c a := by
  unfold Wy.lt at *
  omega
theorem Wy.lt_not {a b : Wy} (h1 : Wy.lt b a) : ¬ Wy.lt a b := by
  unfold Wy.lt at *
  omega
theorem bestLt_mem : ∀ (xs : List Wy) (m : Wy), bestLt m xs ∈ m :: xs ∧ ∀ x ∈ m :: xs, ¬ Wy.lt x (bestLt m xs)
  | [], m => ⟨by simp [bestLt], by intro x hx; rw [List.mem_singleton] at hx; subst hx; unfold bestLt Wy.lt; omega⟩
  | y :: xs, m => by
    unfold bestLt
    by_cases h : Wy.lt y m
    · rw [if_pos h]
      obtain ⟨h1, h2⟩ := bestLt_mem xs y
      refine ⟨List.mem_cons_of_mem _ h1, fun x hx => ?_⟩
      rcases List.mem_cons.1 hx with rfl | hx
      · exact Wy.not_trans (h2 y (by simp)) (Wy.lt_not h)
      · exact h2 x hx
    · rw [if_neg h]
      obtain ⟨h1, h2⟩ := bestLt_mem xs m
      refine ⟨?_, fun x hx => ?_⟩
      · rcases List.mem_cons.1 h1 with e | e
        · rw [e]; simp
        · exact List.mem_cons_of_mem _ (List.mem_cons_of_mem _ e)
      · rcases List.mem_cons.1 hx with rfl | hx
        · exact h2 x (by simp)
        · rcases List.mem_cons.1 hx with rfl | hx
          · exact Wy.not_trans (h2 m (by simp)) h
          · exact h2 x (List.mem_cons_of_mem _ hx)
theorem bestOff_mem : ∀ (xs : List Wy) (m : Wy), (m :: xs).Pairwise Wy.ahead → bestOff m xs ∈ m :: xs ∧ ∀ x ∈ m :: xs, ¬ Wy.lt x (bestOff m xs)
  | [], m, _ => ⟨by simp [bestOff], by intro x hx; rw [List.mem_singleton] at hx; subst hx; unfold bestOff Wy.lt; omega⟩
  | y :: xs, m, hp => by
    unfold bestOff
    have hp1 := List.pairwise_cons.1 hp
    have hp2 := List.pairwise_cons.1 hp1.2
    have hmy := hp1.1 y (by simp)
    by_cases h : y.o < m.o
    · rw [if_pos h]
      obtain ⟨h1, h2⟩ := bestOff_mem xs y hp1.2
      refine ⟨List.mem_cons_of_mem _ h1, fun x hx => ?_⟩
      rcases List.mem_cons.1 hx with rfl | hx
      · refine Wy.not_trans (h2 y (by simp)) ?_
        unfold Wy.lt; omega
      · exact h2 x hx
    · rw [if_neg h]
      have hp3 : (m :: xs).Pairwise Wy.ahead := List.pairwise_cons.2 ⟨fun a ha => hp1.1 a (List.mem_cons_of_mem _ ha), hp2.2⟩
      obtain ⟨h1, h2⟩ := bestOff_mem xs m hp3
      refine ⟨?_, fun x hx => ?_⟩
      · rcases List.mem_cons.1 h1 with e | e
        · rw [e]; simp
        · exact List.mem_cons_of_mem _ (List.mem_cons_of_mem _ e)
      · rcases List.mem_cons.1 hx with rfl | hx
        · exact h2 x (by simp)
        · rcases List.mem_cons.1 hx with rfl | hx
          · refine Wy.not_trans (h2 m (by simp)) ?_
            unfold Wy.ahead at hmy; unfold Wy.lt; omega
          · exact h2 x (List.mem_cons_of_mem _ hx)
/-- The best of the same ways in two orders is one. -/
theorem best_same (m n : Wy) (xs ys : List Wy) (hp : (n :: ys).Pairwise Wy.ahead) (h1 : ∀ x, x ∈ m :: xs → x ∈ n :: ys) (h2 : ∀ x, x ∈ n :: ys → x ∈ m :: xs) : bestLt m xs = bestOff n ys := by
  obtain ⟨a1, a2⟩ := bestLt_mem xs m
  obtain ⟨b1, b2⟩ := bestOff_mem ys n hp
  have c1 := a2 _ (h2 _ b1)
  have c2 := b2 _ (h1 _ a1)
  generalize bestLt m xs = p at *
  generalize bestOff n ys = q at *
  cases p; cases q
  unfold Wy.lt at c1 c2
  simp only [Wy.mk.injEq]
  simp only at c1 c2
  omega
/-- The ways of a block in the program's order, and in the order of the reference. -/
def wyRow (o : Int → Int → Int) (y : Int) : List Int → List Wy := List.map fun x => ⟨o y x, x * x + y * y, y, x⟩
def wyAll (o : Int → Int → Int) : List Wy := (wyRow o (-2) [-2, -1, 0, 1, 2]) ++ (wyRow o (-1) [-2, -1, 0, 1, 2]) ++ (wyRow o 0 [-2, -1, 0, 1, 2]) ++ (wyRow o 1 [-2, -1, 0, 1, 2]) ++ (wyRow o 2 [-2, -1, 0, 1, 2])
def wyFar : List (Int × Int) := [(0, 0), (-1, 0), (0, -1), (0, 1), (1, 0), (-1, -1), (-1, 1), (1, -1), (1, 1), (-2, 0), (0, -2), (0, 2), (2, 0), (-2, -1), (-2, 1), (-1, -2), (-1, 2), (1, -2), (1, 2), (2, -1), (2, 1), (-2, -2), (-2, 2), (2, -2), (2, 2)]
def wyOf (o : Int → Int → Int) (p : Int × Int) : Wy := ⟨o p.1 p.2, p.2 * p.2 + p.1 * p.1, p.1, p.2⟩
theorem wy_sorted (o : Int → Int → Int) : (wyFar.map (wyOf o)).Pairwise Wy.ahead := by
  rw [List.pairwise_map]
  have h : wyFar.Pairwise (fun a b : Int × Int => Wy.ahead (wyOf (fun _ _ => 0) a) (wyOf (fun _ _ => 0) b)) := by decide
  exact List.Pairwise.imp (fun h => h) h
theorem wy_same (o : Int → Int → Int) (m n : Wy) (xs ys : List Wy) (e1 : wyAll o = m :: xs) (e2 : wyFar.map (wyOf o) = n :: ys) : bestLt m xs = bestOff n ys := by
  refine best_same m n xs ys (e2 ▸ wy_sorted o) ?_ ?_
  · rw [← e1, ← e2]
    intro x hx
    simp only [wyAll, wyRow, List.map_cons, List.map_nil, List.cons_append, List.nil_append, List.append_assoc, List.mem_cons, List.not_mem_nil, or_false] at hx
    simp only [wyFar, wyOf, List.map_cons, List.map_nil, List.mem_cons, List.not_mem_nil, or_false]
    rcases hx with h | h | h | h | h | h | h | h | h | h | h | h | h | h | h | h | h | h | h | h | h | h | h | h | h <;> subst h <;> simp
  · rw [← e1, ← e2]
    intro x hx
    simp only [wyFar, wyOf, List.map_cons, List.map_nil, List.mem_cons, List.not_mem_nil, or_false] at hx
    simp only [wyAll, wyRow, List.map_cons, List.map_nil, List.cons_append, List.nil_append, List.append_assoc, List.mem_cons, List.not_mem_nil, or_false]
    rcases hx with h | h | h | h | h | h | h | h | h | h | h | h | h | h | h | h | h | h | h | h | h | h | h | h | h <;> subst h <;> simp

/-! #### Motion: a block of pixels, moved -/
structure PicO (w h : Int) (px : List Int) : Prop where
  w1 : 4 ≤ w
  w2 : w ≤ 16
  h1 : 4 ≤ h
  h2 : h ≤ 16
  wm : w % 4 = 0
  hm : h % 4 = 0
  len : (px.length : Int) = w * h
  by_ : px.all byB = true
theorem picO_of {w h : Int} {px : List Int} (hb : picB w h px = true) : PicO w h px := by
  unfold picB at hb
  simp only [Bool.and_eq_true, decide_eq_true_eq] at hb
  obtain ⟨⟨a, b, c⟩, d⟩ := hb
  exact ⟨a.1, a.2.1, b.1, b.2.1, a.2.2, b.2.2, c, d⟩
def cl (n x : Int) : Int := if x < 0 then 0 else if n ≤ x then n - 1 else x
theorem cl_bd {n x : Int} (h : 1 ≤ n) : 0 ≤ cl n x ∧ cl n x ≤ n - 1 := by
  unfold cl
  split
  · omega
  · split <;> omega
def pxAt (w h : Int) (px : List Int) (x y : Int) : Int := rd px (cl h y * w + cl w x)
theorem px_idx {w h a b : Int} {px : List Int} (hp : PicO w h px) (ha : 0 ≤ a ∧ a ≤ h - 1) (hb : 0 ≤ b ∧ b ≤ w - 1) : 0 ≤ a * w ∧ a * w ≤ 256 ∧ 0 ≤ a * w + b ∧ a * w + b < (px.length : Int) ∧ (px.length : Int) ≤ 256 := by
  have g1 := hp.w1; have g2 := hp.w2; have g3 := hp.h1; have g4 := hp.h2
  have e1 : a * w ≤ (h - 1) * w := Int.mul_le_mul_of_nonneg_right ha.2 (by omega)
  have e2 : (h - 1) * w = w * h - w := by rw [Int.sub_mul, Int.one_mul, Int.mul_comm]
  have e3 : 0 ≤ a * w := Int.mul_nonneg ha.1 (by omega)
  have e4 := (mul_bd (w := w) (h := h) (by omega) g2 (by omega) g4).2
  have e5 := hp.len
  refine ⟨e3, ?_, ?_, ?_, ?_⟩ <;> omega
theorem pxAt_by {w h : Int} {px : List Int} (hp : PicO w h px) (x y : Int) : 0 ≤ pxAt w h px x y ∧ pxAt w h px x y ≤ 255 := by
  have g1 := hp.w1; have g3 := hp.h1
  have h5 := px_idx hp (cl_bd (n := h) (x := y) (by omega)) (cl_bd (n := w) (x := x) (by omega))
  obtain ⟨m, hm⟩ := Int.eq_ofNat_of_zero_le h5.2.2.1
  unfold pxAt
  rw [hm] at h5 ⊢
  have h6 := List.all_eq_true.1 hp.by_ _ (rd_mem (xs := px) (i := m) (by omega))
  unfold byB at h6
  exact of_decide_eq_true h6
def blkE (w h : Int) (px : List Int) (bl dx dy : Int) (i : Nat) : Int := pxAt w h px (bl % (w / 4) * 4 + (i : Int) % 4 + dx) (bl / (w / 4) * 4 + (i : Int) / 4 + dy)
def blkG (w h : Int) (px : List Int) (bl dx dy : Int) (n : Nat) : List Int := (List.range n).map (blkE w h px bl dx dy)
abbrev blk (w h : Int) (px : List Int) (bl dx dy : Int) : List Int := blkG w h px bl dx dy 16
theorem blkG_len (w h : Int) (px : List Int) (bl dx dy : Int) (n : Nat) : (blkG w h px bl dx dy n).length = n := by simp [blkG]
theorem blkG_succ (w h : Int) (px : List Int) (bl dx dy : Int) (n : Nat) : blkG w h px bl dx dy (n + 1) = blkG w h px bl dx dy n ++ [blkE w h px bl dx dy n] := by simp [blkG, List.range_succ]
theorem blk_rd (w h : Int) (px : List Int) (bl dx dy : Int) {n i : Nat} (hi : i < n) : rd (blkG w h px bl dx dy n) (i : Int) = blkE w h px bl dx dy i := by
  simp [blkG, rd_nat, List.getD_eq_getElem?_getD, List.getElem?_map, List.getElem?_range hi]
theorem blk_by {w h : Int} {px : List Int} (hp : PicO w h px) (bl dx dy : Int) {n i : Nat} (hi : i < n) : 0 ≤ rd (blkG w h px bl dx dy n) (i : Int) ∧ rd (blkG w h px bl dx dy n) (i : Int) ≤ 255 := by
  rw [blk_rd _ _ _ _ _ _ hi]
  exact pxAt_by hp _ _
/-- Where a block stands. -/
structure BlkO (w bl : Int) : Prop where
  ne : w / 4 ≠ 0
  m0 : 0 ≤ bl % (w / 4) ∧ bl % (w / 4) ≤ 64
  d0 : 0 ≤ bl / (w / 4) ∧ bl / (w / 4) ≤ 64
theorem blk_at {w h bl : Int} {px : List Int} (hp : PicO w h px) (hb : 0 ≤ bl ∧ bl ≤ 64) : BlkO w bl := by
  have g1 := hp.w1; have g2 := hp.w2
  have e3 := Int.emod_nonneg bl (show w / 4 ≠ 0 by omega)
  have e4 := Int.emod_lt_of_pos bl (show 0 < w / 4 by omega)
  have e5 : 0 ≤ bl / (w / 4) := Int.ediv_nonneg hb.1 (by omega)
  have e6 : bl / (w / 4) ≤ bl := Int.ediv_le_self _ hb.1
  exact ⟨by omega, ⟨e3, by omega⟩, ⟨e5, by omega⟩⟩
theorem m4_bd {b : Int} (h : 0 ≤ b ∧ b ≤ 64) : 0 ≤ b * 4 ∧ b * 4 ≤ 1000 := by omega
theorem m4_64 {b : Int} (h : 0 ≤ b ∧ b ≤ 64) : wrap64 (b * 4) = b * 4 := w64 (by omega) (by omega)
theorem mn_cl {n a : Int} (h : 1 ≤ n) : mn (mx a 0) (n - 1) = cl n a := by
  unfold mn mx cl
  split <;> split <;> (first | omega | (split <;> omega))
theorem at_idx {w h x0 y0 dx dy : Int} {px : List Int} (hp : PicO w h px) (i : Nat) (hi : i < 16) (hx : 0 ≤ x0 ∧ x0 ≤ 1000) (hy : 0 ≤ y0 ∧ y0 ≤ 1000) (hdx : -10 ≤ dx ∧ dx ≤ 10) (hdy : -10 ≤ dy ∧ dy ≤ 10) :
    wrap64 ((wrap64 ((mn (mx (wrap64 ((wrap64 (y0 + (wrap64 (Int.tdiv (i : Int) 4)))) + dy)) 0) (wrap64 (h - 1))) * w)) + (mn (mx (wrap64 ((wrap64 (x0 + (Int.tmod (i : Int) 4))) + dx)) 0) (wrap64 (w - 1)))) = cl h (y0 + (i : Int) / 4 + dy) * w + cl w (x0 + (i : Int) % 4 + dx) := by
  have g1 := hp.w1; have g2 := hp.w2; have g3 := hp.h1; have g4 := hp.h2
  rw [Int.tdiv_eq_ediv_of_nonneg (by omega), Int.tmod_eq_emod_of_nonneg (by omega)]
  rw [w64 (x := (i : Int) / 4) (by omega) (by omega), w64 (x := y0 + (i : Int) / 4) (by omega) (by omega), w64 (x := y0 + (i : Int) / 4 + dy) (by omega) (by omega), w64 (x := h - 1) (by omega) (by omega),
    w64 (x := x0 + (i : Int) % 4) (by omega) (by omega), w64 (x := x0 + (i : Int) % 4 + dx) (by omega) (by omega), w64 (x := w - 1) (by omega) (by omega), mn_cl (by omega), mn_cl (by omega)]
  have h5 := px_idx hp (cl_bd (n := h) (x := y0 + (i : Int) / 4 + dy) (by omega)) (cl_bd (n := w) (x := x0 + (i : Int) % 4 + dx) (by omega))
  rw [w64 (x := cl h (y0 + (i : Int) / 4 + dy) * w) (by omega) (by omega), w64 (by omega) (by omega)]
theorem impl_corner_eq {w h bl : Int} {px : List Int} (hp : PicO w h px) (hb : 0 ≤ bl ∧ bl ≤ 64) : impl_Picture_corner.f w h px bl = some (bl % (w / 4) * 4, bl / (w / 4) * 4) := by
  have h6 := blk_at hp hb
  have g1 := hp.w1; have g2 := hp.w2
  unfold impl_Picture_corner.f
  rw [Int.tdiv_eq_ediv_of_nonneg (show 0 ≤ w by omega), w64 (x := w / 4) (by omega) (by omega), if_neg h6.ne, Int.tdiv_eq_ediv_of_nonneg hb.1, Int.tmod_eq_emod_of_nonneg hb.1,
    m4_64 h6.m0, w64 (x := bl / (w / 4)) (Int.le_trans (by decide) h6.d0.1) (Int.le_trans h6.d0.2 (by decide)), m4_64 h6.d0]
theorem impl_at_ev {w h bl dx dy : Int} {px : List Int} (hp : PicO w h px) (hb : 0 ≤ bl ∧ bl ≤ 64) (hdx : -10 ≤ dx ∧ dx ≤ 10) (hdy : -10 ≤ dy ∧ dy ≤ 10) : Ev (fun k => impl_Picture_at.f k w h px bl dx dy) (blk w h px bl dx dy) := by
  have h6 := blk_at hp hb
  simp only [impl_Picture_at.f, impl_corner_eq hp hb, Option.bind_some]
  have key : ∀ d i, i + d = 16 → Ev (fun k => impl_Picture_at.l0 k dx dy (bl % (w / 4) * 4) (bl / (w / 4) * 4) (blkG w h px bl dx dy i) (i : Int) w h px) (blk w h px bl dx dy) := by
    intro d
    induction d with
    | zero =>
      intro i hi
      refine ev_succ ?_
      obtain rfl : i = 16 := by omega
      have h1 : ¬ ((16 : Nat) : Int) < 16 := by omega
      simp only [impl_Picture_at.l0, h1, if_false]
      exact ev_ret rfl
    | succ d ih =>
      intro i hi
      refine ev_succ ?_
      have h1 : (i : Int) < 16 := by omega
      have e := at_idx hp i (by omega) (x0 := bl % (w / 4) * 4) (y0 := bl / (w / 4) * 4) (m4_bd h6.m0) (m4_bd h6.d0) hdx hdy
      have g1 := hp.w1; have g3 := hp.h1
      have h5 := px_idx hp (cl_bd (n := h) (x := bl / (w / 4) * 4 + (i : Int) / 4 + dy) (by omega)) (cl_bd (n := w) (x := bl % (w / 4) * 4 + (i : Int) % 4 + dx) (by omega))
      have h7 := h5.2.2.1
      have h8 := h5.2.2.2.1
      have h9 : (blkG w h px bl dx dy i).length < 17592186044416 := by rw [blkG_len]; omega
      have h4 := w64s (n := i) (by omega)
      simp only [impl_Picture_at.l0, h1, e, h7, h8, h9, h4, if_true]
      have := ih (i + 1) (by omega)
      rw [blkG_succ] at this
      exact this
  exact key 16 0 (by omega)
theorem spec_at_eq {w h x y : Int} {px : List Int} (hp : PicO w h px) (hx : -100000 ≤ x ∧ x ≤ 100000) (hy : -100000 ≤ y ∧ y ≤ 100000) : spec_l14At.f w h px x y = some (pxAt w h px x y) := by
  have g1 := hp.w1; have g2 := hp.w2; have g3 := hp.h1; have g4 := hp.h2
  have hmax : ∀ a, spec_l1Max.f 0 a = some (max 0 a) := by
    intro a; unfold spec_l1Max.f; split
    · congr 1; omega
    · congr 1; omega
  have hmin : ∀ a b, spec_l1Min.f a b = some (min a b) := by
    intro a b; unfold spec_l1Min.f; split
    · congr 1; omega
    · congr 1; omega
  have hc : ∀ n a : Int, 1 ≤ n → min (n - 1) (max 0 a) = cl n a := by
    intro n a hn; unfold cl; split
    · omega
    · split <;> omega
  unfold spec_l14At.f pxAt
  simp only [hmax, hmin, Option.bind_some]
  rw [w64 (x := w - 1) (by omega) (by omega), w64 (x := h - 1) (by omega) (by omega), hc w x (by omega), hc h y (by omega)]
  have h5 := px_idx hp (cl_bd (n := h) (x := y) (by omega)) (cl_bd (n := w) (x := x) (by omega))
  rw [w64 (x := cl h y * w) (by omega) (by omega), w64 (by omega) (by omega), if_pos h5.2.2.1, if_pos h5.2.2.2.1]
theorem spec_bx {b d : Int} (y x : Nat) (hx : x < 4) (hb : 0 ≤ b ∧ b ≤ 64) (hd : -10 ≤ d ∧ d ≤ 10) : wrap64 ((wrap64 ((wrap64 (b * 4)) + (x : Int))) + d) = b * 4 + ((4 * y + x : Nat) : Int) % 4 + d := by
  rw [w64 (x := b * 4) (by omega) (by omega), w64 (x := b * 4 + (x : Int)) (by omega) (by omega), w64 (by omega) (by omega)]
  omega
theorem spec_by {b d : Int} (y x : Nat) (hx : x < 4) (hy : y < 4) (hb : 0 ≤ b ∧ b ≤ 64) (hd : -10 ≤ d ∧ d ≤ 10) : wrap64 ((wrap64 ((wrap64 ((wrap64 b) * 4)) + (y : Int))) + d) = b * 4 + ((4 * y + x : Nat) : Int) / 4 + d := by
  rw [w64 (x := b) (by omega) (by omega), w64 (x := b * 4) (by omega) (by omega), w64 (x := b * 4 + (y : Int)) (by omega) (by omega), w64 (by omega) (by omega)]
  omega
theorem xy_bd {b d m : Int} (hb : 0 ≤ b ∧ b ≤ 64) (hd : -10 ≤ d ∧ d ≤ 10) (hm : 0 ≤ m ∧ m ≤ 15) : -100000 ≤ b * 4 + m + d ∧ b * 4 + m + d ≤ 100000 := by omega
theorem mod_bd (n : Nat) (m : Nat) (h : n < 16) : 0 ≤ (n : Int) % 4 ∧ (n : Int) % 4 ≤ 15 := by omega
theorem div_bd (n : Nat) (m : Nat) (h : n < 16) : 0 ≤ (n : Int) / 4 ∧ (n : Int) / 4 ≤ 15 := by omega
theorem spec_block_ev {w h bl dx dy : Int} {px : List Int} (hp : PicO w h px) (hb : 0 ≤ bl ∧ bl ≤ 64) (hdx : -10 ≤ dx ∧ dx ≤ 10) (hdy : -10 ≤ dy ∧ dy ≤ 10) : Ev (fun k => spec_l14Block.f k w h px bl dx dy) (blk w h px bl dx dy) := by
  have h6 := blk_at hp hb
  have g1 := hp.w1; have g2 := hp.w2
  have ew : wrap64 (Int.tdiv w 4) = w / 4 := by rw [Int.tdiv_eq_ediv_of_nonneg (by omega), w64 (by omega) (by omega)]
  simp only [spec_l14Block.f, ew]
  have inner : ∀ V, ∀ y : Nat, y < 4 → Ev (fun k => spec_l14Block.l0 k bl dx dy (blkG w h px bl dx dy (4 * y + 4)) (w / 4) ((y + 1 : Nat) : Int) w h px) V → ∀ d x, x + d = 4 → Ev (fun k => spec_l14Block.l1 k bl dx dy (blkG w h px bl dx dy (4 * y + x)) (w / 4) (y : Int) (x : Int) w h px) V := by
    intro V y hy hnext d
    induction d with
    | zero =>
      intro x hx
      refine ev_succ ?_
      obtain rfl : x = 4 := by omega
      have h1 : ¬ ((4 : Nat) : Int) < 4 := by omega
      have h4 := w64s (n := y) (by omega)
      simp only [spec_l14Block.l1, h1, h4, if_false]
      exact hnext
    | succ d ih =>
      intro x hx
      refine ev_succ ?_
      have h1 : (x : Int) < 4 := by omega
      have h4 := w64s (n := x) (by omega)
      have e1 : wrap64 ((wrap64 ((wrap64 ((Int.tmod bl (w / 4)) * 4)) + (x : Int))) + dx) = bl % (w / 4) * 4 + ((4 * y + x : Nat) : Int) % 4 + dx := by
        rw [Int.tmod_eq_emod_of_nonneg hb.1]
        exact spec_bx y x (by omega) h6.m0 hdx
      have e2 : wrap64 ((wrap64 ((wrap64 ((wrap64 (Int.tdiv bl (w / 4))) * 4)) + (y : Int))) + dy) = bl / (w / 4) * 4 + ((4 * y + x : Nat) : Int) / 4 + dy := by
        rw [Int.tdiv_eq_ediv_of_nonneg hb.1]
        exact spec_by y x (by omega) (by omega) h6.d0 hdy
      have h9 : (blkG w h px bl dx dy (4 * y + x)).length < 17592186044416 := by rw [blkG_len]; omega
      have h15 : 4 * y + x < 16 := by omega
      have h7 := h6.ne
      simp only [spec_l14Block.l1, h1, h7, e1, e2, h9, h4, if_true, if_false]
      rw [spec_at_eq hp (xy_bd h6.m0 hdx (mod_bd _ 0 h15)) (xy_bd h6.d0 hdy (div_bd _ 0 h15))]
      simp only [Option.bind_some]
      have := ih (x + 1) (by omega)
      rw [show 4 * y + (x + 1) = (4 * y + x) + 1 by omega, blkG_succ] at this
      exact this
  have outer : ∀ d y, y + d = 4 → Ev (fun k => spec_l14Block.l0 k bl dx dy (blkG w h px bl dx dy (4 * y)) (w / 4) (y : Int) w h px) (blk w h px bl dx dy) := by
    intro d
    induction d with
    | zero =>
      intro y hy
      refine ev_succ ?_
      obtain rfl : y = 4 := by omega
      have h1 : ¬ ((4 : Nat) : Int) < 4 := by omega
      simp only [spec_l14Block.l0, h1, if_false]
      exact ev_ret rfl
    | succ d ih =>
      intro y hy
      refine ev_succ ?_
      have h1 : (y : Int) < 4 := by omega
      simp only [spec_l14Block.l0, h1, if_true]
      have := ih (y + 1) (by omega)
      rw [show 4 * (y + 1) = 4 * y + 4 by omega] at this
      exact inner _ y (by omega) this 4 0 (by omega)
  exact outer 4 0 (by omega)
/-! #### how unlike two blocks are -/
def dif (a b : Int) : Int := if a < b then b - a else a - b
def offG (a b : List Int) : Nat → Int
  | 0 => 0
  | n + 1 => offG a b n + dif (rd a (n : Int)) (rd b (n : Int))
def ByN (a : List Int) (n : Nat) : Prop := ∀ i : Nat, i < n → 0 ≤ rd a (i : Int) ∧ rd a (i : Int) ≤ 255
theorem offG_bd {a b : List Int} {m : Nat} (ha : ByN a m) (hb : ByN b m) : ∀ n, n ≤ m → 0 ≤ offG a b n ∧ offG a b n ≤ 255 * (n : Int)
  | 0, _ => by unfold offG; omega
  | n + 1, h => by
    have h1 := offG_bd ha hb n (by omega)
    have h2 := ha n (by omega)
    have h3 := hb n (by omega)
    unfold offG dif
    split <;> omega
theorem impl_offBy_ev {a b : List Int} (hla : a.length = 16) (hlb : b.length = 16) (ha : ByN a 16) (hb : ByN b 16) : Ev (fun k => impl_offBy.f k a b) (offG a b 16) := by
  have key : ∀ d i, i + d = 16 → Ev (fun k => impl_offBy.l0 k b (offG a b i) a (a.length : Int) (i : Int)) (offG a b 16) := by
    intro d
    induction d with
    | zero =>
      intro i hi
      refine ev_succ ?_
      obtain rfl : i = 16 := by omega
      have h1 : ¬ ((16 : Nat) : Int) < (a.length : Int) := by omega
      simp only [impl_offBy.l0, h1, if_false]
      exact ev_ret rfl
    | succ d ih =>
      intro i hi
      refine ev_succ ?_
      have h1 : (i : Int) < (a.length : Int) := by omega
      have h2 : 0 ≤ (i : Int) := by omega
      have h3 : (i : Int) < (b.length : Int) := by omega
      have h4 := w64s (n := i) (by omega)
      have h5 := offG_bd ha hb i (by omega)
      have h6 := ha i (by omega)
      have h7 := hb i (by omega)
      have e : wrap64 (offG a b i + mx (wrap64 (rd a (i : Int) - rd b (i : Int))) (wrap64 (rd b (i : Int) - rd a (i : Int)))) = offG a b (i + 1) := by
        rw [w64 (x := rd a (i : Int) - rd b (i : Int)) (by omega) (by omega), w64 (x := rd b (i : Int) - rd a (i : Int)) (by omega) (by omega)]
        have : mx (rd a (i : Int) - rd b (i : Int)) (rd b (i : Int) - rd a (i : Int)) = dif (rd a (i : Int)) (rd b (i : Int)) := by
          unfold mx dif
          split <;> split <;> omega
        have h8 := (offG_bd ha hb (i + 1) (by omega))
        rw [this]
        show wrap64 (offG a b (i + 1)) = _
        exact w64 (by omega) (by omega)
      simp only [impl_offBy.l0, h1, h2, h3, h4, e, if_true]
      exact ih (i + 1) (by omega)
  exact key 16 0 (by omega)
/-! #### the program's order of the ways -/
def cmpI (a b : Int) : Int := if a < b then -1 else if b < a then 1 else 0
theorem compare_eq (a b : Int) : cmp_Compare_int64.f a b = some (cmpI a b) := by
  unfold cmp_Compare_int64.f cmp_isNaN_int64.f cmpI
  simp only [bne_self_eq_false, Option.bind_some, Bool.false_eq_true, if_false]
  by_cases h : a < b
  · simp [h]
  · by_cases h2 : b < a
    · simp [h, h2]
    · simp [h, h2]
def orL : List Int → Int
  | [] => 0
  | x :: xs => if x = 0 then orL xs else x
theorem cmp_or_ev (xs : List Int) (hl : xs.length ≤ 100) : Ev (fun k => cmp_Or_int.f k xs) (orL xs) := by
  have key : ∀ d i, i + d = xs.length → Ev (fun k => cmp_Or_int.l0 k 0 xs (xs.length : Int) (i : Int)) (orL (xs.drop i)) := by
    intro d
    induction d with
    | zero =>
      intro i hi
      refine ev_succ ?_
      have h1 : ¬ (i : Int) < (xs.length : Int) := by omega
      simp only [cmp_Or_int.l0, h1, if_false]
      exact ev_ret (by rw [drop_end (by omega)]; rfl)
    | succ d ih =>
      intro i hi
      refine ev_succ ?_
      have h1 : (i : Int) < (xs.length : Int) := by omega
      have h2 : 0 ≤ (i : Int) := by omega
      have h4 := w64s (n := i) (by omega)
      simp only [cmp_Or_int.l0, h1, h2, h4, if_true]
      rw [drop_rd xs i (by omega)]
      refine ev_ite (fun h => ?_) (fun h => ev_ret ?_)
      · simp only [orL, h, if_true]
        exact ih (i + 1) (by omega)
      · simp only [orL, h, if_false]
  exact key xs.length 0 (by omega)
def Wy.good (a : Wy) : Prop := a.d = a.x * a.x + a.y * a.y ∧ (-2 ≤ a.x ∧ a.x ≤ 2) ∧ (-2 ≤ a.y ∧ a.y ≤ 2)
theorem sq_bd {x : Int} (h : -2 ≤ x ∧ x ≤ 2) : 0 ≤ x * x ∧ x * x ≤ 4 := by
  have : x = -2 ∨ x = -1 ∨ x = 0 ∨ x = 1 ∨ x = 2 := by omega
  rcases this with rfl | rfl | rfl | rfl | rfl <;> decide
theorem w_far {x y : Int} (hx : -2 ≤ x ∧ x ≤ 2) (hy : -2 ≤ y ∧ y ≤ 2) : wrap64 ((wrap64 (x * x)) + (wrap64 (y * y))) = x * x + y * y := by
  have h1 := sq_bd hx
  have h2 := sq_bd hy
  rw [w64 (x := x * x) (by omega) (by omega), w64 (x := y * y) (by omega) (by omega), w64 (by omega) (by omega)]
theorem motion_1_ev {a b : Wy} (ha : a.good) (hb : b.good) : EvP (fun k => impl_motion_1.f k a.o a.x a.y b.o b.x b.y) (fun t => t < 0 ↔ Wy.lt a b) := by
  simp only [impl_motion_1.f, compare_eq, Option.bind_some, w_far ha.2.1 ha.2.2, w_far hb.2.1 hb.2.2, ← ha.1, ← hb.1]
  refine evp_ebind (cmp_or_ev _ (by simp)) (evp_now ?_)
  simp only [orL, cmpI, Wy.lt]
  repeat' split
  all_goals first | omega | (constructor <;> intro <;> omega)
def toS (a : Wy) : S89 := ⟨a.o, a.x, a.y⟩
theorem motion_go_ev : ∀ (xs : List Wy) (m : Wy), m.good → (∀ x ∈ xs, x.good) → Ev (fun k => impl_motion_go k (toS m) (xs.map toS)) ((bestLt m xs).o, (bestLt m xs).x, (bestLt m xs).y)
  | [], m, _, _ => ev_ret rfl
  | x :: xs, m, hm, hx => by
    have h1 := hx x (by simp)
    obtain ⟨t, ht, hlt⟩ := motion_1_ev h1 hm
    simp only [List.map_cons, impl_motion_go]
    refine ev_bind ht (ev_ite (fun h => ?_) (fun h => ?_))
    · unfold bestLt
      rw [if_pos (hlt.1 h)]
      exact motion_go_ev xs x h1 (fun y hy => hx y (List.mem_cons_of_mem _ hy))
    · unfold bestLt
      rw [if_neg (fun hh => h (hlt.2 hh))]
      exact motion_go_ev xs m hm (fun y hy => hx y (List.mem_cons_of_mem _ hy))
/-! #### both sides -/
def motO (w h : Int) (old p : List Int) (bl : Int) (y x : Int) : Int := offG (blk w h p bl 0 0) (blk w h old bl x y) 16
def motW (w h : Int) (old p : List Int) (bl : Int) : Wy := bestOff (wyOf (motO w h old p bl) (0, 0)) ((wyFar.drop 1).map (wyOf (motO w h old p bl)))
theorem motO_bd {w h : Int} {old p : List Int} (ho : PicO w h old) (hp : PicO w h p) (bl y x : Int) : 0 ≤ motO w h old p bl y x ∧ motO w h old p bl y x ≤ 4080 := by
  have := offG_bd (a := blk w h p bl 0 0) (b := blk w h old bl x y) (m := 16) (fun i hi => blk_by hp _ _ _ hi) (fun i hi => blk_by ho _ _ _ hi) 16 (by omega)
  unfold motO
  omega
/-- The ways that are laid so far. -/
def wayPairs (n : Nat) : List (Int × Int) := (List.range n).map fun (i : Nat) => ((i : Int) / 5 - 2, (i : Int) % 5 - 2)
def waysG (o : Int → Int → Int) (n : Nat) : List Wy := (wayPairs n).map (wyOf o)
theorem waysG_len (o : Int → Int → Int) (n : Nat) : (waysG o n).length = n := by simp [waysG, wayPairs]
theorem waysG_succ (o : Int → Int → Int) (n : Nat) : waysG o (n + 1) = waysG o n ++ [wyOf o ((n : Int) / 5 - 2, (n : Int) % 5 - 2)] := by simp [waysG, wayPairs, List.range_succ]
theorem wayPairs_all : wayPairs 25 = (-2, -2) :: [(-2, -1), (-2, 0), (-2, 1), (-2, 2), (-1, -2), (-1, -1), (-1, 0), (-1, 1), (-1, 2), (0, -2), (0, -1), (0, 0), (0, 1), (0, 2), (1, -2), (1, -1), (1, 0), (1, 1), (1, 2), (2, -2), (2, -1), (2, 0), (2, 1), (2, 2)] := by decide
theorem waysG_all (o : Int → Int → Int) : waysG o 25 = wyAll o := by
  unfold waysG
  rw [wayPairs_all]
  rfl
theorem wyAll_good (o : Int → Int → Int) : ∀ x ∈ wyAll o, x.good := by
  intro x hx
  rw [← waysG_all] at hx
  obtain ⟨p, hp, rfl⟩ := List.mem_map.1 hx
  have h : ∀ p ∈ wayPairs 25, (-2 ≤ p.2 ∧ p.2 ≤ 2) ∧ (-2 ≤ p.1 ∧ p.1 ≤ 2) := by decide
  exact ⟨rfl, h p hp⟩
theorem impl_motion_ev {w h bl : Int} {old p : List Int} (ho : PicO w h old) (hp : PicO w h p) (hb : 0 ≤ bl ∧ bl ≤ 64) : Ev (fun k => impl_motion.f k w h old w h p bl) ((motW w h old p bl).x, (motW w h old p bl).y) := by
  simp only [impl_motion.f]
  refine ev_bind (impl_at_ev hp hb (by omega) (by omega)) ?_
  have inner : ∀ V, ∀ y : Nat, y < 5 → Ev (fun k => impl_motion.l0 k bl (blk w h p bl 0 0) ((waysG (motO w h old p bl) (5 * y + 5)).map toS) (((y + 1 : Nat) : Int) - 2) w h old) V → ∀ d x, x + d = 5 → Ev (fun k => impl_motion.l1 k bl (blk w h p bl 0 0) ((waysG (motO w h old p bl) (5 * y + x)).map toS) ((y : Int) - 2) ((x : Int) - 2) w h old) V := by
    intro V y hy hnext d
    induction d with
    | zero =>
      intro x hx
      refine ev_succ ?_
      obtain rfl : x = 5 := by omega
      have h1 : ¬ ((5 : Nat) : Int) - 2 ≤ 2 := by omega
      have h4 : wrap64 ((y : Int) - 2 + 1) = ((y + 1 : Nat) : Int) - 2 := by rw [w64 (by omega) (by omega)]; omega
      simp only [impl_motion.l1, h1, h4, if_false]
      exact hnext
    | succ d ih =>
      intro x hx
      refine ev_succ ?_
      have h1 : (x : Int) - 2 ≤ 2 := by omega
      have h4 : wrap64 ((x : Int) - 2 + 1) = ((x + 1 : Nat) : Int) - 2 := by rw [w64 (by omega) (by omega)]; omega
      simp only [impl_motion.l1, h1, h4, if_true]
      refine ev_bind (impl_at_ev ho hb (by omega) (by omega)) ?_
      refine ev_bind (impl_offBy_ev (blkG_len _ _ _ _ _ _ _) (blkG_len _ _ _ _ _ _ _) (fun i hi => blk_by hp _ _ _ hi) (fun i hi => blk_by ho _ _ _ hi)) ?_
      have h9 : ((waysG (motO w h old p bl) (5 * y + x)).map toS).length < 5864062014805 := by rw [List.length_map, waysG_len]; omega
      simp only [h9, if_true]
      have := ih (x + 1) (by omega)
      rw [show 5 * y + (x + 1) = (5 * y + x) + 1 by omega, waysG_succ, List.map_append] at this
      have e1 : ((5 * y + x : Nat) : Int) / 5 - 2 = (y : Int) - 2 := by omega
      have e2 : ((5 * y + x : Nat) : Int) % 5 - 2 = (x : Int) - 2 := by omega
      rw [e1, e2] at this
      exact this
  have outer : ∀ d y, y + d = 5 → Ev (fun k => impl_motion.l0 k bl (blk w h p bl 0 0) ((waysG (motO w h old p bl) (5 * y)).map toS) ((y : Int) - 2) w h old) ((motW w h old p bl).x, (motW w h old p bl).y) := by
    intro d
    induction d with
    | zero =>
      intro y hy
      refine ev_succ ?_
      obtain rfl : y = 5 := by omega
      have h1 : ¬ ((5 : Nat) : Int) - 2 ≤ 2 := by omega
      simp only [impl_motion.l0, h1, if_false]
      rw [show 5 * 5 = 25 by rfl, waysG_all]
      obtain ⟨m, xs, e⟩ : ∃ m xs, wyAll (motO w h old p bl) = m :: xs := ⟨_, _, rfl⟩
      have hg := wyAll_good (motO w h old p bl)
      rw [e] at hg ⊢
      have h2 := motion_go_ev xs m (hg m (by simp)) (fun x hx => hg x (List.mem_cons_of_mem _ hx))
      have h3 := wy_same (motO w h old p bl) m (wyOf (motO w h old p bl) (0, 0)) xs ((wyFar.drop 1).map (wyOf (motO w h old p bl))) e rfl
      refine ev_bind h2 (ev_ret ?_)
      rw [h3]
      rfl
    | succ d ih =>
      intro y hy
      refine ev_succ ?_
      have h1 : (y : Int) - 2 ≤ 2 := by omega
      simp only [impl_motion.l0, h1, if_true]
      have := ih (y + 1) (by omega)
      rw [show 5 * (y + 1) = 5 * y + 5 by omega] at this
      exact inner _ y (by omega) this 5 0 (by omega)
  exact outer 5 0 (by omega)
/-! #### the reference's search -/
def mstep (o : Int → Int → Int) (s : Int × Int × Int) (q : Int × Int) : Int × Int × Int := if s.2.2 < 0 then (q.2, q.1, o q.1 q.2) else if o q.1 q.2 < s.2.2 then (q.2, q.1, o q.1 q.2) else s
def rowFrom (o : Int → Int → Int) (far y : Int) : Nat → Int × Int × Int → Int × Int × Int
  | 0, s => s
  | d + 1, s => rowFrom o far y d (if (2 - (d : Int)) * (2 - (d : Int)) + y * y = far then mstep o s (y, 2 - (d : Int)) else s)
def colFrom (o : Int → Int → Int) (far : Int) : Nat → Int × Int × Int → Int × Int × Int
  | 0, s => s
  | d + 1, s => colFrom o far d (rowFrom o far (2 - (d : Int)) 5 s)
def farFrom (o : Int → Int → Int) : Nat → Int × Int × Int → Int × Int × Int
  | 0, s => s
  | d + 1, s => farFrom o d (colFrom o (8 - (d : Int)) 5 s)
def rowP (far y : Int) : Nat → List (Int × Int)
  | 0 => []
  | d + 1 => if (2 - (d : Int)) * (2 - (d : Int)) + y * y = far then (y, 2 - (d : Int)) :: rowP far y d else rowP far y d
def colP (far : Int) : Nat → List (Int × Int)
  | 0 => []
  | d + 1 => rowP far (2 - (d : Int)) 5 ++ colP far d
def farP : Nat → List (Int × Int)
  | 0 => []
  | d + 1 => colP (8 - (d : Int)) 5 ++ farP d
theorem rowFrom_fold (o : Int → Int → Int) (far y : Int) : ∀ d s, rowFrom o far y d s = (rowP far y d).foldl (mstep o) s
  | 0, s => rfl
  | d + 1, s => by
    unfold rowFrom rowP
    rw [rowFrom_fold o far y d]
    split
    · rfl
    · rfl
theorem colFrom_fold (o : Int → Int → Int) (far : Int) : ∀ d s, colFrom o far d s = (colP far d).foldl (mstep o) s
  | 0, s => rfl
  | d + 1, s => by
    unfold colFrom colP
    rw [colFrom_fold o far d, List.foldl_append, rowFrom_fold]
theorem farFrom_fold (o : Int → Int → Int) : ∀ d s, farFrom o d s = (farP d).foldl (mstep o) s
  | 0, s => rfl
  | d + 1, s => by
    unfold farFrom farP
    rw [farFrom_fold o d, List.foldl_append, colFrom_fold]
theorem farP_all : farP 9 = wyFar := by decide +kernel
theorem farFrom_all (o : Int → Int → Int) (s : Int × Int × Int) : farFrom o 9 s = wyFar.foldl (mstep o) s := by rw [farFrom_fold, farP_all]
theorem fold_best (o : Int → Int → Int) (h0 : ∀ y x, 0 ≤ o y x) : ∀ (qs : List (Int × Int)) (q : Int × Int), qs.foldl (mstep o) (q.2, q.1, o q.1 q.2) = ((bestOff (wyOf o q) (qs.map (wyOf o))).x, (bestOff (wyOf o q) (qs.map (wyOf o))).y, (bestOff (wyOf o q) (qs.map (wyOf o))).o)
  | [], q => rfl
  | r :: qs, q => by
    have hn : ¬ o q.1 q.2 < 0 := by have := h0 q.1 q.2; omega
    simp only [List.foldl_cons, List.map_cons, mstep, bestOff]
    rw [if_neg hn]
    by_cases h : o r.1 r.2 < o q.1 q.2
    · rw [if_pos h, if_pos (show (wyOf o r).o < (wyOf o q).o from h)]
      exact fold_best o h0 qs r
    · rw [if_neg h, if_neg (show ¬ (wyOf o r).o < (wyOf o q).o from h)]
      exact fold_best o h0 qs q
theorem search_best (o : Int → Int → Int) (h0 : ∀ y x, 0 ≤ o y x) : farFrom o 9 (0, 0, -1) = ((bestOff (wyOf o (0, 0)) ((wyFar.drop 1).map (wyOf o))).x, (bestOff (wyOf o (0, 0)) ((wyFar.drop 1).map (wyOf o))).y, (bestOff (wyOf o (0, 0)) ((wyFar.drop 1).map (wyOf o))).o) := by
  rw [farFrom_all]
  obtain ⟨qs, e, e2⟩ : ∃ qs, wyFar = (0, 0) :: qs ∧ wyFar.drop 1 = qs := ⟨_, rfl, rfl⟩
  rw [e2, e, List.foldl_cons]
  have e3 : mstep o (0, 0, -1) (0, 0) = (0, 0, o 0 0) := by
    unfold mstep
    rw [if_pos (by decide)]
  rw [e3]
  exact fold_best o h0 qs (0, 0)
set_option maxHeartbeats 2000000 in
theorem spec_motion_ev {w h bl : Int} {old p : List Int} (ho : PicO w h old) (hp : PicO w h p) (hb : 0 ≤ bl ∧ bl ≤ 64) : Ev (fun k => spec_l14Motion.f k w h old w h p bl) ((motW w h old p bl).x, (motW w h old p bl).y) := by
  simp only [spec_l14Motion.f]
  refine ev_bind (spec_block_ev hp hb (by omega) (by omega)) ?_
  have hob := motO_bd ho hp bl
  have sum : ∀ V (s : Int × Int × Int) (far y x : Int), (-2 ≤ y ∧ y ≤ 2) → (-2 ≤ x ∧ x ≤ 2) →
      Ev (fun k => spec_l14Motion.l2 k bl (mstep (motO w h old p bl) s (y, x)).1 (mstep (motO w h old p bl) s (y, x)).2.1 (mstep (motO w h old p bl) s (y, x)).2.2 (blk w h p bl 0 0) far y (x + 1) w h old) V →
      ∀ d i, i + d = 16 → Ev (fun k => spec_l14Motion.l3 k bl s.1 s.2.1 s.2.2 (blk w h p bl 0 0) far y x (offG (blk w h p bl 0 0) (blk w h old bl x y) i) (blk w h old bl x y) (i : Int) w h old) V := by
    intro V s far y x hy hx hnext d
    induction d with
    | zero =>
      intro i hi
      refine ev_succ ?_
      obtain rfl : i = 16 := by omega
      have h1 : ¬ ((16 : Nat) : Int) < 16 := by omega
      have h4 : wrap64 (x + 1) = x + 1 := w64 (by omega) (by omega)
      simp only [spec_l14Motion.l3, h1, h4, if_false]
      have hm : offG (blk w h p bl 0 0) (blk w h old bl x y) 16 = motO w h old p bl y x := rfl
      rw [hm]
      unfold mstep at hnext
      refine ev_ite (fun h2 => ?_) (fun h2 => ?_)
      · rw [if_pos h2] at hnext; exact hnext
      · rw [if_neg h2] at hnext
        refine ev_ite (fun h3 => ?_) (fun h3 => ?_)
        · rw [if_pos h3] at hnext; exact hnext
        · rw [if_neg h3] at hnext; exact hnext
    | succ d ih =>
      intro i hi
      refine ev_succ ?_
      have h1 : (i : Int) < 16 := by omega
      have h2 : 0 ≤ (i : Int) := by omega
      have h3 : (i : Int) < ((blk w h p bl 0 0).length : Int) := by rw [blkG_len]; omega
      have h5 : (i : Int) < ((blk w h old bl x y).length : Int) := by rw [blkG_len]; omega
      have h4 := w64s (n := i) (by omega)
      have ha : 0 ≤ rd (blk w h p bl 0 0) (i : Int) ∧ rd (blk w h p bl 0 0) (i : Int) ≤ 255 := blk_by hp bl 0 0 (n := 16) (i := i) (by omega)
      have hc : 0 ≤ rd (blk w h old bl x y) (i : Int) ∧ rd (blk w h old bl x y) (i : Int) ≤ 255 := blk_by ho bl x y (n := 16) (i := i) (by omega)
      have hbd := offG_bd (a := blk w h p bl 0 0) (b := blk w h old bl x y) (m := 16) (fun i hi => blk_by hp _ _ _ hi) (fun i hi => blk_by ho _ _ _ hi)
      have e : spec_l1Abs.f (wrap64 ((rd (blk w h p bl 0 0) (i : Int)) - (rd (blk w h old bl x y) (i : Int)))) = some (dif (rd (blk w h p bl 0 0) (i : Int)) (rd (blk w h old bl x y) (i : Int))) := by
        rw [w64 (by omega) (by omega)]
        unfold spec_l1Abs.f dif
        split
        · rw [w64 (by omega) (by omega), if_pos (by omega)]; congr 1; omega
        · rw [if_neg (by omega)]
      have e2 : wrap64 (offG (blk w h p bl 0 0) (blk w h old bl x y) i + dif (rd (blk w h p bl 0 0) (i : Int)) (rd (blk w h old bl x y) (i : Int))) = offG (blk w h p bl 0 0) (blk w h old bl x y) (i + 1) := by
        have := hbd (i + 1) (by omega)
        exact w64 (x := offG (blk w h p bl 0 0) (blk w h old bl x y) (i + 1)) (by omega) (by omega)
      simp only [spec_l14Motion.l3, h1, h2, h3, h5, h4, e, e2, if_true, Option.bind_some]
      exact ih (i + 1) (by omega)
  have row : ∀ V (far y : Int), (-2 ≤ y ∧ y ≤ 2) → ∀ d : Nat, d ≤ 5 → ∀ s : Int × Int × Int,
      (Ev (fun k => spec_l14Motion.l1 k bl (rowFrom (motO w h old p bl) far y d s).1 (rowFrom (motO w h old p bl) far y d s).2.1 (rowFrom (motO w h old p bl) far y d s).2.2 (blk w h p bl 0 0) far (y + 1) w h old) V) →
      Ev (fun k => spec_l14Motion.l2 k bl s.1 s.2.1 s.2.2 (blk w h p bl 0 0) far y (3 - (d : Int)) w h old) V := by
    intro V far y hy d
    induction d with
    | zero =>
      intro _ s hnext
      refine ev_succ ?_
      have h1 : ¬ (3 : Int) - ((0 : Nat) : Int) ≤ 2 := by omega
      have h4 : wrap64 (y + 1) = y + 1 := w64 (by omega) (by omega)
      simp only [spec_l14Motion.l2, h1, h4, if_false]
      exact hnext
    | succ d ih =>
      intro hd s hnext
      refine ev_succ ?_
      have e0 : (3 : Int) - ((d + 1 : Nat) : Int) = 2 - (d : Int) := by omega
      rw [e0]
      have h1 : (2 : Int) - (d : Int) ≤ 2 := by omega
      have h4 : wrap64 (2 - (d : Int) + 1) = 3 - (d : Int) := by rw [w64 (by omega) (by omega)]; omega
      have e1 := w_far (x := 2 - (d : Int)) (y := y) (by omega) hy
      simp only [spec_l14Motion.l2, h1, h4, e1, if_true]
      simp only [rowFrom] at hnext
      refine ev_ite (fun h2 => ?_) (fun h2 => ?_)
      · rw [if_pos h2] at hnext
        refine ev_bind (spec_block_ev ho hb (by omega) (by omega)) ?_
        refine sum V s far y (2 - (d : Int)) hy (by omega) ?_ 16 0 (by omega)
        rw [show (2 : Int) - (d : Int) + 1 = 3 - (d : Int) by omega]
        exact ih (by omega) _ hnext
      · rw [if_neg h2] at hnext
        exact ih (by omega) _ hnext
  have col : ∀ V (far : Int), (0 ≤ far ∧ far ≤ 8) → ∀ d : Nat, d ≤ 5 → ∀ s : Int × Int × Int,
      (Ev (fun k => spec_l14Motion.l0 k bl (colFrom (motO w h old p bl) far d s).1 (colFrom (motO w h old p bl) far d s).2.1 (colFrom (motO w h old p bl) far d s).2.2 (blk w h p bl 0 0) (far + 1) w h old) V) →
      Ev (fun k => spec_l14Motion.l1 k bl s.1 s.2.1 s.2.2 (blk w h p bl 0 0) far (3 - (d : Int)) w h old) V := by
    intro V far hf d
    induction d with
    | zero =>
      intro _ s hnext
      refine ev_succ ?_
      have h1 : ¬ (3 : Int) - ((0 : Nat) : Int) ≤ 2 := by omega
      have h4 : wrap64 (far + 1) = far + 1 := w64 (by omega) (by omega)
      simp only [spec_l14Motion.l1, h1, h4, if_false]
      exact hnext
    | succ d ih =>
      intro hd s hnext
      refine ev_succ ?_
      have e0 : (3 : Int) - ((d + 1 : Nat) : Int) = 2 - (d : Int) := by omega
      rw [e0]
      have h1 : (2 : Int) - (d : Int) ≤ 2 := by omega
      simp only [spec_l14Motion.l1, h1, if_true]
      simp only [colFrom] at hnext
      have := row V far (2 - (d : Int)) (by omega) 5 (by omega) s (by
        rw [show (2 : Int) - (d : Int) + 1 = 3 - (d : Int) by omega]
        exact ih (by omega) _ hnext)
      exact this
  have all : ∀ d : Nat, d ≤ 9 → ∀ s : Int × Int × Int,
      Ev (fun k => spec_l14Motion.l0 k bl s.1 s.2.1 s.2.2 (blk w h p bl 0 0) (9 - (d : Int)) w h old) ((farFrom (motO w h old p bl) d s).1, (farFrom (motO w h old p bl) d s).2.1) := by
    intro d
    induction d with
    | zero =>
      intro _ s
      refine ev_succ ?_
      have h1 : ¬ (9 : Int) - ((0 : Nat) : Int) ≤ 8 := by omega
      simp only [spec_l14Motion.l0, h1, if_false]
      exact ev_ret rfl
    | succ d ih =>
      intro hd s
      refine ev_succ ?_
      have e0 : (9 : Int) - ((d + 1 : Nat) : Int) = 8 - (d : Int) := by omega
      rw [e0]
      have h1 : (8 : Int) - (d : Int) ≤ 8 := by omega
      simp only [spec_l14Motion.l0, h1, if_true]
      have := col _ (8 - (d : Int)) (by omega) 5 (by omega) s (by
        rw [show (8 : Int) - (d : Int) + 1 = 9 - (d : Int) by omega]
        exact ih (by omega) _)
      exact this
  have := all 9 (by omega) (0, 0, -1)
  rw [search_best (motO w h old p bl) (fun y x => (hob y x).1)] at this
  exact this

/-! #### Motion as a whole -/
theorem blocks_bd {w h : Int} {px : List Int} (hp : PicO w h px) : 1 ≤ w / 4 ∧ w / 4 ≤ 4 ∧ 1 ≤ h / 4 ∧ h / 4 ≤ 4 ∧ 0 ≤ w / 4 * (h / 4) ∧ w / 4 * (h / 4) ≤ 16 := by
  have g1 := hp.w1; have g2 := hp.w2; have g3 := hp.h1; have g4 := hp.h2
  have e1 : 0 ≤ w / 4 * (h / 4) := Int.mul_nonneg (by omega) (by omega)
  have e2 : w / 4 * (h / 4) ≤ 4 * 4 := Int.mul_le_mul (by omega) (by omega) (by omega) (by omega)
  exact ⟨by omega, by omega, by omega, by omega, e1, by omega⟩
theorem spec_blocks_eq {w h : Int} {px : List Int} (hp : PicO w h px) : spec_l14Blocks.f w h px = some (w / 4 * (h / 4)) := by
  have h1 := blocks_bd hp
  have g1 := hp.w1; have g3 := hp.h1
  unfold spec_l14Blocks.f
  rw [Int.tdiv_eq_ediv_of_nonneg (show 0 ≤ w by omega), Int.tdiv_eq_ediv_of_nonneg (show 0 ≤ h by omega), w64 (x := w / 4) (by omega) (by omega), w64 (x := h / 4) (by omega) (by omega), w64 (by omega) (by omega)]
theorem impl_blocks_eq {w h : Int} {px : List Int} (hp : PicO w h px) : impl_Picture_blocks.f w h px = some (w / 4 * (h / 4)) := by
  have h1 := blocks_bd hp
  have g1 := hp.w1; have g3 := hp.h1
  unfold impl_Picture_blocks.f
  rw [Int.tdiv_eq_ediv_of_nonneg (show 0 ≤ w by omega), Int.tdiv_eq_ediv_of_nonneg (show 0 ≤ h by omega), w64 (x := w / 4) (by omega) (by omega), w64 (x := h / 4) (by omega) (by omega), w64 (by omega) (by omega)]
def twoB (w0 h0 : Int) (old : List Int) (w1 h1 : Int) (p : List Int) : Bool := picB w0 h0 old && picB w1 h1 p && decide (w0 = w1 ∧ h0 = h1)
theorem spec_two_ev (w0 h0 : Int) (old : List Int) (w1 h1 : Int) (p : List Int) : Ev (fun k => spec_l14Two.f k w0 h0 old w1 h1 p) (twoB w0 h0 old w1 h1 p) := by
  unfold twoB
  simp only [spec_l14Two.f]
  refine ev_bind (spec_PictureOk_ev w0 h0 old) (ev_ifb (fun e => ?_) (fun e => ev_ret (by rw [e]; simp)))
  refine ev_bind (spec_PictureOk_ev w1 h1 p) (ev_ifb (fun e2 => ?_) (fun e2 => ev_ret (by rw [e2]; simp)))
  rw [e, e2]
  by_cases hw : w0 = w1
  · simp only [hw, if_true]
    refine ev_ret ?_
    congr 1
    rw [Bool.eq_iff_iff]
    simp
  · simp only [hw, if_false]
    exact ev_ret (by simp)
theorem impl_two_eq (w0 h0 : Int) (old : List Int) (w1 h1 : Int) (p : List Int) : impl_bothOk.f w0 h0 old w1 h1 p = some (twoB w0 h0 old w1 h1 p) := by
  unfold twoB impl_bothOk.f
  simp only [impl_PictureOk_eq, Option.bind_some]
  cases picB w0 h0 old
  · simp
  · cases picB w1 h1 p
    · simp
    · by_cases hw : w0 = w1
      · simp only [hw, if_true]
        congr 1
        rw [Bool.eq_iff_iff]
        simp
      · simp [hw]
theorem twoB_of {w0 h0 w1 h1 : Int} {old p : List Int} (h : twoB w0 h0 old w1 h1 p = true) : w0 = w1 ∧ h0 = h1 ∧ PicO w0 h0 old ∧ PicO w1 h1 p := by
  unfold twoB at h
  simp only [Bool.and_eq_true, decide_eq_true_eq] at h
  exact ⟨h.2.1, h.2.2, picO_of h.1.1, picO_of h.1.2⟩
def motR (w0 h0 : Int) (old : List Int) (w1 h1 : Int) (p : List Int) (bl : Int) : Int × Int := if twoB w0 h0 old w1 h1 p = true ∧ 0 ≤ bl ∧ bl < w1 / 4 * (h1 / 4) then ((motW w1 h1 old p bl).x, (motW w1 h1 old p bl).y) else (0, 0)
theorem spec_Motion_ev (w0 h0 : Int) (old : List Int) (w1 h1 : Int) (p : List Int) (bl : Int) : Ev (fun k => spec_Motion.f k w0 h0 old w1 h1 p bl) (motR w0 h0 old w1 h1 p bl) := by
  unfold motR
  simp only [spec_Motion.f]
  refine ev_bind (spec_two_ev w0 h0 old w1 h1 p) (ev_ifb (fun e => ?_) (fun e => ev_ret (by rw [if_neg (by rw [e]; simp)])))
  obtain ⟨rfl, rfl, ho, hp⟩ := twoB_of e
  have hbd := blocks_bd hp
  rw [spec_blocks_eq hp]
  refine ev_ite (fun h => ev_ret (by rw [if_neg (by omega)])) (fun h => ?_)
  simp only [Option.bind_some]
  refine ev_ite (fun h2 => ev_ret (by rw [if_neg (by omega)])) (fun h2 => ?_)
  rw [if_pos ⟨e, by omega, by omega⟩]
  refine ev_bind (spec_motion_ev ho hp ⟨by omega, by omega⟩) (ev_ret rfl)
theorem impl_Motion_ev (w0 h0 : Int) (old : List Int) (w1 h1 : Int) (p : List Int) (bl : Int) : Ev (fun k => impl_Motion.f k w0 h0 old w1 h1 p bl) (motR w0 h0 old w1 h1 p bl) := by
  unfold motR
  simp only [impl_Motion.f, impl_two_eq, Option.bind_some]
  refine ev_ifb (fun e => ?_) (fun e => ev_ret (by rw [if_neg (by rw [e]; simp)]))
  obtain ⟨rfl, rfl, ho, hp⟩ := twoB_of e
  have hbd := blocks_bd hp
  rw [impl_blocks_eq hp]
  simp only [Option.bind_some]
  rw [w64 (x := w0 / 4 * (h0 / 4) - 1) (by omega) (by omega)]
  simp only [impl_in_eq, Option.bind_some]
  refine ev_ifb (fun h => ?_) (fun h => ?_)
  · have := of_decide_eq_true h
    rw [if_pos ⟨e, by omega, by omega⟩]
    exact ev_bind (impl_motion_ev ho hp ⟨by omega, by omega⟩) (ev_ret rfl)
  · have := of_decide_eq_false h
    exact ev_ret (by rw [if_neg (by omega)])

/-! #### the draws' cursor: where it stands (b: the bytes, i: how many are used) -/
def St (b : List Int) (i : Int) : Prop := 0 ≤ i ∧ i ≤ b.length ∧ b.length ≤ 4096
theorem and255 (x : Int) : 0 ≤ Go.bits .and .i64 x 255 ∧ Go.bits .and .i64 x 255 ≤ 255 := by
  have h : ((BitVec.ofInt 64 x) &&& (BitVec.ofInt 64 255)).toNat ≤ 255 := by
    rw [BitVec.toNat_and]
    exact Nat.le_trans Nat.and_le_right (by decide)
  have e : Go.bits .and .i64 x 255 = IntKind.i64.wrap (((BitVec.ofInt 64 x) &&& (BitVec.ofInt 64 255)).toNat : Int) := rfl
  rw [e, IntKind.wrap_i64]
  omega
theorem byte_some {b : List Int} {i : Int} (h : Int) (hs : St b i) : SomeP (spec_l1Byte.f b i h) (fun r => (0 ≤ r.1 ∧ r.1 ≤ 255) ∧ St b r.2.1) := by
  obtain ⟨h1, h2, h3⟩ := hs
  unfold spec_l1Byte.f
  refine somep_ite (fun hl => somep_pos h1 (somep_now ⟨and255 _, ?_⟩)) (fun hl => somep_now ⟨and255 _, h1, h2, h3⟩)
  show St b (wrap64 (i + 1))
  rw [w64 (by omega) (by omega)]
  exact ⟨by omega, by omega, h3⟩
theorem below_some {b : List Int} {i : Int} (h : Int) (n : Int) (hs : St b i) : SomeP (spec_l1Below.f b i h n) (fun r => (0 ≤ r.1 ∧ (0 < n → r.1 < n)) ∧ St b r.2.1) := by
  unfold spec_l1Below.f
  refine somep_ite (fun hn => somep_now ⟨⟨Int.le_refl _, fun h => by omega⟩, hs⟩) (fun hn => somep_ite (fun h2 => ?_) (fun h2 => ?_))
  · refine somep_bind (byte_some h hs) (fun a ha => somep_neg (by omega) (somep_now ⟨?_, ha.2⟩))
    have e : Int.tmod a.1 n = a.1 % n := Int.tmod_eq_emod_of_nonneg ha.1.1
    show 0 ≤ Int.tmod a.1 n ∧ (0 < n → Int.tmod a.1 n < n)
    rw [e]
    exact ⟨Int.emod_nonneg _ (by omega), fun h => Int.emod_lt_of_pos _ h⟩
  · refine somep_bind (byte_some h hs) (fun a ha => somep_bind (byte_some _ ha.2) (fun c hc => somep_bind (byte_some _ hc.2) (fun d hd => somep_bind (byte_some _ hd.2) (fun e he => somep_neg (by omega) (somep_now ⟨?_, he.2⟩)))))
    have h1 := ha.1; have h3 := hc.1; have h4 := hd.1; have h5 := he.1
    have w1 : wrap64 (a.1 * 16777216) = a.1 * 16777216 := w64 (by omega) (by omega)
    have w2 : wrap64 (c.1 * 65536) = c.1 * 65536 := w64 (by omega) (by omega)
    have w3 : wrap64 (d.1 * 256) = d.1 * 256 := w64 (by omega) (by omega)
    show 0 ≤ Int.tmod (wrap64 (wrap64 (wrap64 (wrap64 (a.1 * 16777216) + wrap64 (c.1 * 65536)) + wrap64 (d.1 * 256)) + e.1)) n ∧ (0 < n → Int.tmod (wrap64 (wrap64 (wrap64 (wrap64 (a.1 * 16777216) + wrap64 (c.1 * 65536)) + wrap64 (d.1 * 256)) + e.1)) n < n)
    rw [w1, w2, w3, w64 (x := a.1 * 16777216 + c.1 * 65536) (by omega) (by omega), w64 (x := a.1 * 16777216 + c.1 * 65536 + d.1 * 256) (by omega) (by omega), w64 (by omega) (by omega), Int.tmod_eq_emod_of_nonneg (by omega)]
    exact ⟨Int.emod_nonneg _ (by omega), fun h => Int.emod_lt_of_pos _ h⟩
theorem new_ev (code : List Int) (hc : code.length ≤ 4096) : EvP (fun k => spec_l1New.f k code) (fun r => r.1 = code ∧ St code r.2.1) := by
  have key : ∀ d i (h : Int), i + d = code.length → EvP (fun k => spec_l1New.l0 k code h (i : Int)) (fun r => r.1 = code ∧ St code r.2.1) := by
    intro d
    induction d with
    | zero =>
      intro i h hi
      refine evp_succ ?_
      have h1 : ¬ (i : Int) < (code.length : Int) := by omega
      simp only [spec_l1New.l0, h1, if_false]
      exact evp_now ⟨rfl, by refine ⟨Int.le_refl _, ?_, hc⟩; show (0 : Int) ≤ code.length; omega⟩
    | succ d ih =>
      intro i h hi
      refine evp_succ ?_
      have h1 : (i : Int) < (code.length : Int) := by omega
      have h2 : (0 : Int) ≤ (i : Int) := by omega
      have h4 := w64s (n := i) (by omega)
      simp only [spec_l1New.l0, h1, h2, h4, if_true]
      exact ih (i + 1) _ (by omega)
  exact key code.length 0 _ (by omega)

theorem once_some {b : List Int} {i : Int} (h : Int) (n : Int) (hs : St b i) : SomeP (spec_l1Once.f b i h n) (fun r => St b r.2.1) := by
  unfold spec_l1Once.f
  exact somep_bind (below_some h n hs) (fun a ha => somep_now ha.2)

theorem from_some {b : List Int} {i : Int} (h : Int) (lo hi : Int) (hs : St b i) (h1 : -1000000000000 ≤ lo) (h2 : lo ≤ hi) (h3 : hi ≤ 1000000000000) : SomeP (spec_l1From.f b i h lo hi) (fun r => (lo ≤ r.1 ∧ r.1 ≤ hi) ∧ St b r.2.1) := by
  unfold spec_l1From.f
  have e : wrap64 (wrap64 (hi - lo) + 1) = hi - lo + 1 := by rw [w64 (x := hi - lo) (by omega) (by omega), w64 (by omega) (by omega)]
  rw [e]
  refine somep_bind (below_some h _ hs) (fun a ha => somep_now ⟨?_, ha.2⟩)
  have := ha.1.2 (by omega)
  have := ha.1.1
  show lo ≤ wrap64 (lo + a.1) ∧ wrap64 (lo + a.1) ≤ hi
  rw [w64 (by omega) (by omega)]
  omega

/-! #### the draw of two pictures -/
theorem spec_min_eq (a b : Int) : spec_l1Min.f a b = some (min a b) := by
  unfold spec_l1Min.f
  split
  · congr 1; omega
  · congr 1; omega
def PicD (w h : Int) (px : List Int) : Prop := (px.length : Int) = w * h ∧ px.all byB = true
theorem all_snoc {px : List Int} {v : Int} (h : px.all byB = true) (hv : 0 ≤ v ∧ v ≤ 255) : (px ++ [v]).all byB = true := by
  rw [List.all_append, h]
  simp [byB, hv]
theorem drawpic_evp {b : List Int} {i : Int} (h : Int) (w hh : Int) (hs : St b i) (h0 : 0 ≤ w * hh) (h1 : w * hh ≤ 100000) : EvP (fun k => spec_l14DrawPicture.f k b i h w hh) (fun r => r.1 = w ∧ r.2.1 = hh ∧ PicD w hh r.2.2.1 ∧ St b r.2.2.2.1) := by
  have key : ∀ (d n : Nat) (base i hv : Int) (px : List Int), (n : Int) + (d : Int) = w * hh → 0 ≤ base ∧ base ≤ 255 → St b i → px.length = n → px.all byB = true →
      EvP (fun k => spec_l14DrawPicture.l0 k w hh base (n : Int) b i hv w hh px) (fun r => r.1 = w ∧ r.2.1 = hh ∧ PicD w hh r.2.2.1 ∧ St b r.2.2.2.1) := by
    intro d
    induction d with
    | zero =>
      intro n base i hv px hn hb hs hl ha
      refine evp_succ ?_
      have e : wrap64 (w * hh) = w * hh := w64 (by omega) (by omega)
      have h2 : ¬ (n : Int) < w * hh := by omega
      simp only [spec_l14DrawPicture.l0, e, h2, if_false]
      exact evp_now ⟨rfl, rfl, ⟨by show (px.length : Int) = w * hh; omega, ha⟩, hs⟩
    | succ d ih =>
      intro n base i hv px hn hb hs hl ha
      refine evp_succ ?_
      have e : wrap64 (w * hh) = w * hh := w64 (by omega) (by omega)
      have h2 : (n : Int) < w * hh := by omega
      have h3 : px.length < 17592186044416 := by omega
      have h4 := w64s (n := n) (by omega)
      simp only [spec_l14DrawPicture.l0, e, h2, h3, h4, if_true]
      have next : ∀ (v base' i' hv' : Int), (0 ≤ v ∧ v ≤ 255) → (0 ≤ base' ∧ base' ≤ 255) → St b i' → EvP (fun k => spec_l14DrawPicture.l0 k w hh base' ((n + 1 : Nat) : Int) b i' hv' w hh (px ++ [v])) (fun r => r.1 = w ∧ r.2.1 = hh ∧ PicD w hh r.2.2.1 ∧ St b r.2.2.2.1) :=
        fun v base' i' hv' hv1 hb1 hs1 => ih (n + 1) base' i' hv' (px ++ [v]) (by omega) hb1 hs1 (by simp [hl]) (all_snoc ha hv1)
      refine evp_some (below_some hv 6 hs) (fun x hx => evp_ite (fun _ => ?_) (fun _ => evp_ite (fun _ => ?_) (fun _ => ?_)))
      · refine evp_some (below_some _ 256 hx.2) (fun y hy => ?_)
        have hy1 : 0 ≤ y.1 ∧ y.1 ≤ 255 := ⟨hy.1.1, by have := hy.1.2 (by omega); omega⟩
        exact next _ _ _ _ hy1 hy1 hy.2
      · rw [spec_min_eq, w64 (x := base + 9) (by omega) (by omega)]
        simp only [Option.bind_some]
        have hm : 0 ≤ min 255 (base + 9) ∧ min 255 (base + 9) ≤ 255 := by omega
        exact next _ _ _ _ hm hm hx.2
      · exact next _ _ _ _ hb hb hx.2
  simp only [spec_l14DrawPicture.f]
  obtain ⟨d, hd⟩ := Int.eq_ofNat_of_zero_le h0
  refine evp_some (below_some h 256 hs) (fun y hy => ?_)
  exact key d 0 y.1 _ _ [] (by omega) ⟨hy.1.1, by have := hy.1.2 (by omega); omega⟩ hy.2 rfl rfl
theorem side4 {a : Int} (h : 0 ≤ a ∧ a < 3) : wrap64 (4 * (wrap64 (1 + a))) = 4 * (1 + a) := by
  rw [w64 (x := 1 + a) (by omega) (by omega), w64 (by omega) (by omega)]
def Side3 (w : Int) : Prop := w = 4 ∨ w = 8 ∨ w = 12
theorem picO_mk {w h : Int} {px : List Int} (hw : Side3 w) (hh : Side3 h) (hd : PicD w h px) : PicO w h px := by
  unfold Side3 at hw hh
  refine ⟨?_, ?_, ?_, ?_, ?_, ?_, hd.1, hd.2⟩ <;> omega
theorem area_bd {w h : Int} (hw : Side3 w) (hh : Side3 h) : 16 ≤ w * h ∧ w * h ≤ 144 := by
  rcases hw with rfl | rfl | rfl <;> rcases hh with rfl | rfl | rfl <;> decide
theorem mod_div_bd {w i : Int} (hw : Side3 w) (hi : 0 ≤ i ∧ i ≤ 144) : 0 ≤ i % w ∧ i % w ≤ 144 ∧ 0 ≤ i / w ∧ i / w ≤ 144 := by
  rcases hw with rfl | rfl | rfl <;> omega
theorem drawtwo_j1 {b : List Int} {w hh : Int} (hw : Side3 w) (hh4 : Side3 hh) (i h : Int) (hs : St b i) (ow oh : Int) (old : List Int) (pw ph : Int) (p : List Int) (hp : (p.length : Int) = w * hh) :
    EvP (fun k => spec_l14DrawTwo.j1 k w hh b i h ow oh old pw ph p) (fun r => St b r.2.2.2.2.2.2.1) := by
  have ha := area_bd hw hh4
  refine evp_succ ?_
  simp only [spec_l14DrawTwo.j1]
  refine evp_some (once_some h 20 hs) (fun x hx => ?_)
  refine evp_ite (fun _ => ?_) (fun _ => evp_now hx)
  refine evp_some (below_some _ 4 hx) (fun y hy => ?_)
  refine evp_ite (fun _ => ?_) (fun _ => evp_ite (fun _ => ?_) (fun _ => evp_ite (fun _ => ?_) (fun _ => evp_ite (fun _ => ?_) (fun _ => evp_now hy.2))))
  · simp only [Option.bind_some]
    refine evp_some (below_some _ 3 hy.2) (fun z hz => ?_)
    have h1 := hz.1.2 (by omega)
    refine evp_pos hz.1.1 (evp_pos (by simpa using h1) (evp_pos (by omega) (evp_now hz.2)))
  · simp only [Option.bind_some]
    refine evp_some (below_some _ 5 hy.2) (fun z hz => ?_)
    have h1 := hz.1.2 (by omega)
    refine evp_pos hz.1.1 (evp_pos (by simpa using h1) (evp_now hz.2))
  · exact evp_pos (by omega) (evp_now hy.2)
  · have hc : hh * w = w * hh := Int.mul_comm _ _
    refine evp_bind (drawpic_evp _ hh w hy.2 (by omega) (by omega)) (fun r hr => evp_now hr.2.2.2)
theorem drawtwo_evp {b : List Int} {i : Int} (h : Int) (hs : St b i) : EvP (fun k => spec_l14DrawTwo.f k b i h) (fun r => St b r.2.2.2.2.2.2.1) := by
  simp only [spec_l14DrawTwo.f]
  refine evp_some (below_some h 3 hs) (fun x hx => ?_)
  refine evp_some (below_some _ 3 hx.2) (fun y hy => ?_)
  have h1 := hx.1.2 (by omega)
  have h2 := hy.1.2 (by omega)
  have h3 := hx.1.1
  have h4 := hy.1.1
  rw [side4 ⟨h3, h1⟩, side4 ⟨h4, h2⟩]
  have hw : Side3 (4 * (1 + x.1)) := by unfold Side3; omega
  have hh : Side3 (4 * (1 + y.1)) := by unfold Side3; omega
  have hw0 : 0 < 4 * (1 + x.1) := by omega
  generalize 4 * (1 + x.1) = w at *
  generalize 4 * (1 + y.1) = hgt at *
  have ha := area_bd hw hh
  refine evp_bind (drawpic_evp _ w hgt hy.2 (by omega) (by omega)) (fun o ho => ?_)
  obtain ⟨e1, e2, ho3, ho4⟩ := ho
  have hO : PicO o.1 o.2.1 o.2.2.1 := by rw [e1, e2]; exact picO_mk hw hh ho3
  refine evp_bind (drawpic_evp _ w hgt ho4 (by omega) (by omega)) (fun p hp => ?_)
  obtain ⟨e3, e4, hp3, hp4⟩ := hp
  refine evp_some (once_some _ 2 hp4) (fun t ht => ?_)
  refine evp_ite (fun _ => ?_) (fun _ => drawtwo_j1 hw hh _ _ ht _ _ _ _ _ _ hp3.1)
  refine evp_some (from_some _ (-2) 2 ht (by omega) (by omega) (by omega)) (fun dx hdx => ?_)
  refine evp_some (from_some _ (-2) 2 hdx.2 (by omega) (by omega) (by omega)) (fun dy hdy => ?_)
  have key : ∀ (d n : Nat) (i hv : Int) (px : List Int), (n : Int) + (d : Int) = w * hgt → St b i → px.length = n →
      EvP (fun k => spec_l14DrawTwo.l0 k w hgt dx.1 dy.1 (n : Int) b i hv o.1 o.2.1 o.2.2.1 w hgt px) (fun r => St b r.2.2.2.2.2.2.1) := by
    intro d
    induction d with
    | zero =>
      intro n i hv px hn hs hl
      refine evp_succ ?_
      have e : wrap64 (w * hgt) = w * hgt := w64 (by omega) (by omega)
      have h2 : ¬ (n : Int) < w * hgt := by omega
      simp only [spec_l14DrawTwo.l0, e, h2, if_false]
      exact drawtwo_j1 hw hh _ _ hs _ _ _ _ _ _ (by omega)
    | succ d ih =>
      intro n i hv px hn hs hl
      refine evp_succ ?_
      have e : wrap64 (w * hgt) = w * hgt := w64 (by omega) (by omega)
      have h2 : (n : Int) < w * hgt := by omega
      have h0 : ¬ w = 0 := by clear ha hdx hdy hn; omega
      have h3 : px.length < 17592186044416 := by omega
      have h4 := w64s (n := n) (by omega)
      have hm := mod_div_bd (i := (n : Int)) hw ⟨Int.natCast_nonneg n, Int.le_trans (Int.le_of_lt h2) ha.2⟩
      have hd1 := hdx.1
      have hd2 := hdy.1
      simp only [spec_l14DrawTwo.l0, e, h2, h0, h3, h4, if_true, if_false]
      rw [Int.tmod_eq_emod_of_nonneg (Int.natCast_nonneg n), Int.tdiv_eq_ediv_of_nonneg (Int.natCast_nonneg n), w64 (x := (n : Int) / w) (by omega) (by omega), w64 (x := (n : Int) % w + dx.1) (by omega) (by omega), w64 (x := (n : Int) / w + dy.1) (by omega) (by omega), spec_at_eq hO (by omega) (by omega)]
      simp only [Option.bind_some]
      refine evp_some (once_some _ 9 hs) (fun z hz => evp_ite (fun _ => ?_) (fun _ => ih (n + 1) _ _ _ (by omega) hz (by simp [hl])))
      exact evp_some (below_some _ 256 hz) (fun u hu => ih (n + 1) _ _ _ (by omega) hu.2 (by simp [hl]))
  obtain ⟨d, hd⟩ := Int.eq_ofNat_of_zero_le (show 0 ≤ w * hgt by omega)
  exact key d 0 _ _ [] (by omega) hdy.2 rfl

theorem offG_self (a : List Int) (n : Nat) : offG a a n = 0 := by
  induction n with
  | zero => rfl
  | succ n ih => unfold offG dif; rw [ih]; split <;> omega
theorem bestOff_stay : ∀ (xs : List Wy) (m : Wy), (∀ x ∈ xs, m.o ≤ x.o) → bestOff m xs = m
  | [], m, _ => rfl
  | x :: xs, m, h => by
    unfold bestOff
    rw [if_neg (by have := h x (by simp); omega)]
    exact bestOff_stay xs m (fun y hy => h y (List.mem_cons_of_mem _ hy))
theorem motW_bd (w h : Int) (old p : List Int) (bl : Int) : (-2 ≤ (motW w h old p bl).x ∧ (motW w h old p bl).x ≤ 2) ∧ (-2 ≤ (motW w h old p bl).y ∧ (motW w h old p bl).y ≤ 2) := by
  have hm := (bestOff_mem ((wyFar.drop 1).map (wyOf (motO w h old p bl))) (wyOf (motO w h old p bl) (0, 0)) (wy_sorted _)).1
  have hs : ∀ q ∈ wyFar, (-2 ≤ q.2 ∧ q.2 ≤ 2) ∧ (-2 ≤ q.1 ∧ q.1 ≤ 2) := by decide
  have hm2 : motW w h old p bl ∈ wyFar.map (wyOf (motO w h old p bl)) := hm
  obtain ⟨q, hq, e⟩ := List.mem_map.1 hm2
  rw [← e]
  exact hs q hq
theorem motW_self {w h : Int} {p : List Int} (hp : PicO w h p) (bl : Int) : (motW w h p p bl).x = 0 ∧ (motW w h p p bl).y = 0 := by
  have e : motW w h p p bl = wyOf (motO w h p p bl) (0, 0) := by
    unfold motW
    refine bestOff_stay _ _ (fun x hx => ?_)
    obtain ⟨q, _, rfl⟩ := List.mem_map.1 hx
    have h1 : (wyOf (motO w h p p bl) (0, 0)).o = 0 := offG_self _ _
    rw [h1]
    exact (motO_bd hp hp bl q.1 q.2).1
  rw [e]
  exact ⟨rfl, rfl⟩
theorem motR_bd (w0 h0 : Int) (old : List Int) (w1 h1 : Int) (p : List Int) (bl : Int) : (-2 ≤ (motR w0 h0 old w1 h1 p bl).1 ∧ (motR w0 h0 old w1 h1 p bl).1 ≤ 2) ∧ (-2 ≤ (motR w0 h0 old w1 h1 p bl).2 ∧ (motR w0 h0 old w1 h1 p bl).2 ≤ 2) := by
  unfold motR
  split
  · exact motW_bd ..
  · exact ⟨⟨by decide, by decide⟩, ⟨by decide, by decide⟩⟩
theorem motR_self (w1 h1 : Int) (p : List Int) (bl : Int) : motR w1 h1 p w1 h1 p bl = (0, 0) := by
  unfold motR
  split
  · rename_i h
    have h2 := motW_self (twoB_of h.1).2.2.1 bl
    rw [h2.1, h2.2]
  · rfl
theorem drawmotion_evp (l0 : List Int) (h0 : l0.length ≤ 4096) : EvP (fun k => spec_DrawMotion.f k l0) (fun _ => True) := by
  simp only [spec_DrawMotion.f]
  refine evp_bind (new_ev l0 h0) (fun c hc => ?_)
  rw [hc.1]
  refine evp_bind (drawtwo_evp _ hc.2) (fun t ht => ?_)
  refine evp_some (below_some _ 9 ht) (fun n hn => ?_)
  refine evp_some (once_some _ 16 hn.2) (fun x hx => ?_)
  refine evp_ite (fun _ => ?_) (fun _ => evp_now trivial)
  simp only [Option.bind_some]
  refine evp_some (below_some _ 3 hx) (fun z hz => ?_)
  have h1 := hz.1.2 (by omega)
  exact evp_pos hz.1.1 (evp_pos (by simpa using h1) (evp_now trivial))
theorem FnMotion : laws_FnMotion.Pure := by
  intro l0 _ _ _
  apply Ev.rounds
  apply evp_true
  simp only [laws_FnMotion.f, laws_big.f, Option.bind_some]
  refine evp_ite (fun _ => evp_now rfl) (fun hb => ?_)
  have h0 : l0.length ≤ 4096 := by
    have := of_decide_eq_false (Bool.eq_false_iff.2 hb)
    omega
  refine evp_bind (drawmotion_evp l0 h0) (fun d _ => ?_)
  refine evp_ebind (impl_Motion_ev _ _ _ _ _ _ _) ?_
  refine evp_ebind (spec_Motion_ev _ _ _ _ _ _ _) ?_
  have hbd := motR_bd d.1 d.2.1 d.2.2.1 d.2.2.2.1 d.2.2.2.2.1 d.2.2.2.2.2.1 d.2.2.2.2.2.2
  refine evp_pos rfl (evp_pos rfl ?_)
  refine evp_neg (by omega) (evp_neg (by omega) (evp_neg (by omega) (evp_neg (by omega) ?_)))
  refine evp_ebind (impl_Motion_ev _ _ _ _ _ _ _) ?_
  rw [motR_self]
  exact evp_pos rfl (evp_now rfl)
end Go.Proofs.Ytbdnpfjjaokdbaa.Pure
