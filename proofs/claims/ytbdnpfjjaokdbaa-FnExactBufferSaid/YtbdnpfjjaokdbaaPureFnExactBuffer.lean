/-
  The plain statement of FnExactBuffer: both sides fill the buffer by one rule, the argument is not written, and the answer owns its memory.
  Conditions: the statement's own.
-/
import Derived.Test.YtbdnpfjjaokdbaaHFnExactBufferx0
import Derived.Test.YtbdnpfjjaokdbaaHFnExactBufferx1
import Derived.Test.YtbdnpfjjaokdbaaHFnExactBufferx2
import Derived.Test.YtbdnpfjjaokdbaaHFnExactBufferx3
import Derived.Test.YtbdnpfjjaokdbaaPureBase
import Derived.Laws.BitsLemmas
namespace Go.Proofs.Ytbdnpfjjaokdbaa.Pure
open Go.RowKit Go.Proofs.Ytbdnpfjjaokdbaa.HFnExactBuffer Go.Proofs.YtbdnpfjjaokdbaaW.PrintWords Go.Proofs.YtbdnpfjjaokdbaaW.PrintLast Go.Proofs.YtbdnpfjjaokdbaaW.PrintMore Go.Proofs.Ytbdnpfjjaokdbaa.PB
set_option linter.unusedVariables false
set_option linter.unusedSimpArgs false
theorem spec_in_eq (a lo hi : Int) : spec_l1In.f a lo hi = some (decide (lo ≤ a ∧ a ≤ hi)) := by
  unfold spec_l1In.f
  by_cases h : a ≥ lo
  · rw [if_pos h]; simp [show lo ≤ a from h]
  · rw [if_neg h]; simp; omega

theorem impl_in_eq (a lo hi : Int) : impl_in.f a lo hi = some (decide (lo ≤ a ∧ a ≤ hi)) := by
  unfold impl_in.f
  by_cases h : lo ≤ a
  · rw [if_pos h]; simp [h]
  · rw [if_neg h]; simp; omega

/-! #### laws_toInt64S, laws_eqInt64S -/
theorem toInt64S_ev (xs : List Int) (h : xs.length ≤ 1048576) : Ev (fun k => laws_toInt64S.f k xs) xs := by
  have key : ∀ d i, i + d = xs.length → Ev (fun k => laws_toInt64S.l0 k xs ((xs.take i).map id ++ List.replicate (xs.length - i) 0) (i : Int)) (xs.map id) := by
    intro d
    induction d with
    | zero =>
      intro i hi
      refine ev_succ ?_
      have h1 : ¬ ((i : Int) < (xs.length : Int)) := by omega
      simp only [laws_toInt64S.l0, h1, if_false]
      obtain rfl : i = xs.length := by omega
      exact ev_ret (by rw [fill_all])
    | succ d ih =>
      intro i hi
      have hlt : i < xs.length := by omega
      refine ev_succ ?_
      have h1 : (i : Int) < (xs.length : Int) := by omega
      have h2 : (0 : Int) ≤ (i : Int) := by omega
      have h3 : (i : Int) < ((((xs.take i).map id ++ List.replicate (xs.length - i) (0 : Int)).length : Nat) : Int) := by rw [fill_len _ _ _ _ (by omega)]; omega
      have h4 := w64s (n := i) (by omega)
      simp only [laws_toInt64S.l0, h1, h2, h3, if_true, h4]
      have := ih (i + 1) (by omega)
      rw [← fill_set id 0 0 xs i hlt] at this
      exact this
  have h1 : (0 : Int) ≤ (xs.length : Int) := by omega
  have h2 : xs.length ≤ 35184372088832 := by omega
  simp only [laws_toInt64S.f, h1, Int.toNat_natCast, h2, if_true]
  have := key xs.length 0 (by omega)
  rw [← fill_none id 0 xs, List.map_id] at this
  exact this
theorem eqInt64S_ev (xs ys : List Int) (h : xs.length ≤ 4611686018427387904) : Ev (fun k => laws_eqInt64S.f k xs ys) (decide (xs = ys)) := by
  have key : ∀ d i, i + d = xs.length → xs.length = ys.length → Ev (fun k => laws_eqInt64S.l0 k xs ys (i : Int)) (decide (xs.drop i = ys.drop i)) := by
    intro d
    induction d with
    | zero =>
      intro i hi hl
      refine ev_succ ?_
      have h1 : ¬ ((i : Int) < (xs.length : Int)) := by omega
      simp only [laws_eqInt64S.l0, h1, if_false]
      exact ev_ret (by rw [drop_end (by omega), drop_end (by omega)]; simp)
    | succ d ih =>
      intro i hi hl
      refine ev_succ ?_
      have h1 : (i : Int) < (xs.length : Int) := by omega
      have h2 : (0 : Int) ≤ (i : Int) := by omega
      have h3 : (i : Int) < (ys.length : Int) := by omega
      have h4 := w64s (n := i) (by omega)
      simp only [laws_eqInt64S.l0, h1, h2, h3, if_true, h4]
      rw [drop_rd xs i (by omega), drop_rd ys i (by omega)]
      by_cases he : rd xs (i : Int) = rd ys (i : Int)
      · simp only [he, if_true]
        exact ev_eq (ih (i + 1) (by omega) hl) (by simp)
      · simp only [he, if_false]
        exact ev_ret (by simp [he])
  by_cases hl : xs.length = ys.length
  · have h1 : (xs.length : Int) = (ys.length : Int) := by omega
    simp only [laws_eqInt64S.f, h1, if_true]
    exact ev_eq (key xs.length 0 (by omega) hl) (by simp)
  · have h1 : ¬ (xs.length : Int) = (ys.length : Int) := by omega
    simp only [laws_eqInt64S.f, h1, if_false]
    exact ev_ret (by
      have : xs ≠ ys := fun e => hl (by rw [e])
      simp [this])

/-! #### laws_markInt64S, laws_heldInt64S -/
def markInt64 (k0 : Int) (n : Nat) : List Int := (List.range n).map fun (j : Nat) => k0 + (j : Int)
theorem markInt64_len (k0 : Int) (n : Nat) : (markInt64 k0 n).length = n := by simp [markInt64]
theorem markInt64_rd (k0 : Int) (n i : Nat) (h : i < n) : rd (markInt64 k0 n) (i : Int) = k0 + (i : Int) := by
  simp [markInt64, rd_nat, List.getD_eq_getElem?_getD, List.getElem?_map, List.getElem?_range h]
theorem markInt64S_ev (xs : List Int) (k0 : Int) (hk : 0 ≤ k0) (hk2 : k0 + xs.length < 9223372036854775807) : Ev (fun k => laws_markInt64S.f k xs k0) (k0 + xs.length, markInt64 k0 xs.length) := by
  have key : ∀ d i, i + d = xs.length → Ev (fun k => laws_markInt64S.l0 k (markInt64 k0 i ++ xs.drop i) (k0 + (i : Int)) (i : Int)) (k0 + xs.length, markInt64 k0 xs.length) := by
    intro d
    induction d with
    | zero =>
      intro i hi
      refine ev_succ ?_
      obtain rfl : i = xs.length := by omega
      have h1 : ¬ ((xs.length : Int) < ((markInt64 k0 xs.length ++ xs.drop xs.length).length : Int)) := by simp [markInt64_len]
      simp only [laws_markInt64S.l0, h1, if_false]
      exact ev_ret (by simp)
    | succ d ih =>
      intro i hi
      refine ev_succ ?_
      have h1 : (i : Int) < ((markInt64 k0 i ++ xs.drop i).length : Int) := by simp [markInt64_len]; omega
      have h2 : (0 : Int) ≤ (i : Int) := by omega
      have h4 := w64s (n := i) (by omega)
      have h5 : wrap64 (k0 + (i : Int) + 1) = k0 + ((i + 1 : Nat) : Int) := by rw [w64 (by omega) (by omega)]; omega
      simp only [laws_markInt64S.l0, h1, h2, if_true, h4, h5]
      have := ih (i + 1) (by omega)
      have he : (markInt64 k0 i ++ xs.drop i).set i (k0 + (i : Int)) = markInt64 k0 (i + 1) ++ xs.drop (i + 1) := by
        rw [List.set_append_right _ _ (by rw [markInt64_len]; omega), markInt64_len, Nat.sub_self, drop_rd xs i (by omega)]
        simp [markInt64, List.range_succ]
      rw [← he] at this
      exact this
  have := key xs.length 0 (by omega)
  simpa [laws_markInt64S.f, markInt64] using this
theorem heldInt64S_ev (n : Nat) (k0 : Int) (hk : 0 ≤ k0) (hk2 : k0 + n < 9223372036854775807) : Ev (fun k => laws_heldInt64S.f k (markInt64 k0 n) k0) (k0 + n) := by
  have key : ∀ d i, i + d = n → Ev (fun k => laws_heldInt64S.l0 k (markInt64 k0 n) (k0 + (i : Int)) (i : Int)) (k0 + n) := by
    intro d
    induction d with
    | zero =>
      intro i hi
      refine ev_succ ?_
      obtain rfl : i = n := by omega
      have h1 : ¬ ((i : Int) < ((markInt64 k0 i).length : Int)) := by simp [markInt64_len]
      simp only [laws_heldInt64S.l0, h1, if_false]
      exact ev_ret (by simp)
    | succ d ih =>
      intro i hi
      refine ev_succ ?_
      have h1 : (i : Int) < ((markInt64 k0 n).length : Int) := by simp [markInt64_len]; omega
      have h2 : (0 : Int) ≤ (i : Int) := by omega
      have h4 := w64s (n := i) (by omega)
      have h5 : wrap64 (k0 + (i : Int) + 1) = k0 + ((i + 1 : Nat) : Int) := by rw [w64 (by omega) (by omega)]; omega
      simp only [laws_heldInt64S.l0, h1, h2, if_true, h4, h5, markInt64_rd k0 n i (by omega)]
      exact ih (i + 1) (by omega)
  have := key n 0 (by omega)
  simpa [laws_heldInt64S.f] using this

theorem any_not_all {α : Type} (q : α → Bool) (xs : List α) : (xs.any fun c => !q c) = !(xs.all q) := by
  induction xs with
  | nil => rfl
  | cons c cs ih => simp [List.any_cons, List.all_cons, ih]

theorem impl_Buffer_idx_eq {α : Type} (q : α → Bool) : ∀ (l : List α) (i : Int), 0 ≤ i → (impl_Buffer_idxO (fun x => some (q x)) l i).bind (fun t => some (decide (0 ≤ t))) = some (l.any q)
  | [], i, _ => by simp [impl_Buffer_idxO]
  | x :: xs, i, h => by
    rw [impl_Buffer_idxO, List.any_cons]
    simp only [Option.bind_some]
    cases q x with
    | true => simp [h]
    | false => simpa using impl_Buffer_idx_eq q xs (i + 1) (by omega)

/-! #### Buffer -/
def frB (x : Int) : Bool := decide (0 ≤ x ∧ x ≤ 10000000)
def bufGo (rate room : Int) : List Int → Int → List Int
  | [], _ => []
  | s :: ss, full => if s ≤ full then mn (full - s + rate) room :: bufGo rate room ss (mn (full - s + rate) room) else -1 :: bufGo rate room ss (mn (full + rate) room)
theorem bufGo_len (rate room : Int) : ∀ (xs : List Int) (full : Int), (bufGo rate room xs full).length = xs.length
  | [], _ => rfl
  | s :: ss, full => by
    rw [bufGo]
    split <;> simp [bufGo_len rate room ss]
def bufB (xs : List Int) (rate room : Int) : Bool := decide (xs.length ≤ 1000 ∧ (1 ≤ rate ∧ rate ≤ 10000000) ∧ (1 ≤ room ∧ room ≤ 10000000)) && xs.all frB
def bufV (xs : List Int) (rate room : Int) : List Int := if bufB xs rate room = true then bufGo rate room xs room else []
theorem bufV_len (xs : List Int) (rate room : Int) : (bufV xs rate room).length ≤ xs.length := by
  unfold bufV
  split
  · rw [bufGo_len]; exact Nat.le_refl _
  · simp
theorem mn_min (a b : Int) : mn a b ≤ a ∧ mn a b ≤ b ∧ (mn a b = a ∨ mn a b = b) := by
  unfold mn
  split <;> omega
theorem spec_min_eq (a b : Int) : spec_l1Min.f a b = some (mn b a) := by
  unfold spec_l1Min.f mn
  split <;> rfl
theorem spec_Buffer_ev (xs : List Int) (rate room : Int) : Ev (fun k => spec_Buffer.f k xs rate room) (bufV xs rate room) := by
  have hfr : ∀ a, spec_l1Frame.f a = some (frB a) := by
    intro a
    simp only [spec_l1Frame.f, spec_in_eq, Option.bind_some, frB]
  have loop : xs.length ≤ 1000 → (1 ≤ rate ∧ rate ≤ 10000000) → (1 ≤ room ∧ room ≤ 10000000) → xs.all frB = true → ∀ d i (out : List Int) (full : Int), i + d = xs.length → out.length ≤ i → 0 ≤ full → full ≤ room →
      Ev (fun k => spec_Buffer.l1 k xs rate room out full (i : Int)) (out ++ bufGo rate room (xs.drop i) full) := by
    intro hl hr hm hall d
    induction d with
    | zero =>
      intro i out full hi ho h0 h1
      refine ev_succ ?_
      have h1 : ¬ (i : Int) < (xs.length : Int) := by omega
      simp only [spec_Buffer.l1, h1, if_false]
      exact ev_ret (by rw [drop_end (by omega), bufGo, List.append_nil])
    | succ d ih =>
      intro i out full hi ho h0 h1
      refine ev_succ ?_
      have h1 : (i : Int) < (xs.length : Int) := by omega
      have h2 : (0 : Int) ≤ (i : Int) := by omega
      have h4 := w64s (n := i) (by omega)
      have h5 : out.length < 17592186044416 := by omega
      have hs := of_decide_eq_true (List.all_eq_true.1 hall _ (rd_mem (show i < xs.length by omega)))
      have w1 : wrap64 (full - rd xs (i : Int)) = full - rd xs (i : Int) := w64 (by omega) (by omega)
      have w2 : wrap64 (full - rd xs (i : Int) + rate) = full - rd xs (i : Int) + rate := w64 (by omega) (by omega)
      have w3 : wrap64 (full + rate) = full + rate := w64 (by omega) (by omega)
      have hn : ¬ ((-1 : Int) = 0) := by omega
      simp only [spec_Buffer.l1, h1, h2, h4, h5, w1, w2, w3, hn, if_true, if_false, spec_min_eq, Option.bind_some]
      rw [drop_rd xs i (by omega), bufGo]
      refine ev_ite (fun h => ?_) (fun h => ?_)
      · rw [if_pos h]
        have m := mn_min (full - rd xs (i : Int) + rate) room
        refine ev_eq (ih (i + 1) (out ++ [mn (full - rd xs (i : Int) + rate) room]) _ (by omega) (by simp; omega) (by omega) (by omega)) (by simp)
      · rw [if_neg h]
        have m := mn_min (full + rate) room
        refine ev_eq (ih (i + 1) (out ++ [-1]) _ (by omega) (by simp; omega) (by omega) (by omega)) (by simp)
  have test : xs.length ≤ 1000 → (1 ≤ rate ∧ rate ≤ 10000000) → (1 ≤ room ∧ room ≤ 10000000) → ∀ d i, i + d = xs.length → (xs.take i).all frB = true → Ev (fun k => spec_Buffer.l0 k xs rate room [] (i : Int)) (if xs.all frB = true then bufGo rate room xs room else []) := by
    intro hl hr hm d
    induction d with
    | zero =>
      intro i hi hp
      refine ev_succ ?_
      have h1 : ¬ (i : Int) < (xs.length : Int) := by omega
      simp only [spec_Buffer.l0, h1, if_false]
      rw [List.take_of_length_le (by omega)] at hp
      rw [if_pos hp]
      exact ev_eq (loop hl hr hm hp xs.length 0 [] room (by omega) (by simp) (by omega) (by omega)) (by simp)
    | succ d ih =>
      intro i hi hp
      refine ev_succ ?_
      have h1 : (i : Int) < (xs.length : Int) := by omega
      have h2 : (0 : Int) ≤ (i : Int) := by omega
      have h4 := w64s (n := i) (by omega)
      simp only [spec_Buffer.l0, h1, h2, h4, if_true, hfr, Option.bind_some]
      refine ev_ifb (fun h => ?_) (fun h => ev_ret ?_)
      · refine ih (i + 1) (by omega) ?_
        rw [take_rd xs i (by omega), List.all_append, hp]
        simp [h]
      · rw [if_neg (fun hh => by rw [List.all_eq_true.1 hh _ (rd_mem (show i < xs.length by omega))] at h; cases h)]
  unfold bufV bufB
  simp only [spec_Buffer.f, spec_in_eq, Option.bind_some]
  have no : ∀ b, b = false → Ev (fun k => spec_Buffer.j0 k xs rate room [] true) (if (b && xs.all frB) = true then bufGo rate room xs room else []) := fun b hb => by
    refine ev_succ ?_
    simp only [spec_Buffer.j0, if_true]
    exact ev_ret (by rw [hb]; rfl)
  refine ev_ite (fun h => no _ (decide_eq_false (fun hh => by have := hh.1; omega))) (fun h => ?_)
  refine ev_ifb (fun h2 => ?_) (fun h2 => no _ (decide_eq_false (fun hh => of_decide_eq_false h2 hh.2.1)))
  by_cases h3 : 1 ≤ room ∧ room ≤ 10000000
  · rw [decide_eq_true h3]
    refine ev_succ ?_
    simp only [spec_Buffer.j0, Bool.not_true, Bool.false_eq_true, if_false]
    rw [decide_eq_true (show xs.length ≤ 1000 ∧ (1 ≤ rate ∧ rate ≤ 10000000) ∧ 1 ≤ room ∧ room ≤ 10000000 from ⟨by omega, of_decide_eq_true h2, h3⟩), Bool.true_and]
    exact test (by omega) (of_decide_eq_true h2) h3 xs.length 0 (by omega) (by simp)
  · rw [decide_eq_false h3]
    exact no _ (decide_eq_false (fun hh => h3 hh.2.2))
theorem impl_Buffer_ev (xs : List Int) (rate room : Int) : Ev (fun k => impl_Buffer.f k xs rate room) (bufV xs rate room) := by
  have loop : xs.length ≤ 1000 → (1 ≤ rate ∧ rate ≤ 10000000) → (1 ≤ room ∧ room ≤ 10000000) → xs.all frB = true → ∀ d i (out : List Int) (full : Int), i + d = xs.length → out.length ≤ i → 0 ≤ full → full ≤ room →
      Ev (fun k => impl_Buffer.l0 k rate room full out xs (xs.length : Int) (i : Int)) (out ++ bufGo rate room (xs.drop i) full) := by
    intro hl hr hm hall d
    induction d with
    | zero =>
      intro i out full hi ho h0 h1
      refine ev_succ ?_
      have h1 : ¬ (i : Int) < (xs.length : Int) := by omega
      simp only [impl_Buffer.l0, h1, if_false]
      exact ev_ret (by rw [drop_end (by omega), bufGo, List.append_nil])
    | succ d ih =>
      intro i out full hi ho h0 h1
      refine ev_succ ?_
      have h1 : (i : Int) < (xs.length : Int) := by omega
      have h2 : (0 : Int) ≤ (i : Int) := by omega
      have h4 := w64s (n := i) (by omega)
      have h5 : out.length < 17592186044416 := by omega
      have hs := of_decide_eq_true (List.all_eq_true.1 hall _ (rd_mem (show i < xs.length by omega)))
      have w1 : wrap64 (full - rd xs (i : Int)) = full - rd xs (i : Int) := w64 (by omega) (by omega)
      have w2 : wrap64 (full - rd xs (i : Int) + rate) = full - rd xs (i : Int) + rate := w64 (by omega) (by omega)
      have w3 : wrap64 (full + rate) = full + rate := w64 (by omega) (by omega)
      simp only [impl_Buffer.l0, h1, h2, h4, h5, w1, w2, w3, if_true]
      rw [drop_rd xs i (by omega), bufGo]
      refine ev_ite (fun h => ?_) (fun h => ?_)
      · rw [if_pos h]
        have m := mn_min (full - rd xs (i : Int) + rate) room
        refine ev_eq (ih (i + 1) (out ++ [mn (full - rd xs (i : Int) + rate) room]) _ (by omega) (by simp; omega) (by omega) (by omega)) (by simp)
      · rw [if_neg h]
        have m := mn_min (full + rate) room
        refine ev_eq (ih (i + 1) (out ++ [-1]) _ (by omega) (by simp; omega) (by omega) (by omega)) (by simp)
  have hcon : impl_Buffer_contains.f xs = some (!(xs.all frB)) := by
    have e : (fun x => impl_Buffer_1.f x) = fun x => some (!(frB x)) := by
      funext x
      simp only [impl_Buffer_1.f, impl_isFrame.f, impl_in_eq, Option.bind_some, frB]
    rw [impl_Buffer_contains.f, e, impl_Buffer_idx_eq _ _ _ (Int.le_refl _), any_not_all]
  unfold bufV bufB
  simp only [impl_Buffer.f, impl_in_eq, hcon, Option.bind_some]
  have no : ∀ b, b = false → Ev (fun k => impl_Buffer.j0 k xs rate room true) (if b = true then bufGo rate room xs room else []) := fun b hb => by
    refine ev_succ ?_
    simp only [impl_Buffer.j0, if_true]
    exact ev_ret (by rw [hb]; rfl)
  refine ev_ite (fun h => no _ (by rw [decide_eq_false (fun hh => by have := hh.1; omega)]; rfl)) (fun h => ?_)
  refine ev_ifb (fun h2 => ?_) (fun h2 => no _ (by rw [decide_eq_false (fun hh => of_decide_eq_false h2 hh.2.1)]; rfl))
  refine ev_ifb (fun h3 => ?_) (fun h3 => no _ (by rw [decide_eq_false (fun hh => of_decide_eq_false h3 hh.2.2)]; rfl))
  have h2' := of_decide_eq_true h2
  have h3' := of_decide_eq_true h3
  rw [decide_eq_true (show xs.length ≤ 1000 ∧ (1 ≤ rate ∧ rate ≤ 10000000) ∧ 1 ≤ room ∧ room ≤ 10000000 from ⟨by omega, h2', h3'⟩), Bool.true_and]
  cases hall : xs.all frB with
  | false => exact no _ rfl
  | true =>
    refine ev_succ ?_
    simp only [impl_Buffer.j0, Bool.not_true, Bool.false_eq_true, if_false, if_true]
    exact ev_eq (loop (by omega) h2' h3' hall xs.length 0 [] room (by omega) (by simp) (by omega) (by omega)) (by simp)

theorem FnExactBuffer : laws_FnExactBuffer.Pure := by
  intro l0 a1 a2 _ _ _ _ _
  apply Ev.rounds
  by_cases hl : (l0.length : Int) > 1048576
  · simp only [laws_FnExactBuffer.f, hl, if_true]
    exact ev_ret rfl
  · simp only [laws_FnExactBuffer.f, hl, if_false]
    have h1 : l0.length ≤ 1048576 := by omega
    have h2 := bufV_len l0 a1 a2
    refine ev_bind (toInt64S_ev l0 h1) ?_
    refine ev_bind (spec_Buffer_ev l0 a1 a2) ?_
    refine ev_bind (toInt64S_ev l0 h1) ?_
    refine ev_bind (impl_Buffer_ev l0 a1 a2) ?_
    refine ev_bind (eqInt64S_ev _ _ (by omega)) ?_
    simp only [decide_true, if_true]
    refine ev_bind (toInt64S_ev l0 h1) ?_
    refine ev_bind (eqInt64S_ev l0 l0 (by omega)) ?_
    simp only [decide_true, if_true]
    refine ev_bind (markInt64S_ev l0 1 (by omega) (by omega)) ?_
    have h3 : ¬ (1 + (l0.length : Int) < 0) := by omega
    simp only [h3, if_false]
    refine ev_bind (eqInt64S_ev _ _ (by omega)) ?_
    refine ev_succ ?_
    simp only [laws_FnExactBuffer.j0, decide_true, Bool.not_true, Bool.false_eq_true, if_false]
    refine ev_bind (markInt64S_ev _ 1 (by omega) (by omega)) ?_
    refine ev_bind (heldInt64S_ev _ 1 (by omega) (by omega)) ?_
    have h4 : ¬ (1 + ((bufV l0 a1 a2).length : Int) < 0) := by omega
    simp only [h4, if_false, if_true]
    refine ev_bind (toInt64S_ev l0 h1) ?_
    refine ev_bind (impl_Buffer_ev l0 a1 a2) ?_
    refine ev_bind (eqInt64S_ev _ _ (by omega)) ?_
    simp only [decide_true, if_true]
    refine ev_bind (heldInt64S_ev _ 1 (by omega) (by omega)) ?_
    simp only [h4, if_false, if_true]
    exact ev_ret rfl
end Go.Proofs.Ytbdnpfjjaokdbaa.Pure
