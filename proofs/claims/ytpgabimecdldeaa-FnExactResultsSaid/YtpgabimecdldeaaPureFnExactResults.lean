/-
  The plain statement of FnExactResults: both sides come to the same sums over a job, task by task; what is marked is no part of the answers.
  Conditions: the statement's own.
-/
import Derived.Test.YtpgabimecdldeaaHFnExactResultsx0
import Derived.Test.YtpgabimecdldeaaHFnExactResultsx1
import Derived.Test.YtpgabimecdldeaaHFnExactResultsx2
import Derived.Test.YtpgabimecdldeaaHFnExactResultsx3
import Derived.Test.YtpgabimecdldeaaHFnExactResultsx4
import Derived.Test.YtpgabimecdldeaaHFnExactResultsx5
import Derived.Test.YtpgabimecdldeaaHFnExactResultsx6
import Derived.Test.YtpgabimecdldeaaPureBase
import Derived.Laws.BitsLemmas
namespace Go.Proofs.Ytpgabimecdldeaa.Pure
open Go.RowKit Go.Proofs.Ytpgabimecdldeaa.HFnExactResults Go.Proofs.YtpgabimecdldeaaW.PrintWords Go.Proofs.YtpgabimecdldeaaW.PrintLast Go.Proofs.YtpgabimecdldeaaW.PrintMore Go.Proofs.Ytpgabimecdldeaa.PB
set_option linter.unusedVariables false
set_option linter.unusedSimpArgs false
/-! #### laws_toInt64S, laws_eqInt64S -/
theorem toInt64S_ev (xs : List Int) (h : xs.length ≤ 1048576) : Ev (fun k => laws_toInt64S.f k xs) xs := by
  have key : ∀ d i, i + d = xs.length → Ev (fun k => laws_toInt64S.l0 k xs ((xs.take i).map id ++ List.replicate (xs.length - i) 0) (i : Int)) (xs.map id) := by
    intro d
    induction d with
    | zero =>
      intro i hi
      refine ev_succ ?_
      have h1 : ¬ ((i : Int) < (xs.length : Int)) := by omega
      simp only [laws_toInt64S.l0, h1, if_false]
      obtain rfl : i = xs.length := by omega
      exact ev_ret (by rw [fill_all])
    | succ d ih =>
      intro i hi
      have hlt : i < xs.length := by omega
      refine ev_succ ?_
      have h1 : (i : Int) < (xs.length : Int) := by omega
      have h2 : (0 : Int) ≤ (i : Int) := by omega
      have h3 : (i : Int) < ((((xs.take i).map id ++ List.replicate (xs.length - i) (0 : Int)).length : Nat) : Int) := by rw [fill_len _ _ _ _ (by omega)]; omega
      have h4 := w64s (n := i) (by omega)
      simp only [laws_toInt64S.l0, h1, h2, h3, if_true, h4]
      have := ih (i + 1) (by omega)
      rw [← fill_set id 0 0 xs i hlt] at this
      exact this
  have h1 : (0 : Int) ≤ (xs.length : Int) := by omega
  have h2 : xs.length ≤ 35184372088832 := by omega
  simp only [laws_toInt64S.f, h1, Int.toNat_natCast, h2, if_true]
  have := key xs.length 0 (by omega)
  rw [← fill_none id 0 xs, List.map_id] at this
  exact this
theorem eqInt64S_ev (xs ys : List Int) (h : xs.length ≤ 4611686018427387904) : Ev (fun k => laws_eqInt64S.f k xs ys) (decide (xs = ys)) := by
  have key : ∀ d i, i + d = xs.length → xs.length = ys.length → Ev (fun k => laws_eqInt64S.l0 k xs ys (i : Int)) (decide (xs.drop i = ys.drop i)) := by
    intro d
    induction d with
    | zero =>
      intro i hi hl
      refine ev_succ ?_
      have h1 : ¬ ((i : Int) < (xs.length : Int)) := by omega
      simp only [laws_eqInt64S.l0, h1, if_false]
      exact ev_ret (by rw [drop_end (by omega), drop_end (by omega)]; simp)
    | succ d ih =>
      intro i hi hl
      refine ev_succ ?_
      have h1 : (i : Int) < (xs.length : Int) := by omega
      have h2 : (0 : Int) ≤ (i : Int) := by omega
      have h3 : (i : Int) < (ys.length : Int) := by omega
      have h4 := w64s (n := i) (by omega)
      simp only [laws_eqInt64S.l0, h1, h2, h3, if_true, h4]
      rw [drop_rd xs i (by omega), drop_rd ys i (by omega)]
      by_cases he : rd xs (i : Int) = rd ys (i : Int)
      · simp only [he, if_true]
        exact ev_eq (ih (i + 1) (by omega) hl) (by simp)
      · simp only [he, if_false]
        exact ev_ret (by simp [he])
  by_cases hl : xs.length = ys.length
  · have h1 : (xs.length : Int) = (ys.length : Int) := by omega
    simp only [laws_eqInt64S.f, h1, if_true]
    exact ev_eq (key xs.length 0 (by omega) hl) (by simp)
  · have h1 : ¬ (xs.length : Int) = (ys.length : Int) := by omega
    simp only [laws_eqInt64S.f, h1, if_false]
    exact ev_ret (by
      have : xs ≠ ys := fun e => hl (by rw [e])
      simp [this])

/-! #### laws_markInt64S, laws_heldInt64S -/
def markInt64 (k0 : Int) (n : Nat) : List Int := (List.range n).map fun (j : Nat) => k0 + (j : Int)
theorem markInt64_len (k0 : Int) (n : Nat) : (markInt64 k0 n).length = n := by simp [markInt64]
theorem markInt64_rd (k0 : Int) (n i : Nat) (h : i < n) : rd (markInt64 k0 n) (i : Int) = k0 + (i : Int) := by
  simp [markInt64, rd_nat, List.getD_eq_getElem?_getD, List.getElem?_map, List.getElem?_range h]
theorem markInt64S_ev (xs : List Int) (k0 : Int) (hk : 0 ≤ k0) (hk2 : k0 + xs.length < 9223372036854775807) : Ev (fun k => laws_markInt64S.f k xs k0) (k0 + xs.length, markInt64 k0 xs.length) := by
  have key : ∀ d i, i + d = xs.length → Ev (fun k => laws_markInt64S.l0 k (markInt64 k0 i ++ xs.drop i) (k0 + (i : Int)) (i : Int)) (k0 + xs.length, markInt64 k0 xs.length) := by
    intro d
    induction d with
    | zero =>
      intro i hi
      refine ev_succ ?_
      obtain rfl : i = xs.length := by omega
      have h1 : ¬ ((xs.length : Int) < ((markInt64 k0 xs.length ++ xs.drop xs.length).length : Int)) := by simp [markInt64_len]
      simp only [laws_markInt64S.l0, h1, if_false]
      exact ev_ret (by simp)
    | succ d ih =>
      intro i hi
      refine ev_succ ?_
      have h1 : (i : Int) < ((markInt64 k0 i ++ xs.drop i).length : Int) := by simp [markInt64_len]; omega
      have h2 : (0 : Int) ≤ (i : Int) := by omega
      have h4 := w64s (n := i) (by omega)
      have h5 : wrap64 (k0 + (i : Int) + 1) = k0 + ((i + 1 : Nat) : Int) := by rw [w64 (by omega) (by omega)]; omega
      simp only [laws_markInt64S.l0, h1, h2, if_true, h4, h5]
      have := ih (i + 1) (by omega)
      have he : (markInt64 k0 i ++ xs.drop i).set i (k0 + (i : Int)) = markInt64 k0 (i + 1) ++ xs.drop (i + 1) := by
        rw [List.set_append_right _ _ (by rw [markInt64_len]; omega), markInt64_len, Nat.sub_self, drop_rd xs i (by omega)]
        simp [markInt64, List.range_succ]
      rw [← he] at this
      exact this
  have := key xs.length 0 (by omega)
  simpa [laws_markInt64S.f, markInt64] using this
theorem heldInt64S_ev (n : Nat) (k0 : Int) (hk : 0 ≤ k0) (hk2 : k0 + n < 9223372036854775807) : Ev (fun k => laws_heldInt64S.f k (markInt64 k0 n) k0) (k0 + n) := by
  have key : ∀ d i, i + d = n → Ev (fun k => laws_heldInt64S.l0 k (markInt64 k0 n) (k0 + (i : Int)) (i : Int)) (k0 + n) := by
    intro d
    induction d with
    | zero =>
      intro i hi
      refine ev_succ ?_
      obtain rfl : i = n := by omega
      have h1 : ¬ ((i : Int) < ((markInt64 k0 i).length : Int)) := by simp [markInt64_len]
      simp only [laws_heldInt64S.l0, h1, if_false]
      exact ev_ret (by simp)
    | succ d ih =>
      intro i hi
      refine ev_succ ?_
      have h1 : (i : Int) < ((markInt64 k0 n).length : Int) := by simp [markInt64_len]; omega
      have h2 : (0 : Int) ≤ (i : Int) := by omega
      have h4 := w64s (n := i) (by omega)
      have h5 : wrap64 (k0 + (i : Int) + 1) = k0 + ((i + 1 : Nat) : Int) := by rw [w64 (by omega) (by omega)]; omega
      simp only [laws_heldInt64S.l0, h1, h2, if_true, h4, h5, markInt64_rd k0 n i (by omega)]
      exact ih (i + 1) (by omega)
  have := key n 0 (by omega)
  simpa [laws_heldInt64S.f] using this

/-! #### laws_szTaskS: where it is not below 0, all is small -/
theorem szTaskS_ev (xs : List S49) (hw : xs.length ≤ maxLen) (hx : ∀ x ∈ xs, x.f2.length ≤ maxLen) :
    ∃ r, Ev (fun k => laws_szTaskS.f k xs 1048576) r ∧ (0 ≤ r → xs.length ≤ 1048576 ∧ ∀ x ∈ xs, x.f2.length ≤ 1048576) := by
  unfold maxLen at hw hx
  have key : ∀ d i (left : Int), i + d = xs.length → 0 ≤ left → left ≤ 1048576 → ∃ r, Ev (fun k => laws_szTaskS.l0 k xs left (i : Int)) r ∧ (0 ≤ r → ∀ x ∈ xs.drop i, x.f2.length ≤ 1048576) := by
    intro d
    induction d with
    | zero =>
      intro i left hi h0 hl
      have h1 : ¬ ((i : Int) < (xs.length : Int)) := by omega
      refine ⟨left, ev_succ ?_, fun _ x hx => by rw [drop_end (by omega)] at hx; cases hx⟩
      simp only [laws_szTaskS.l0, h1, if_false]
      exact ev_ret rfl
    | succ d ih =>
      intro i left hi h0 hl
      have h1 : (i : Int) < (xs.length : Int) := by omega
      have h2 : (0 : Int) ≤ (i : Int) := by omega
      have h4 := w64s (n := i) (by omega)
      have hm : rd_T49 xs (i : Int) ∈ xs := getD_mem _ (by omega)
      have hb := hx _ hm
      generalize hx0 : rd_T49 xs (i : Int) = x at hm hb
      have h5 : wrap64 (left - (x.f2.length : Int)) = left - (x.f2.length : Int) := w64 (by omega) (by omega)
      have hd : xs.drop i = x :: xs.drop (i + 1) := by rw [drop_getD z49 xs i (by omega), ← hx0]; rfl
      by_cases h6 : left - (x.f2.length : Int) < 0
      · refine ⟨-1, ev_succ ?_, fun h => by omega⟩
        simp [laws_szTaskS.l0, laws_szTask.f, laws_szInt64S.f, hx0, h1, h2, h5, h6]
        exact ev_ret rfl
      · obtain ⟨r, hr, hp⟩ := ih (i + 1) (left - (x.f2.length : Int)) (by omega) (by omega) (by omega)
        refine ⟨r, ev_succ ?_, fun h y hy => ?_⟩
        · simp only [laws_szTaskS.l0, laws_szTask.f, laws_szInt64S.f, hx0, h1, h2, h4, h5, h6, if_true, if_false, Option.bind_some]
          exact hr
        · rw [hd] at hy
          rcases List.mem_cons.1 hy with rfl | hy
          · omega
          · exact hp h y hy
  have h5 : wrap64 (1048576 - (xs.length : Int)) = 1048576 - (xs.length : Int) := w64 (by omega) (by omega)
  by_cases h6 : 1048576 - (xs.length : Int) < 0
  · refine ⟨-1, ?_, fun h => by omega⟩
    simp only [laws_szTaskS.f, h5, h6, if_true]
    exact ev_ret rfl
  · obtain ⟨r, hr, hp⟩ := key xs.length 0 (1048576 - (xs.length : Int)) (by omega) (by omega) (by omega)
    refine ⟨r, ?_, fun h => ⟨by omega, by simpa using hp h⟩⟩
    simp only [laws_szTaskS.f, h5, h6, if_false]
    exact hr

theorem spec_in_eq (a lo hi : Int) : spec_l1In.f a lo hi = some (decide (lo ≤ a ∧ a ≤ hi)) := by
  unfold spec_l1In.f
  by_cases h : a ≥ lo
  · rw [if_pos h]; simp [show lo ≤ a from h]
  · rw [if_neg h]; simp; omega

theorem impl_in_eq (a lo hi : Int) : impl_in.f a lo hi = some (decide (lo ≤ a ∧ a ≤ hi)) := by
  unfold impl_in.f
  by_cases h : lo ≤ a
  · rw [if_pos h]; simp [h]
  · rw [if_neg h]; simp; omega

theorem toTask_ev (x : S49) (h : x.f2.length ≤ 1048576) : Ev (fun k => laws_toTask.f k x.f0 x.f1 x.f2 x.f3) (x.f0, x.f1, x.f2, x.f3) := by
  simp only [laws_toTask.f]
  exact ev_bind (toInt64S_ev _ h) (ev_ret rfl)
theorem eqTask_refl (x : S50) (h : x.f2.length ≤ 1048576) : Ev (fun k => laws_eqTask.f k x.f0 x.f1 x.f2 x.f3 x.f0 x.f1 x.f2 x.f3) true := by
  simp only [laws_eqTask.f, if_true]
  refine ev_bind (eqInt64S_ev _ _ (by omega)) ?_
  simp only [decide_true, if_true]
  exact ev_ret rfl

/-! #### laws_toTaskS, an element's own function with rounds -/
def cvTask (a : S49) : S50 := ⟨a.f0, a.f1, a.f2, a.f3⟩
theorem toTaskS_ev (xs : List S49) (h : xs.length ≤ 1048576) (hx : ∀ x ∈ xs, x.f2.length ≤ 1048576) : Ev (fun k => laws_toTaskS.f k xs) (xs.map cvTask) := by
  have key : ∀ d i, i + d = xs.length → Ev (fun k => laws_toTaskS.l0 k xs ((xs.take i).map cvTask ++ List.replicate (xs.length - i) z50) (i : Int)) (xs.map cvTask) := by
    intro d
    induction d with
    | zero =>
      intro i hi
      refine ev_succ ?_
      have h1 : ¬ ((i : Int) < (xs.length : Int)) := by omega
      simp only [laws_toTaskS.l0, h1, if_false]
      obtain rfl : i = xs.length := by omega
      exact ev_ret (by rw [fill_all])
    | succ d ih =>
      intro i hi
      have hlt : i < xs.length := by omega
      refine ev_succ ?_
      have h1 : (i : Int) < (xs.length : Int) := by omega
      have h2 : (0 : Int) ≤ (i : Int) := by omega
      have h3 : (i : Int) < ((((xs.take i).map cvTask ++ List.replicate (xs.length - i) z50).length : Nat) : Int) := by rw [fill_len _ _ _ _ (by omega)]; omega
      have h4 := w64s (n := i) (by omega)
      simp only [laws_toTaskS.l0, h1, h2, if_true, h4]
      refine ev_bind (toTask_ev (rd_T49 xs (i : Int)) (hx _ (getD_mem _ hlt))) ?_
      simp only [h3, if_true]
      have := ih (i + 1) (by omega)
      rw [← fill_set cvTask z49 z50 xs i hlt] at this
      exact this
  have h1 : (0 : Int) ≤ (xs.length : Int) := by omega
  have h2 : xs.length ≤ 5864062014805 := by omega
  simp only [laws_toTaskS.f, h1, Int.toNat_natCast, h2, if_true]
  have := key xs.length 0 (by omega)
  rw [← fill_none cvTask z50 xs] at this
  exact this
theorem eqTaskS_refl (xs : List S50) (h : xs.length ≤ 4611686018427387904) (hx : ∀ x ∈ xs, x.f2.length ≤ 1048576) : Ev (fun k => laws_eqTaskS.f k xs xs) true := by
  have key : ∀ d i, i + d = xs.length → Ev (fun k => laws_eqTaskS.l0 k xs xs (i : Int)) true := by
    intro d
    induction d with
    | zero =>
      intro i hi
      refine ev_succ ?_
      have h1 : ¬ ((i : Int) < (xs.length : Int)) := by omega
      simp only [laws_eqTaskS.l0, h1, if_false]
      exact ev_ret rfl
    | succ d ih =>
      intro i hi
      refine ev_succ ?_
      have h1 : (i : Int) < (xs.length : Int) := by omega
      have h2 : (0 : Int) ≤ (i : Int) := by omega
      have h4 := w64s (n := i) (by omega)
      simp only [laws_eqTaskS.l0, h1, h2, if_true, h4]
      refine ev_bind (eqTask_refl (rd_T50 xs (i : Int)) (hx _ (getD_mem _ (by omega)))) ?_
      simp only [if_true]
      exact ih (i + 1) (by omega)
  simp only [laws_eqTaskS.f, if_true]
  exact key xs.length 0 (by omega)

def allFrom (p : Nat → Bool) : Nat → Nat → Bool
  | 0, _ => true
  | d + 1, i => p i && allFrom p d (i + 1)
theorem allFrom_at {p : Nat → Bool} : ∀ {d i : Nat}, allFrom p d i = true → ∀ j, i ≤ j → j < i + d → p j = true
  | 0, i, _, j, h1, h2 => absurd h2 (by omega)
  | d + 1, i, h, j, h1, h2 => by
    rw [allFrom, Bool.and_eq_true] at h
    rcases Nat.eq_or_lt_of_le h1 with rfl | h3
    · exact h.1
    · exact allFrom_at h.2 j (by omega) (by omega)

/-! #### JobOk -/
def needB (ns : List Int) (i k : Nat) : Bool := decide (0 ≤ rd ns (k : Int) ∧ rd ns (k : Int) ≤ (i : Int) - 1) && (decide (k = 0) || decide (rd ns ((k - 1 : Nat) : Int) < rd ns (k : Int)))
def taskB (xs : List S50) (i : Nat) : Bool :=
  decide (0 ≤ (rd_T50 xs (i : Int)).f0 ∧ (rd_T50 xs (i : Int)).f0 ≤ 9) && decide (0 ≤ (rd_T50 xs (i : Int)).f1 ∧ (rd_T50 xs (i : Int)).f1 ≤ 10000000) && decide (1 ≤ (rd_T50 xs (i : Int)).f3 ∧ (rd_T50 xs (i : Int)).f3 ≤ 1000)
    && (decide ((rd_T50 xs (i : Int)).f2.length ≤ 10) && allFrom (needB (rd_T50 xs (i : Int)).f2 i) (rd_T50 xs (i : Int)).f2.length 0)
def jobB (xs : List S50) : Bool := decide (xs.length ≤ 200) && allFrom (taskB xs) xs.length 0
theorem spec_JobOk_ev (xs : List S50) : Ev (fun k => spec_JobOk.f k xs) (jobB xs) := by
  have hfr : ∀ a, spec_l1Frame.f a = some (decide (0 ≤ a ∧ a ≤ 10000000)) := by
    intro a
    simp only [spec_l1Frame.f, spec_in_eq, Option.bind_some]
  have inner : ∀ (i : Nat) (f0 f1 : Int) (ns : List Int) (f3 : Int) (R : Bool), i ≤ 200 → ns.length ≤ 10 → Ev (fun k => spec_JobOk.l0 k xs ((i + 1 : Nat) : Int)) R →
      ∀ d j, j + d = ns.length → Ev (fun k => spec_JobOk.l1 k xs (i : Int) (j : Int) f0 f1 ns f3) (allFrom (needB ns i) d j && R) := by
    intro i f0 f1 ns f3 R hi hn hR d
    induction d with
    | zero =>
      intro j hj
      refine ev_succ ?_
      have h1 : ¬ (j : Int) < (ns.length : Int) := by omega
      have h4 := w64s (n := i) (by omega)
      simp only [spec_JobOk.l1, h1, if_false, h4]
      rw [allFrom, Bool.true_and]
      exact hR
    | succ d ih =>
      intro j hj
      refine ev_succ ?_
      have h1 : (j : Int) < (ns.length : Int) := by omega
      have h2 : (0 : Int) ≤ (j : Int) := by omega
      have h4 := w64s (n := j) (by omega)
      have h5 : wrap64 ((i : Int) - 1) = (i : Int) - 1 := w64 (by omega) (by omega)
      simp only [spec_JobOk.l1, h1, h2, h4, h5, if_true, spec_in_eq, Option.bind_some]
      rw [allFrom, needB]
      refine ev_ifb (fun e1 => ?_) (fun e1 => ev_ret (by rw [e1]; rfl))
      rw [e1, Bool.true_and]
      refine ev_ite (fun h6 => ?_) (fun h6 => ?_)
      · have h7 : wrap64 ((j : Int) - 1) = ((j - 1 : Nat) : Int) := by rw [w64 (by omega) (by omega)]; omega
        have h8 : (0 : Int) ≤ ((j - 1 : Nat) : Int) := by omega
        have h9 : ((j - 1 : Nat) : Int) < (ns.length : Int) := by omega
        simp only [h7, h8, h9, if_true]
        rw [decide_eq_false (show ¬ j = 0 by omega), Bool.false_or]
        refine ev_ite (fun h => ev_ret (by rw [decide_eq_false (by omega)]; rfl)) (fun h => ?_)
        rw [decide_eq_true (show rd ns ((j - 1 : Nat) : Int) < rd ns (j : Int) by omega), Bool.true_and]
        exact ih (j + 1) (by omega)
      · rw [decide_eq_true (show j = 0 by omega), Bool.true_or, Bool.true_and]
        exact ih (j + 1) (by omega)
  have key : ∀ d i, xs.length ≤ 200 → i + d = xs.length → Ev (fun k => spec_JobOk.l0 k xs (i : Int)) (allFrom (taskB xs) d i) := by
    intro d
    induction d with
    | zero =>
      intro i hl hi
      refine ev_succ ?_
      have h1 : ¬ (i : Int) < (xs.length : Int) := by omega
      simp only [spec_JobOk.l0, h1, if_false]
      exact ev_ret rfl
    | succ d ih =>
      intro i hl hi
      refine ev_succ ?_
      have h1 : (i : Int) < (xs.length : Int) := by omega
      have h2 : (0 : Int) ≤ (i : Int) := by omega
      simp only [spec_JobOk.l0, h1, h2, if_true, spec_in_eq, hfr, Option.bind_some]
      rw [allFrom, taskB]
      have no : ∀ b : Bool, b = false → ∀ (x0 x1 : Int) (x2 : List Int) (x3 : Int), Ev (fun k => spec_JobOk.j1 k xs (i : Int) true x0 x1 x2 x3) (b && allFrom (taskB xs) d (i + 1)) := by
        intro b hb x0 x1 x2 x3
        refine ev_succ ?_
        simp only [spec_JobOk.j1, if_true]
        exact ev_ret (by rw [hb]; rfl)
      refine ev_ifb (fun e1 => ?_) (fun e1 => no _ (by rw [e1]; rfl) _ _ _ _)
      refine ev_ifb (fun e2 => ?_) (fun e2 => no _ (by rw [e2, Bool.and_false]; rfl) _ _ _ _)
      refine ev_ite (fun h3 => no _ (by rw [decide_eq_false (show ¬ (rd_T50 xs (i : Int)).f2.length ≤ 10 by omega), Bool.false_and, Bool.and_false]) _ _ _ _) (fun h3 => ?_)
      refine ev_succ ?_
      simp only [spec_JobOk.j1]
      by_cases e3 : 1 ≤ (rd_T50 xs (i : Int)).f3 ∧ (rd_T50 xs (i : Int)).f3 ≤ 1000
      · rw [e1, e2, decide_eq_true e3, decide_eq_true (show (rd_T50 xs (i : Int)).f2.length ≤ 10 by omega)]
        simp only [Bool.not_true, Bool.false_eq_true, if_false, Bool.true_and]
        exact inner i _ _ _ _ _ (by omega) (by omega) (ih (i + 1) hl (by omega)) _ 0 (by omega)
      · rw [decide_eq_false e3]
        simp only [Bool.not_false, if_true]
        exact ev_ret (by rw [Bool.and_false, Bool.false_and, Bool.false_and])
  unfold jobB
  simp only [spec_JobOk.f]
  refine ev_ite (fun h => ev_ret (by rw [decide_eq_false (by omega)]; rfl)) (fun h => ?_)
  rw [decide_eq_true (show xs.length ≤ 200 by omega), Bool.true_and]
  exact key xs.length 0 (by omega) (by omega)
theorem impl_ok_ev (xs : List S50) (i : Nat) (hi : i ≤ 200) : Ev (fun k => impl_Task_ok.f k (rd_T50 xs (i : Int)).f0 (rd_T50 xs (i : Int)).f1 (rd_T50 xs (i : Int)).f2 (rd_T50 xs (i : Int)).f3 (i : Int)) (taskB xs i) := by
  unfold taskB
  generalize rd_T50 xs (i : Int) = t
  have hfr : ∀ a, impl_isFrame.f a = some (decide (0 ≤ a ∧ a ≤ 10000000)) := by
    intro a
    simp only [impl_isFrame.f, impl_in_eq, Option.bind_some]
  have key : ∀ (ns : List Int) d j (y0 y1 y3 : Int), ns.length ≤ 10 → j + d = ns.length → Ev (fun k => impl_Task_ok.l0 k (i : Int) ns (ns.length : Int) (j : Int) y0 y1 ns y3) (allFrom (needB ns i) d j) := by
    intro ns d
    induction d with
    | zero =>
      intro j y0 y1 y3 hn hj
      refine ev_succ ?_
      have h1 : ¬ (j : Int) < (ns.length : Int) := by omega
      simp only [impl_Task_ok.l0, h1, if_false]
      exact ev_ret rfl
    | succ d ih =>
      intro j y0 y1 y3 hn hj
      refine ev_succ ?_
      have h1 : (j : Int) < (ns.length : Int) := by omega
      have h2 : (0 : Int) ≤ (j : Int) := by omega
      have h4 := w64s (n := j) (by omega)
      have h5 : wrap64 ((i : Int) - 1) = (i : Int) - 1 := w64 (by omega) (by omega)
      simp only [impl_Task_ok.l0, h1, h2, h4, h5, if_true, impl_in_eq, Option.bind_some]
      rw [allFrom, needB]
      refine ev_ifb (fun e1 => ?_) (fun e1 => ev_ret (by rw [e1]; rfl))
      rw [e1, Bool.true_and]
      refine ev_ite (fun h6 => ?_) (fun h6 => ?_)
      · have h7 : wrap64 ((j : Int) - 1) = ((j - 1 : Nat) : Int) := by rw [w64 (by omega) (by omega)]; omega
        have h8 : (0 : Int) ≤ ((j - 1 : Nat) : Int) := by omega
        have h9 : ((j - 1 : Nat) : Int) < (ns.length : Int) := by omega
        simp only [h7, h8, h9, if_true]
        rw [decide_eq_false (show ¬ j = 0 by omega), Bool.false_or]
        refine ev_ite (fun h => ev_ret (by rw [decide_eq_false (by omega)]; rfl)) (fun h => ?_)
        rw [decide_eq_true (show rd ns ((j - 1 : Nat) : Int) < rd ns (j : Int) by omega), Bool.true_and]
        exact ih (j + 1) _ _ _ hn (by omega)
      · rw [decide_eq_true (show j = 0 by omega), Bool.true_or, Bool.true_and]
        exact ih (j + 1) _ _ _ hn (by omega)
  have no : ∀ b : Bool, b = false → ∀ (x0 x1 : Int) (x2 : List Int) (x3 : Int), Ev (fun k => impl_Task_ok.j0 k (i : Int) true x0 x1 x2 x3) b := by
    intro b hb x0 x1 x2 x3
    refine ev_succ ?_
    simp only [impl_Task_ok.j0, if_true]
    exact ev_ret (by rw [hb])
  simp only [impl_Task_ok.f, impl_in_eq, hfr, Option.bind_some]
  refine ev_ifb (fun e1 => ?_) (fun e1 => no _ (by rw [e1]; rfl) _ _ _ _)
  refine ev_ifb (fun e2 => ?_) (fun e2 => no _ (by rw [e2, Bool.and_false]; rfl) _ _ _ _)
  refine ev_ifb (fun e3 => ?_) (fun e3 => no _ (by rw [e3, Bool.and_false]; rfl) _ _ _ _)
  rw [e1, e2, e3]
  simp only [Bool.true_and]
  refine ev_succ ?_
  by_cases h : (t.f2.length : Int) > 10
  · simp only [impl_Task_ok.j0, decide_eq_true h, if_true]
    exact ev_ret (by rw [decide_eq_false (by omega)]; rfl)
  · simp only [impl_Task_ok.j0, decide_eq_false h, Bool.false_eq_true, if_false]
    rw [decide_eq_true (show t.f2.length ≤ 10 by omega), Bool.true_and]
    exact key _ _ 0 _ _ _ (by omega) (by omega)
theorem impl_JobOk_ev (xs : List S50) : Ev (fun k => impl_JobOk.f k xs) (jobB xs) := by
  have key : ∀ d i, xs.length ≤ 200 → i + d = xs.length → Ev (fun k => impl_JobOk.l0 k xs (xs.length : Int) (i : Int)) (allFrom (taskB xs) d i) := by
    intro d
    induction d with
    | zero =>
      intro i hl hi
      refine ev_succ ?_
      have h1 : ¬ (i : Int) < (xs.length : Int) := by omega
      simp only [impl_JobOk.l0, h1, if_false]
      exact ev_ret rfl
    | succ d ih =>
      intro i hl hi
      refine ev_succ ?_
      have h1 : (i : Int) < (xs.length : Int) := by omega
      have h2 : (0 : Int) ≤ (i : Int) := by omega
      have h4 := w64s (n := i) (by omega)
      simp only [impl_JobOk.l0, h1, h2, h4, if_true]
      rw [allFrom]
      refine ev_bind (impl_ok_ev xs i (by omega)) ?_
      refine ev_ifb (fun e1 => ?_) (fun e1 => ev_ret (by rw [e1]; rfl))
      rw [e1, Bool.true_and]
      exact ih (i + 1) hl (by omega)
  unfold jobB
  simp only [impl_JobOk.f]
  refine ev_ite (fun h => ev_ret (by rw [decide_eq_false (by omega)]; rfl)) (fun h => ?_)
  rw [decide_eq_true (show xs.length ≤ 200 by omega), Bool.true_and]
  exact key xs.length 0 (by omega) (by omega)
theorem jobB_needs {xs : List S50} (h : jobB xs = true) {i k : Nat} (hi : i < xs.length) (hk : k < (rd_T50 xs (i : Int)).f2.length) :
    0 ≤ rd (rd_T50 xs (i : Int)).f2 (k : Int) ∧ rd (rd_T50 xs (i : Int)).f2 (k : Int) < (i : Int) := by
  rw [jobB, Bool.and_eq_true] at h
  have h1 := allFrom_at h.2 i (by omega) (by omega)
  rw [taskB, Bool.and_eq_true] at h1
  have h3 := h1.2
  rw [Bool.and_eq_true] at h3
  have h2 := allFrom_at h3.2 k (by omega) (by omega)
  rw [needB, Bool.and_eq_true] at h2
  have := of_decide_eq_true h2.1
  omega
theorem jobB_len {xs : List S50} (h : jobB xs = true) : xs.length ≤ 200 := by
  rw [jobB, Bool.and_eq_true] at h
  exact of_decide_eq_true h.1
theorem jobB_few {xs : List S50} (h : jobB xs = true) {i : Nat} (hi : i < xs.length) : (rd_T50 xs (i : Int)).f2.length ≤ 10 := by
  rw [jobB, Bool.and_eq_true] at h
  have h1 := allFrom_at h.2 i (by omega) (by omega)
  rw [taskB, Bool.and_eq_true] at h1
  have h3 := h1.2
  rw [Bool.and_eq_true] at h3
  exact of_decide_eq_true h3.1

/-! #### Results -/
def stepR (rs : List Int) (h n : Int) : Int := Int.tmod (wrap64 (wrap64 (wrap64 (h * 257) + rd rs n) + 1)) 1000000007
def needsR (rs ns : List Int) : Nat → Nat → Int → Int
  | 0, _, h => h
  | d + 1, j, h => needsR rs ns d (j + 1) (stepR rs h (rd ns (j : Int)))
def headR (t : S50) : Int := Int.tmod (wrap64 (wrap64 (t.f0 * 1000003) + t.f1)) 1000000007
def resV (xs : List S50) : Nat → Nat → List Int → List Int
  | 0, _, rs => rs
  | d + 1, i, rs => resV xs d (i + 1) (rs ++ [needsR rs (rd_T50 xs (i : Int)).f2 (rd_T50 xs (i : Int)).f2.length 0 (headR (rd_T50 xs (i : Int)))])
theorem resV_len (xs : List S50) : ∀ d i rs, (resV xs d i rs).length = rs.length + d
  | 0, _, _ => rfl
  | d + 1, i, rs => by rw [resV, resV_len]; simp; omega
theorem spec_l16Results_ev (xs : List S50) (hj : jobB xs = true) : Ev (fun k => spec_l16Results.f k xs) (resV xs xs.length 0 []) := by
  have hl := jobB_len hj
  have key : ∀ d i rs, i + d = xs.length → rs.length = i → Ev (fun k => spec_l16Results.l0 k xs rs (i : Int)) (resV xs d i rs) := by
    intro d
    induction d with
    | zero =>
      intro i rs hi hr
      refine ev_succ ?_
      have h1 : ¬ (i : Int) < (xs.length : Int) := by omega
      simp only [spec_l16Results.l0, h1, if_false]
      exact ev_ret rfl
    | succ d ih =>
      intro i rs hi hr
      refine ev_succ ?_
      have h1 : (i : Int) < (xs.length : Int) := by omega
      have h2 : (0 : Int) ≤ (i : Int) := by omega
      have hd := fun (k : Nat) => jobB_needs hj (i := i) (k := k) (by omega)
      have hf := jobB_few hj (i := i) (by omega)
      simp only [spec_l16Results.l0, h1, h2, if_true]
      have inner : ∀ e j h, j + e = (rd_T50 xs (i : Int)).f2.length → Ev (fun k => spec_l16Results.l1 k xs rs (i : Int) h (j : Int)) (resV xs d (i + 1) (rs ++ [needsR rs (rd_T50 xs (i : Int)).f2 e j h])) := by
        intro e
        induction e with
        | zero =>
          intro j h hj2
          refine ev_succ ?_
          have h3 : ¬ (j : Int) < ((rd_T50 xs (i : Int)).f2.length : Int) := by omega
          have h4 := w64s (n := i) (by omega)
          have h5 : rs.length < 17592186044416 := by omega
          simp only [spec_l16Results.l1, h1, h2, h3, h4, h5, if_true, if_false]
          exact ih (i + 1) _ (by omega) (by simp [hr])
        | succ e ih2 =>
          intro j h hj2
          refine ev_succ ?_
          have h3 : (j : Int) < ((rd_T50 xs (i : Int)).f2.length : Int) := by omega
          have h4 := w64s (n := j) (by omega)
          obtain ⟨h5, h6⟩ := hd j (by omega)
          have h7 : rd (rd_T50 xs (i : Int)).f2 (j : Int) < (rs.length : Int) := by omega
          have h8 : (0 : Int) ≤ (j : Int) := by omega
          simp only [spec_l16Results.l1, h1, h2, h3, h4, h5, h7, h8, if_true]
          exact ih2 (j + 1) _ (by omega)
      exact inner _ 0 _ (by omega)
  exact key xs.length 0 [] (by omega) rfl
theorem impl_results_ev (xs : List S50) (hj : jobB xs = true) : Ev (fun k => impl_results.f k xs) (resV xs xs.length 0 []) := by
  have hl := jobB_len hj
  have key : ∀ d i rs, i + d = xs.length → rs.length = i → Ev (fun k => impl_results.l0 k rs xs (xs.length : Int) (i : Int)) (resV xs d i rs) := by
    intro d
    induction d with
    | zero =>
      intro i rs hi hr
      refine ev_succ ?_
      have h1 : ¬ (i : Int) < (xs.length : Int) := by omega
      simp only [impl_results.l0, h1, if_false]
      exact ev_ret rfl
    | succ d ih =>
      intro i rs hi hr
      refine ev_succ ?_
      have h1 : (i : Int) < (xs.length : Int) := by omega
      have h2 : (0 : Int) ≤ (i : Int) := by omega
      have hd := fun (k : Nat) => jobB_needs hj (i := i) (k := k) (by omega)
      have hf := jobB_few hj (i := i) (by omega)
      simp only [impl_results.l0, h1, h2, if_true]
      have inner : ∀ e j h, j + e = (rd_T50 xs (i : Int)).f2.length → Ev (fun k => impl_results.l1 k rs h xs (xs.length : Int) (i : Int) (rd_T50 xs (i : Int)).f2 ((rd_T50 xs (i : Int)).f2.length : Int) (j : Int)) (resV xs d (i + 1) (rs ++ [needsR rs (rd_T50 xs (i : Int)).f2 e j h])) := by
        intro e
        induction e with
        | zero =>
          intro j h hj2
          refine ev_succ ?_
          have h3 : ¬ (j : Int) < ((rd_T50 xs (i : Int)).f2.length : Int) := by omega
          have h4 := w64s (n := i) (by omega)
          have h5 : rs.length < 17592186044416 := by omega
          simp only [impl_results.l1, h3, h4, h5, if_true, if_false]
          exact ih (i + 1) _ (by omega) (by simp [hr])
        | succ e ih2 =>
          intro j h hj2
          refine ev_succ ?_
          have h3 : (j : Int) < ((rd_T50 xs (i : Int)).f2.length : Int) := by omega
          have h4 := w64s (n := j) (by omega)
          obtain ⟨h5, h6⟩ := hd j (by omega)
          have h7 : rd (rd_T50 xs (i : Int)).f2 (j : Int) < (rs.length : Int) := by omega
          have h8 : (0 : Int) ≤ (j : Int) := by omega
          simp only [impl_results.l1, impl_stepped.f, h3, h4, h5, h7, h8, if_true, Option.bind_some]
          exact ih2 (j + 1) _ (by omega)
      exact inner _ 0 _ (by omega)
  exact key xs.length 0 [] (by omega) rfl
def resultsV (xs : List S50) : List Int := if jobB xs = true then resV xs xs.length 0 [] else []
theorem spec_Results_ev (xs : List S50) : Ev (fun k => spec_Results.f k xs) (resultsV xs) := by
  simp only [spec_Results.f]
  refine ev_bind (spec_JobOk_ev xs) ?_
  unfold resultsV
  refine ev_ite (fun h => ?_) (fun h => ev_ret (by rw [if_neg h]))
  rw [if_pos h]
  exact ev_bind (spec_l16Results_ev xs h) (ev_ret rfl)
theorem impl_Results_ev (xs : List S50) : Ev (fun k => impl_Results.f k xs) (resultsV xs) := by
  simp only [impl_Results.f]
  refine ev_bind (impl_JobOk_ev xs) ?_
  unfold resultsV
  refine ev_ite (fun h => ?_) (fun h => ev_ret (by rw [if_neg h]))
  rw [if_pos h]
  exact ev_bind (impl_results_ev xs h) (ev_ret rfl)
theorem resultsV_len (xs : List S50) : (resultsV xs).length ≤ 200 := by
  unfold resultsV
  split
  · rename_i h
    rw [resV_len]
    have := jobB_len h
    simpa using this
  · simp

theorem FnExactResults : ∀ (l0 : List S49), (l0.length ≤ maxLen ∧ ∀ y1 ∈ l0, ((Lit.int .i64 y1.f0).wf = true ∧ ((Lit.int .i64 y1.f1).wf = true ∧ ((y1.f2.length ≤ maxLen ∧ ∀ y2 ∈ y1.f2, (Lit.int .i64 y2).wf = true) ∧ (Lit.int .i64 y1.f3).wf = true)))) → ∃ k, laws_FnExactResults.f k l0 = some true := by
  intro l0 ⟨hl, hw⟩
  apply Ev.rounds
  simp only [laws_FnExactResults.f]
  obtain ⟨r, hr, hp⟩ := szTaskS_ev l0 hl (fun x hx => (hw x hx).2.2.1.1)
  refine ev_bind hr ?_
  refine ev_ite (fun _ => ev_ret rfl) (fun h0 => ?_)
  obtain ⟨h1, h2⟩ := hp (by omega)
  have h3 : (l0.map cvTask).length ≤ 1048576 := by simpa using h1
  have h4 : ∀ x ∈ l0.map cvTask, x.f2.length ≤ 1048576 := fun x hx => by
    obtain ⟨y, hy, rfl⟩ := List.mem_map.1 hx
    exact h2 y hy
  have hg := resultsV_len (l0.map cvTask)
  obtain ⟨k1, e1⟩ := toTaskS_ev l0 h1 h2
  obtain ⟨k2, e2⟩ := spec_Results_ev (l0.map cvTask)
  obtain ⟨k3, e3⟩ := impl_Results_ev (l0.map cvTask)
  obtain ⟨k4, e4⟩ := eqInt64S_ev (resultsV (l0.map cvTask)) (resultsV (l0.map cvTask)) (by omega)
  obtain ⟨k5, e5⟩ := eqTaskS_refl (l0.map cvTask) (by omega) h4
  obtain ⟨k6, e6⟩ := markInt64S_ev (resultsV (l0.map cvTask)) 1 (by omega) (by omega)
  obtain ⟨k7, e7⟩ := heldInt64S_ev (resultsV (l0.map cvTask)).length 1 (by omega) (by omega)
  refine ⟨k1 + k2 + k3 + k4 + k5 + k6 + k7, fun k hk => if_pos ?_⟩
  exact ⟨_, _, _, _, e1 k (by omega), e2 k (by omega), e3 k (by omega), (e4 k (by omega)).trans (by simp), e5 k (by omega), h3, h4, e6 k (by omega), e7 k (by omega), by omega⟩
end Go.Proofs.Ytpgabimecdldeaa.Pure
