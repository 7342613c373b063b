/-
  The plain statement of FnExactGraphOk: node by node both sides ask the same; a double is a plain nought where its bits are 0.
  Conditions: the statement's own.
-/
import Derived.Test.YtmmonaiokageeaaHFnExactGraphOkx0
import Derived.Test.YtmmonaiokageeaaHFnExactGraphOkx1
import Derived.Test.YtmmonaiokageeaaHFnExactGraphOkx2
import Derived.Test.YtmmonaiokageeaaPureBase
import Derived.Laws.BitsLemmas
namespace Go.Proofs.Ytmmonaiokageeaa.Pure
open Go.RowKit Go.Proofs.Ytmmonaiokageeaa.HFnExactGraphOk Go.Proofs.YtmmonaiokageeaaW.PrintWords Go.Proofs.YtmmonaiokageeaaW.PrintLast Go.Proofs.YtmmonaiokageeaaW.PrintMore Go.Proofs.Ytmmonaiokageeaa.PB
set_option linter.unusedVariables false
set_option linter.unusedSimpArgs false
theorem impl_in_eq (a lo hi : Int) : impl_in.f a lo hi = some (decide (lo ≤ a ∧ a ≤ hi)) := by
  unfold impl_in.f
  by_cases h : lo ≤ a
  · rw [if_pos h]; simp [h]
  · rw [if_neg h]; simp; omega

/-! #### laws_toNodeS -/
def cvNode (a : S34) : S32 := ⟨a.f0, a.f1, a.f2, a.f3⟩
theorem toNodeS_ev (xs : List S34) (h : xs.length ≤ 1048576) : Ev (fun k => laws_toNodeS.f k xs) (xs.map cvNode) := by
  have key : ∀ d i, i + d = xs.length → Ev (fun k => laws_toNodeS.l0 k xs ((xs.take i).map cvNode ++ List.replicate (xs.length - i) z32) (i : Int)) (xs.map cvNode) := by
    intro d
    induction d with
    | zero =>
      intro i hi
      refine ev_succ ?_
      have h1 : ¬ ((i : Int) < (xs.length : Int)) := by omega
      simp only [laws_toNodeS.l0, h1, if_false]
      obtain rfl : i = xs.length := by omega
      exact ev_ret (by rw [fill_all])
    | succ d ih =>
      intro i hi
      have hlt : i < xs.length := by omega
      refine ev_succ ?_
      have h1 : (i : Int) < (xs.length : Int) := by omega
      have h2 : (0 : Int) ≤ (i : Int) := by omega
      have h3 : (i : Int) < ((((xs.take i).map cvNode ++ List.replicate (xs.length - i) z32).length : Nat) : Int) := by rw [fill_len _ _ _ _ (by omega)]; omega
      have h4 := w64s (n := i) (by omega)
      simp only [laws_toNodeS.l0, laws_toNode.f, h1, h2, h3, if_true, h4, Option.bind_some]
      have := ih (i + 1) (by omega)
      rw [← fill_set cvNode z34 z32 xs i hlt] at this
      exact this
  have h1 : (0 : Int) ≤ (xs.length : Int) := by omega
  have h2 : xs.length ≤ 8796093022208 := by omega
  simp only [laws_toNodeS.f, h1, Int.toNat_natCast, h2, if_true]
  have := key xs.length 0 (by omega)
  rw [← fill_none cvNode z32 xs] at this
  exact this

def allFrom (p : Nat → Bool) : Nat → Nat → Bool
  | 0, _ => true
  | d + 1, i => p i && allFrom p d (i + 1)
theorem allFrom_at {p : Nat → Bool} : ∀ {d i : Nat}, allFrom p d i = true → ∀ j, i ≤ j → j < i + d → p j = true
  | 0, i, _, j, h1, h2 => absurd h2 (by omega)
  | d + 1, i, h, j, h1, h2 => by
    rw [allFrom, Bool.and_eq_true] at h
    rcases Nat.eq_or_lt_of_le h1 with rfl | h3
    · exact h.1
    · exact allFrom_at h.2 j (by omega) (by omega)

/-! #### GraphOk -/
theorem eqNode_self (x : S32) : laws_eqNode.f x.f0 x.f1 x.f2 x.f3 x.f0 x.f1 x.f2 x.f3 = some true := by
  simp [laws_eqNode.f, laws_sameFloat.f]
theorem eqNodeS_refl (xs : List S32) (h : xs.length ≤ 4611686018427387904) : Ev (fun k => laws_eqNodeS.f k xs xs) true := by
  have key : ∀ d i, i + d = xs.length → Ev (fun k => laws_eqNodeS.l0 k xs xs (i : Int)) true := by
    intro d
    induction d with
    | zero =>
      intro i hi
      refine ev_succ ?_
      have h1 : ¬ ((i : Int) < (xs.length : Int)) := by omega
      simp only [laws_eqNodeS.l0, h1, if_false]
      exact ev_ret rfl
    | succ d ih =>
      intro i hi
      refine ev_succ ?_
      have h1 : (i : Int) < (xs.length : Int) := by omega
      have h2 : (0 : Int) ≤ (i : Int) := by omega
      have h4 := w64s (n := i) (by omega)
      simp only [laws_eqNodeS.l0, eqNode_self, h1, h2, if_true, h4, Option.bind_some]
      exact ih (i + 1) (by omega)
  simp only [laws_eqNodeS.f, if_true]
  exact key xs.length 0 (by omega)
def nodeAt (xs : List S32) (i : Nat) : Bool := nodeB (rd_T32 xs (i : Int)).f0 (rd_T32 xs (i : Int)).f1 (rd_T32 xs (i : Int)).f2 (rd_T32 xs (i : Int)).f3 (i : Int)
def graphB (xs : List S32) : Bool := decide (1 ≤ xs.length ∧ xs.length ≤ 40) && allFrom (nodeAt xs) xs.length 0
theorem rd_bits {xs : List S32} (hb : ∀ x ∈ xs, x.f3 < 18446744073709551616) {i : Nat} (hi : i < xs.length) : (rd_T32 xs (i : Int)).f3 < 18446744073709551616 := hb _ (getD_mem _ hi)
theorem spec_GraphOk_ev (xs : List S32) (hb : ∀ x ∈ xs, x.f3 < 18446744073709551616) : Ev (fun k => spec_GraphOk.f k xs) (graphB xs) := by
  have key : ∀ d i, xs.length ≤ 40 → i + d = xs.length → Ev (fun k => spec_GraphOk.l0 k xs (i : Int)) (allFrom (nodeAt xs) d i) := by
    intro d
    induction d with
    | zero =>
      intro i hl hi
      refine ev_succ ?_
      have h1 : ¬ (i : Int) < (xs.length : Int) := by omega
      simp only [spec_GraphOk.l0, h1, if_false]
      exact ev_ret rfl
    | succ d ih =>
      intro i hl hi
      refine ev_succ ?_
      have h1 : (i : Int) < (xs.length : Int) := by omega
      have h2 : (0 : Int) ≤ (i : Int) := by omega
      have h4 := w64s (n := i) (by omega)
      have h5 := rd_bits hb (i := i) (by omega)
      simp only [spec_GraphOk.l0, spec_l10Node.f, h1, h2, h4, h5, if_true, Option.bind_some]
      rw [allFrom]
      refine ev_ifb (fun e => ?_) (fun e => ev_ret (by unfold nodeAt; rw [e]; rfl))
      have e2 : nodeAt xs i = true := e
      rw [e2, Bool.true_and]
      exact ih (i + 1) hl (by omega)
  unfold graphB
  simp only [spec_GraphOk.f]
  refine ev_ite (fun h => ?_) (fun h => ?_)
  · refine ev_succ ?_
    simp only [spec_GraphOk.j0, if_true]
    exact ev_ret (by rw [decide_eq_false (by omega)]; rfl)
  · refine ev_succ ?_
    by_cases h2 : (xs.length : Int) > 40
    · simp only [spec_GraphOk.j0, decide_eq_true h2, if_true]
      exact ev_ret (by rw [decide_eq_false (by omega)]; rfl)
    · simp only [spec_GraphOk.j0, decide_eq_false h2, Bool.false_eq_true, if_false]
      rw [decide_eq_true (by omega), Bool.true_and]
      exact key xs.length 0 (by omega) (by omega)
theorem impl_GraphOk_ev (xs : List S32) (hb : ∀ x ∈ xs, x.f3 < 18446744073709551616) : Ev (fun k => impl_GraphOk.f k xs) (graphB xs) := by
  have key : ∀ d i, xs.length ≤ 40 → i + d = xs.length → Ev (fun k => impl_GraphOk.l0 k xs (xs.length : Int) (i : Int)) (allFrom (nodeAt xs) d i) := by
    intro d
    induction d with
    | zero =>
      intro i hl hi
      refine ev_succ ?_
      have h1 : ¬ (i : Int) < (xs.length : Int) := by omega
      simp only [impl_GraphOk.l0, h1, if_false]
      exact ev_ret rfl
    | succ d ih =>
      intro i hl hi
      refine ev_succ ?_
      have h1 : (i : Int) < (xs.length : Int) := by omega
      have h2 : (0 : Int) ≤ (i : Int) := by omega
      have h4 := w64s (n := i) (by omega)
      have h6 : (rd_T32 xs (i : Int)).f3 < 18446744073709551616 ∧ (0 : Int) ≤ (i : Int) ∧ (i : Int) ≤ 1000 := ⟨rd_bits hb (by omega), by omega, by omega⟩
      simp only [impl_GraphOk.l0, impl_Node_ok.f, if_pos h1, if_pos h2, h4, if_pos h6, Option.bind_some]
      rw [allFrom]
      refine ev_ifb (fun e => ?_) (fun e => ev_ret (by unfold nodeAt; rw [e]; rfl))
      have e2 : nodeAt xs i = true := e
      rw [e2, Bool.true_and]
      exact ih (i + 1) hl (by omega)
  unfold graphB
  simp only [impl_GraphOk.f, impl_in_eq, Option.bind_some]
  refine ev_ifb (fun e => ?_) (fun e => ?_)
  · have h := of_decide_eq_true e
    rw [decide_eq_true (by omega), Bool.true_and]
    exact key xs.length 0 (by omega) (by omega)
  · have h := of_decide_eq_false e
    exact ev_ret (by rw [decide_eq_false (by omega)]; rfl)

theorem FnExactGraphOk : ∀ (l0 : List S34), (l0.length ≤ maxLen ∧ ∀ y1 ∈ l0, ((Lit.int .i64 y1.f0).wf = true ∧ ((Lit.int .i64 y1.f1).wf = true ∧ ((Lit.int .i64 y1.f2).wf = true ∧ (Lit.float .f64 y1.f3).wf = true)))) → ∃ k, laws_FnExactGraphOk.f k l0 = some true := by
  intro l0 ⟨hl, hw⟩
  apply Ev.rounds
  unfold maxLen at hl
  have h5 : wrap64 (1048576 - (l0.length : Int)) = 1048576 - (l0.length : Int) := w64 (by omega) (by omega)
  simp only [laws_FnExactGraphOk.f, laws_szNodeS.f, h5]
  by_cases h6 : 1048576 - (l0.length : Int) < 0
  · simp only [h6, if_true, Option.bind_some]
    exact ev_ret (by simp)
  · simp only [h6, if_false, Option.bind_some]
    have s0 : l0.length ≤ 1048576 := by omega
    have hb : ∀ x ∈ l0.map cvNode, x.f3 < 18446744073709551616 := fun x hx => by
      obtain ⟨y, hy, rfl⟩ := List.mem_map.1 hx
      exact of_decide_eq_true (hw y hy).2.2.2
    have hm : (l0.map cvNode).length ≤ 4611686018427387904 := by simp; omega
    refine ev_bind (toNodeS_ev l0 s0) ?_
    refine ev_bind (spec_GraphOk_ev _ hb) ?_
    refine ev_bind (toNodeS_ev l0 s0) ?_
    refine ev_bind (impl_GraphOk_ev _ hb) ?_
    refine ev_ite (fun h => ?_) (fun _ => ?_)
    · simp at h
    refine ev_bind (toNodeS_ev l0 s0) ?_
    refine ev_bind (eqNodeS_refl _ hm) ?_
    simp only [if_true]
    exact ev_ret rfl
end Go.Proofs.Ytmmonaiokageeaa.Pure
