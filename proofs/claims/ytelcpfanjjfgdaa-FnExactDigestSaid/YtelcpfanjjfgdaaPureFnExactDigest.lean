/-
  The plain statement of FnExactDigest: the program's Digest and the reference's are one fold over the first 40000 bytes, and neither writes into its argument.
  Conditions: the statement's own (a length that a slice can have).
-/
import Derived.Test.YtelcpfanjjfgdaaHFnExactDigestx0
import Derived.Test.YtelcpfanjjfgdaaHFnExactDigestx1
import Derived.Test.YtelcpfanjjfgdaaPureBase
namespace Go.Proofs.Ytelcpfanjjfgdaa.Pure
open Go.RowKit Go.Proofs.Ytelcpfanjjfgdaa.HFnExactDigest Go.Proofs.YtelcpfanjjfgdaaW.PrintWords Go.Proofs.YtelcpfanjjfgdaaW.PrintLast Go.Proofs.YtelcpfanjjfgdaaW.PrintMore Go.Proofs.Ytelcpfanjjfgdaa.PB
set_option linter.unusedVariables false
set_option linter.unusedSimpArgs false
/-! #### laws_toByteS, laws_eqByteS -/
theorem toByteS_ev (xs : List Int) (h : xs.length ≤ 1048576) : Ev (fun k => laws_toByteS.f k xs) xs := by
  have key : ∀ d i, i + d = xs.length → Ev (fun k => laws_toByteS.l0 k xs ((xs.take i).map id ++ List.replicate (xs.length - i) 0) (i : Int)) (xs.map id) := by
    intro d
    induction d with
    | zero =>
      intro i hi
      refine ev_succ ?_
      have h1 : ¬ ((i : Int) < (xs.length : Int)) := by omega
      simp only [laws_toByteS.l0, h1, if_false]
      obtain rfl : i = xs.length := by omega
      exact ev_ret (by rw [fill_all])
    | succ d ih =>
      intro i hi
      have hlt : i < xs.length := by omega
      refine ev_succ ?_
      have h1 : (i : Int) < (xs.length : Int) := by omega
      have h2 : (0 : Int) ≤ (i : Int) := by omega
      have h3 : (i : Int) < ((((xs.take i).map id ++ List.replicate (xs.length - i) (0 : Int)).length : Nat) : Int) := by rw [fill_len _ _ _ _ (by omega)]; omega
      have h4 := w64s (n := i) (by omega)
      simp only [laws_toByteS.l0, h1, h2, h3, if_true, h4]
      have := ih (i + 1) (by omega)
      rw [← fill_set id 0 0 xs i hlt] at this
      exact this
  have h1 : (0 : Int) ≤ (xs.length : Int) := by omega
  have h2 : xs.length ≤ 281474976710656 := by omega
  simp only [laws_toByteS.f, h1, Int.toNat_natCast, h2, if_true]
  have := key xs.length 0 (by omega)
  rw [← fill_none id 0 xs, List.map_id] at this
  exact this
theorem eqByteS_ev (xs ys : List Int) (h : xs.length ≤ 4611686018427387904) : Ev (fun k => laws_eqByteS.f k xs ys) (decide (xs = ys)) := by
  have key : ∀ d i, i + d = xs.length → xs.length = ys.length → Ev (fun k => laws_eqByteS.l0 k xs ys (i : Int)) (decide (xs.drop i = ys.drop i)) := by
    intro d
    induction d with
    | zero =>
      intro i hi hl
      refine ev_succ ?_
      have h1 : ¬ ((i : Int) < (xs.length : Int)) := by omega
      simp only [laws_eqByteS.l0, h1, if_false]
      exact ev_ret (by rw [drop_end (by omega), drop_end (by omega)]; simp)
    | succ d ih =>
      intro i hi hl
      refine ev_succ ?_
      have h1 : (i : Int) < (xs.length : Int) := by omega
      have h2 : (0 : Int) ≤ (i : Int) := by omega
      have h3 : (i : Int) < (ys.length : Int) := by omega
      have h4 := w64s (n := i) (by omega)
      simp only [laws_eqByteS.l0, h1, h2, h3, if_true, h4]
      rw [drop_rd xs i (by omega), drop_rd ys i (by omega)]
      by_cases he : rd xs (i : Int) = rd ys (i : Int)
      · simp only [he, if_true]
        exact ev_eq (ih (i + 1) (by omega) hl) (by simp)
      · simp only [he, if_false]
        exact ev_ret (by simp [he])
  by_cases hl : xs.length = ys.length
  · have h1 : (xs.length : Int) = (ys.length : Int) := by omega
    simp only [laws_eqByteS.f, h1, if_true]
    exact ev_eq (key xs.length 0 (by omega) hl) (by simp)
  · have h1 : ¬ (xs.length : Int) = (ys.length : Int) := by omega
    simp only [laws_eqByteS.f, h1, if_false]
    exact ev_ret (by
      have : xs ≠ ys := fun e => hl (by rw [e])
      simp [this])

/-! #### Digest -/
def dstep (h x : Int) : Int := Int.tmod (wrap64 ((wrap64 ((wrap64 (h * 257)) + (wrap64 x))) + 1)) 1000000007
def dig (xs : List Int) : Int := (xs.take 40000).foldl dstep 0
theorem spec_Digest_ev (xs : List Int) : Ev (fun k => spec_Digest.f k xs) (dig xs) := by
  have key : ∀ d i (h : Int), i + d = (xs.take 40000).length → Ev (fun k => spec_Digest.l0 k xs h (i : Int)) (((xs.take 40000).drop i).foldl dstep h) := by
    intro d
    induction d with
    | zero =>
      intro i h hi
      refine ev_succ ?_
      rw [drop_end (by omega)]
      by_cases h1 : (i : Int) < (xs.length : Int)
      · have h2 : ¬ (i : Int) < 40000 := by rw [List.length_take] at hi; omega
        simp only [spec_Digest.l0, h1, h2, if_true, if_false]
        exact ev_ret rfl
      · simp only [spec_Digest.l0, h1, if_false]
        exact ev_ret rfl
    | succ d ih =>
      intro i h hi
      refine ev_succ ?_
      have h0 : i < (xs.take 40000).length := by omega
      rw [List.length_take] at hi
      have h1 : (i : Int) < (xs.length : Int) := by omega
      have h2 : (i : Int) < 40000 := by omega
      have h3 : (0 : Int) ≤ (i : Int) := by omega
      have h4 := w64s (n := i) (by omega)
      simp only [spec_Digest.l0, h1, h2, h3, if_true, h4]
      rw [drop_rd _ i h0, List.foldl_cons]
      have he : rd (xs.take 40000) (i : Int) = rd xs (i : Int) := by
        simp only [rd_nat, List.getD_eq_getElem?_getD]
        rw [List.getElem?_take_of_lt (by omega)]
      rw [he]
      exact ih (i + 1) _ (by rw [List.length_take]; omega)
  exact key (xs.take 40000).length 0 0 (by omega)
theorem impl_Digest_ev (xs : List Int) : Ev (fun k => impl_Digest.f k xs) (dig xs) := by
  have key : ∀ (ys : List Int) d i (h : Int), ys.length ≤ 40000 → i + d = ys.length → Ev (fun k => impl_Digest.l0 k h ys (ys.length : Int) (i : Int)) ((ys.drop i).foldl dstep h) := by
    intro ys d
    induction d with
    | zero =>
      intro i h hl hi
      refine ev_succ ?_
      rw [drop_end (by omega)]
      have h1 : ¬ (i : Int) < (ys.length : Int) := by omega
      simp only [impl_Digest.l0, h1, if_false]
      exact ev_ret rfl
    | succ d ih =>
      intro i h hl hi
      refine ev_succ ?_
      have h1 : (i : Int) < (ys.length : Int) := by omega
      have h3 : (0 : Int) ≤ (i : Int) := by omega
      have h4 := w64s (n := i) (by omega)
      simp only [impl_Digest.l0, h1, h3, if_true, h4, impl_stepped.f, Option.bind_some]
      rw [drop_rd _ i (by omega), List.foldl_cons]
      exact ih (i + 1) _ hl (by omega)
  have hm : mn (xs.length : Int) 40000 = ((xs.take 40000).length : Int) := by unfold mn; rw [List.length_take]; split <;> omega
  have h0 : (0 : Int) ≤ ((xs.take 40000).length : Int) := by omega
  have h1 : ((xs.take 40000).length : Int) ≤ (xs.length : Int) := by rw [List.length_take]; omega
  have h2 : xs.take (xs.take 40000).length = xs.take 40000 := by
    rw [List.length_take]
    rcases Nat.le_total 40000 xs.length with h | h
    · rw [Nat.min_eq_left h]
    · rw [Nat.min_eq_right h, List.take_of_length_le (Nat.le_refl _), List.take_of_length_le h]
  simp only [impl_Digest.f, hm, h0, h1, if_true, Int.toNat_natCast, h2]
  exact key (xs.take 40000) (xs.take 40000).length 0 0 (by rw [List.length_take]; omega) (by omega)

theorem FnExactDigest : laws_FnExactDigest.Pure := by
  intro l0 _ _ _
  apply Ev.rounds
  by_cases hl : (l0.length : Int) > 1048576
  · simp only [laws_FnExactDigest.f, hl, if_true]
    exact ev_ret rfl
  · simp only [laws_FnExactDigest.f, hl, if_false]
    have h1 : l0.length ≤ 1048576 := by omega
    refine ev_bind (toByteS_ev l0 h1) ?_
    refine ev_bind (spec_Digest_ev l0) ?_
    refine ev_bind (toByteS_ev l0 h1) ?_
    refine ev_bind (impl_Digest_ev l0) ?_
    simp only [if_true]
    refine ev_bind (toByteS_ev l0 h1) ?_
    refine ev_bind (eqByteS_ev l0 l0 (by omega)) ?_
    simp only [decide_true, if_true]
    exact ev_ret rfl
end Go.Proofs.Ytelcpfanjjfgdaa.Pure
