/-
  The plain statement of FnExactSeal: both sides seal by one rule, the argument is not written, and the answer owns its memory.
  Conditions: the statement's own.
-/
import Derived.Test.YtelcpfanjjfgdaaPFnExactSealx0
import Derived.Test.YtelcpfanjjfgdaaPFnExactSealx1
import Derived.Test.YtelcpfanjjfgdaaPFnExactSealx2
import Derived.Test.YtelcpfanjjfgdaaPureBase
namespace Go.Proofs.Ytelcpfanjjfgdaa.Pure
open Go.RowKit Go.Proofs.Ytelcpfanjjfgdaa.PFnExactSeal Go.Proofs.YtelcpfanjjfgdaaW.PrintWords Go.Proofs.YtelcpfanjjfgdaaW.PrintLast Go.Proofs.YtelcpfanjjfgdaaW.PrintMore Go.Proofs.Ytelcpfanjjfgdaa.PB
set_option linter.unusedVariables false
set_option linter.unusedSimpArgs false
/-! #### laws_toByteS, laws_eqByteS -/
theorem toByteS_ev (xs : List Int) (h : xs.length ≤ 1048576) : Ev (fun k => laws_toByteS.f k xs) xs := by
  have key : ∀ d i, i + d = xs.length → Ev (fun k => laws_toByteS.l0 k xs ((xs.take i).map id ++ List.replicate (xs.length - i) 0) (i : Int)) (xs.map id) := by
    intro d
    induction d with
    | zero =>
      intro i hi
      refine ev_succ ?_
      have h1 : ¬ ((i : Int) < (xs.length : Int)) := by omega
      simp only [laws_toByteS.l0, h1, if_false]
      obtain rfl : i = xs.length := by omega
      exact ev_ret (by rw [fill_all])
    | succ d ih =>
      intro i hi
      have hlt : i < xs.length := by omega
      refine ev_succ ?_
      have h1 : (i : Int) < (xs.length : Int) := by omega
      have h2 : (0 : Int) ≤ (i : Int) := by omega
      have h3 : (i : Int) < ((((xs.take i).map id ++ List.replicate (xs.length - i) (0 : Int)).length : Nat) : Int) := by rw [fill_len _ _ _ _ (by omega)]; omega
      have h4 := w64s (n := i) (by omega)
      simp only [laws_toByteS.l0, h1, h2, h3, if_true, h4]
      have := ih (i + 1) (by omega)
      rw [← fill_set id 0 0 xs i hlt] at this
      exact this
  have h1 : (0 : Int) ≤ (xs.length : Int) := by omega
  have h2 : xs.length ≤ 281474976710656 := by omega
  simp only [laws_toByteS.f, h1, Int.toNat_natCast, h2, if_true]
  have := key xs.length 0 (by omega)
  rw [← fill_none id 0 xs, List.map_id] at this
  exact this
theorem eqByteS_ev (xs ys : List Int) (h : xs.length ≤ 4611686018427387904) : Ev (fun k => laws_eqByteS.f k xs ys) (decide (xs = ys)) := by
  have key : ∀ d i, i + d = xs.length → xs.length = ys.length → Ev (fun k => laws_eqByteS.l0 k xs ys (i : Int)) (decide (xs.drop i = ys.drop i)) := by
    intro d
    induction d with
    | zero =>
      intro i hi hl
      refine ev_succ ?_
      have h1 : ¬ ((i : Int) < (xs.length : Int)) := by omega
      simp only [laws_eqByteS.l0, h1, if_false]
      exact ev_ret (by rw [drop_end (by omega), drop_end (by omega)]; simp)
    | succ d ih =>
      intro i hi hl
      refine ev_succ ?_
      have h1 : (i : Int) < (xs.length : Int) := by omega
      have h2 : (0 : Int) ≤ (i : Int) := by omega
      have h3 : (i : Int) < (ys.length : Int) := by omega
      have h4 := w64s (n := i) (by omega)
      simp only [laws_eqByteS.l0, h1, h2, h3, if_true, h4]
      rw [drop_rd xs i (by omega), drop_rd ys i (by omega)]
      by_cases he : rd xs (i : Int) = rd ys (i : Int)
      · simp only [he, if_true]
        exact ev_eq (ih (i + 1) (by omega) hl) (by simp)
      · simp only [he, if_false]
        exact ev_ret (by simp [he])
  by_cases hl : xs.length = ys.length
  · have h1 : (xs.length : Int) = (ys.length : Int) := by omega
    simp only [laws_eqByteS.f, h1, if_true]
    exact ev_eq (key xs.length 0 (by omega) hl) (by simp)
  · have h1 : ¬ (xs.length : Int) = (ys.length : Int) := by omega
    simp only [laws_eqByteS.f, h1, if_false]
    exact ev_ret (by
      have : xs ≠ ys := fun e => hl (by rw [e])
      simp [this])

/-! #### laws_markByteS, laws_heldByteS -/
def markByte (k0 : Int) (n : Nat) : List Int := (List.range n).map fun (j : Nat) => (k0 + (j : Int)) % 256
theorem markByte_len (k0 : Int) (n : Nat) : (markByte k0 n).length = n := by simp [markByte]
theorem markByte_rd (k0 : Int) (n i : Nat) (h : i < n) : rd (markByte k0 n) (i : Int) = (k0 + (i : Int)) % 256 := by
  simp [markByte, rd_nat, List.getD_eq_getElem?_getD, List.getElem?_map, List.getElem?_range h]
theorem markByteS_ev (xs : List Int) (k0 : Int) (hk : 0 ≤ k0) (hk2 : k0 + xs.length < 9223372036854775807) : Ev (fun k => laws_markByteS.f k xs k0) (k0 + xs.length, markByte k0 xs.length) := by
  have key : ∀ d i, i + d = xs.length → Ev (fun k => laws_markByteS.l0 k (markByte k0 i ++ xs.drop i) (k0 + (i : Int)) (i : Int)) (k0 + xs.length, markByte k0 xs.length) := by
    intro d
    induction d with
    | zero =>
      intro i hi
      refine ev_succ ?_
      obtain rfl : i = xs.length := by omega
      have h1 : ¬ ((xs.length : Int) < ((markByte k0 xs.length ++ xs.drop xs.length).length : Int)) := by simp [markByte_len]
      simp only [laws_markByteS.l0, h1, if_false]
      exact ev_ret (by simp)
    | succ d ih =>
      intro i hi
      refine ev_succ ?_
      have h1 : (i : Int) < ((markByte k0 i ++ xs.drop i).length : Int) := by simp [markByte_len]; omega
      have h2 : (0 : Int) ≤ (i : Int) := by omega
      have h4 := w64s (n := i) (by omega)
      have h5 : wrap64 (k0 + (i : Int) + 1) = k0 + ((i + 1 : Nat) : Int) := by rw [w64 (by omega) (by omega)]; omega
      simp only [laws_markByteS.l0, h1, h2, if_true, h4, h5]
      have := ih (i + 1) (by omega)
      have he : (markByte k0 i ++ xs.drop i).set i ((k0 + (i : Int)) % 256) = markByte k0 (i + 1) ++ xs.drop (i + 1) := by
        rw [List.set_append_right _ _ (by rw [markByte_len]; omega), markByte_len, Nat.sub_self, drop_rd xs i (by omega)]
        simp [markByte, List.range_succ]
      rw [← he] at this
      exact this
  have := key xs.length 0 (by omega)
  simpa [laws_markByteS.f, markByte] using this
theorem heldByteS_ev (n : Nat) (k0 : Int) (hk : 0 ≤ k0) (hk2 : k0 + n < 9223372036854775807) : Ev (fun k => laws_heldByteS.f k (markByte k0 n) k0) (k0 + n) := by
  have key : ∀ d i, i + d = n → Ev (fun k => laws_heldByteS.l0 k (markByte k0 n) (k0 + (i : Int)) (i : Int)) (k0 + n) := by
    intro d
    induction d with
    | zero =>
      intro i hi
      refine ev_succ ?_
      obtain rfl : i = n := by omega
      have h1 : ¬ ((i : Int) < ((markByte k0 i).length : Int)) := by simp [markByte_len]
      simp only [laws_heldByteS.l0, h1, if_false]
      exact ev_ret (by simp)
    | succ d ih =>
      intro i hi
      refine ev_succ ?_
      have h1 : (i : Int) < ((markByte k0 n).length : Int) := by simp [markByte_len]; omega
      have h2 : (0 : Int) ≤ (i : Int) := by omega
      have h4 := w64s (n := i) (by omega)
      have h5 : wrap64 (k0 + (i : Int) + 1) = k0 + ((i + 1 : Nat) : Int) := by rw [w64 (by omega) (by omega)]; omega
      simp only [laws_heldByteS.l0, h1, h2, if_true, h4, h5, markByte_rd k0 n i (by omega)]
      exact ih (i + 1) (by omega)
  have := key n 0 (by omega)
  simpa [laws_heldByteS.f] using this

/-! #### Seal -/
def sl (s : Int) : List Int → List Int
  | [] => []
  | b :: bs => Go.bits .xor .u8 b ((Int.tmod (Int.tmod (wrap64 (s * 48271)) 1000000007) 256) % 256) :: sl (Int.tmod (wrap64 (s * 48271)) 1000000007) bs
theorem sl_len (xs : List Int) : ∀ s, (sl s xs).length = xs.length := by
  induction xs with
  | nil => intro s; rfl
  | cons b bs ih => intro s; simp [sl, ih]
def sealB (xs : List Int) (a : Int) : List Int := if 1 ≤ a ∧ a ≤ 1000000006 ∧ xs.length ≤ 40000 then sl a xs else []
theorem sealB_len (xs : List Int) (a : Int) : (sealB xs a).length ≤ xs.length := by
  unfold sealB
  split
  · rw [sl_len]; exact Nat.le_refl _
  · simp
theorem spec_Seal_ev (xs : List Int) (a : Int) : Ev (fun k => spec_Seal.f k xs a) (sealB xs a) := by
  have key : ∀ d i (out : List Int) (s : Int), xs.length ≤ 40000 → i + d = xs.length → out.length ≤ i → Ev (fun k => spec_Seal.l0 k xs out s (i : Int)) (out ++ sl s (xs.drop i)) := by
    intro d
    induction d with
    | zero =>
      intro i out s hl hi ho
      refine ev_succ ?_
      rw [drop_end (by omega)]
      have h1 : ¬ (i : Int) < (xs.length : Int) := by omega
      simp only [spec_Seal.l0, h1, if_false]
      exact ev_ret (by simp [sl])
    | succ d ih =>
      intro i out s hl hi ho
      refine ev_succ ?_
      have h1 : (i : Int) < (xs.length : Int) := by omega
      have h2 : (0 : Int) ≤ (i : Int) := by omega
      have h3 : out.length < 140737488355328 := by omega
      have h4 := w64s (n := i) (by omega)
      simp only [spec_Seal.l0, h1, h2, h3, if_true, h4]
      rw [drop_rd _ i (by omega)]
      exact ev_eq (ih (i + 1) _ _ hl (by omega) (by simp; omega)) (by simp [sl])
  have hin : spec_l1In.f a 1 1000000006 = some (decide (1 ≤ a ∧ a ≤ 1000000006)) := by
    unfold spec_l1In.f
    by_cases h : a ≥ 1
    · rw [if_pos h]; simp [show 1 ≤ a from h]
    · rw [if_neg h]; simp; omega
  simp only [spec_Seal.f, hin, Option.bind_some]
  by_cases h : 1 ≤ a ∧ a ≤ 1000000006
  · simp only [decide_eq_true h, if_true]
    refine ev_succ ?_
    by_cases hl : (xs.length : Int) > 40000
    · simp only [spec_Seal.j0, hl, decide_true, if_true]
      exact ev_ret (by unfold sealB; rw [if_neg (fun hh => by have := hh.2.2; omega)])
    · simp only [spec_Seal.j0, hl, decide_false, Bool.false_eq_true, if_false]
      exact ev_eq (key xs.length 0 [] a (by omega) (by omega) (by simp)) (by unfold sealB; rw [if_pos (by omega)]; simp)
  · simp only [decide_eq_false h, Bool.false_eq_true, if_false]
    refine ev_succ ?_
    simp only [spec_Seal.j0, if_true]
    exact ev_ret (by unfold sealB; rw [if_neg (by omega)])
theorem impl_Seal_ev (xs : List Int) (a : Int) : Ev (fun k => impl_Seal.f k xs a) (sealB xs a) := by
  have key : ∀ d i (out : List Int) (s : Int), xs.length ≤ 40000 → i + d = xs.length → out.length ≤ i → Ev (fun k => impl_Seal.l0 k s out xs (xs.length : Int) (i : Int)) (out ++ sl s (xs.drop i)) := by
    intro d
    induction d with
    | zero =>
      intro i out s hl hi ho
      refine ev_succ ?_
      rw [drop_end (by omega)]
      have h1 : ¬ (i : Int) < (xs.length : Int) := by omega
      simp only [impl_Seal.l0, h1, if_false]
      exact ev_ret (by simp [sl])
    | succ d ih =>
      intro i out s hl hi ho
      refine ev_succ ?_
      have h1 : (i : Int) < (xs.length : Int) := by omega
      have h2 : (0 : Int) ≤ (i : Int) := by omega
      have h3 : out.length < 140737488355328 := by omega
      have h4 := w64s (n := i) (by omega)
      simp only [impl_Seal.l0, h1, h2, h3, if_true, h4]
      rw [drop_rd _ i (by omega)]
      exact ev_eq (ih (i + 1) _ _ hl (by omega) (by simp; omega)) (by simp [sl])
  have hin : impl_in.f a 1 1000000006 = some (decide (1 ≤ a ∧ a ≤ 1000000006)) := by
    unfold impl_in.f
    by_cases h : 1 ≤ a
    · rw [if_pos h]; simp [h]
    · rw [if_neg h]; simp; omega
  simp only [impl_Seal.f, hin, Option.bind_some]
  by_cases h : 1 ≤ a ∧ a ≤ 1000000006
  · simp only [decide_eq_true h, if_true]
    refine ev_succ ?_
    by_cases hl : (xs.length : Int) > 40000
    · simp only [impl_Seal.j0, hl, decide_true, if_true]
      exact ev_ret (by unfold sealB; rw [if_neg (fun hh => by have := hh.2.2; omega)])
    · simp only [impl_Seal.j0, hl, decide_false, Bool.false_eq_true, if_false]
      exact ev_eq (key xs.length 0 [] a (by omega) (by omega) (by simp)) (by unfold sealB; rw [if_pos (by omega)]; simp)
  · simp only [decide_eq_false h, Bool.false_eq_true, if_false]
    refine ev_succ ?_
    simp only [impl_Seal.j0, if_true]
    exact ev_ret (by unfold sealB; rw [if_neg (by omega)])

theorem FnExactSeal : laws_FnExactSeal.Pure := by
  intro l0 a1 _ _ _ _
  apply Ev.rounds
  by_cases hl : (l0.length : Int) > 1048576
  · simp only [laws_FnExactSeal.f, hl, if_true]
    exact ev_ret rfl
  · simp only [laws_FnExactSeal.f, hl, if_false]
    have h1 : l0.length ≤ 1048576 := by omega
    have h2 := sealB_len l0 a1
    refine ev_bind (toByteS_ev l0 h1) ?_
    refine ev_bind (spec_Seal_ev l0 a1) ?_
    refine ev_bind (toByteS_ev l0 h1) ?_
    refine ev_bind (impl_Seal_ev l0 a1) ?_
    refine ev_bind (eqByteS_ev _ _ (by omega)) ?_
    simp only [decide_true, if_true]
    refine ev_bind (toByteS_ev l0 h1) ?_
    refine ev_bind (eqByteS_ev l0 l0 (by omega)) ?_
    simp only [decide_true, if_true]
    refine ev_bind (markByteS_ev l0 1 (by omega) (by omega)) ?_
    have h3 : ¬ (1 + (l0.length : Int) < 0) := by omega
    simp only [h3, if_false]
    refine ev_bind (eqByteS_ev _ _ (by omega)) ?_
    refine ev_succ ?_
    simp only [laws_FnExactSeal.j0, decide_true, Bool.not_true, Bool.false_eq_true, if_false]
    refine ev_bind (markByteS_ev _ 1 (by omega) (by omega)) ?_
    refine ev_bind (heldByteS_ev _ 1 (by omega) (by omega)) ?_
    have h4 : ¬ (1 + ((sealB l0 a1).length : Int) < 0) := by omega
    simp only [h4, if_false, if_true]
    refine ev_bind (toByteS_ev l0 h1) ?_
    refine ev_bind (impl_Seal_ev l0 a1) ?_
    refine ev_bind (eqByteS_ev _ _ (by omega)) ?_
    simp only [decide_true, if_true]
    refine ev_bind (heldByteS_ev _ 1 (by omega) (by omega)) ?_
    simp only [h4, if_false, if_true]
    exact ev_ret rfl
end Go.Proofs.Ytelcpfanjjfgdaa.Pure
