/-
  The plain statement of FnExactOpen: both sides open by one rule; the argument is not written, and the answer owns its memory.
  Conditions: the statement's own.
-/
import Derived.Test.YtelcpfanjjfgdaaPFnExactOpenx0
import Derived.Test.YtelcpfanjjfgdaaPFnExactOpenx1
import Derived.Test.YtelcpfanjjfgdaaPFnExactOpenx2
import Derived.Test.YtelcpfanjjfgdaaPFnExactOpenx3
import Derived.Test.YtelcpfanjjfgdaaPureBase
namespace Go.Proofs.Ytelcpfanjjfgdaa.Pure
open Go.RowKit Go.Proofs.Ytelcpfanjjfgdaa.PFnExactOpen Go.Proofs.YtelcpfanjjfgdaaW.PrintWords Go.Proofs.YtelcpfanjjfgdaaW.PrintLast Go.Proofs.YtelcpfanjjfgdaaW.PrintMore Go.Proofs.Ytelcpfanjjfgdaa.PB
set_option linter.unusedVariables false
set_option linter.unusedSimpArgs false
/-! #### laws_toByteS, laws_eqByteS -/
theorem toByteS_ev (xs : List Int) (h : xs.length ≤ 1048576) : Ev (fun k => laws_toByteS.f k xs) xs := by
  have key : ∀ d i, i + d = xs.length → Ev (fun k => laws_toByteS.l0 k xs ((xs.take i).map id ++ List.replicate (xs.length - i) 0) (i : Int)) (xs.map id) := by
    intro d
    induction d with
    | zero =>
      intro i hi
      refine ev_succ ?_
      have h1 : ¬ ((i : Int) < (xs.length : Int)) := by omega
      simp only [laws_toByteS.l0, h1, if_false]
      obtain rfl : i = xs.length := by omega
      exact ev_ret (by rw [fill_all])
    | succ d ih =>
      intro i hi
      have hlt : i < xs.length := by omega
      refine ev_succ ?_
      have h1 : (i : Int) < (xs.length : Int) := by omega
      have h2 : (0 : Int) ≤ (i : Int) := by omega
      have h3 : (i : Int) < ((((xs.take i).map id ++ List.replicate (xs.length - i) (0 : Int)).length : Nat) : Int) := by rw [fill_len _ _ _ _ (by omega)]; omega
      have h4 := w64s (n := i) (by omega)
      simp only [laws_toByteS.l0, h1, h2, h3, if_true, h4]
      have := ih (i + 1) (by omega)
      rw [← fill_set id 0 0 xs i hlt] at this
      exact this
  have h1 : (0 : Int) ≤ (xs.length : Int) := by omega
  have h2 : xs.length ≤ 281474976710656 := by omega
  simp only [laws_toByteS.f, h1, Int.toNat_natCast, h2, if_true]
  have := key xs.length 0 (by omega)
  rw [← fill_none id 0 xs, List.map_id] at this
  exact this
theorem eqByteS_ev (xs ys : List Int) (h : xs.length ≤ 4611686018427387904) : Ev (fun k => laws_eqByteS.f k xs ys) (decide (xs = ys)) := by
  have key : ∀ d i, i + d = xs.length → xs.length = ys.length → Ev (fun k => laws_eqByteS.l0 k xs ys (i : Int)) (decide (xs.drop i = ys.drop i)) := by
    intro d
    induction d with
    | zero =>
      intro i hi hl
      refine ev_succ ?_
      have h1 : ¬ ((i : Int) < (xs.length : Int)) := by omega
      simp only [laws_eqByteS.l0, h1, if_false]
      exact ev_ret (by rw [drop_end (by omega), drop_end (by omega)]; simp)
    | succ d ih =>
      intro i hi hl
      refine ev_succ ?_
      have h1 : (i : Int) < (xs.length : Int) := by omega
      have h2 : (0 : Int) ≤ (i : Int) := by omega
      have h3 : (i : Int) < (ys.length : Int) := by omega
      have h4 := w64s (n := i) (by omega)
      simp only [laws_eqByteS.l0, h1, h2, h3, if_true, h4]
      rw [drop_rd xs i (by omega), drop_rd ys i (by omega)]
      by_cases he : rd xs (i : Int) = rd ys (i : Int)
      · simp only [he, if_true]
        exact ev_eq (ih (i + 1) (by omega) hl) (by simp)
      · simp only [he, if_false]
        exact ev_ret (by simp [he])
  by_cases hl : xs.length = ys.length
  · have h1 : (xs.length : Int) = (ys.length : Int) := by omega
    simp only [laws_eqByteS.f, h1, if_true]
    exact ev_eq (key xs.length 0 (by omega) hl) (by simp)
  · have h1 : ¬ (xs.length : Int) = (ys.length : Int) := by omega
    simp only [laws_eqByteS.f, h1, if_false]
    exact ev_ret (by
      have : xs ≠ ys := fun e => hl (by rw [e])
      simp [this])

/-! #### laws_markByteS, laws_heldByteS -/
def markByte (k0 : Int) (n : Nat) : List Int := (List.range n).map fun (j : Nat) => (k0 + (j : Int)) % 256
theorem markByte_len (k0 : Int) (n : Nat) : (markByte k0 n).length = n := by simp [markByte]
theorem markByte_rd (k0 : Int) (n i : Nat) (h : i < n) : rd (markByte k0 n) (i : Int) = (k0 + (i : Int)) % 256 := by
  simp [markByte, rd_nat, List.getD_eq_getElem?_getD, List.getElem?_map, List.getElem?_range h]
theorem markByteS_ev (xs : List Int) (k0 : Int) (hk : 0 ≤ k0) (hk2 : k0 + xs.length < 9223372036854775807) : Ev (fun k => laws_markByteS.f k xs k0) (k0 + xs.length, markByte k0 xs.length) := by
  have key : ∀ d i, i + d = xs.length → Ev (fun k => laws_markByteS.l0 k (markByte k0 i ++ xs.drop i) (k0 + (i : Int)) (i : Int)) (k0 + xs.length, markByte k0 xs.length) := by
    intro d
    induction d with
    | zero =>
      intro i hi
      refine ev_succ ?_
      obtain rfl : i = xs.length := by omega
      have h1 : ¬ ((xs.length : Int) < ((markByte k0 xs.length ++ xs.drop xs.length).length : Int)) := by simp [markByte_len]
      simp only [laws_markByteS.l0, h1, if_false]
      exact ev_ret (by simp)
    | succ d ih =>
      intro i hi
      refine ev_succ ?_
      have h1 : (i : Int) < ((markByte k0 i ++ xs.drop i).length : Int) := by simp [markByte_len]; omega
      have h2 : (0 : Int) ≤ (i : Int) := by omega
      have h4 := w64s (n := i) (by omega)
      have h5 : wrap64 (k0 + (i : Int) + 1) = k0 + ((i + 1 : Nat) : Int) := by rw [w64 (by omega) (by omega)]; omega
      simp only [laws_markByteS.l0, h1, h2, if_true, h4, h5]
      have := ih (i + 1) (by omega)
      have he : (markByte k0 i ++ xs.drop i).set i ((k0 + (i : Int)) % 256) = markByte k0 (i + 1) ++ xs.drop (i + 1) := by
        rw [List.set_append_right _ _ (by rw [markByte_len]; omega), markByte_len, Nat.sub_self, drop_rd xs i (by omega)]
        simp [markByte, List.range_succ]
      rw [← he] at this
      exact this
  have := key xs.length 0 (by omega)
  simpa [laws_markByteS.f, markByte] using this
theorem heldByteS_ev (n : Nat) (k0 : Int) (hk : 0 ≤ k0) (hk2 : k0 + n < 9223372036854775807) : Ev (fun k => laws_heldByteS.f k (markByte k0 n) k0) (k0 + n) := by
  have key : ∀ d i, i + d = n → Ev (fun k => laws_heldByteS.l0 k (markByte k0 n) (k0 + (i : Int)) (i : Int)) (k0 + n) := by
    intro d
    induction d with
    | zero =>
      intro i hi
      refine ev_succ ?_
      obtain rfl : i = n := by omega
      have h1 : ¬ ((i : Int) < ((markByte k0 i).length : Int)) := by simp [markByte_len]
      simp only [laws_heldByteS.l0, h1, if_false]
      exact ev_ret (by simp)
    | succ d ih =>
      intro i hi
      refine ev_succ ?_
      have h1 : (i : Int) < ((markByte k0 n).length : Int) := by simp [markByte_len]; omega
      have h2 : (0 : Int) ≤ (i : Int) := by omega
      have h4 := w64s (n := i) (by omega)
      have h5 : wrap64 (k0 + (i : Int) + 1) = k0 + ((i + 1 : Nat) : Int) := by rw [w64 (by omega) (by omega)]; omega
      simp only [laws_heldByteS.l0, h1, h2, if_true, h4, h5, markByte_rd k0 n i (by omega)]
      exact ih (i + 1) (by omega)
  have := key n 0 (by omega)
  simpa [laws_heldByteS.f] using this

theorem spec_in_eq (a lo hi : Int) : spec_l1In.f a lo hi = some (decide (lo ≤ a ∧ a ≤ hi)) := by
  unfold spec_l1In.f
  by_cases h : a ≥ lo
  · rw [if_pos h]; simp [show lo ≤ a from h]
  · rw [if_neg h]; simp; omega

theorem impl_in_eq (a lo hi : Int) : impl_in.f a lo hi = some (decide (lo ≤ a ∧ a ≤ hi)) := by
  unfold impl_in.f
  by_cases h : lo ≤ a
  · rw [if_pos h]; simp [h]
  · rw [if_neg h]; simp; omega

/-! #### Seal -/
def sl (s : Int) : List Int → List Int
  | [] => []
  | b :: bs => Go.bits .xor .u8 b ((Int.tmod (Int.tmod (wrap64 (s * 48271)) 1000000007) 256) % 256) :: sl (Int.tmod (wrap64 (s * 48271)) 1000000007) bs
theorem sl_len (xs : List Int) : ∀ s, (sl s xs).length = xs.length := by
  induction xs with
  | nil => intro s; rfl
  | cons b bs ih => intro s; simp [sl, ih]
def sealB (xs : List Int) (a : Int) : List Int := if 1 ≤ a ∧ a ≤ 1000000006 ∧ xs.length ≤ 40000 then sl a xs else []
theorem sealB_len (xs : List Int) (a : Int) : (sealB xs a).length ≤ xs.length := by
  unfold sealB
  split
  · rw [sl_len]; exact Nat.le_refl _
  · simp
theorem spec_Seal_ev (xs : List Int) (a : Int) : Ev (fun k => spec_Seal.f k xs a) (sealB xs a) := by
  have key : ∀ d i (out : List Int) (s : Int), xs.length ≤ 40000 → i + d = xs.length → out.length ≤ i → Ev (fun k => spec_Seal.l0 k xs out s (i : Int)) (out ++ sl s (xs.drop i)) := by
    intro d
    induction d with
    | zero =>
      intro i out s hl hi ho
      refine ev_succ ?_
      rw [drop_end (by omega)]
      have h1 : ¬ (i : Int) < (xs.length : Int) := by omega
      simp only [spec_Seal.l0, h1, if_false]
      exact ev_ret (by simp [sl])
    | succ d ih =>
      intro i out s hl hi ho
      refine ev_succ ?_
      have h1 : (i : Int) < (xs.length : Int) := by omega
      have h2 : (0 : Int) ≤ (i : Int) := by omega
      have h3 : out.length < 140737488355328 := by omega
      have h4 := w64s (n := i) (by omega)
      simp only [spec_Seal.l0, h1, h2, h3, if_true, h4]
      rw [drop_rd _ i (by omega)]
      exact ev_eq (ih (i + 1) _ _ hl (by omega) (by simp; omega)) (by simp [sl])
  have hin : spec_l1In.f a 1 1000000006 = some (decide (1 ≤ a ∧ a ≤ 1000000006)) := by
    unfold spec_l1In.f
    by_cases h : a ≥ 1
    · rw [if_pos h]; simp [show 1 ≤ a from h]
    · rw [if_neg h]; simp; omega
  simp only [spec_Seal.f, hin, Option.bind_some]
  by_cases h : 1 ≤ a ∧ a ≤ 1000000006
  · simp only [decide_eq_true h, if_true]
    refine ev_succ ?_
    by_cases hl : (xs.length : Int) > 40000
    · simp only [spec_Seal.j0, hl, decide_true, if_true]
      exact ev_ret (by unfold sealB; rw [if_neg (fun hh => by have := hh.2.2; omega)])
    · simp only [spec_Seal.j0, hl, decide_false, Bool.false_eq_true, if_false]
      exact ev_eq (key xs.length 0 [] a (by omega) (by omega) (by simp)) (by unfold sealB; rw [if_pos (by omega)]; simp)
  · simp only [decide_eq_false h, Bool.false_eq_true, if_false]
    refine ev_succ ?_
    simp only [spec_Seal.j0, if_true]
    exact ev_ret (by unfold sealB; rw [if_neg (by omega)])
theorem impl_Seal_ev (xs : List Int) (a : Int) : Ev (fun k => impl_Seal.f k xs a) (sealB xs a) := by
  have key : ∀ d i (out : List Int) (s : Int), xs.length ≤ 40000 → i + d = xs.length → out.length ≤ i → Ev (fun k => impl_Seal.l0 k s out xs (xs.length : Int) (i : Int)) (out ++ sl s (xs.drop i)) := by
    intro d
    induction d with
    | zero =>
      intro i out s hl hi ho
      refine ev_succ ?_
      rw [drop_end (by omega)]
      have h1 : ¬ (i : Int) < (xs.length : Int) := by omega
      simp only [impl_Seal.l0, h1, if_false]
      exact ev_ret (by simp [sl])
    | succ d ih =>
      intro i out s hl hi ho
      refine ev_succ ?_
      have h1 : (i : Int) < (xs.length : Int) := by omega
      have h2 : (0 : Int) ≤ (i : Int) := by omega
      have h3 : out.length < 140737488355328 := by omega
      have h4 := w64s (n := i) (by omega)
      simp only [impl_Seal.l0, h1, h2, h3, if_true, h4]
      rw [drop_rd _ i (by omega)]
      exact ev_eq (ih (i + 1) _ _ hl (by omega) (by simp; omega)) (by simp [sl])
  have hin : impl_in.f a 1 1000000006 = some (decide (1 ≤ a ∧ a ≤ 1000000006)) := by
    unfold impl_in.f
    by_cases h : 1 ≤ a
    · rw [if_pos h]; simp [h]
    · rw [if_neg h]; simp; omega
  simp only [impl_Seal.f, hin, Option.bind_some]
  by_cases h : 1 ≤ a ∧ a ≤ 1000000006
  · simp only [decide_eq_true h, if_true]
    refine ev_succ ?_
    by_cases hl : (xs.length : Int) > 40000
    · simp only [impl_Seal.j0, hl, decide_true, if_true]
      exact ev_ret (by unfold sealB; rw [if_neg (fun hh => by have := hh.2.2; omega)])
    · simp only [impl_Seal.j0, hl, decide_false, Bool.false_eq_true, if_false]
      exact ev_eq (key xs.length 0 [] a (by omega) (by omega) (by simp)) (by unfold sealB; rw [if_pos (by omega)]; simp)
  · simp only [decide_eq_false h, Bool.false_eq_true, if_false]
    refine ev_succ ?_
    simp only [impl_Seal.j0, if_true]
    exact ev_ret (by unfold sealB; rw [if_neg (by omega)])

/-! #### Open -/
def openR (f t s m : Int) (xs : List Int) : List Int × Bool := if (0 ≤ f ∧ f ≤ t ∧ t ≤ 1000000000) ∧ (1 ≤ s ∧ s ≤ 1000000006) ∧ (f ≤ m ∧ m ≤ t) ∧ xs.length ≤ 40000 then (sealB xs s, true) else ([], false)
theorem spec_Open_ev (f t s m : Int) (xs : List Int) : Ev (fun k => spec_Open.f k f t s m xs) (openR f t s m xs) := by
  unfold openR
  simp only [spec_Open.f, spec_in_eq, Option.bind_some]
  refine ev_ite (fun h1 => ev_ret (by rw [if_neg (fun hh => by have := hh.1.1; omega)])) (fun h1 => ?_)
  refine ev_ite (fun h2 => ev_ret (by rw [if_neg (fun hh => by have := hh.1.2.1; omega)])) (fun h2 => ?_)
  refine ev_ite (fun h3 => ev_ret (by rw [if_neg (fun hh => by have := hh.1.2.2; omega)])) (fun h3 => ?_)
  refine ev_ifb (fun h4 => ?_) (fun h4 => ev_ret (by rw [if_neg (fun hh => of_decide_eq_false h4 hh.2.1)]))
  refine ev_ifb (fun h5 => ?_) (fun h5 => ev_ret (by rw [if_neg (fun hh => of_decide_eq_false h5 hh.2.2.1)]))
  refine ev_ite (fun h6 => ev_ret (by rw [if_neg (fun hh => by have := hh.2.2.2; omega)])) (fun h6 => ?_)
  refine ev_bind (spec_Seal_ev xs s) ?_
  rw [if_pos ⟨⟨by omega, by omega, by omega⟩, of_decide_eq_true h4, of_decide_eq_true h5, by omega⟩]
  exact ev_ret rfl
theorem impl_Open_ev (f t s m : Int) (xs : List Int) : Ev (fun k => impl_Open.f k f t s m xs) (openR f t s m xs) := by
  have hok : impl_Lock_ok.f f t s = some (decide ((0 ≤ f ∧ f ≤ t ∧ t ≤ 1000000000) ∧ (1 ≤ s ∧ s ≤ 1000000006))) := by
    simp only [impl_Lock_ok.f, impl_in_eq, Option.bind_some]
    split
    · split
      · split
        · simp only [Option.some.injEq, decide_eq_decide]; omega
        · simp only [Option.some.injEq]; symm; rw [decide_eq_false_iff_not]; omega
      · simp only [Option.some.injEq]; symm; rw [decide_eq_false_iff_not]; omega
    · simp only [Option.some.injEq]; symm; rw [decide_eq_false_iff_not]; omega
  unfold openR
  simp only [impl_Open.f, hok, impl_in_eq, Option.bind_some]
  refine ev_ifb (fun h4 => ?_) (fun h4 => ev_ret (by rw [if_neg (fun hh => of_decide_eq_false h4 ⟨hh.1, hh.2.1⟩)]))
  refine ev_ifb (fun h5 => ?_) (fun h5 => ev_ret (by rw [if_neg (fun hh => of_decide_eq_false h5 hh.2.2.1)]))
  refine ev_ite (fun h6 => ev_ret (by rw [if_neg (fun hh => by have := hh.2.2.2; omega)])) (fun h6 => ?_)
  refine ev_bind (impl_Seal_ev xs s) ?_
  have h4' := of_decide_eq_true h4
  rw [if_pos ⟨h4'.1, h4'.2, of_decide_eq_true h5, by omega⟩]
  exact ev_ret rfl
theorem openR_len (f t s m : Int) (xs : List Int) : (openR f t s m xs).1.length ≤ xs.length := by
  unfold openR
  split
  · exact sealB_len xs s
  · simp

theorem FnExactOpen : ∀ (a0_0 : Int) (a0_1 : Int) (a0_2 : Int) (a1 : Int) (l2 : List Int), ((Lit.int .i64 a0_0).wf = true ∧ ((Lit.int .i64 a0_1).wf = true ∧ (Lit.int .i64 a0_2).wf = true)) → (Lit.int .i64 a1).wf = true → (l2.length ≤ maxLen ∧ ∀ y1 ∈ l2, (Lit.int .u8 y1).wf = true) → ∃ k, laws_FnExactOpen.f k a0_0 a0_1 a0_2 a1 l2 = some true := by
  intro f t s m l2 _ _ _
  apply Ev.rounds
  simp only [laws_FnExactOpen.f]
  refine ev_ite (fun _ => ev_ret rfl) (fun hl => ?_)
  have h1 : l2.length ≤ 1048576 := by omega
  have h2 := openR_len f t s m l2
  simp only [laws_toLock.f, Option.bind_some]
  refine ev_bind (toByteS_ev l2 h1) ?_
  refine ev_bind (spec_Open_ev f t s m l2) ?_
  refine ev_bind (toByteS_ev l2 h1) ?_
  refine ev_bind (impl_Open_ev f t s m l2) ?_
  refine ev_bind (eqByteS_ev _ _ (by omega)) ?_
  simp only [decide_true, if_true, bne_self_eq_false]
  refine ev_succ ?_
  simp only [laws_FnExactOpen.j0, Bool.false_eq_true, if_false]
  refine ev_bind (toByteS_ev l2 h1) ?_
  refine ev_bind (eqByteS_ev _ _ (by omega)) ?_
  simp only [decide_true, if_true]
  refine ev_bind (markByteS_ev l2 1 (by omega) (by omega)) ?_
  have h3 : ¬ (1 + (l2.length : Int) < 0) := by omega
  simp only [h3, if_false]
  refine ev_bind (eqByteS_ev _ _ (by omega)) ?_
  simp only [decide_true, if_true, bne_self_eq_false]
  refine ev_succ ?_
  simp only [laws_FnExactOpen.j1, Bool.false_eq_true, if_false]
  refine ev_bind (markByteS_ev _ 1 (by omega) (by omega)) ?_
  refine ev_bind (heldByteS_ev _ 1 (by omega) (by omega)) ?_
  have h4 : ¬ (1 + ((openR f t s m l2).1.length : Int) < 0) := by omega
  simp only [h4, if_false, if_true, laws_toLock.f, Option.bind_some]
  refine ev_bind (toByteS_ev l2 h1) ?_
  refine ev_bind (impl_Open_ev f t s m l2) ?_
  refine ev_bind (eqByteS_ev _ _ (by omega)) ?_
  simp only [decide_true, if_true, bne_self_eq_false]
  refine ev_succ ?_
  simp only [laws_FnExactOpen.j2, Bool.false_eq_true, if_false]
  refine ev_bind (heldByteS_ev _ 1 (by omega) (by omega)) ?_
  simp only [h4, if_false, if_true]
  exact ev_ret rfl
end Go.Proofs.Ytelcpfanjjfgdaa.Pure
