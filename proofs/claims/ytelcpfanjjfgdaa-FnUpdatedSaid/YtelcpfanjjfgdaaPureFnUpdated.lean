-- Plain side of FnUpdated: a drawn pair of packages; the update counted both ways.
import Derived.Test.YtelcpfanjjfgdaaHFnUpdatedx0
import Derived.Test.YtelcpfanjjfgdaaHFnUpdatedx1
import Derived.Test.YtelcpfanjjfgdaaHFnUpdatedx2
import Derived.Test.YtelcpfanjjfgdaaHFnUpdatedx3
import Derived.Test.YtelcpfanjjfgdaaHFnUpdatedx4
import Derived.Test.YtelcpfanjjfgdaaHFnUpdatedx5
import Derived.Test.YtelcpfanjjfgdaaHFnUpdatedx6
import Derived.Test.YtelcpfanjjfgdaaHFnUpdatedx7
import Derived.Test.YtelcpfanjjfgdaaHFnUpdatedx8
import Derived.Test.YtelcpfanjjfgdaaHFnUpdatedx9
import Derived.Test.YtelcpfanjjfgdaaHFnUpdatedx10
import Derived.Test.YtelcpfanjjfgdaaHFnUpdatedx11
import Derived.Test.YtelcpfanjjfgdaaHFnUpdatedx12
import Derived.Test.YtelcpfanjjfgdaaHFnUpdatedx13
import Derived.Test.YtelcpfanjjfgdaaPureBase
import Derived.Laws.BitsLemmas
namespace Go.Proofs.Ytelcpfanjjfgdaa.Pure
open Go.RowKit Go.Proofs.Ytelcpfanjjfgdaa.HFnUpdated Go.Proofs.YtelcpfanjjfgdaaW.PrintWords Go.Proofs.YtelcpfanjjfgdaaW.PrintLast Go.Proofs.YtelcpfanjjfgdaaW.PrintMore Go.Proofs.Ytelcpfanjjfgdaa.PB
set_option linter.unusedVariables false
set_option linter.unusedSimpArgs false
theorem spec_in_eq (a lo hi : Int) : spec_l1In.f a lo hi = some (decide (lo ≤ a ∧ a ≤ hi)) := by
  unfold spec_l1In.f
  by_cases h : a ≥ lo
  · rw [if_pos h]; simp [show lo ≤ a from h]
  · rw [if_neg h]; simp; omega

theorem impl_in_eq (a lo hi : Int) : impl_in.f a lo hi = some (decide (lo ≤ a ∧ a ≤ hi)) := by
  unfold impl_in.f
  by_cases h : lo ≤ a
  · rw [if_pos h]; simp [h]
  · rw [if_neg h]; simp; omega

/-! #### bytes of a string, by their index -/
theorem drop_bt (s : ByteArray) (i : Nat) (h : i < s.size) : (bytesOf s).drop i = bt s (i : Int) :: (bytesOf s).drop (i + 1) := by
  rw [drop_rd _ i (by rw [bytesOf_length]; exact h), rd_bytesOf]
def lexB : List Int → List Int → Bool
  | _, [] => false
  | [], _ :: _ => true
  | a :: x, b :: y => if a = b then lexB x y else decide (a < b)
theorem bytesLess_lex : ∀ x y : List UInt8, Op.bytesLess x y = lexB (x.map fun b => (b.toNat : Int)) (y.map fun b => (b.toNat : Int))
  | [], [] => by simp [Op.bytesLess, lexB]
  | _ :: _, [] => by simp [Op.bytesLess, lexB]
  | [], _ :: _ => by simp [Op.bytesLess, lexB]
  | a :: x, b :: y => by
    rw [Op.bytesLess, bytesLess_lex x y]
    simp only [List.map_cons, lexB]
    by_cases h : a = b
    · subst h
      simp
    · have h1 : ¬ ((a.toNat : Int) = (b.toNat : Int)) := fun e => h (UInt8.toNat_inj.1 (by omega))
      rw [if_neg h1]
      simp only [h, beq_eq_false_iff_ne.2 h, Bool.false_and, Bool.or_false]
      rw [decide_eq_decide]
      rw [UInt8.lt_iff_toNat_lt]
      omega
theorem bytesLess_bytesOf (a b : ByteArray) : Op.bytesLess a.toList b.toList = lexB (bytesOf a) (bytesOf b) := by
  rw [bytesLess_lex, ByteArray.toList_eq, ByteArray.toList_eq]
  rfl

def allFrom (p : Nat → Bool) : Nat → Nat → Bool
  | 0, _ => true
  | d + 1, i => p i && allFrom p d (i + 1)
theorem allFrom_at {p : Nat → Bool} : ∀ {d i : Nat}, allFrom p d i = true → ∀ j, i ≤ j → j < i + d → p j = true
  | 0, i, _, j, h1, h2 => absurd h2 (by omega)
  | d + 1, i, h, j, h1, h2 => by
    rw [allFrom, Bool.and_eq_true] at h
    rcases Nat.eq_or_lt_of_le h1 with rfl | h3
    · exact h.1
    · exact allFrom_at h.2 j (by omega) (by omega)

/-! #### PackOk -/
def okc (c : Int) : Bool := decide ((48 ≤ c ∧ c ≤ 57) ∨ (97 ≤ c ∧ c ≤ 122) ∨ (65 ≤ c ∧ c ≤ 90) ∨ c = 95 ∨ c = 46)
def nameB (s : ByteArray) : Bool := decide (1 ≤ s.size ∧ s.size ≤ 40) && (bytesOf s).all okc
theorem spec_Name_ev (s : ByteArray) : Ev (fun k => spec_l15Name.f k s) (nameB s) := by
  have key : ∀ d i, s.size ≤ 40 → i + d = s.size → Ev (fun k => spec_l15Name.l0 k s (i : Int)) (((bytesOf s).drop i).all okc) := by
    intro d
    induction d with
    | zero =>
      intro i hs hi
      refine ev_succ ?_
      have h1 : ¬ (i : Int) < (s.size : Int) := by omega
      simp only [spec_l15Name.l0, h1, if_false]
      exact ev_ret (by rw [drop_end (by rw [bytesOf_length]; omega)]; rfl)
    | succ d ih =>
      intro i hs hi
      refine ev_succ ?_
      have h1 : (i : Int) < (s.size : Int) := by omega
      have h2 : (0 : Int) ≤ (i : Int) := by omega
      have h4 := w64s (n := i) (by omega)
      have hih := ih (i + 1) hs (by omega)
      simp only [spec_l15Name.l0, h1, h2, h4, if_true]
      rw [drop_bt s i (by omega), List.all_cons]
      generalize bt s (i : Int) = c
      have yes : okc c = true → Ev (fun k => spec_l15Name.l0 k s ((i + 1 : Nat) : Int)) (okc c && ((bytesOf s).drop (i + 1)).all okc) := fun h => by rw [h, Bool.true_and]; exact hih
      have no : okc c = false → Ev (fun _ => some false) (okc c && ((bytesOf s).drop (i + 1)).all okc) := fun h => by rw [h, Bool.false_and]; exact ev_ret rfl
      repeat' (refine ev_ite (fun _ => ?_) (fun _ => ?_))
      all_goals first | exact yes (decide_eq_true (by omega)) | exact no (decide_eq_false (by omega))
  unfold nameB
  simp only [spec_l15Name.f]
  refine ev_ite (fun h => ?_) (fun h => ?_)
  · refine ev_succ ?_
    simp only [spec_l15Name.j0, if_true]
    exact ev_ret (by rw [decide_eq_false (by omega)]; rfl)
  · refine ev_succ ?_
    by_cases h2 : (s.size : Int) > 40
    · simp only [spec_l15Name.j0, decide_eq_true h2, if_true]
      exact ev_ret (by rw [decide_eq_false (by omega)]; rfl)
    · simp only [spec_l15Name.j0, decide_eq_false h2, Bool.false_eq_true, if_false]
      exact ev_eq (key s.size 0 (by omega) (by omega)) (by rw [decide_eq_true (by omega)]; simp)
theorem impl_Name_ev (s : ByteArray) : Ev (fun k => impl_assetName.f k s) (nameB s) := by
  have hle : ∀ c, impl_isLetter.f c = some (decide ((97 ≤ c ∧ c ≤ 122) ∨ (65 ≤ c ∧ c ≤ 90))) := by
    intro c
    unfold impl_isLetter.f
    repeat' split
    all_goals (congr 1; first | (rw [decide_eq_decide]; omega) | (symm; first | exact decide_eq_true (by omega) | exact decide_eq_false (by omega)))
  have hdi : ∀ c, impl_isDigit.f c = some (decide (48 ≤ c ∧ c ≤ 57)) := by
    intro c
    unfold impl_isDigit.f
    split
    all_goals (congr 1; first | (rw [decide_eq_decide]; omega) | (symm; first | exact decide_eq_true (by omega) | exact decide_eq_false (by omega)))
  have key : ∀ d i, s.size ≤ 40 → i + d = s.size → Ev (fun k => impl_assetName.l0 k s (s.size : Int) (i : Int)) (((bytesOf s).drop i).all okc) := by
    intro d
    induction d with
    | zero =>
      intro i hs hi
      refine ev_succ ?_
      have h1 : ¬ (i : Int) < (s.size : Int) := by omega
      simp only [impl_assetName.l0, h1, if_false]
      exact ev_ret (by rw [drop_end (by rw [bytesOf_length]; omega)]; rfl)
    | succ d ih =>
      intro i hs hi
      refine ev_succ ?_
      have h1 : (i : Int) < (s.size : Int) := by omega
      have h2 : (0 : Int) ≤ (i : Int) := by omega
      have h4 := w64s (n := i) (by omega)
      have hih := ih (i + 1) hs (by omega)
      simp only [impl_assetName.l0, h1, h2, h4, if_true, hle, hdi, Option.bind_some, decide_eq_true_eq]
      rw [drop_bt s i (by omega), List.all_cons]
      generalize bt s (i : Int) = c
      have yes : okc c = true → Ev (fun k => impl_assetName.l0 k s (s.size : Int) ((i + 1 : Nat) : Int)) (okc c && ((bytesOf s).drop (i + 1)).all okc) := fun h => by rw [h, Bool.true_and]; exact hih
      have no : okc c = false → Ev (fun _ => some false) (okc c && ((bytesOf s).drop (i + 1)).all okc) := fun h => by rw [h, Bool.false_and]; exact ev_ret rfl
      repeat' (refine ev_ite (fun _ => ?_) (fun _ => ?_))
      all_goals first | exact yes (decide_eq_true (by omega)) | exact no (decide_eq_false (by omega))
  unfold nameB
  simp only [impl_assetName.f, impl_in_eq, Option.bind_some]
  refine ev_ifb (fun h => ?_) (fun h => ?_)
  · have h' := of_decide_eq_true h
    exact ev_eq (key s.size 0 (by omega) (by omega)) (by rw [decide_eq_true (by omega)]; simp)
  · have h' := of_decide_eq_false h
    exact ev_ret (by rw [decide_eq_false (by omega)]; rfl)
theorem spec_Before_ev (a b : ByteArray) (ha : a.size ≤ 4611686018427387904) : Ev (fun k => spec_l15Before.f k a b) (lexB (bytesOf a) (bytesOf b)) := by
  have key : ∀ d i, i + d = a.size → i ≤ b.size → Ev (fun k => spec_l15Before.l0 k a b (i : Int)) (lexB ((bytesOf a).drop i) ((bytesOf b).drop i)) := by
    intro d
    induction d with
    | zero =>
      intro i hi hb
      refine ev_succ ?_
      have h1 : ¬ (i : Int) < (a.size : Int) := by omega
      simp only [spec_l15Before.l0, h1, if_false]
      refine ev_succ ?_
      simp only [spec_l15Before.j1, Bool.false_eq_true, if_false]
      refine ev_ret ?_
      rw [drop_end (by rw [bytesOf_length]; omega)]
      by_cases h2 : i < b.size
      · rw [drop_bt b i h2, decide_eq_true (by omega)]; rfl
      · rw [drop_end (by rw [bytesOf_length]; omega), decide_eq_false (by omega)]; rfl
    | succ d ih =>
      intro i hi hb
      refine ev_succ ?_
      have h1 : (i : Int) < (a.size : Int) := by omega
      have h3 : (0 : Int) ≤ (i : Int) := by omega
      have h4 := w64s (n := i) (by omega)
      simp only [spec_l15Before.l0, h1, if_true]
      refine ev_succ ?_
      by_cases h2 : (i : Int) < (b.size : Int)
      · simp only [spec_l15Before.j1, decide_eq_true h2, if_true, h1, h2, h3, h4]
        rw [drop_bt a i (by omega), drop_bt b i (by omega), lexB]
        by_cases he : bt a (i : Int) = bt b (i : Int)
        · simp only [he, if_true]
          exact ih (i + 1) (by omega) (by omega)
        · simp only [he, if_false]
          exact ev_ret rfl
      · simp only [spec_l15Before.j1, decide_eq_false h2, Bool.false_eq_true, if_false]
        refine ev_ret ?_
        rw [drop_end (xs := bytesOf b) (by rw [bytesOf_length]; omega), decide_eq_false (by omega)]
        cases (bytesOf a).drop i <;> rfl
  exact key a.size 0 (by omega) (by omega)
def assetB (xs : List S71) (i : Nat) : Bool :=
  nameB (rd_T71 xs (i : Int)).f0 && decide (0 ≤ (rd_T71 xs (i : Int)).f1 ∧ (rd_T71 xs (i : Int)).f1 ≤ 40000) && decide (0 ≤ (rd_T71 xs (i : Int)).f2 ∧ (rd_T71 xs (i : Int)).f2 ≤ 1000000006)
    && (decide (i = 0) || lexB (bytesOf (rd_T71 xs ((i - 1 : Nat) : Int)).f0) (bytesOf (rd_T71 xs (i : Int)).f0))
def packB (xs : List S71) : Bool := decide (xs.length ≤ 100) && allFrom (assetB xs) xs.length 0
theorem spec_PackOk_ev (xs : List S71) (hs : ∀ x ∈ xs, x.f0.size ≤ 4611686018427387904) : Ev (fun k => spec_PackOk.f k xs) (packB xs) := by
  have key : ∀ d i, xs.length ≤ 100 → i + d = xs.length → Ev (fun k => spec_PackOk.l0 k xs (i : Int)) (allFrom (assetB xs) d i) := by
    intro d
    induction d with
    | zero =>
      intro i hl hi
      refine ev_succ ?_
      have h1 : ¬ (i : Int) < (xs.length : Int) := by omega
      simp only [spec_PackOk.l0, h1, if_false]
      exact ev_ret rfl
    | succ d ih =>
      intro i hl hi
      refine ev_succ ?_
      have h1 : (i : Int) < (xs.length : Int) := by omega
      have h2 : (0 : Int) ≤ (i : Int) := by omega
      have h4 := w64s (n := i) (by omega)
      simp only [spec_PackOk.l0, h1, h2, h4, if_true]
      rw [allFrom, assetB]
      refine ev_bind (spec_Name_ev _) ?_
      refine ev_ifb (fun e1 => ?_) (fun e1 => ev_ret (by rw [e1]; rfl))
      rw [e1, Bool.true_and]
      simp only [spec_in_eq, Option.bind_some]
      refine ev_ifb (fun e2 => ?_) (fun e2 => ev_ret (by rw [e2]; rfl))
      rw [e2, Bool.true_and]
      refine ev_ifb (fun e3 => ?_) (fun e3 => ev_ret (by rw [e3]; rfl))
      rw [e3, Bool.true_and]
      refine ev_ite (fun h5 => ?_) (fun h5 => ?_)
      · have h6 : wrap64 ((i : Int) - 1) = ((i - 1 : Nat) : Int) := by rw [w64 (by omega) (by omega)]; omega
        have h7 : (0 : Int) ≤ ((i - 1 : Nat) : Int) := by omega
        have h8 : ((i - 1 : Nat) : Int) < (xs.length : Int) := by omega
        simp only [h6, h7, h8, if_true]
        refine ev_bind (spec_Before_ev _ _ (hs _ (getD_mem _ (by omega)))) ?_
        rw [decide_eq_false (show ¬ i = 0 by omega), Bool.false_or]
        refine ev_ifb (fun e4 => ?_) (fun e4 => ev_ret (by rw [e4]; rfl))
        rw [e4, Bool.true_and]
        exact ih (i + 1) hl (by omega)
      · rw [decide_eq_true (show i = 0 by omega), Bool.true_or, Bool.true_and]
        exact ih (i + 1) hl (by omega)
  unfold packB
  simp only [spec_PackOk.f]
  refine ev_ite (fun h => ev_ret (by rw [decide_eq_false (by omega)]; rfl)) (fun h => ?_)
  rw [decide_eq_true (show xs.length ≤ 100 by omega), Bool.true_and]
  exact key xs.length 0 (by omega) (by omega)
theorem impl_PackOk_ev (xs : List S71) (hl : xs.length ≤ 4611686018427387904) : Ev (fun k => impl_PackOk.f k xs) (packB xs) := by
  have key : ∀ d i, i + d = xs.length → Ev (fun k => impl_PackOk.l0 k xs xs (xs.length : Int) (i : Int)) (decide (xs.length ≤ 100) && allFrom (assetB xs) d i) := by
    intro d
    induction d with
    | zero =>
      intro i hi
      refine ev_succ ?_
      have h1 : ¬ (i : Int) < (xs.length : Int) := by omega
      simp only [impl_PackOk.l0, h1, if_false]
      exact ev_ret (by rw [allFrom, Bool.and_true]; congr 1; rw [decide_eq_decide]; omega)
    | succ d ih =>
      intro i hi
      refine ev_succ ?_
      have h1 : (i : Int) < (xs.length : Int) := by omega
      have h2 : (0 : Int) ≤ (i : Int) := by omega
      have h4 := w64s (n := i) (by omega)
      simp only [impl_PackOk.l0, h1, h2, h4, if_true]
      rw [allFrom, assetB]
      have no : ∀ b : Bool, b = false → Ev (fun k => some false) (decide (xs.length ≤ 100) && (b && allFrom (assetB xs) d (i + 1))) := fun b hb => by rw [hb, Bool.false_and, Bool.and_false]; exact ev_ret rfl
      refine ev_bind (impl_Name_ev _) ?_
      refine ev_ifb (fun e1 => ?_) (fun e1 => no _ (by rw [e1]; rfl))
      rw [e1, Bool.true_and]
      simp only [impl_in_eq, Option.bind_some]
      refine ev_ifb (fun e2 => ?_) (fun e2 => no _ (by rw [e2]; rfl))
      rw [e2, Bool.true_and]
      refine ev_ifb (fun e3 => ?_) (fun e3 => no _ (by rw [e3]; rfl))
      rw [e3, Bool.true_and]
      refine ev_ite (fun h5 => ?_) (fun h5 => ?_)
      · have h6 : wrap64 ((i : Int) - 1) = ((i - 1 : Nat) : Int) := by rw [w64 (by omega) (by omega)]; omega
        have h7 : (0 : Int) ≤ ((i - 1 : Nat) : Int) := by omega
        have h8 : ((i - 1 : Nat) : Int) < (xs.length : Int) := by omega
        simp only [h6, h7, h8, if_true, bytesLess_bytesOf]
        rw [decide_eq_false (show ¬ i = 0 by omega), Bool.false_or]
        refine ev_ifb (fun e4 => ?_) (fun e4 => no _ e4)
        rw [e4, Bool.true_and]
        exact ih (i + 1) (by omega)
      · rw [decide_eq_true (show i = 0 by omega), Bool.true_or, Bool.true_and]
        exact ih (i + 1) (by omega)
  exact key xs.length 0 (by omega)

/-! #### Digest -/
def dstep (h x : Int) : Int := Int.tmod (wrap64 ((wrap64 ((wrap64 (h * 257)) + (wrap64 x))) + 1)) 1000000007
def dig (xs : List Int) : Int := (xs.take 40000).foldl dstep 0
theorem spec_Digest_ev (xs : List Int) : Ev (fun k => spec_Digest.f k xs) (dig xs) := by
  have key : ∀ d i (h : Int), i + d = (xs.take 40000).length → Ev (fun k => spec_Digest.l0 k xs h (i : Int)) (((xs.take 40000).drop i).foldl dstep h) := by
    intro d
    induction d with
    | zero =>
      intro i h hi
      refine ev_succ ?_
      rw [drop_end (by omega)]
      by_cases h1 : (i : Int) < (xs.length : Int)
      · have h2 : ¬ (i : Int) < 40000 := by rw [List.length_take] at hi; omega
        simp only [spec_Digest.l0, h1, h2, if_true, if_false]
        exact ev_ret rfl
      · simp only [spec_Digest.l0, h1, if_false]
        exact ev_ret rfl
    | succ d ih =>
      intro i h hi
      refine ev_succ ?_
      have h0 : i < (xs.take 40000).length := by omega
      rw [List.length_take] at hi
      have h1 : (i : Int) < (xs.length : Int) := by omega
      have h2 : (i : Int) < 40000 := by omega
      have h3 : (0 : Int) ≤ (i : Int) := by omega
      have h4 := w64s (n := i) (by omega)
      simp only [spec_Digest.l0, h1, h2, h3, if_true, h4]
      rw [drop_rd _ i h0, List.foldl_cons]
      have he : rd (xs.take 40000) (i : Int) = rd xs (i : Int) := by
        simp only [rd_nat, List.getD_eq_getElem?_getD]
        rw [List.getElem?_take_of_lt (by omega)]
      rw [he]
      exact ih (i + 1) _ (by rw [List.length_take]; omega)
  exact key (xs.take 40000).length 0 0 (by omega)

/-! #### strings: equal to themselves, marked -/
theorem str_inj {a b : ByteArray} (h : a.toList = b.toList) : a = b := by
  rw [ByteArray.toList_eq, ByteArray.toList_eq] at h
  exact ByteArray.ext (Array.toList_inj.mp h)

/-! #### strictly in order -/
theorem lexB_irrefl : ∀ a : List Int, lexB a a = false
  | [] => rfl
  | a :: x => by rw [lexB, if_pos rfl]; exact lexB_irrefl x
theorem lexB_trans : ∀ a b c : List Int, lexB a b = true → lexB b c = true → lexB a c = true
  | _, [], _, h, _ => by simp [lexB] at h
  | a, b :: y, [], _, h => by simp [lexB] at h
  | [], b :: y, c :: z, _, _ => rfl
  | a :: x, b :: y, c :: z, h1, h2 => by
    rw [lexB] at h1 h2 ⊢
    by_cases e1 : a = b
    · rw [if_pos e1] at h1
      by_cases e2 : b = c
      · rw [if_pos e2] at h2
        rw [if_pos (e1.trans e2)]
        exact lexB_trans x y z h1 h2
      · rw [if_neg e2] at h2
        rw [if_neg (by omega), e1]
        exact h2
    · rw [if_neg e1] at h1
      have l1 := of_decide_eq_true h1
      by_cases e2 : b = c
      · rw [if_neg (by omega)]
        exact decide_eq_true (by omega)
      · rw [if_neg e2] at h2
        have l2 := of_decide_eq_true h2
        rw [if_neg (by omega)]
        exact decide_eq_true (by omega)
def nmAt (xs : List S71) (i : Nat) : ByteArray := (rd_T71 xs (i : Int)).f0
theorem pack_lt {xs : List S71} (h : packB xs = true) : ∀ (d i : Nat), 0 < d → i + d < xs.length → lexB (bytesOf (nmAt xs i)) (bytesOf (nmAt xs (i + d))) = true := by
  rw [packB, Bool.and_eq_true] at h
  have one : ∀ i, 0 < i → i < xs.length → lexB (bytesOf (nmAt xs (i - 1))) (bytesOf (nmAt xs i)) = true := by
    intro i h0 hi
    have := allFrom_at h.2 i (by omega) (by omega)
    rw [assetB, Bool.and_eq_true] at this
    have h2 := this.2
    rw [decide_eq_false (show ¬ i = 0 by omega), Bool.false_or] at h2
    exact h2
  intro d
  induction d with
  | zero => intro i h0; omega
  | succ d ih =>
    intro i _ hi
    have h1 := one (i + (d + 1)) (by omega) hi
    rw [show i + (d + 1) - 1 = i + d by omega] at h1
    rcases Nat.eq_zero_or_pos d with h0 | h0
    · subst h0; exact h1
    · exact lexB_trans _ _ _ (ih i h0 (by omega)) h1
theorem pack_uniq {xs : List S71} (h : packB xs = true) {i j : Nat} (hi : i < xs.length) (hj : j < xs.length) (e : nmAt xs i = nmAt xs j) : i = j := by
  rcases Nat.lt_trichotomy i j with hlt | heq | hlt
  · have := pack_lt h (j - i) i (by omega) (by omega)
    rw [show i + (j - i) = j by omega, e, lexB_irrefl] at this
    cases this
  · exact heq
  · have := pack_lt h (i - j) j (by omega) (by omega)
    rw [show j + (i - j) = i by omega, e, lexB_irrefl] at this
    cases this

/-! #### Update -/
def sameA (x y : S71) : Bool := x.f0.toList == y.f0.toList && (x.f1 == y.f1 && (x.f2 == y.f2))
def sameN (x y : S71) : Bool := decide (y.f0.toList = x.f0.toList)
def idxW (p : S71 → Bool) : List S71 → Int → Int
  | [], _ => -1
  | x :: xs, i => if p x = true then i else idxW p xs (i + 1)
theorem idxW_spec (p : S71 → Bool) : ∀ (l : List S71) (i : Int), (idxW p l i = -1 ∧ l.any p = false) ∨ (∃ j : Nat, j < l.length ∧ idxW p l i = i + j ∧ p (rd_T71 l (j : Int)) = true)
  | [], i => .inl ⟨rfl, rfl⟩
  | x :: xs, i => by
    rw [idxW]
    by_cases h : p x = true
    · rw [if_pos h]
      exact .inr ⟨0, by simp, by simp, h⟩
    · rw [if_neg h]
      rcases idxW_spec p xs (i + 1) with ⟨h1, h2⟩ | ⟨j, h1, h2, h3⟩
      · exact .inl ⟨h1, by rw [List.any_cons, h2, Bool.eq_false_iff.2 h]; rfl⟩
      · exact .inr ⟨j + 1, by simpa using h1, by rw [h2]; omega, h3⟩
theorem idxW_any (p : S71 → Bool) (l : List S71) : decide (idxW p l 0 ≥ 0) = l.any p := by
  rcases idxW_spec p l 0 with ⟨h1, h2⟩ | ⟨j, h1, h2, h3⟩
  · rw [h1, h2]; rfl
  · rw [h2, decide_eq_true (by omega)]
    symm
    rw [List.any_eq_true]
    exact ⟨_, getD_mem _ (by omega), h3⟩
theorem cont_ev (xs : List S71) (x : S71) (hl : xs.length ≤ 4611686018427387904) : Ev (fun k => impl_Asset_72.f k xs x.f0 x.f1 x.f2) (xs.any (sameA x)) := by
  have key : ∀ d i, i + d = xs.length → Ev (fun k => impl_Asset_86.l0 k xs (xs.length : Int) (i : Int) x.f0 x.f1 x.f2) (idxW (sameA x) (xs.drop i) (i : Int)) := by
    intro d
    induction d with
    | zero =>
      intro i hi
      refine ev_succ ?_
      have h1 : ¬ ((i : Int) < (xs.length : Int)) := by omega
      simp only [impl_Asset_86.l0, h1, if_false]
      exact ev_ret (by rw [drop_end (by omega)]; rfl)
    | succ d ih =>
      intro i hi
      refine ev_succ ?_
      have h1 : (i : Int) < (xs.length : Int) := by omega
      have h2 : (0 : Int) ≤ (i : Int) := by omega
      have h4 := w64s (n := i) (by omega)
      simp only [impl_Asset_86.l0, h1, h2, h4, if_true]
      have hd : xs.drop i = rd_T71 xs (i : Int) :: xs.drop (i + 1) := drop_getD z71 xs i (by omega)
      rw [hd, idxW]
      refine ev_ite (fun h => ev_ret (by rw [if_pos (show sameA x (rd_T71 xs (i : Int)) = true from h)])) (fun h => ?_)
      rw [if_neg (show ¬ sameA x (rd_T71 xs (i : Int)) = true from h)]
      exact ih (i + 1) (by omega)
  unfold impl_Asset_72.f impl_Asset_86.f
  rw [← idxW_any]
  exact ev_bind (key xs.length 0 (by omega)) (ev_ret rfl)
theorem find_ev (xs : List S71) (x : S71) (hl : xs.length ≤ 4611686018427387904) : Ev (fun k => spec_l15Find.f k xs x.f0) (idxW (sameN x) xs 0) := by
  have key : ∀ d i, i + d = xs.length → Ev (fun k => spec_l15Find.l0 k xs x.f0 (i : Int)) (idxW (sameN x) (xs.drop i) (i : Int)) := by
    intro d
    induction d with
    | zero =>
      intro i hi
      refine ev_succ ?_
      have h1 : ¬ ((i : Int) < (xs.length : Int)) := by omega
      simp only [spec_l15Find.l0, h1, if_false]
      exact ev_ret (by rw [drop_end (by omega)]; rfl)
    | succ d ih =>
      intro i hi
      refine ev_succ ?_
      have h1 : (i : Int) < (xs.length : Int) := by omega
      have h2 : (0 : Int) ≤ (i : Int) := by omega
      have h4 := w64s (n := i) (by omega)
      simp only [spec_l15Find.l0, h1, h2, h4, if_true]
      have hd : xs.drop i = rd_T71 xs (i : Int) :: xs.drop (i + 1) := drop_getD z71 xs i (by omega)
      rw [hd, idxW]
      refine ev_ite (fun h => ev_ret (by rw [if_pos (show sameN x _ = true from decide_eq_true h)])) (fun h => ?_)
      rw [if_neg (show ¬ sameN x (rd_T71 xs (i : Int)) = true from fun h2 => h (of_decide_eq_true h2))]
      exact ih (i + 1) (by omega)
  exact key xs.length 0 (by omega)
theorem named_any (xs : List S71) (x : S71) : (xs.any fun y => decide (y.f0 = x.f0)) = xs.any (sameN x) := by
  congr 1
  funext y
  unfold sameN
  rw [decide_eq_decide]
  exact ⟨fun h => by rw [h], fun h => str_inj h⟩
def sentV (a : List S71) : List S71 → List ByteArray
  | [] => []
  | x :: xs => if a.any (sameA x) = true then sentV a xs else x.f0 :: sentV a xs
def goneV (b : List S71) : List S71 → List ByteArray
  | [] => []
  | x :: xs => if b.any (sameN x) = true then goneV b xs else x.f0 :: goneV b xs
theorem sentV_len (a : List S71) : ∀ l, (sentV a l).length ≤ l.length
  | [] => by simp [sentV]
  | x :: xs => by
    have := sentV_len a xs
    rw [sentV]
    split <;> simp <;> omega
theorem goneV_len (a : List S71) : ∀ l, (goneV a l).length ≤ l.length
  | [] => by simp [goneV]
  | x :: xs => by
    have := goneV_len a xs
    rw [goneV]
    split <;> simp <;> omega
def updV (a b : List S71) : List ByteArray × List ByteArray := if packB a = true ∧ packB b = true then (sentV a b, goneV b a) else ([], [])
theorem packB_len {xs : List S71} (h : packB xs = true) : xs.length ≤ 100 := by
  rw [packB, Bool.and_eq_true] at h
  exact of_decide_eq_true h.1
theorem impl_Update_ev (a b : List S71) (ha : a.length ≤ 1048576) (hb : b.length ≤ 1048576) : Ev (fun k => impl_Update.f k a b) (updV a b) := by
  have l1 : a.length ≤ 100 → ∀ d i (s g : List ByteArray), i + d = a.length → g.length ≤ i → Ev (fun k => impl_Update.l1 k b s g a (a.length : Int) (i : Int)) (s, g ++ goneV b (a.drop i)) := by
    intro hA d
    induction d with
    | zero =>
      intro i s g hi hg
      refine ev_succ ?_
      have h1 : ¬ ((i : Int) < (a.length : Int)) := by omega
      simp only [impl_Update.l1, h1, if_false]
      exact ev_ret (by rw [drop_end (by omega)]; simp [goneV])
    | succ d ih =>
      intro i s g hi hg
      refine ev_succ ?_
      have h1 : (i : Int) < (a.length : Int) := by omega
      have h2 : (0 : Int) ≤ (i : Int) := by omega
      have h4 := w64s (n := i) (by omega)
      have hd : a.drop i = rd_T71 a (i : Int) :: a.drop (i + 1) := drop_getD z71 a i (by omega)
      simp only [impl_Update.l1, h1, h2, h4, if_true, impl_named.f, Option.bind_some, named_any]
      rw [hd, goneV]
      refine ev_ite (fun h => ?_) (fun h => ?_)
      · rw [if_pos h]
        exact ih (i + 1) _ _ (by omega) (by omega)
      · rw [if_neg h]
        refine ev_pos (by omega) ?_
        have := ih (i + 1) s (g ++ [(rd_T71 a (i : Int)).f0]) (by omega) (by simp; omega)
        simpa using this
  have l0 : a.length ≤ 100 → b.length ≤ 100 → ∀ d i (s : List ByteArray), i + d = b.length → s.length ≤ i → Ev (fun k => impl_Update.l0 k a b s [] b (b.length : Int) (i : Int)) (s ++ sentV a (b.drop i), goneV b a) := by
    intro hA hB d
    induction d with
    | zero =>
      intro i s hi hs
      refine ev_succ ?_
      have h1 : ¬ ((i : Int) < (b.length : Int)) := by omega
      simp only [impl_Update.l0, h1, if_false]
      have := l1 hA a.length 0 s [] (by omega) (by simp)
      rw [drop_end (xs := b) (by omega)]
      simpa [sentV] using this
    | succ d ih =>
      intro i s hi hs
      refine ev_succ ?_
      have h1 : (i : Int) < (b.length : Int) := by omega
      have h2 : (0 : Int) ≤ (i : Int) := by omega
      have h4 := w64s (n := i) (by omega)
      have hd : b.drop i = rd_T71 b (i : Int) :: b.drop (i + 1) := drop_getD z71 b i (by omega)
      simp only [impl_Update.l0, h1, h2, h4, if_true]
      rw [hd, sentV]
      refine ev_bind (cont_ev a _ (by omega)) ?_
      refine ev_ite (fun h => ?_) (fun h => ?_)
      · rw [if_pos h]
        exact ih (i + 1) _ (by omega) (by omega)
      · rw [if_neg h]
        refine ev_pos (by omega) ?_
        have := ih (i + 1) (s ++ [(rd_T71 b (i : Int)).f0]) (by omega) (by simp; omega)
        simpa using this
  unfold updV
  simp only [impl_Update.f]
  refine ev_bind (impl_PackOk_ev a (by omega)) ?_
  refine ev_ite (fun h1 => ?_) (fun h1 => ?_)
  · refine ev_bind (impl_PackOk_ev b (by omega)) ?_
    refine ev_succ ?_
    simp only [impl_Update.j0]
    refine ev_ite (fun h2 => ?_) (fun h2 => ?_)
    · rw [if_neg (fun h => by simp [h.2] at h2)]
      exact ev_ret rfl
    · have h3 : packB b = true := by simpa using h2
      rw [if_pos ⟨h1, h3⟩]
      have := l0 (packB_len h1) (packB_len h3) b.length 0 [] (by omega) (by simp)
      simpa using this
  · rw [if_neg (fun h => h1 h.1)]
    refine ev_succ ?_
    simp only [impl_Update.j0, if_true]
    exact ev_ret rfl
theorem spec_Update_ev (a b : List S71) (ha : a.length ≤ 1048576) (hb : b.length ≤ 1048576) (sa : ∀ x ∈ a, x.f0.size ≤ 4611686018427387904) (sb : ∀ x ∈ b, x.f0.size ≤ 4611686018427387904) : Ev (fun k => spec_Update.f k a b) (updV a b) := by
  have l1 : a.length ≤ 100 → ∀ d i (s g : List ByteArray), i + d = a.length → g.length ≤ i → Ev (fun k => spec_Update.l1 k a b s g (i : Int)) (s, g ++ goneV b (a.drop i)) := by
    intro hA d
    induction d with
    | zero =>
      intro i s g hi hg
      refine ev_succ ?_
      have h1 : ¬ ((i : Int) < (a.length : Int)) := by omega
      simp only [spec_Update.l1, h1, if_false]
      exact ev_ret (by rw [drop_end (by omega)]; simp [goneV])
    | succ d ih =>
      intro i s g hi hg
      refine ev_succ ?_
      have h1 : (i : Int) < (a.length : Int) := by omega
      have h2 : (0 : Int) ≤ (i : Int) := by omega
      have h4 := w64s (n := i) (by omega)
      have hd : a.drop i = rd_T71 a (i : Int) :: a.drop (i + 1) := drop_getD z71 a i (by omega)
      simp only [spec_Update.l1, h1, h2, h4, if_true]
      rw [hd, goneV, ← idxW_any]
      refine ev_bind (find_ev b _ (by omega)) ?_
      refine ev_ite (fun h => ?_) (fun h => ?_)
      · rw [if_neg (by simp; omega)]
        refine ev_pos (by omega) ?_
        have := ih (i + 1) s (g ++ [(rd_T71 a (i : Int)).f0]) (by omega) (by simp; omega)
        simpa using this
      · rw [if_pos (by simp; omega)]
        exact ih (i + 1) _ _ (by omega) (by omega)
  have l0 : packB a = true → a.length ≤ 100 → b.length ≤ 100 → ∀ d i (s : List ByteArray), i + d = b.length → s.length ≤ i → Ev (fun k => spec_Update.l0 k a b s [] (i : Int)) (s ++ sentV a (b.drop i), goneV b a) := by
    intro hpa hA hB d
    induction d with
    | zero =>
      intro i s hi hs
      refine ev_succ ?_
      have h1 : ¬ ((i : Int) < (b.length : Int)) := by omega
      simp only [spec_Update.l0, h1, if_false]
      have := l1 hA a.length 0 s [] (by omega) (by simp)
      rw [drop_end (xs := b) (by omega)]
      simpa [sentV] using this
    | succ d ih =>
      intro i s hi hs
      refine ev_succ ?_
      have h1 : (i : Int) < (b.length : Int) := by omega
      have h2 : (0 : Int) ≤ (i : Int) := by omega
      have h4 := w64s (n := i) (by omega)
      have hd : b.drop i = rd_T71 b (i : Int) :: b.drop (i + 1) := drop_getD z71 b i (by omega)
      generalize hx : rd_T71 b (i : Int) = x at *
      simp only [spec_Update.l0, h1, h2, h4, if_true, hx]
      rw [hd, sentV]
      refine ev_bind (find_ev a x (by omega)) ?_
      have put : a.any (sameA x) = false → Ev (fun k => if s.length < 8796093022208 then spec_Update.l0 k a b (s ++ [x.f0]) [] ((i + 1 : Nat) : Int) else none) (s ++ (if a.any (sameA x) = true then sentV a (b.drop (i + 1)) else x.f0 :: sentV a (b.drop (i + 1))), goneV b a) := by
        intro h
        rw [if_neg (by rw [h]; simp)]
        refine ev_pos (by omega) ?_
        have := ih (i + 1) (s ++ [x.f0]) (by omega) (by simp; omega)
        simpa using this
      rcases idxW_spec (sameN x) a 0 with ⟨e1, e2⟩ | ⟨j, j1, j2, j3⟩
      · rw [e1]
        refine ev_pos (by omega) (put ?_)
        rw [List.any_eq_false] at e2 ⊢
        intro y hy hs2
        refine e2 y hy ?_
        unfold sameA at hs2
        rw [Bool.and_eq_true, beq_iff_eq] at hs2
        exact decide_eq_true hs2.1.symm
      · have e1 : idxW (sameN x) a 0 = (j : Int) := by omega
        rw [e1]
        refine ev_neg (by omega) (ev_pos (by omega) (ev_pos (by omega) ?_))
        have hn : (rd_T71 a (j : Int)).f0 = x.f0 := str_inj (of_decide_eq_true j3)
        refine ev_ite (fun h => put ?_) (fun h => ?_)
        · rw [List.any_eq_false]
          intro y hy hs2
          obtain ⟨m, hm, hme⟩ := List.getElem_of_mem hy
          have hym : rd_T71 a (m : Int) = y := by
            simp [rd_T71, List.getD_eq_getElem?_getD, List.getElem?_eq_getElem hm, hme]
          unfold sameA at hs2
          rw [Bool.and_eq_true, Bool.and_eq_true, beq_iff_eq, beq_iff_eq, beq_iff_eq] at hs2
          have hmj : m = j := pack_uniq hpa hm j1 (by unfold nmAt; rw [hym, hn]; exact (str_inj hs2.1).symm)
          subst hmj
          rw [hym] at h
          simp [hs2.1, hs2.2.1, hs2.2.2] at h
        · have : a.any (sameA x) = true := by
            rw [List.any_eq_true]
            refine ⟨rd_T71 a (j : Int), getD_mem _ (by omega), ?_⟩
            unfold sameA
            simp only [Bool.or_eq_true, Bool.not_eq_true', not_or, Bool.not_eq_false] at h
            rw [Bool.and_eq_true, Bool.and_eq_true, beq_iff_eq, beq_iff_eq, beq_iff_eq]
            have h' := h
            simp only [beq_iff_eq] at h'
            exact ⟨h'.1.symm, h'.2.1.symm, h'.2.2.symm⟩
          rw [if_pos this]
          exact ih (i + 1) _ (by omega) (by omega)
  unfold updV
  simp only [spec_Update.f, Option.bind_some]
  refine ev_bind (spec_PackOk_ev a sa) ?_
  refine ev_ite (fun h1 => ?_) (fun h1 => ?_)
  · refine ev_bind (spec_PackOk_ev b sb) ?_
    refine ev_succ ?_
    simp only [spec_Update.j0]
    refine ev_ite (fun h2 => ?_) (fun h2 => ?_)
    · rw [if_neg (fun h => by simp [h.2] at h2)]
      exact ev_ret rfl
    · have h3 : packB b = true := by simpa using h2
      rw [if_pos ⟨h1, h3⟩]
      have := l0 h1 (packB_len h1) (packB_len h3) b.length 0 [] (by omega) (by simp)
      simpa using this
  · rw [if_neg (fun h => h1 h.1)]
    refine ev_succ ?_
    simp only [spec_Update.j0, if_true]
    exact ev_ret rfl
/-! #### lists in order -/
def LL (x y : S71) : Prop := lexB (bytesOf x.f0) (bytesOf y.f0) = true
theorem LL_trans {x y z : S71} (h1 : LL x y) (h2 : LL y z) : LL x z := lexB_trans _ _ _ h1 h2
theorem LL_irr {x y : S71} (h : LL x y) : x.f0 ≠ y.f0 := by
  intro e
  unfold LL at h
  rw [e, lexB_irrefl] at h
  cases h
theorem LL_less (x y : S71) : Op.bytesLess x.f0.toList y.f0.toList = true ↔ LL x y := by rw [bytesLess_bytesOf]; exact Iff.rfl
theorem LL_tot {x y : S71} (h : ¬ LL x y) (hn : x.f0 ≠ y.f0) : LL y x := by
  rw [← LL_less] at h ⊢
  have t := less_or x.f0.toList y.f0.toList
  have h0 : Op.bytesLess x.f0.toList y.f0.toList = false := by simpa using h
  have h1 : (x.f0.toList == y.f0.toList) = false := by
    rw [beq_eq_false_iff_ne]
    exact fun e => hn (str_inj e)
  rw [h0, h1] at t
  simpa using t
theorem allFrom_of {p : Nat → Bool} : ∀ {d i : Nat}, (∀ j, i ≤ j → j < i + d → p j = true) → allFrom p d i = true
  | 0, _, _ => rfl
  | d + 1, i, h => by
    rw [allFrom, h i (by omega) (by omega), Bool.true_and]
    exact allFrom_of (fun j h1 h2 => h j (by omega) (by omega))
def okA (x : S71) : Prop := nameB x.f0 = true ∧ (0 ≤ x.f1 ∧ x.f1 ≤ 40000) ∧ 0 ≤ x.f2 ∧ x.f2 ≤ 1000000006
theorem rd_get {X : List S71} {i : Nat} (hi : i < X.length) : rd_T71 X (i : Int) = X[i] := by simp [rd_T71, hi]
theorem packB_iff (X : List S71) : packB X = true ↔ X.length ≤ 100 ∧ (∀ x ∈ X, okA x) ∧ X.Pairwise LL := by
  constructor
  · intro h
    refine ⟨?_, fun x hx => ?_, ?_⟩
    · rw [packB, Bool.and_eq_true] at h
      exact of_decide_eq_true h.1
    · obtain ⟨i, hi, rfl⟩ := List.getElem_of_mem hx
      rw [packB, Bool.and_eq_true] at h
      have := allFrom_at h.2 i (by omega) (by omega)
      simp only [assetB, Bool.and_eq_true, decide_eq_true_eq, rd_get hi] at this
      exact ⟨this.1.1.1, this.1.1.2, this.1.2⟩
    · rw [List.pairwise_iff_getElem]
      intro i j hi hj hlt
      have := pack_lt h (j - i) i (by omega) (by omega)
      rw [show i + (j - i) = j by omega, nmAt, nmAt, rd_get hi, rd_get hj] at this
      exact this
  · rintro ⟨hl, hv, hp⟩
    rw [packB, decide_eq_true hl, Bool.true_and]
    refine allFrom_of fun j _ hj => ?_
    have hj2 : j < X.length := by omega
    obtain ⟨h1, h2, h3⟩ := hv _ (List.getElem_mem hj2)
    simp only [assetB, Bool.and_eq_true, decide_eq_true_eq, rd_get hj2, Bool.or_eq_true]
    refine ⟨⟨⟨h1, h2⟩, h3⟩, ?_⟩
    by_cases h0 : j = 0
    · exact .inl h0
    · have hj3 : j - 1 < X.length := by omega
      rw [rd_get hj3]
      exact .inr (List.pairwise_iff_getElem.1 hp (j - 1) j hj3 hj2 (by omega))

/-! #### what spec.Pack puts in its place -/
theorem spec_ins (ns : List ByteArray) (bs : List (List Int)) (i : Nat) (S : List S71) (a : S71) (hS : S.Pairwise LL) (hl : S.length ≤ 200) (hi : i ≤ 200) (hz : ∀ x ∈ S, x.f0.size ≤ 4611686018427387904) :
    ∀ p, p ≤ S.length → (∀ x ∈ S.drop p, LL a x) → ∀ y, (∃ S' : List S71, S'.Perm (a :: S) ∧ S'.Pairwise LL ∧ ∀ R, Ev (fun k => spec_Pack.l0 k ns bs S' ((i + 1 : Nat) : Int)) R → Ev (fun k => spec_Pack.l1 k ns bs (S.take p ++ y :: S.drop p) (i : Int) (p : Int) a.f0 a.f1 a.f2) R) ∨
      ((∃ x ∈ S, x.f0 = a.f0) ∧ Ev (fun k => spec_Pack.l1 k ns bs (S.take p ++ y :: S.drop p) (i : Int) (p : Int) a.f0 a.f1 a.f2) ([], false)) := by
  have hw := w64s (n := i) (by omega)
  have put : ∀ p y, p ≤ S.length → (∀ x ∈ S.take p, LL x a) → (∀ x ∈ S.drop p, LL a x) → (S.take p ++ a :: S.drop p).Perm (a :: S) ∧ (S.take p ++ a :: S.drop p).Pairwise LL ∧ ∀ R, Ev (fun k => spec_Pack.l0 k ns bs (S.take p ++ a :: S.drop p) ((i + 1 : Nat) : Int)) R → Ev (fun k => spec_Pack.j4 k ns bs (S.take p ++ y :: S.drop p) (i : Int) (p : Int) false a.f0 a.f1 a.f2) R := by
    intro p y hp h1 h2
    refine ⟨?_, ?_, fun R hR => ev_succ ?_⟩
    · have := @List.perm_middle _ a (S.take p) (S.drop p)
      rwa [List.take_append_drop] at this
    · rw [List.pairwise_append]
      refine ⟨hS.sublist (List.take_sublist _ _), List.pairwise_cons.2 ⟨h2, hS.sublist (List.drop_sublist _ _)⟩, fun x hx z hz' => ?_⟩
      rcases List.mem_cons.1 hz' with rfl | hz'
      · exact h1 x hx
      · exact LL_trans (h1 x hx) (h2 z hz')
    · have e1 : (0 : Int) ≤ (p : Int) := by omega
      have e2 : (p : Int) < ((S.take p ++ y :: S.drop p).length : Int) := by simp; omega
      have e3 : (S.take p ++ y :: S.drop p).set p a = S.take p ++ a :: S.drop p := by
        rw [List.set_append_right _ _ (by rw [List.length_take]; omega), List.length_take]
        rw [show p - min p S.length = 0 by omega, List.set_cons_zero]
      simp only [spec_Pack.j4, Bool.false_eq_true, if_false, e1, e2, if_true, Int.toNat_natCast, hw]
      have : (⟨a.f0, a.f1, a.f2⟩ : S71) = a := rfl
      rw [this, e3]
      exact hR
  intro p
  induction p with
  | zero =>
    intro hp hd y
    obtain ⟨q1, q2, q3⟩ := put 0 y (by omega) (fun x hx => by simp at hx) hd
    refine .inl ⟨_, q1, q2, fun R hR => ev_succ ?_⟩
    have e1 : ¬ ((0 : Nat) : Int) > 0 := by omega
    simp only [spec_Pack.l1, e1, if_false]
    exact q3 R hR
  | succ p ih =>
    intro hp hd y
    have e1 : ((p + 1 : Nat) : Int) > 0 := by omega
    have e2 : wrap64 (((p + 1 : Nat) : Int) - 1) = (p : Int) := by rw [w64 (by omega) (by omega)]; omega
    have e3 : (0 : Int) ≤ (p : Int) := by omega
    have e4 : (p : Int) < ((S.take (p + 1) ++ y :: S.drop (p + 1)).length : Int) := by simp; omega
    have hpl : p < S.length := by omega
    have e5 : rd_T71 (S.take (p + 1) ++ y :: S.drop (p + 1)) (p : Int) = S[p] := by
      simp only [rd_T71, Int.toNat_natCast, List.getD_eq_getElem?_getD]
      rw [List.getElem?_append_left (by rw [List.length_take]; omega), List.getElem?_take_of_lt (by omega), List.getElem?_eq_getElem hpl]
      rfl
    have hb := spec_Before_ev S[p].f0 a.f0 (hz _ (List.getElem_mem hpl))
    by_cases hlt : LL S[p] a
    · obtain ⟨q1, q2, q3⟩ := put (p + 1) y (by omega) (fun x hx => by
        obtain ⟨j, hj, rfl⟩ := List.getElem_of_mem hx
        rw [List.length_take] at hj
        rw [List.getElem_take]
        rcases Nat.lt_or_ge j p with h | h
        · exact LL_trans (List.pairwise_iff_getElem.1 hS j p (by omega) hpl h) hlt
        · obtain rfl : j = p := by omega
          exact hlt) hd
      refine .inl ⟨_, q1, q2, fun R hR => ev_succ ?_⟩
      simp only [spec_Pack.l1, e1, e2, e3, e4, e5, if_true]
      refine ev_bind hb ?_
      have : lexB (bytesOf S[p].f0) (bytesOf a.f0) = true := hlt
      rw [this]
      exact q3 R hR
    · have hf : lexB (bytesOf S[p].f0) (bytesOf a.f0) = false := by
        cases h : lexB (bytesOf S[p].f0) (bytesOf a.f0) with
        | false => rfl
        | true => exact absurd h hlt
      have e6 : (0 : Int) ≤ ((p + 1 : Nat) : Int) := by omega
      have e7 : ((p + 1 : Nat) : Int) < ((S.take (p + 1) ++ y :: S.drop (p + 1)).length : Int) := by simp; omega
      by_cases hn : S[p].f0.toList = a.f0.toList
      · refine .inr ⟨⟨S[p], List.getElem_mem hpl, str_inj hn⟩, ev_succ ?_⟩
        simp only [spec_Pack.l1, e1, e2, e3, e4, e5, if_true]
        refine ev_bind hb (ev_succ ?_)
        rw [hf]
        simp only [spec_Pack.j4, Bool.not_false, e2, e3, e4, e5, hn, if_true]
        exact ev_ret rfl
      · have ha : LL a S[p] := LL_tot hlt (fun e => hn (by rw [e]))
        have hset : (S.take (p + 1) ++ y :: S.drop (p + 1)).set (p + 1) S[p] = S.take p ++ S[p] :: S.drop p := by
          rw [List.set_append_right _ _ (by rw [List.length_take]; omega), List.length_take]
          rw [show p + 1 - min (p + 1) S.length = 0 by omega, List.set_cons_zero, List.take_succ_eq_append_getElem hpl, List.append_assoc]
          rw [List.drop_eq_getElem_cons hpl]
          rfl
        have step : ∀ R, Ev (fun k => spec_Pack.l1 k ns bs (S.take p ++ S[p] :: S.drop p) (i : Int) (p : Int) a.f0 a.f1 a.f2) R → Ev (fun k => spec_Pack.l1 k ns bs (S.take (p + 1) ++ y :: S.drop (p + 1)) (i : Int) ((p + 1 : Nat) : Int) a.f0 a.f1 a.f2) R := by
          intro R hR
          refine ev_succ ?_
          simp only [spec_Pack.l1, e1, e2, e3, e4, e5, if_true]
          refine ev_bind hb (ev_succ ?_)
          rw [hf]
          simp only [spec_Pack.j4, Bool.not_false, e2, e3, e4, e5, e6, e7, hn, if_true, if_false, Int.toNat_natCast]
          have : (⟨S[p].f0, S[p].f1, S[p].f2⟩ : S71) = S[p] := rfl
          rw [this, hset]
          exact hR
        rcases ih (by omega) (fun x hx => by
          rw [List.drop_eq_getElem_cons hpl] at hx
          rcases List.mem_cons.1 hx with rfl | hx
          · exact ha
          · exact hd x hx) S[p] with ⟨S', q1, q2, q3⟩ | ⟨q1, q2⟩
        · exact .inl ⟨S', q1, q2, fun R hR => step R (q3 R hR)⟩
        · exact .inr ⟨q1, step _ q2⟩

/-! #### the draws' cursor: where it stands (b: the bytes, i: how many are used) -/
def St (b : List Int) (i : Int) : Prop := 0 ≤ i ∧ i ≤ b.length ∧ b.length ≤ 4096
theorem and255 (x : Int) : 0 ≤ Go.bits .and .i64 x 255 ∧ Go.bits .and .i64 x 255 ≤ 255 := by
  have h : ((BitVec.ofInt 64 x) &&& (BitVec.ofInt 64 255)).toNat ≤ 255 := by
    rw [BitVec.toNat_and]
    exact Nat.le_trans Nat.and_le_right (by decide)
  have e : Go.bits .and .i64 x 255 = IntKind.i64.wrap (((BitVec.ofInt 64 x) &&& (BitVec.ofInt 64 255)).toNat : Int) := rfl
  rw [e, IntKind.wrap_i64]
  omega
theorem byte_some {b : List Int} {i : Int} (h : Int) (hs : St b i) : SomeP (spec_l1Byte.f b i h) (fun r => (0 ≤ r.1 ∧ r.1 ≤ 255) ∧ St b r.2.1) := by
  obtain ⟨h1, h2, h3⟩ := hs
  unfold spec_l1Byte.f
  refine somep_ite (fun hl => somep_pos h1 (somep_now ⟨and255 _, ?_⟩)) (fun hl => somep_now ⟨and255 _, h1, h2, h3⟩)
  show St b (wrap64 (i + 1))
  rw [w64 (by omega) (by omega)]
  exact ⟨by omega, by omega, h3⟩
theorem below_some {b : List Int} {i : Int} (h : Int) (n : Int) (hs : St b i) : SomeP (spec_l1Below.f b i h n) (fun r => (0 ≤ r.1 ∧ (0 < n → r.1 < n)) ∧ St b r.2.1) := by
  unfold spec_l1Below.f
  refine somep_ite (fun hn => somep_now ⟨⟨Int.le_refl _, fun h => by omega⟩, hs⟩) (fun hn => somep_ite (fun h2 => ?_) (fun h2 => ?_))
  · refine somep_bind (byte_some h hs) (fun a ha => somep_neg (by omega) (somep_now ⟨?_, ha.2⟩))
    have e : Int.tmod a.1 n = a.1 % n := Int.tmod_eq_emod_of_nonneg ha.1.1
    show 0 ≤ Int.tmod a.1 n ∧ (0 < n → Int.tmod a.1 n < n)
    rw [e]
    exact ⟨Int.emod_nonneg _ (by omega), fun h => Int.emod_lt_of_pos _ h⟩
  · refine somep_bind (byte_some h hs) (fun a ha => somep_bind (byte_some _ ha.2) (fun c hc => somep_bind (byte_some _ hc.2) (fun d hd => somep_bind (byte_some _ hd.2) (fun e he => somep_neg (by omega) (somep_now ⟨?_, he.2⟩)))))
    have h1 := ha.1; have h3 := hc.1; have h4 := hd.1; have h5 := he.1
    have w1 : wrap64 (a.1 * 16777216) = a.1 * 16777216 := w64 (by omega) (by omega)
    have w2 : wrap64 (c.1 * 65536) = c.1 * 65536 := w64 (by omega) (by omega)
    have w3 : wrap64 (d.1 * 256) = d.1 * 256 := w64 (by omega) (by omega)
    show 0 ≤ Int.tmod (wrap64 (wrap64 (wrap64 (wrap64 (a.1 * 16777216) + wrap64 (c.1 * 65536)) + wrap64 (d.1 * 256)) + e.1)) n ∧ (0 < n → Int.tmod (wrap64 (wrap64 (wrap64 (wrap64 (a.1 * 16777216) + wrap64 (c.1 * 65536)) + wrap64 (d.1 * 256)) + e.1)) n < n)
    rw [w1, w2, w3, w64 (x := a.1 * 16777216 + c.1 * 65536) (by omega) (by omega), w64 (x := a.1 * 16777216 + c.1 * 65536 + d.1 * 256) (by omega) (by omega), w64 (by omega) (by omega), Int.tmod_eq_emod_of_nonneg (by omega)]
    exact ⟨Int.emod_nonneg _ (by omega), fun h => Int.emod_lt_of_pos _ h⟩
theorem new_ev (code : List Int) (hc : code.length ≤ 4096) : EvP (fun k => spec_l1New.f k code) (fun r => r.1 = code ∧ St code r.2.1) := by
  have key : ∀ d i (h : Int), i + d = code.length → EvP (fun k => spec_l1New.l0 k code h (i : Int)) (fun r => r.1 = code ∧ St code r.2.1) := by
    intro d
    induction d with
    | zero =>
      intro i h hi
      refine evp_succ ?_
      have h1 : ¬ (i : Int) < (code.length : Int) := by omega
      simp only [spec_l1New.l0, h1, if_false]
      exact evp_now ⟨rfl, by refine ⟨Int.le_refl _, ?_, hc⟩; show (0 : Int) ≤ code.length; omega⟩
    | succ d ih =>
      intro i h hi
      refine evp_succ ?_
      have h1 : (i : Int) < (code.length : Int) := by omega
      have h2 : (0 : Int) ≤ (i : Int) := by omega
      have h4 := w64s (n := i) (by omega)
      simp only [spec_l1New.l0, h1, h2, h4, if_true]
      exact ih (i + 1) _ (by omega)
  exact key code.length 0 _ (by omega)

theorem once_some {b : List Int} {i : Int} (h : Int) (n : Int) (hs : St b i) : SomeP (spec_l1Once.f b i h n) (fun r => St b r.2.1) := by
  unfold spec_l1Once.f
  exact somep_bind (below_some h n hs) (fun a ha => somep_now ha.2)

theorem body_ev {b : List Int} {i : Int} (h : Int) (hs : St b i) : EvP (fun k => spec_l15DrawBody.f k b i h) (fun r => (r.1.length ≤ 40001 ∧ ∀ x ∈ r.1, 0 ≤ x ∧ x ≤ 255) ∧ St b r.2.1) := by
  have key : ∀ (d : Nat) (out : List Int) (i h : Int), St b i → out.length + d ≤ 10 → (∀ x ∈ out, 0 ≤ x ∧ x ≤ 255) → EvP (fun k => spec_l15DrawBody.l0 k out (d : Int) b i h) (fun r => (r.1.length ≤ 40001 ∧ ∀ x ∈ r.1, 0 ≤ x ∧ x ≤ 255) ∧ St b r.2.1) := by
    intro d
    induction d with
    | zero =>
      intro out i h hs ho hb
      refine evp_succ ?_
      have h1 : ¬ (((0 : Nat) : Int) > 0) := by omega
      simp only [spec_l15DrawBody.l0, h1, if_false]
      refine evp_some (once_some h 90 hs) (fun a ha => ?_)
      refine evp_ite (fun _ => ?_) (fun _ => evp_now ⟨⟨by show out.length ≤ 40001; omega, hb⟩, ha⟩)
      refine evp_some (below_some _ 2 ha) (fun c hc => ?_)
      have h2 := hc.1.1
      have h3 := hc.1.2 (by omega)
      have h4 : wrap64 (40000 + c.1) = 40000 + c.1 := w64 (by omega) (by omega)
      rw [h4]
      refine evp_pos (by omega) (evp_pos (by omega) (evp_now ⟨⟨?_, ?_⟩, hc.2⟩))
      · show (List.replicate (40000 + c.1).toNat (0 : Int)).length ≤ 40001
        rw [List.length_replicate]
        omega
      · intro x hx
        have := List.eq_of_mem_replicate hx
        omega
    | succ d ih =>
      intro out i h hs ho hb
      refine evp_succ ?_
      have h1 : (((d + 1 : Nat) : Int) > 0) := by omega
      have h2 : wrap64 (((d + 1 : Nat) : Int) - 1) = (d : Int) := by rw [w64 (by omega) (by omega)]; omega
      simp only [spec_l15DrawBody.l0, h1, h2, if_true]
      refine evp_some (byte_some h hs) (fun a ha => ?_)
      refine evp_pos (by omega) (ih _ _ _ ha.2 (by simp; omega) ?_)
      intro x hx
      rcases List.mem_append.1 hx with hx | hx
      · exact hb x hx
      · have := List.mem_singleton.1 hx
        omega
  unfold spec_l15DrawBody.f
  refine evp_some (below_some h 10 hs) (fun a ha => ?_)
  obtain ⟨n, hn⟩ := Int.eq_ofNat_of_zero_le ha.1.1
  have := ha.1.2 (by omega)
  rw [hn]
  exact key n [] _ _ ha.2 (by simp; omega) (fun x hx => by cases hx)

/-! #### the draw of a package -/
def NB (ns : List ByteArray) (bs : List (List Int)) : Prop := bs.length = ns.length ∧ ns.length ≤ 5 ∧ (∀ s ∈ ns, s.size ≤ 41) ∧ ∀ b ∈ bs, ∀ x ∈ b, 0 ≤ x ∧ x ≤ 255
theorem names_ev {b : List Int} {i : Int} (h : Int) (hs : St b i) : EvP (fun k => spec_l15DrawNames.f k b i h) (fun r => NB r.1 r.2.1 ∧ St b r.2.2.1) := by
  have key : ∀ (d : Nat) (ns : List ByteArray) (bs : List (List Int)) (i h : Int), St b i → ns.length + d ≤ 5 → NB ns bs → EvP (fun k => spec_l15DrawNames.l0 k ns bs (d : Int) b i h) (fun r => NB r.1 r.2.1 ∧ St b r.2.2.1) := by
    intro d
    induction d with
    | zero =>
      intro ns bs i h hs hn hq
      refine evp_succ ?_
      have h1 : ¬ (((0 : Nat) : Int) > 0) := by omega
      simp only [spec_l15DrawNames.l0, h1, if_false]
      exact evp_now ⟨hq, hs⟩
    | succ d ih =>
      intro ns bs i h hs hn hq
      refine evp_succ ?_
      have h1 : (((d + 1 : Nat) : Int) > 0) := by omega
      have h2 : wrap64 (((d + 1 : Nat) : Int) - 1) = (d : Int) := by rw [w64 (by omega) (by omega)]; omega
      simp only [spec_l15DrawNames.l0, h1, if_true, Option.bind_some]
      refine evp_some (below_some h 8 hs) (fun a ha => ?_)
      have ha1 := ha.1.1
      have ha2 := ha.1.2 (by omega)
      refine evp_pos ha1 (evp_pos (by simp; omega) ?_)
      have hsz : (rdOf ByteArray.empty ([(⟨#[114, 101, 101, 108]⟩ : ByteArray), (⟨#[97]⟩ : ByteArray), (⟨#[98, 95, 49]⟩ : ByteArray), (⟨#[77, 73, 88, 46, 119, 97, 118]⟩ : ByteArray), (⟨#[114, 101, 101, 108, 49]⟩ : ByteArray), (⟨#[90]⟩ : ByteArray), (⟨#[115, 117, 98, 46, 116, 120, 116]⟩ : ByteArray), (⟨#[48]⟩ : ByteArray)] : List ByteArray) a.1).size ≤ 41 := by
        obtain ⟨n, hn⟩ := Int.eq_ofNat_of_zero_le ha1
        have hn8 : n < 8 := by omega
        rw [hn]
        obtain rfl | rfl | rfl | rfl | rfl | rfl | rfl | rfl : n = 0 ∨ n = 1 ∨ n = 2 ∨ n = 3 ∨ n = 4 ∨ n = 5 ∨ n = 6 ∨ n = 7 := by omega
        all_goals decide
      generalize (rdOf ByteArray.empty ([(⟨#[114, 101, 101, 108]⟩ : ByteArray), (⟨#[97]⟩ : ByteArray), (⟨#[98, 95, 49]⟩ : ByteArray), (⟨#[77, 73, 88, 46, 119, 97, 118]⟩ : ByteArray), (⟨#[114, 101, 101, 108, 49]⟩ : ByteArray), (⟨#[90]⟩ : ByteArray), (⟨#[115, 117, 98, 46, 116, 120, 116]⟩ : ByteArray), (⟨#[48]⟩ : ByteArray)] : List ByteArray) a.1) = s at hsz
      have add : ∀ (i h : Int) , St b i → EvP (fun k => (spec_l15DrawBody.f k b i h).bind fun bt => (if bs.length < 5864062014805 then (spec_l15DrawNames.l0 k (ns ++ [s]) (bs ++ [bt.1]) (wrap64 (((d + 1 : Nat) : Int) - 1)) b bt.2.1 bt.2.2) else none)) (fun r => NB r.1 r.2.1 ∧ St b r.2.2.1) := by
        intro i h hs
        refine evp_bind (body_ev h hs) (fun c hc => ?_)
        have hl := hq.1
        refine evp_pos (by omega) ?_
        rw [h2]
        refine ih _ _ _ _ hc.2 (by simp; omega) ⟨by simp [hl], by simp; omega, fun x hx => ?_, fun y hy => ?_⟩
        · rcases List.mem_append.1 hx with hx | hx
          · exact hq.2.2.1 x hx
          · rw [List.mem_singleton.1 hx]; exact hsz
        · rcases List.mem_append.1 hy with hy | hy
          · exact hq.2.2.2 y hy
          · rw [List.mem_singleton.1 hy]; exact hc.1.2
      have hs2 := ha.2
      generalize a.2.1 = i2 at hs2
      generalize a.2.2 = h2'
      have inner : ∀ e j (fl : Bool), j + e = ns.length → EvP (fun k => spec_l15DrawNames.l1 k ns bs ((d + 1 : Nat) : Int) s fl (j : Int) b i2 h2') (fun r => NB r.1 r.2.1 ∧ St b r.2.2.1) := by
        intro e
        induction e with
        | zero =>
          intro j fl hj
          refine evp_succ ?_
          have h3 : ¬ ((j : Int) < (ns.length : Int)) := by omega
          have h4 : ns.length < 8796093022208 := by omega
          cases fl with
          | true =>
            simp only [spec_l15DrawNames.l1, h3, h4, if_false, if_true]
            refine evp_some (once_some h2' 20 hs2) (fun c hc => ?_)
            refine evp_ite (fun _ => add _ _ hc) (fun _ => ?_)
            rw [h2]
            exact ih _ _ _ _ hc (by omega) hq
          | false =>
            simp only [spec_l15DrawNames.l1, h3, h4, if_false, if_true, Bool.false_eq_true]
            exact add _ _ hs2
        | succ e ih2 =>
          intro j fl hj
          refine evp_succ ?_
          have h3 : ((j : Int) < (ns.length : Int)) := by omega
          have h4 : (0 : Int) ≤ (j : Int) := by omega
          have h5 := w64s (n := j) (by omega)
          cases fl with
          | true =>
            simp only [spec_l15DrawNames.l1, h3, h5, if_true]
            exact ih2 (j + 1) _ (by omega)
          | false =>
            simp only [spec_l15DrawNames.l1, h3, h4, h5, if_true, if_false, Bool.false_eq_true]
            exact ih2 (j + 1) _ (by omega)
      exact inner ns.length 0 false (by omega)
  unfold spec_l15DrawNames.f
  refine evp_some (below_some h 6 hs) (fun a ha => ?_)
  obtain ⟨n, hn⟩ := Int.eq_ofNat_of_zero_le ha.1.1
  have := ha.1.2 (by omega)
  rw [hn]
  exact key n [] [] _ _ ha.2 (by simp; omega) (by refine ⟨rfl, by simp, ?_, ?_⟩ <;> intro x hx <;> cases hx)
theorem int_l0 : ∀ (d k : Nat) (n : Int) (s : ByteArray), d + 2 ≤ k → 0 ≤ n → n < 10 ^ d → n ≤ 1000 → s.size + d ≤ 50 → SomeP (spec_l1Int.l0 k n s) (fun r => r.size ≤ 60) := by
  intro d
  induction d with
  | zero =>
    intro k n s hk h0 h1 h2 hs
    obtain ⟨k, rfl⟩ : ∃ j, k = j + 2 := ⟨k - 2, by omega⟩
    have h3 : n = 0 := by have : n < 1 := by simpa using h1
                          omega
    subst h3
    have hz : (strOfNums [(wrap64 (48 + (Int.tmod 0 10))) % 256]).size = 1 := rfl
    rw [spec_l1Int.l0]
    refine somep_ite (fun he => ?_) (fun he => somep_neg (by omega) (somep_now (by omega)))
    rw [Option.bind_some]
    refine somep_pos (by rw [hz]; omega) ?_
    have e : wrap64 (Int.tdiv 0 10) = 0 := by rw [show Int.tdiv 0 10 = 0 by decide]; exact w64 (by omega) (by omega)
    rw [e, spec_l1Int.l0]
    refine somep_neg ?_ (somep_neg (by omega) (somep_now (by rw [ByteArray.size_append, hz]; omega)))
    intro hc
    have : (strOfNums [(wrap64 (48 + (Int.tmod 0 10))) % 256] ++ s).size = 0 := by
      rw [← ByteArray.size_data]
      have h5 := congrArg List.length hc
      simpa [ByteArray.toList_eq] using h5
    rw [ByteArray.size_append, hz] at this
    omega
  | succ d ih =>
    intro k n s hk h0 h1 h2 hs
    obtain ⟨k, rfl⟩ : ∃ j, k = j + 1 := ⟨k - 1, by omega⟩
    have hz : (strOfNums [(wrap64 (48 + (Int.tmod n 10))) % 256]).size = 1 := rfl
    have e : Int.tdiv n 10 = n / 10 := Int.tdiv_eq_ediv_of_nonneg h0
    have hlt : n / 10 < 10 ^ d := by
      have : (10 : Int) ^ (d + 1) = 10 ^ d * 10 := Int.pow_succ 10 d
      omega
    have go := ih k (n / 10) (strOfNums [(wrap64 (48 + (Int.tmod n 10))) % 256] ++ s) (by omega) (by omega) hlt (by omega) (by rw [ByteArray.size_append, hz]; omega)
    rw [spec_l1Int.l0]
    refine somep_ite (fun he => ?_) (fun he => somep_ite (fun hp => ?_) (fun hp => somep_now (by omega)))
    · rw [Option.bind_some]
      refine somep_pos (by rw [hz]; omega) ?_
      rw [e, w64 (by omega) (by omega)]
      exact go
    · rw [Option.bind_some]
      refine somep_pos (by rw [hz]; omega) ?_
      rw [e, w64 (by omega) (by omega)]
      exact go
theorem wide_ev (n : Int) (h0 : 0 ≤ n) (h1 : n ≤ 1000) : EvP (fun k => spec_l1Wide.f k n 4) (fun r => r.size ≤ 60) := by
  have hi : EvP (fun k => spec_l1Int.f k n) (fun r => r.size ≤ 60) := by
    refine evp_succ ?_
    have h2 : ¬ n < 0 := by omega
    simp only [spec_l1Int.f, h2, if_false]
    obtain ⟨r, hr, hp⟩ := int_l0 4 6 n (⟨#[]⟩ : ByteArray) (by omega) h0 (by omega) h1 (by decide)
    refine ⟨r, ⟨6, fun k hk => ?_⟩, hp⟩
    have up : ∀ j, spec_l1Int.l0 (6 + j) n (⟨#[]⟩ : ByteArray) = some r := by
      intro j
      obtain ⟨r2, hr2, _⟩ := int_l0 4 (6 + j) n (⟨#[]⟩ : ByteArray) (by omega) h0 (by omega) h1 (by decide)
      have mono : ∀ m, spec_l1Int.l0 (6 + m) n (⟨#[]⟩ : ByteArray) = some r := by
        intro m
        induction m with
        | zero => exact hr
        | succ m ihm => exact (spec_l1Int.mono_l (6 + m)).2 n _ r ihm
      exact mono j
    have := up (k - 6)
    rwa [show 6 + (k - 6) = k by omega] at this
  have hw : ∀ (d : Nat) (s : ByteArray), s.size ≤ 60 → 4 ≤ s.size + d → EvP (fun k => spec_l1Wide.l0 k 4 s) (fun r => r.size ≤ 60) := by
    intro d
    induction d with
    | zero =>
      intro s hs h4
      refine evp_succ ?_
      have h5 : ¬ (s.size : Int) < 4 := by omega
      simp only [spec_l1Wide.l0, h5, if_false]
      exact evp_now hs
    | succ d ih =>
      intro s hs h4
      refine evp_succ ?_
      have hz : (⟨#[48]⟩ : ByteArray).size = 1 := rfl
      by_cases h5 : (s.size : Int) < 4
      · have h6 : 1 + s.size ≤ 9223372036854775807 := by omega
        simp only [spec_l1Wide.l0, h5, h6, if_true]
        exact ih _ (by rw [ByteArray.size_append, hz]; omega) (by rw [ByteArray.size_append, hz]; omega)
      · simp only [spec_l1Wide.l0, h5, if_false]
        exact evp_now hs
  unfold spec_l1Wide.f
  exact evp_bind hi (fun s hs => hw 4 s hs (by omega))
theorem specPack_evp (ns : List ByteArray) (bs : List (List Int)) (hn : ns.length ≤ 100) (hs : ∀ x ∈ ns, x.size ≤ 4611686018427387904) : EvP (fun k => spec_Pack.f k ns bs) (fun r => r.1.length ≤ ns.length ∧ ∀ x ∈ r.1, x.f0 ∈ ns) := by
  have none_ : (fun (r : List S71 × Bool) => r.1.length ≤ ns.length ∧ ∀ x ∈ r.1, x.f0 ∈ ns) ([], false) := ⟨by simp, fun x hx => by cases hx⟩
  simp only [spec_Pack.f, Option.bind_some]
  by_cases hl : (ns.length : Int) = (bs.length : Int)
  · simp only [hl, if_true]
    rw [← hl]
    have key : ∀ d i S, i + d = ns.length → S.length = i → S.Pairwise LL → (∀ x ∈ S, x.f0 ∈ ns) → EvP (fun k => spec_Pack.l0 k ns bs S (i : Int)) (fun r => r.1.length ≤ ns.length ∧ ∀ x ∈ r.1, x.f0 ∈ ns) := by
      intro d
      induction d with
      | zero =>
        intro i S hi hl hS hv
        refine evp_succ ?_
        have h1 : ¬ (i : Int) < (ns.length : Int) := by omega
        simp only [spec_Pack.l0, h1, if_false]
        exact evp_now ⟨by show S.length ≤ ns.length; omega, hv⟩
      | succ d ih =>
        intro i S hi hlS hS hv
        refine evp_succ ?_
        have h1 : (i : Int) < (ns.length : Int) := by omega
        have h2 : (0 : Int) ≤ (i : Int) := by omega
        have h3 : (i : Int) < (bs.length : Int) := by omega
        simp only [spec_Pack.l0, h1, h2, if_true]
        refine evp_ebind (spec_Name_ev _) ?_
        have bad : EvP (fun k => spec_Pack.j2 k ns bs S (i : Int) true) (fun r => r.1.length ≤ ns.length ∧ ∀ x ∈ r.1, x.f0 ∈ ns) := by
          refine evp_succ ?_
          simp only [spec_Pack.j2, if_true]
          exact evp_now none_
        refine evp_ite (fun e1 => ?_) (fun e1 => bad)
        simp only [h3, if_true]
        by_cases e2 : ((rd_L5 bs (i : Int)).length : Int) > 40000
        · rw [decide_eq_true e2]
          exact bad
        · rw [decide_eq_false e2]
          refine evp_succ ?_
          simp only [spec_Pack.j2, Bool.false_eq_true, if_false, h1, h2, h3, if_true]
          refine evp_ebind (spec_Digest_ev _) ?_
          have h5 : S.length < 4398046511104 := by omega
          simp only [h5, if_true]
          have hnm : rdOf ByteArray.empty ns (i : Int) ∈ ns := getD_mem _ (by omega)
          obtain ⟨a, ha⟩ : ∃ a : S71, a = ⟨rdOf ByteArray.empty ns (i : Int), ((rd_L5 bs (i : Int)).length : Int), dig (rd_L5 bs (i : Int))⟩ := ⟨_, rfl⟩
          have hins := spec_ins ns bs i S a hS (by omega) (by omega) (fun x hx => hs _ (hv x hx)) S.length (Nat.le_refl _) (fun x hx => by rw [List.drop_length] at hx; cases hx) a
          rw [List.take_length, List.drop_length, hlS] at hins
          have ea : a.f0 = rdOf ByteArray.empty ns (i : Int) ∧ a.f1 = ((rd_L5 bs (i : Int)).length : Int) ∧ a.f2 = dig (rd_L5 bs (i : Int)) := by rw [ha]; exact ⟨rfl, rfl, rfl⟩
          have haN : a.f0 ∈ ns := by rw [ea.1]; exact hnm
          rw [← ha, hlS, ← ea.1, ← ea.2.1, ← ea.2.2]
          rcases hins with ⟨S', q1, q2, q3⟩ | ⟨_, q2⟩
          · have hl' : S'.length = i + 1 := by rw [q1.length_eq, List.length_cons, hlS]
            obtain ⟨r, hr, hp⟩ := ih (i + 1) S' (by omega) hl' q2 (fun x hx => by
              rcases List.mem_cons.1 (q1.subset hx) with rfl | hx
              · exact haN
              · exact hv x hx)
            exact ⟨r, q3 r hr, hp⟩
          · exact ⟨_, q2, none_⟩
    by_cases h100 : (ns.length : Int) > 100
    · omega
    · rw [decide_eq_false h100]
      refine evp_succ ?_
      simp only [spec_Pack.j0, Bool.false_eq_true, if_false]
      exact key ns.length 0 [] (by omega) rfl List.Pairwise.nil (fun x hx => by cases hx)
  · simp only [hl, if_false]
    refine evp_succ ?_
    simp only [spec_Pack.j0, if_true]
    exact evp_now none_
def DA (xs : List S71) : Prop := xs.length ≤ 101 ∧ ∀ x ∈ xs, x.f0.size ≤ 60
theorem drawPack_ev {b : List Int} {i : Int} (h : Int) (hs : St b i) : EvP (fun k => spec_l15DrawPack.f k b i h) (fun r => DA r.1 ∧ St b r.2.1) := by
  have loop : ∀ (d : Nat) (xs : List S71) (i h : Int), St b i → xs.length + d = 101 → DA xs → EvP (fun k => spec_l15DrawPack.l0 k xs (xs.length : Int) b i h) (fun r => DA r.1 ∧ St b r.2.1) := by
    intro d
    induction d with
    | zero =>
      intro xs i h hs hl hd
      refine evp_succ ?_
      simp only [spec_l15DrawPack.l0]
      refine evp_some (below_some h 2 hs) (fun a ha => ?_)
      have h1 := ha.1.1
      have h2 := ha.1.2 (by omega)
      rw [w64 (x := 100 + a.1) (by omega) (by omega)]
      exact evp_neg (by omega) (evp_now ⟨hd, ha.2⟩)
    | succ d ih =>
      intro xs i h hs hl hd
      refine evp_succ ?_
      simp only [spec_l15DrawPack.l0]
      refine evp_some (below_some h 2 hs) (fun a ha => ?_)
      have h1 := ha.1.1
      have h2 := ha.1.2 (by omega)
      rw [w64 (x := 100 + a.1) (by omega) (by omega)]
      refine evp_ite (fun _ => ?_) (fun _ => evp_now ⟨hd, ha.2⟩)
      refine evp_bind (wide_ev _ (by omega) (by omega)) (fun s hsz => ?_)
      refine evp_pos (by omega) ?_
      have h4 := w64s (n := xs.length) (by omega)
      rw [h4]
      have := ih (xs ++ [(⟨s, 0, 0⟩ : S71)]) a.2.1 a.2.2 ha.2 (by simp; omega) ⟨by simp; omega, fun x hx => by
        rcases List.mem_append.1 hx with hx | hx
        · exact hd.2 x hx
        · rw [List.mem_singleton.1 hx]; exact hsz⟩
      rw [List.length_append, List.length_singleton] at this
      exact this
  have j1 : ∀ (xs : List S71) (i h : Int), St b i → DA xs → EvP (fun k => spec_l15DrawPack.j1 k xs b i h) (fun r => DA r.1 ∧ St b r.2.1) := by
    intro xs i h hs hd
    refine evp_succ ?_
    simp only [spec_l15DrawPack.j1]
    refine evp_some (once_some h 60 hs) (fun a ha => ?_)
    refine evp_ite (fun _ => ?_) (fun _ => evp_now ⟨hd, ha⟩)
    exact loop 101 [] _ _ ha rfl ⟨by simp, fun x hx => by cases hx⟩
  have j0 : ∀ (xs : List S71) (i h : Int) (fl : Bool), St b i → xs.length ≤ 5 → DA xs → (fl = true → 0 < xs.length) → EvP (fun k => spec_l15DrawPack.j0 k xs fl b i h) (fun r => DA r.1 ∧ St b r.2.1) := by
    intro xs i h fl hs hl hd hf
    refine evp_succ ?_
    cases fl with
    | false =>
      simp only [spec_l15DrawPack.j0, Bool.false_eq_true, if_false]
      exact j1 xs i h hs hd
    | true =>
      have hp := hf rfl
      simp only [spec_l15DrawPack.j0, if_true, Option.bind_some]
      refine evp_some (below_some h (xs.length : Int) hs) (fun a ha => ?_)
      have h1 := ha.1.1
      have h2 := ha.1.2 (by omega)
      refine evp_pos h1 (evp_pos h2 ?_)
      have hm : rd_T71 xs a.1 ∈ xs := by
        obtain ⟨n, hn⟩ := Int.eq_ofNat_of_zero_le h1
        rw [hn]
        exact getD_mem _ (by omega)
      have dset : ∀ y : S71, y.f0.size ≤ 60 → DA (xs.set a.1.toNat y) := fun y hy => ⟨by rw [List.length_set]; exact hd.1, fun x hx => by
        rcases List.mem_or_eq_of_mem_set hx with hx | hx
        · exact hd.2 x hx
        · rw [hx]; exact hy⟩
      refine evp_some (below_some _ 4 ha.2) (fun c hc => ?_)
      have h3 := hc.1.1
      have h4 := hc.1.2 (by omega)
      refine evp_ite (fun _ => ?_) (fun _ => evp_ite (fun _ => ?_) (fun _ => evp_ite (fun _ => ?_) (fun _ => evp_ite (fun _ => ?_) (fun _ => j1 _ _ _ hc.2 hd))))
      · refine evp_some (below_some _ 5 hc.2) (fun e he => ?_)
        have h5 := he.1.1
        have h6 := he.1.2 (by omega)
        have hsz : (rdOf ByteArray.empty (([(⟨#[]⟩ : ByteArray), (⟨#[97, 32, 98]⟩ : ByteArray), (⟨#[114, 101, 101, 108]⟩ : ByteArray), (⟨#[122, 122]⟩ : ByteArray), (⟨#[48, 49, 50, 51, 52, 53, 54, 55, 56, 57, 48, 49, 50, 51, 52, 53, 54, 55, 56, 57, 48, 49, 50, 51, 52, 53, 54, 55, 56, 57, 48, 49, 50, 51, 52, 53, 54, 55, 56, 57, 48]⟩ : ByteArray)] : List ByteArray) : List ByteArray) e.1).size ≤ 60 := by
          obtain ⟨n, hn⟩ := Int.eq_ofNat_of_zero_le h5
          have hn5 : n < 5 := by omega
          rw [hn]
          obtain rfl | rfl | rfl | rfl | rfl : n = 0 ∨ n = 1 ∨ n = 2 ∨ n = 3 ∨ n = 4 := by omega
          all_goals decide
        exact evp_pos h5 (evp_pos (by simp; omega) (j1 _ _ _ he.2 (dset _ hsz)))
      · refine evp_some (below_some _ 3 hc.2) (fun e he => ?_)
        have h5 := he.1.1
        have h6 := he.1.2 (by omega)
        exact evp_pos h5 (evp_pos (by simp; omega) (j1 _ _ _ he.2 (dset _ (by show (rd_T71 xs a.1).f0.size ≤ 60; exact hd.2 _ hm))))
      · refine evp_some (below_some _ 4 hc.2) (fun e he => ?_)
        have h5 := he.1.1
        have h6 := he.1.2 (by omega)
        exact evp_pos h5 (evp_pos (by simp; omega) (j1 _ _ _ he.2 (dset _ (by show (rd_T71 xs a.1).f0.size ≤ 60; exact hd.2 _ hm))))
      · refine evp_pos (by omega) (j1 _ _ _ hc.2 ⟨by simp; omega, fun x hx => ?_⟩)
        rcases List.mem_append.1 hx with hx | hx
        · exact hd.2 x hx
        · rw [List.mem_singleton.1 hx]; exact hd.2 _ hm
  unfold spec_l15DrawPack.f
  refine evp_bind (names_ev h hs) (fun a ha => ?_)
  obtain ⟨⟨_, q2, q3, _⟩, hs1⟩ := ha
  refine evp_bind (specPack_evp a.1 a.2.1 (by omega) (fun x hx => Nat.le_trans (q3 x hx) (by omega))) (fun p hp => ?_)
  have hd : DA p.1 := ⟨by have := hp.1; omega, fun x hx => Nat.le_trans (q3 _ (hp.2 x hx)) (by omega)⟩
  have hl : p.1.length ≤ 5 := by have := hp.1; omega
  refine evp_some (once_some _ 14 hs1) (fun c hc => ?_)
  refine evp_ite (fun _ => ?_) (fun _ => j0 _ _ _ _ hc hl hd (fun h => by cases h))
  exact j0 _ _ _ _ hc hl hd (fun h => by have := of_decide_eq_true h; omega)
theorem drawUpdate_ev (code : List Int) (hc : code.length ≤ 4096) : EvP (fun k => spec_DrawUpdate.f k code) (fun r => DA r.1 ∧ DA r.2) := by
  unfold spec_DrawUpdate.f
  refine evp_bind (new_ev code hc) (fun a ha => ?_)
  have e := ha.1
  refine evp_bind (drawPack_ev (b := a.1) (i := a.2.1) _ (by rw [e]; exact ha.2)) (fun p hp => ?_)
  refine evp_bind (drawPack_ev (b := a.1) (i := p.2.1) _ hp.2) (fun q hq => ?_)
  exact evp_now ⟨hp.1, hq.1⟩

/-! #### counting -/
def cnt1 (s : ByteArray) : List ByteArray → Nat
  | [] => 0
  | o :: O => (if s.toList = o.toList then 1 else 0) + cnt1 s O
def cnt2 : List ByteArray → List ByteArray → Nat
  | [], _ => 0
  | s :: S, O => cnt1 s O + cnt2 S O
theorem cnt2_nil : ∀ O, cnt2 O [] = 0
  | [] => rfl
  | o :: O => by rw [cnt2, cnt1, cnt2_nil O]
theorem cnt2_cons (s : ByteArray) (S : List ByteArray) : ∀ O, cnt2 O (s :: S) = cnt1 s O + cnt2 O S
  | [] => rfl
  | o :: O => by
    have h : (o.toList = s.toList) = (s.toList = o.toList) := propext ⟨Eq.symm, Eq.symm⟩
    rw [cnt2, cnt2, cnt1, cnt1, cnt2_cons s S O]
    simp only [h]
    omega
theorem cnt2_swap : ∀ S O, cnt2 S O = cnt2 O S
  | [], O => (cnt2_nil O).symm
  | s :: S, O => by rw [cnt2, cnt2_cons, cnt2_swap S O]
theorem cnt1_zero {s : ByteArray} : ∀ {O : List ByteArray}, s ∉ O → cnt1 s O = 0
  | [], _ => rfl
  | o :: O, h => by
    rw [cnt1, if_neg (fun e => h (by rw [str_inj e]; exact List.mem_cons_self)), cnt1_zero (fun hm => h (List.mem_cons_of_mem _ hm))]
theorem cnt1_one {s : ByteArray} : ∀ {O : List ByteArray}, s ∈ O → O.Pairwise (· ≠ ·) → cnt1 s O = 1
  | [], h, _ => by cases h
  | o :: O, h, hp => by
    rw [List.pairwise_cons] at hp
    rw [cnt1]
    by_cases e : s = o
    · rw [if_pos (by rw [e]), cnt1_zero (fun hm => hp.1 s hm e.symm)]
    · rw [if_neg (fun e2 => e (str_inj e2))]
      rcases List.mem_cons.1 h with h | h
      · exact absurd h e
      · rw [cnt1_one h hp.2]
theorem cnt1_le (s : ByteArray) : ∀ O : List ByteArray, cnt1 s O ≤ O.length
  | [] => Nat.le_refl _
  | o :: O => by
    have := cnt1_le s O
    rw [cnt1, List.length_cons]
    split <;> omega
theorem sentV_mem (a : List S71) (s : ByteArray) : ∀ l, s ∈ sentV a l ↔ ∃ y ∈ l, a.any (sameA y) ≠ true ∧ y.f0 = s
  | [] => by simp [sentV]
  | x :: xs => by
    rw [sentV]
    by_cases h : a.any (sameA x) = true
    · rw [if_pos h, sentV_mem a s xs]
      constructor
      · rintro ⟨y, hy, hr⟩
        exact ⟨y, List.mem_cons_of_mem _ hy, hr⟩
      · rintro ⟨y, hy, hr⟩
        rcases List.mem_cons.1 hy with rfl | hy
        · exact absurd h hr.1
        · exact ⟨y, hy, hr⟩
    · rw [if_neg h, List.mem_cons, sentV_mem a s xs]
      constructor
      · rintro (rfl | ⟨y, hy, hr⟩)
        · exact ⟨x, List.mem_cons_self, h, rfl⟩
        · exact ⟨y, List.mem_cons_of_mem _ hy, hr⟩
      · rintro ⟨y, hy, hr⟩
        rcases List.mem_cons.1 hy with rfl | hy
        · exact .inl hr.2.symm
        · exact .inr ⟨y, hy, hr⟩
theorem sentV_sub (a : List S71) : ∀ l, (sentV a l).Sublist (l.map S71.f0)
  | [] => List.Sublist.refl _
  | x :: xs => by
    rw [sentV, List.map_cons]
    split
    · exact (sentV_sub a xs).cons _
    · exact (sentV_sub a xs).cons_cons _
theorem names_ne {l : List S71} (h : l.Pairwise LL) : (l.map S71.f0).Pairwise (· ≠ ·) := by
  rw [List.pairwise_map]
  exact h.imp (fun h => LL_irr h)
theorem sameA_iff (x y : S71) : sameA x y = true ↔ x.f0 = y.f0 ∧ x.f1 = y.f1 ∧ x.f2 = y.f2 := by
  unfold sameA
  rw [Bool.and_eq_true, Bool.and_eq_true, beq_iff_eq, beq_iff_eq, beq_iff_eq]
  exact ⟨fun h => ⟨str_inj h.1, h.2⟩, fun h => ⟨by rw [h.1], h.2⟩⟩
theorem anyN_iff (l : List S71) (x : S71) : l.any (sameN x) = true ↔ ∃ y ∈ l, y.f0 = x.f0 := by
  rw [List.any_eq_true]
  exact ⟨fun ⟨y, hy, h⟩ => ⟨y, hy, str_inj (of_decide_eq_true h)⟩, fun ⟨y, hy, h⟩ => ⟨y, hy, decide_eq_true (by rw [h])⟩⟩
theorem anyA_iff (l : List S71) (x : S71) : l.any (sameA x) = true ↔ ∃ y ∈ l, x.f0 = y.f0 ∧ x.f1 = y.f1 ∧ x.f2 = y.f2 := by
  rw [List.any_eq_true]
  exact ⟨fun ⟨y, hy, h⟩ => ⟨y, hy, (sameA_iff _ _).1 h⟩, fun ⟨y, hy, h⟩ => ⟨y, hy, (sameA_iff _ _).2 h⟩⟩
theorem name_uniq {l : List S71} (h : l.Pairwise LL) {x y : S71} (hx : x ∈ l) (hy : y ∈ l) (e : x.f0 = y.f0) : x = y := by
  induction l with
  | nil => cases hx
  | cons z l ih =>
    rw [List.pairwise_cons] at h
    rcases List.mem_cons.1 hx with e1 | e1
    · rcases List.mem_cons.1 hy with e2 | e2
      · rw [e1, e2]
      · exact absurd (by rw [← e1]; exact e) (LL_irr (h.1 y e2))
    · rcases List.mem_cons.1 hy with e2 | e2
      · exact absurd (by rw [← e2]; exact e.symm) (LL_irr (h.1 x e1))
      · exact ih h.2 e1 e2
theorem gone_count (b : List S71) (hb : b.Pairwise LL) : ∀ l : List S71, l.length = cnt2 (l.map S71.f0) (b.map S71.f0) + (goneV b l).length
  | [] => rfl
  | x :: xs => by
    have ih := gone_count b hb xs
    rw [List.map_cons, cnt2, goneV, List.length_cons]
    by_cases h : b.any (sameN x) = true
    · obtain ⟨y, hy, e⟩ := (anyN_iff _ _).1 h
      rw [if_pos h, cnt1_one (by rw [← e]; exact List.mem_map_of_mem hy) (names_ne hb)]
      omega
    · rw [if_neg h, List.length_cons, cnt1_zero (fun hm => h ((anyN_iff _ _).2 (by
        obtain ⟨y, hy, e⟩ := List.mem_map.1 hm
        exact ⟨y, hy, e⟩)))]
      omega
theorem sent_count (a b : List S71) (ha : a.Pairwise LL) (hb : b.Pairwise LL) : ∀ l : List S71, (∀ y ∈ l, y ∈ b) → (sentV a l).length = cnt2 (sentV a l) (sentV b a) + (goneV a l).length
  | [], _ => rfl
  | y :: l, hl => by
    have ih := sent_count a b ha hb l (fun z hz => hl z (List.mem_cons_of_mem _ hz))
    have hyb := hl y List.mem_cons_self
    rw [sentV, goneV]
    by_cases h : a.any (sameA y) = true
    · obtain ⟨x, hx, e⟩ := (anyA_iff _ _).1 h
      rw [if_pos h, if_pos ((anyN_iff _ _).2 ⟨x, hx, e.1.symm⟩)]
      exact ih
    · rw [if_neg h, cnt2, List.length_cons]
      by_cases h2 : a.any (sameN y) = true
      · obtain ⟨x, hx, e⟩ := (anyN_iff _ _).1 h2
        rw [if_pos h2, cnt1_one ((sentV_mem _ _ _).2 ⟨x, hx, fun h3 => by
          obtain ⟨z, hz, q1, q2, q3⟩ := (anyA_iff _ _).1 h3
          have := name_uniq hb hz hyb (by rw [← q1, e])
          subst this
          exact h ((anyA_iff _ _).2 ⟨x, hx, q1.symm, q2.symm, q3.symm⟩), e⟩) ((names_ne ha).sublist (sentV_sub _ _))]
        omega
      · rw [if_neg h2, List.length_cons, cnt1_zero (fun hm => by
          obtain ⟨x, hx, _, e⟩ := (sentV_mem _ _ _).1 hm
          exact h2 ((anyN_iff _ _).2 ⟨x, hx, e⟩))]
        omega
theorem upd_count {a b : List S71} (ha : packB a = true) (hb : packB b = true) :
    a.length + (goneV a b).length = b.length + (goneV b a).length ∧ (sentV a b).length = cnt2 (sentV a b) (sentV b a) + (goneV a b).length ∧ (sentV b a).length = cnt2 (sentV a b) (sentV b a) + (goneV b a).length := by
  have pa := ((packB_iff a).1 ha).2.2
  have pb := ((packB_iff b).1 hb).2.2
  have h1 := gone_count b pb a
  have h2 := gone_count a pa b
  have h3 := sent_count a b pa pb b (fun y h => h)
  have h4 := sent_count b a pb pa a (fun y h => h)
  rw [cnt2_swap] at h2 h4
  exact ⟨by omega, h3, h4⟩

theorem law_l0 (a b : List S71) (S G O B : List ByteArray) (hS : S.length ≤ 101) (hO : O.length ≤ 101) (ha : a.length ≤ 101) (hb : b.length ≤ 101) (hG : G.length ≤ 101) (hB : B.length ≤ 101)
    (e1 : a.length + B.length = b.length + G.length) (e2 : S.length = cnt2 S O + B.length) (e3 : O.length = cnt2 S O + G.length) :
    Ev (fun k => laws_FnUpdated.l0 k a b S G O B 0 0) true := by
  have l1 : ∀ (i : Nat), i < S.length → ∀ (d j c : Nat), j + d = O.length → c ≤ 1000 * i + j →
      Ev (fun k => laws_FnUpdated.l0 k a b S G O B ((c + cnt1 (rdOf ByteArray.empty S (i : Int)) (O.drop j) : Nat) : Int) ((i + 1 : Nat) : Int)) true →
      Ev (fun k => laws_FnUpdated.l1 k a b S G O B (c : Int) (i : Int) (j : Int)) true := by
    clear e1 e2 e3
    intro i hi d
    have hi2 : i ≤ 100 := by omega
    induction d with
    | zero =>
      intro j c hj hc H
      refine ev_succ ?_
      have h1 : ¬ ((j : Int) < (O.length : Int)) := by omega
      have h4 := w64s (n := i) (by omega)
      simp only [laws_FnUpdated.l1, h1, h4, if_false]
      rw [drop_end (by omega), cnt1] at H
      exact H
    | succ d ih =>
      intro j c hj hc H
      refine ev_succ ?_
      have h1 : (j : Int) < (O.length : Int) := by omega
      have h2 : (0 : Int) ≤ (i : Int) := by omega
      have h3 : (i : Int) < (S.length : Int) := by omega
      have h5 : (0 : Int) ≤ (j : Int) := by omega
      have hj2 : j ≤ 101 := by omega
      have hc2 : c ≤ 101101 := by omega
      have h4 := w64s (n := j) (Nat.lt_of_le_of_lt hj2 (by decide))
      have h6 := w64s (n := c) (Nat.lt_of_le_of_lt hc2 (by decide))
      simp only [laws_FnUpdated.l1, h1, h2, h3, h4, h5, h6, if_true]
      clear h4 h6
      have hd : O.drop j = rdOf ByteArray.empty O (j : Int) :: O.drop (j + 1) := drop_getD ByteArray.empty O j (by omega)
      rw [hd, cnt1] at H
      refine ev_ite (fun h => ?_) (fun h => ?_)
      · rw [if_pos h] at H
        exact ih (j + 1) (c + 1) (by omega) (by omega) (by rw [Nat.add_assoc]; exact H)
      · rw [if_neg h, Nat.zero_add] at H
        exact ih (j + 1) c (by omega) (by omega) H
  have l0 : ∀ (d i c : Nat), i + d = S.length → c ≤ 1000 * i → c + cnt2 (S.drop i) O = cnt2 S O → Ev (fun k => laws_FnUpdated.l0 k a b S G O B (c : Int) (i : Int)) true := by
    intro d
    induction d with
    | zero =>
      intro i c hi hc H
      refine ev_succ ?_
      have h1 : ¬ ((i : Int) < (S.length : Int)) := by omega
      rw [drop_end (by omega), cnt2] at H
      simp only [laws_FnUpdated.l0, h1, if_false]
      rw [w64 (x := (a.length : Int) - (G.length : Int)) (by omega) (by omega), w64 (x := (b.length : Int) - (B.length : Int)) (by omega) (by omega), w64 (x := (c : Int) + (B.length : Int)) (by omega) (by omega), w64 (x := (c : Int) + (G.length : Int)) (by omega) (by omega)]
      rw [if_pos (by omega), if_pos (by omega)]
      exact ev_ret (congrArg some (beq_iff_eq.2 (by omega)))
    | succ d ih =>
      intro i c hi hc H
      refine ev_succ ?_
      have h1 : (i : Int) < (S.length : Int) := by omega
      simp only [laws_FnUpdated.l0, h1, if_true]
      have hd : S.drop i = rdOf ByteArray.empty S (i : Int) :: S.drop (i + 1) := drop_getD ByteArray.empty S i (by omega)
      rw [hd, cnt2] at H
      have hle := cnt1_le (rdOf ByteArray.empty S (i : Int)) O
      exact l1 i (by omega) O.length 0 c (by omega) (by omega) (ih (i + 1) _ (by omega) (by rw [List.drop_zero]; omega) (by rw [List.drop_zero]; omega))
  exact l0 S.length 0 0 (by omega) (by omega) (by simp)
theorem FnUpdated : laws_FnUpdated.Pure := by
  intro l0 h0 h1 hb
  have goal : Ev (fun k => laws_FnUpdated.f k l0) true := by
    unfold laws_FnUpdated.f
    simp only [laws_big.f, Option.bind_some]
    refine ev_ite (fun _ => ev_ret rfl) (fun hbig => ?_)
    · replace hbig : ¬ (l0.length : Int) > 4096 := fun h => hbig (by simpa using h)
      obtain ⟨p, hp, hd⟩ := drawUpdate_ev l0 (by omega)
      refine ev_bind hp ?_
      have q1 := hd.1.1
      have q2 := hd.2.1
      have s1 : ∀ x ∈ p.1, x.f0.size ≤ 4611686018427387904 := fun x hx => Nat.le_trans (hd.1.2 x hx) (by omega)
      have s2 : ∀ x ∈ p.2, x.f0.size ≤ 4611686018427387904 := fun x hx => Nat.le_trans (hd.2.2 x hx) (by omega)
      refine ev_bind (impl_Update_ev p.1 p.2 (by omega) (by omega)) (ev_bind (spec_Update_ev p.1 p.2 (by omega) (by omega) s1 s2) ?_)
      refine ev_pos rfl (ev_succ ?_)
      simp only [laws_FnUpdated.j0, bne_self_eq_false, Bool.false_eq_true, if_false]
      refine ev_bind (spec_PackOk_ev p.1 s1) ?_
      have bad : ¬ (packB p.1 = true ∧ packB p.2 = true) → Ev (fun k => laws_FnUpdated.j1 k p.1 p.2 (updV p.1 p.2).1 (updV p.1 p.2).2 true) true := by
        intro h
        refine ev_succ ?_
        simp only [laws_FnUpdated.j1, if_true, updV, if_neg h]
        exact ev_ret (congrArg some (beq_iff_eq.2 (w64 (x := 0) (by decide) (by decide))))
      refine ev_ite (fun e1 => ?_) (fun e1 => bad (fun h => e1 h.1))
      refine ev_bind (spec_PackOk_ev p.2 s2) ?_
      by_cases e2 : packB p.2 = true
      · rw [e2]
        refine ev_succ ?_
        simp only [laws_FnUpdated.j1, Bool.not_true, Bool.false_eq_true, if_false]
        refine ev_bind (impl_Update_ev p.2 p.1 (by omega) (by omega)) ?_
        have u1 : updV p.1 p.2 = (sentV p.1 p.2, goneV p.2 p.1) := by rw [updV, if_pos ⟨e1, e2⟩]
        have u2 : updV p.2 p.1 = (sentV p.2 p.1, goneV p.1 p.2) := by rw [updV, if_pos ⟨e2, e1⟩]
        rw [u1, u2]
        obtain ⟨c1, c2, c3⟩ := upd_count e1 e2
        have l1 := sentV_len p.1 p.2
        have l2 := sentV_len p.2 p.1
        have l3 := goneV_len p.1 p.2
        have l4 := goneV_len p.2 p.1
        exact law_l0 p.1 p.2 (sentV p.1 p.2) (goneV p.2 p.1) (sentV p.2 p.1) (goneV p.1 p.2) (by omega) (by omega) (by omega) (by omega) (by omega) (by omega) c1 c2 c3
      · rw [Bool.eq_false_iff.2 e2]
        exact bad (fun h => e2 h.2)
  obtain ⟨n, hn⟩ := goal
  exact ⟨n, hn n (Nat.le_refl _)⟩
end Go.Proofs.Ytelcpfanjjfgdaa.Pure
