/-
  The plain statement of FnExactPack: an insertion that refuses what is there twice, and a sort that is looked at behind it, come to the same package; what is marked is no part of the answers.
  Conditions: the statement's own.
-/
import Derived.Test.YtelcpfanjjfgdaaHFnExactPackx0
import Derived.Test.YtelcpfanjjfgdaaHFnExactPackx1
import Derived.Test.YtelcpfanjjfgdaaHFnExactPackx2
import Derived.Test.YtelcpfanjjfgdaaHFnExactPackx3
import Derived.Test.YtelcpfanjjfgdaaHFnExactPackx4
import Derived.Test.YtelcpfanjjfgdaaHFnExactPackx5
import Derived.Test.YtelcpfanjjfgdaaHFnExactPackx6
import Derived.Test.YtelcpfanjjfgdaaHFnExactPackx7
import Derived.Test.YtelcpfanjjfgdaaHFnExactPackx8
import Derived.Test.YtelcpfanjjfgdaaHFnExactPackx9
import Derived.Test.YtelcpfanjjfgdaaHFnExactPackx10
import Derived.Test.YtelcpfanjjfgdaaPureBase
import Derived.Laws.BitsLemmas
namespace Go.Proofs.Ytelcpfanjjfgdaa.Pure
open Go.RowKit Go.Proofs.Ytelcpfanjjfgdaa.HFnExactPack Go.Proofs.YtelcpfanjjfgdaaW.PrintWords Go.Proofs.YtelcpfanjjfgdaaW.PrintLast Go.Proofs.YtelcpfanjjfgdaaW.PrintMore Go.Proofs.Ytelcpfanjjfgdaa.PB
set_option linter.unusedVariables false
set_option linter.unusedSimpArgs false
/-! #### laws_toByteS, laws_eqByteS -/
theorem toByteS_ev (xs : List Int) (h : xs.length ≤ 1048576) : Ev (fun k => laws_toByteS.f k xs) xs := by
  have key : ∀ d i, i + d = xs.length → Ev (fun k => laws_toByteS.l0 k xs ((xs.take i).map id ++ List.replicate (xs.length - i) 0) (i : Int)) (xs.map id) := by
    intro d
    induction d with
    | zero =>
      intro i hi
      refine ev_succ ?_
      have h1 : ¬ ((i : Int) < (xs.length : Int)) := by omega
      simp only [laws_toByteS.l0, h1, if_false]
      obtain rfl : i = xs.length := by omega
      exact ev_ret (by rw [fill_all])
    | succ d ih =>
      intro i hi
      have hlt : i < xs.length := by omega
      refine ev_succ ?_
      have h1 : (i : Int) < (xs.length : Int) := by omega
      have h2 : (0 : Int) ≤ (i : Int) := by omega
      have h3 : (i : Int) < ((((xs.take i).map id ++ List.replicate (xs.length - i) (0 : Int)).length : Nat) : Int) := by rw [fill_len _ _ _ _ (by omega)]; omega
      have h4 := w64s (n := i) (by omega)
      simp only [laws_toByteS.l0, h1, h2, h3, if_true, h4]
      have := ih (i + 1) (by omega)
      rw [← fill_set id 0 0 xs i hlt] at this
      exact this
  have h1 : (0 : Int) ≤ (xs.length : Int) := by omega
  have h2 : xs.length ≤ 281474976710656 := by omega
  simp only [laws_toByteS.f, h1, Int.toNat_natCast, h2, if_true]
  have := key xs.length 0 (by omega)
  rw [← fill_none id 0 xs, List.map_id] at this
  exact this
theorem eqByteS_ev (xs ys : List Int) (h : xs.length ≤ 4611686018427387904) : Ev (fun k => laws_eqByteS.f k xs ys) (decide (xs = ys)) := by
  have key : ∀ d i, i + d = xs.length → xs.length = ys.length → Ev (fun k => laws_eqByteS.l0 k xs ys (i : Int)) (decide (xs.drop i = ys.drop i)) := by
    intro d
    induction d with
    | zero =>
      intro i hi hl
      refine ev_succ ?_
      have h1 : ¬ ((i : Int) < (xs.length : Int)) := by omega
      simp only [laws_eqByteS.l0, h1, if_false]
      exact ev_ret (by rw [drop_end (by omega), drop_end (by omega)]; simp)
    | succ d ih =>
      intro i hi hl
      refine ev_succ ?_
      have h1 : (i : Int) < (xs.length : Int) := by omega
      have h2 : (0 : Int) ≤ (i : Int) := by omega
      have h3 : (i : Int) < (ys.length : Int) := by omega
      have h4 := w64s (n := i) (by omega)
      simp only [laws_eqByteS.l0, h1, h2, h3, if_true, h4]
      rw [drop_rd xs i (by omega), drop_rd ys i (by omega)]
      by_cases he : rd xs (i : Int) = rd ys (i : Int)
      · simp only [he, if_true]
        exact ev_eq (ih (i + 1) (by omega) hl) (by simp)
      · simp only [he, if_false]
        exact ev_ret (by simp [he])
  by_cases hl : xs.length = ys.length
  · have h1 : (xs.length : Int) = (ys.length : Int) := by omega
    simp only [laws_eqByteS.f, h1, if_true]
    exact ev_eq (key xs.length 0 (by omega) hl) (by simp)
  · have h1 : ¬ (xs.length : Int) = (ys.length : Int) := by omega
    simp only [laws_eqByteS.f, h1, if_false]
    exact ev_ret (by
      have : xs ≠ ys := fun e => hl (by rw [e])
      simp [this])

theorem impl_in_eq (a lo hi : Int) : impl_in.f a lo hi = some (decide (lo ≤ a ∧ a ≤ hi)) := by
  unfold impl_in.f
  by_cases h : lo ≤ a
  · rw [if_pos h]; simp [h]
  · rw [if_neg h]; simp; omega

/-! #### bytes of a string, by their index -/
theorem drop_bt (s : ByteArray) (i : Nat) (h : i < s.size) : (bytesOf s).drop i = bt s (i : Int) :: (bytesOf s).drop (i + 1) := by
  rw [drop_rd _ i (by rw [bytesOf_length]; exact h), rd_bytesOf]
def lexB : List Int → List Int → Bool
  | _, [] => false
  | [], _ :: _ => true
  | a :: x, b :: y => if a = b then lexB x y else decide (a < b)
theorem bytesLess_lex : ∀ x y : List UInt8, Op.bytesLess x y = lexB (x.map fun b => (b.toNat : Int)) (y.map fun b => (b.toNat : Int))
  | [], [] => by simp [Op.bytesLess, lexB]
  | _ :: _, [] => by simp [Op.bytesLess, lexB]
  | [], _ :: _ => by simp [Op.bytesLess, lexB]
  | a :: x, b :: y => by
    rw [Op.bytesLess, bytesLess_lex x y]
    simp only [List.map_cons, lexB]
    by_cases h : a = b
    · subst h
      simp
    · have h1 : ¬ ((a.toNat : Int) = (b.toNat : Int)) := fun e => h (UInt8.toNat_inj.1 (by omega))
      rw [if_neg h1]
      simp only [h, beq_eq_false_iff_ne.2 h, Bool.false_and, Bool.or_false]
      rw [decide_eq_decide]
      rw [UInt8.lt_iff_toNat_lt]
      omega
theorem bytesLess_bytesOf (a b : ByteArray) : Op.bytesLess a.toList b.toList = lexB (bytesOf a) (bytesOf b) := by
  rw [bytesLess_lex, ByteArray.toList_eq, ByteArray.toList_eq]
  rfl

def allFrom (p : Nat → Bool) : Nat → Nat → Bool
  | 0, _ => true
  | d + 1, i => p i && allFrom p d (i + 1)
theorem allFrom_at {p : Nat → Bool} : ∀ {d i : Nat}, allFrom p d i = true → ∀ j, i ≤ j → j < i + d → p j = true
  | 0, i, _, j, h1, h2 => absurd h2 (by omega)
  | d + 1, i, h, j, h1, h2 => by
    rw [allFrom, Bool.and_eq_true] at h
    rcases Nat.eq_or_lt_of_le h1 with rfl | h3
    · exact h.1
    · exact allFrom_at h.2 j (by omega) (by omega)

/-! #### PackOk -/
def okc (c : Int) : Bool := decide ((48 ≤ c ∧ c ≤ 57) ∨ (97 ≤ c ∧ c ≤ 122) ∨ (65 ≤ c ∧ c ≤ 90) ∨ c = 95 ∨ c = 46)
def nameB (s : ByteArray) : Bool := decide (1 ≤ s.size ∧ s.size ≤ 40) && (bytesOf s).all okc
theorem spec_Name_ev (s : ByteArray) : Ev (fun k => spec_l15Name.f k s) (nameB s) := by
  have key : ∀ d i, s.size ≤ 40 → i + d = s.size → Ev (fun k => spec_l15Name.l0 k s (i : Int)) (((bytesOf s).drop i).all okc) := by
    intro d
    induction d with
    | zero =>
      intro i hs hi
      refine ev_succ ?_
      have h1 : ¬ (i : Int) < (s.size : Int) := by omega
      simp only [spec_l15Name.l0, h1, if_false]
      exact ev_ret (by rw [drop_end (by rw [bytesOf_length]; omega)]; rfl)
    | succ d ih =>
      intro i hs hi
      refine ev_succ ?_
      have h1 : (i : Int) < (s.size : Int) := by omega
      have h2 : (0 : Int) ≤ (i : Int) := by omega
      have h4 := w64s (n := i) (by omega)
      have hih := ih (i + 1) hs (by omega)
      simp only [spec_l15Name.l0, h1, h2, h4, if_true]
      rw [drop_bt s i (by omega), List.all_cons]
      generalize bt s (i : Int) = c
      have yes : okc c = true → Ev (fun k => spec_l15Name.l0 k s ((i + 1 : Nat) : Int)) (okc c && ((bytesOf s).drop (i + 1)).all okc) := fun h => by rw [h, Bool.true_and]; exact hih
      have no : okc c = false → Ev (fun _ => some false) (okc c && ((bytesOf s).drop (i + 1)).all okc) := fun h => by rw [h, Bool.false_and]; exact ev_ret rfl
      repeat' (refine ev_ite (fun _ => ?_) (fun _ => ?_))
      all_goals first | exact yes (decide_eq_true (by omega)) | exact no (decide_eq_false (by omega))
  unfold nameB
  simp only [spec_l15Name.f]
  refine ev_ite (fun h => ?_) (fun h => ?_)
  · refine ev_succ ?_
    simp only [spec_l15Name.j0, if_true]
    exact ev_ret (by rw [decide_eq_false (by omega)]; rfl)
  · refine ev_succ ?_
    by_cases h2 : (s.size : Int) > 40
    · simp only [spec_l15Name.j0, decide_eq_true h2, if_true]
      exact ev_ret (by rw [decide_eq_false (by omega)]; rfl)
    · simp only [spec_l15Name.j0, decide_eq_false h2, Bool.false_eq_true, if_false]
      exact ev_eq (key s.size 0 (by omega) (by omega)) (by rw [decide_eq_true (by omega)]; simp)
theorem impl_Name_ev (s : ByteArray) : Ev (fun k => impl_assetName.f k s) (nameB s) := by
  have hle : ∀ c, impl_isLetter.f c = some (decide ((97 ≤ c ∧ c ≤ 122) ∨ (65 ≤ c ∧ c ≤ 90))) := by
    intro c
    unfold impl_isLetter.f
    repeat' split
    all_goals (congr 1; first | (rw [decide_eq_decide]; omega) | (symm; first | exact decide_eq_true (by omega) | exact decide_eq_false (by omega)))
  have hdi : ∀ c, impl_isDigit.f c = some (decide (48 ≤ c ∧ c ≤ 57)) := by
    intro c
    unfold impl_isDigit.f
    split
    all_goals (congr 1; first | (rw [decide_eq_decide]; omega) | (symm; first | exact decide_eq_true (by omega) | exact decide_eq_false (by omega)))
  have key : ∀ d i, s.size ≤ 40 → i + d = s.size → Ev (fun k => impl_assetName.l0 k s (s.size : Int) (i : Int)) (((bytesOf s).drop i).all okc) := by
    intro d
    induction d with
    | zero =>
      intro i hs hi
      refine ev_succ ?_
      have h1 : ¬ (i : Int) < (s.size : Int) := by omega
      simp only [impl_assetName.l0, h1, if_false]
      exact ev_ret (by rw [drop_end (by rw [bytesOf_length]; omega)]; rfl)
    | succ d ih =>
      intro i hs hi
      refine ev_succ ?_
      have h1 : (i : Int) < (s.size : Int) := by omega
      have h2 : (0 : Int) ≤ (i : Int) := by omega
      have h4 := w64s (n := i) (by omega)
      have hih := ih (i + 1) hs (by omega)
      simp only [impl_assetName.l0, h1, h2, h4, if_true, hle, hdi, Option.bind_some, decide_eq_true_eq]
      rw [drop_bt s i (by omega), List.all_cons]
      generalize bt s (i : Int) = c
      have yes : okc c = true → Ev (fun k => impl_assetName.l0 k s (s.size : Int) ((i + 1 : Nat) : Int)) (okc c && ((bytesOf s).drop (i + 1)).all okc) := fun h => by rw [h, Bool.true_and]; exact hih
      have no : okc c = false → Ev (fun _ => some false) (okc c && ((bytesOf s).drop (i + 1)).all okc) := fun h => by rw [h, Bool.false_and]; exact ev_ret rfl
      repeat' (refine ev_ite (fun _ => ?_) (fun _ => ?_))
      all_goals first | exact yes (decide_eq_true (by omega)) | exact no (decide_eq_false (by omega))
  unfold nameB
  simp only [impl_assetName.f, impl_in_eq, Option.bind_some]
  refine ev_ifb (fun h => ?_) (fun h => ?_)
  · have h' := of_decide_eq_true h
    exact ev_eq (key s.size 0 (by omega) (by omega)) (by rw [decide_eq_true (by omega)]; simp)
  · have h' := of_decide_eq_false h
    exact ev_ret (by rw [decide_eq_false (by omega)]; rfl)
theorem spec_Before_ev (a b : ByteArray) (ha : a.size ≤ 4611686018427387904) : Ev (fun k => spec_l15Before.f k a b) (lexB (bytesOf a) (bytesOf b)) := by
  have key : ∀ d i, i + d = a.size → i ≤ b.size → Ev (fun k => spec_l15Before.l0 k a b (i : Int)) (lexB ((bytesOf a).drop i) ((bytesOf b).drop i)) := by
    intro d
    induction d with
    | zero =>
      intro i hi hb
      refine ev_succ ?_
      have h1 : ¬ (i : Int) < (a.size : Int) := by omega
      simp only [spec_l15Before.l0, h1, if_false]
      refine ev_succ ?_
      simp only [spec_l15Before.j1, Bool.false_eq_true, if_false]
      refine ev_ret ?_
      rw [drop_end (by rw [bytesOf_length]; omega)]
      by_cases h2 : i < b.size
      · rw [drop_bt b i h2, decide_eq_true (by omega)]; rfl
      · rw [drop_end (by rw [bytesOf_length]; omega), decide_eq_false (by omega)]; rfl
    | succ d ih =>
      intro i hi hb
      refine ev_succ ?_
      have h1 : (i : Int) < (a.size : Int) := by omega
      have h3 : (0 : Int) ≤ (i : Int) := by omega
      have h4 := w64s (n := i) (by omega)
      simp only [spec_l15Before.l0, h1, if_true]
      refine ev_succ ?_
      by_cases h2 : (i : Int) < (b.size : Int)
      · simp only [spec_l15Before.j1, decide_eq_true h2, if_true, h1, h2, h3, h4]
        rw [drop_bt a i (by omega), drop_bt b i (by omega), lexB]
        by_cases he : bt a (i : Int) = bt b (i : Int)
        · simp only [he, if_true]
          exact ih (i + 1) (by omega) (by omega)
        · simp only [he, if_false]
          exact ev_ret rfl
      · simp only [spec_l15Before.j1, decide_eq_false h2, Bool.false_eq_true, if_false]
        refine ev_ret ?_
        rw [drop_end (xs := bytesOf b) (by rw [bytesOf_length]; omega), decide_eq_false (by omega)]
        cases (bytesOf a).drop i <;> rfl
  exact key a.size 0 (by omega) (by omega)
/-- One asset behind the one ahead of it. -/
def assetB (xs : List S71) (i : Nat) : Bool :=
  nameB (rd_T71 xs (i : Int)).f0 && decide (0 ≤ (rd_T71 xs (i : Int)).f1 ∧ (rd_T71 xs (i : Int)).f1 ≤ 40000) && decide (0 ≤ (rd_T71 xs (i : Int)).f2 ∧ (rd_T71 xs (i : Int)).f2 ≤ 1000000006)
    && (decide (i = 0) || lexB (bytesOf (rd_T71 xs ((i - 1 : Nat) : Int)).f0) (bytesOf (rd_T71 xs (i : Int)).f0))
def packB (xs : List S71) : Bool := decide (xs.length ≤ 100) && allFrom (assetB xs) xs.length 0
theorem impl_PackOk_ev (xs : List S71) (hl : xs.length ≤ 4611686018427387904) : Ev (fun k => impl_PackOk.f k xs) (packB xs) := by
  have key : ∀ d i, i + d = xs.length → Ev (fun k => impl_PackOk.l0 k xs xs (xs.length : Int) (i : Int)) (decide (xs.length ≤ 100) && allFrom (assetB xs) d i) := by
    intro d
    induction d with
    | zero =>
      intro i hi
      refine ev_succ ?_
      have h1 : ¬ (i : Int) < (xs.length : Int) := by omega
      simp only [impl_PackOk.l0, h1, if_false]
      exact ev_ret (by rw [allFrom, Bool.and_true]; congr 1; rw [decide_eq_decide]; omega)
    | succ d ih =>
      intro i hi
      refine ev_succ ?_
      have h1 : (i : Int) < (xs.length : Int) := by omega
      have h2 : (0 : Int) ≤ (i : Int) := by omega
      have h4 := w64s (n := i) (by omega)
      simp only [impl_PackOk.l0, h1, h2, h4, if_true]
      rw [allFrom, assetB]
      have no : ∀ b : Bool, b = false → Ev (fun k => some false) (decide (xs.length ≤ 100) && (b && allFrom (assetB xs) d (i + 1))) := fun b hb => by rw [hb, Bool.false_and, Bool.and_false]; exact ev_ret rfl
      refine ev_bind (impl_Name_ev _) ?_
      refine ev_ifb (fun e1 => ?_) (fun e1 => no _ (by rw [e1]; rfl))
      rw [e1, Bool.true_and]
      simp only [impl_in_eq, Option.bind_some]
      refine ev_ifb (fun e2 => ?_) (fun e2 => no _ (by rw [e2]; rfl))
      rw [e2, Bool.true_and]
      refine ev_ifb (fun e3 => ?_) (fun e3 => no _ (by rw [e3]; rfl))
      rw [e3, Bool.true_and]
      refine ev_ite (fun h5 => ?_) (fun h5 => ?_)
      · have h6 : wrap64 ((i : Int) - 1) = ((i - 1 : Nat) : Int) := by rw [w64 (by omega) (by omega)]; omega
        have h7 : (0 : Int) ≤ ((i - 1 : Nat) : Int) := by omega
        have h8 : ((i - 1 : Nat) : Int) < (xs.length : Int) := by omega
        simp only [h6, h7, h8, if_true, bytesLess_bytesOf]
        rw [decide_eq_false (show ¬ i = 0 by omega), Bool.false_or]
        refine ev_ifb (fun e4 => ?_) (fun e4 => no _ e4)
        rw [e4, Bool.true_and]
        exact ih (i + 1) (by omega)
      · rw [decide_eq_true (show i = 0 by omega), Bool.true_or, Bool.true_and]
        exact ih (i + 1) (by omega)
  exact key xs.length 0 (by omega)

/-! #### Digest -/
def dstep (h x : Int) : Int := Int.tmod (wrap64 ((wrap64 ((wrap64 (h * 257)) + (wrap64 x))) + 1)) 1000000007
def dig (xs : List Int) : Int := (xs.take 40000).foldl dstep 0
theorem spec_Digest_ev (xs : List Int) : Ev (fun k => spec_Digest.f k xs) (dig xs) := by
  have key : ∀ d i (h : Int), i + d = (xs.take 40000).length → Ev (fun k => spec_Digest.l0 k xs h (i : Int)) (((xs.take 40000).drop i).foldl dstep h) := by
    intro d
    induction d with
    | zero =>
      intro i h hi
      refine ev_succ ?_
      rw [drop_end (by omega)]
      by_cases h1 : (i : Int) < (xs.length : Int)
      · have h2 : ¬ (i : Int) < 40000 := by rw [List.length_take] at hi; omega
        simp only [spec_Digest.l0, h1, h2, if_true, if_false]
        exact ev_ret rfl
      · simp only [spec_Digest.l0, h1, if_false]
        exact ev_ret rfl
    | succ d ih =>
      intro i h hi
      refine ev_succ ?_
      have h0 : i < (xs.take 40000).length := by omega
      rw [List.length_take] at hi
      have h1 : (i : Int) < (xs.length : Int) := by omega
      have h2 : (i : Int) < 40000 := by omega
      have h3 : (0 : Int) ≤ (i : Int) := by omega
      have h4 := w64s (n := i) (by omega)
      simp only [spec_Digest.l0, h1, h2, h3, if_true, h4]
      rw [drop_rd _ i h0, List.foldl_cons]
      have he : rd (xs.take 40000) (i : Int) = rd xs (i : Int) := by
        simp only [rd_nat, List.getD_eq_getElem?_getD]
        rw [List.getElem?_take_of_lt (by omega)]
      rw [he]
      exact ih (i + 1) _ (by rw [List.length_take]; omega)
  exact key (xs.take 40000).length 0 0 (by omega)
theorem impl_Digest_ev (xs : List Int) : Ev (fun k => impl_Digest.f k xs) (dig xs) := by
  have key : ∀ (ys : List Int) d i (h : Int), ys.length ≤ 40000 → i + d = ys.length → Ev (fun k => impl_Digest.l0 k h ys (ys.length : Int) (i : Int)) ((ys.drop i).foldl dstep h) := by
    intro ys d
    induction d with
    | zero =>
      intro i h hl hi
      refine ev_succ ?_
      rw [drop_end (by omega)]
      have h1 : ¬ (i : Int) < (ys.length : Int) := by omega
      simp only [impl_Digest.l0, h1, if_false]
      exact ev_ret rfl
    | succ d ih =>
      intro i h hl hi
      refine ev_succ ?_
      have h1 : (i : Int) < (ys.length : Int) := by omega
      have h3 : (0 : Int) ≤ (i : Int) := by omega
      have h4 := w64s (n := i) (by omega)
      simp only [impl_Digest.l0, h1, h3, if_true, h4, impl_stepped.f, Option.bind_some]
      rw [drop_rd _ i (by omega), List.foldl_cons]
      exact ih (i + 1) _ hl (by omega)
  have hm : mn (xs.length : Int) 40000 = ((xs.take 40000).length : Int) := by unfold mn; rw [List.length_take]; split <;> omega
  have h0 : (0 : Int) ≤ ((xs.take 40000).length : Int) := by omega
  have h1 : ((xs.take 40000).length : Int) ≤ (xs.length : Int) := by rw [List.length_take]; omega
  have h2 : xs.take (xs.take 40000).length = xs.take 40000 := by
    rw [List.length_take]
    rcases Nat.le_total 40000 xs.length with h | h
    · rw [Nat.min_eq_left h]
    · rw [Nat.min_eq_right h, List.take_of_length_le (Nat.le_refl _), List.take_of_length_le h]
  simp only [impl_Digest.f, hm, h0, h1, if_true, Int.toNat_natCast, h2]
  exact key (xs.take 40000) (xs.take 40000).length 0 0 (by rw [List.length_take]; omega) (by omega)

/-! #### strings: equal to themselves, marked -/
theorem str_inj {a b : ByteArray} (h : a.toList = b.toList) : a = b := by
  rw [ByteArray.toList_eq, ByteArray.toList_eq] at h
  exact ByteArray.ext (Array.toList_inj.mp h)
theorem eqStringS_refl (xs : List ByteArray) (h : xs.length ≤ 4611686018427387904) : Ev (fun k => laws_eqStringS.f k xs xs) true := by
  have key : ∀ d i, i + d = xs.length → Ev (fun k => laws_eqStringS.l0 k xs xs (i : Int)) true := by
    intro d
    induction d with
    | zero =>
      intro i hi
      refine ev_succ ?_
      have h1 : ¬ ((i : Int) < (xs.length : Int)) := by omega
      simp only [laws_eqStringS.l0, h1, if_false]
      exact ev_ret rfl
    | succ d ih =>
      intro i hi
      refine ev_succ ?_
      have h1 : (i : Int) < (xs.length : Int) := by omega
      have h2 : (0 : Int) ≤ (i : Int) := by omega
      have h4 := w64s (n := i) (by omega)
      simp only [laws_eqStringS.l0, h1, h2, if_true, h4]
      exact ih (i + 1) (by omega)
  simp only [laws_eqStringS.f, if_true]
  exact key xs.length 0 (by omega)
theorem markText_evp (n : Int) (h0 : 0 ≤ n) (h1 : n < 10000000000000) : EvP (fun k => laws_markText.f k n) (fun _ => True) := by
  have key : ∀ (d : Nat) (n : Int) (s : ByteArray), 0 ≤ n → n < 10 ^ d → n < 10000000000000 → s.size + d ≤ 1000 → EvP (fun k => laws_markText.l0 k n s) (fun _ => True) := by
    intro d
    induction d with
    | zero =>
      intro n s h0 h1 h2 hs
      refine evp_succ ?_
      simp only [laws_markText.l0]
      have : n < 1 := by simpa using h1
      exact evp_neg (by omega) (evp_pos (by omega) (evp_now trivial))
    | succ d ih =>
      intro n s h0 h1 h2 hs
      refine evp_succ ?_
      simp only [laws_markText.l0, Option.bind_some]
      refine evp_ite (fun hp => ?_) (fun hp => evp_pos (by omega) (evp_now trivial))
      have hz : (strOfNums [(wrap64 (48 + (Int.tmod n 10))) % 256]).size = 1 := rfl
      refine evp_pos (by rw [hz]; omega) ?_
      have e : Int.tdiv n 10 = n / 10 := Int.tdiv_eq_ediv_of_nonneg h0
      have hlt : n / 10 < 10 ^ d := by
        have : (10 : Int) ^ (d + 1) = 10 ^ d * 10 := Int.pow_succ 10 d
        omega
      rw [e, w64 (by omega) (by omega)]
      exact ih _ _ (by omega) hlt (by omega) (by rw [ByteArray.size_append, hz]; omega)
  unfold laws_markText.f
  refine evp_ite (fun _ => evp_now trivial) (fun _ => ?_)
  exact key 13 n _ h0 (by simpa using h1) h1 (by have : (⟨#[]⟩ : ByteArray).size = 0 := rfl; omega)
/-- What markText gives, as a function. -/
def MT (mt : Int → ByteArray) : Prop := ∀ n, 0 ≤ n → n < 10000000000000 → Ev (fun k => laws_markText.f k n) (mt n)
theorem mt_all : ∃ mt : Int → ByteArray, MT mt := by
  have h : ∀ n : Int, ∃ t : ByteArray, 0 ≤ n → n < 10000000000000 → Ev (fun k => laws_markText.f k n) t := by
    intro n
    by_cases h0 : 0 ≤ n ∧ n < 10000000000000
    · obtain ⟨r, hr, _⟩ := markText_evp n h0.1 h0.2
      exact ⟨r, fun _ _ => hr⟩
    · exact ⟨ByteArray.empty, fun h1 h2 => absurd ⟨h1, h2⟩ h0⟩
  exact Classical.axiomOfChoice h

/-! #### strictly in order -/
theorem lexB_irrefl : ∀ a : List Int, lexB a a = false
  | [] => rfl
  | a :: x => by rw [lexB, if_pos rfl]; exact lexB_irrefl x
theorem lexB_trans : ∀ a b c : List Int, lexB a b = true → lexB b c = true → lexB a c = true
  | _, [], _, h, _ => by simp [lexB] at h
  | a, b :: y, [], _, h => by simp [lexB] at h
  | [], b :: y, c :: z, _, _ => rfl
  | a :: x, b :: y, c :: z, h1, h2 => by
    rw [lexB] at h1 h2 ⊢
    by_cases e1 : a = b
    · rw [if_pos e1] at h1
      by_cases e2 : b = c
      · rw [if_pos e2] at h2
        rw [if_pos (e1.trans e2)]
        exact lexB_trans x y z h1 h2
      · rw [if_neg e2] at h2
        rw [if_neg (by omega), e1]
        exact h2
    · rw [if_neg e1] at h1
      have l1 := of_decide_eq_true h1
      by_cases e2 : b = c
      · rw [if_neg (by omega)]
        exact decide_eq_true (by omega)
      · rw [if_neg e2] at h2
        have l2 := of_decide_eq_true h2
        rw [if_neg (by omega)]
        exact decide_eq_true (by omega)
def nmAt (xs : List S71) (i : Nat) : ByteArray := (rd_T71 xs (i : Int)).f0
theorem pack_lt {xs : List S71} (h : packB xs = true) : ∀ (d i : Nat), 0 < d → i + d < xs.length → lexB (bytesOf (nmAt xs i)) (bytesOf (nmAt xs (i + d))) = true := by
  rw [packB, Bool.and_eq_true] at h
  have one : ∀ i, 0 < i → i < xs.length → lexB (bytesOf (nmAt xs (i - 1))) (bytesOf (nmAt xs i)) = true := by
    intro i h0 hi
    have := allFrom_at h.2 i (by omega) (by omega)
    rw [assetB, Bool.and_eq_true] at this
    have h2 := this.2
    rw [decide_eq_false (show ¬ i = 0 by omega), Bool.false_or] at h2
    exact h2
  intro d
  induction d with
  | zero => intro i h0; omega
  | succ d ih =>
    intro i _ hi
    have h1 := one (i + (d + 1)) (by omega) hi
    rw [show i + (d + 1) - 1 = i + d by omega] at h1
    rcases Nat.eq_zero_or_pos d with h0 | h0
    · subst h0; exact h1
    · exact lexB_trans _ _ _ (ih i h0 (by omega)) h1
theorem pack_uniq {xs : List S71} (h : packB xs = true) {i j : Nat} (hi : i < xs.length) (hj : j < xs.length) (e : nmAt xs i = nmAt xs j) : i = j := by
  rcases Nat.lt_trichotomy i j with hlt | heq | hlt
  · have := pack_lt h (j - i) i (by omega) (by omega)
    rw [show i + (j - i) = j by omega, e, lexB_irrefl] at this
    cases this
  · exact heq
  · have := pack_lt h (i - j) j (by omega) (by omega)
    rw [show j + (i - j) = i by omega, e, lexB_irrefl] at this
    cases this

/-! #### lists in order -/
def LL (x y : S71) : Prop := lexB (bytesOf x.f0) (bytesOf y.f0) = true
theorem LL_trans {x y z : S71} (h1 : LL x y) (h2 : LL y z) : LL x z := lexB_trans _ _ _ h1 h2
theorem LL_irr {x y : S71} (h : LL x y) : x.f0 ≠ y.f0 := by
  intro e
  unfold LL at h
  rw [e, lexB_irrefl] at h
  cases h
theorem LL_less (x y : S71) : Op.bytesLess x.f0.toList y.f0.toList = true ↔ LL x y := by rw [bytesLess_bytesOf]; exact Iff.rfl
theorem LL_tot {x y : S71} (h : ¬ LL x y) (hn : x.f0 ≠ y.f0) : LL y x := by
  rw [← LL_less] at h ⊢
  have t := less_or x.f0.toList y.f0.toList
  have h0 : Op.bytesLess x.f0.toList y.f0.toList = false := by simpa using h
  have h1 : (x.f0.toList == y.f0.toList) = false := by
    rw [beq_eq_false_iff_ne]
    exact fun e => hn (str_inj e)
  rw [h0, h1] at t
  simpa using t
theorem strict_unique : ∀ {X S : List S71}, X.Perm S → S.Pairwise LL → X.Pairwise LL → X = S
  | [], S, hp, _, _ => (List.nil_perm.1 hp).symm ▸ rfl
  | b :: X, [], hp, _, _ => by simpa using hp.length_eq
  | b :: X, a :: S, hp, hS, hX => by
    have ha : a ∈ b :: X := hp.symm.subset (List.mem_cons_self)
    have hb : b ∈ a :: S := hp.subset (List.mem_cons_self)
    have e : a = b := by
      rcases List.mem_cons.1 ha with h | h
      · exact h
      · rcases List.mem_cons.1 hb with h2 | h2
        · exact h2.symm
        · exact absurd rfl (LL_irr (LL_trans ((List.pairwise_cons.1 hX).1 a h) ((List.pairwise_cons.1 hS).1 b h2)))
    subst e
    rw [strict_unique hp.cons_inv (List.pairwise_cons.1 hS).2 (List.pairwise_cons.1 hX).2]
theorem allFrom_of {p : Nat → Bool} : ∀ {d i : Nat}, (∀ j, i ≤ j → j < i + d → p j = true) → allFrom p d i = true
  | 0, _, _ => rfl
  | d + 1, i, h => by
    rw [allFrom, h i (by omega) (by omega), Bool.true_and]
    exact allFrom_of (fun j h1 h2 => h j (by omega) (by omega))
def okA (x : S71) : Prop := nameB x.f0 = true ∧ (0 ≤ x.f1 ∧ x.f1 ≤ 40000) ∧ 0 ≤ x.f2 ∧ x.f2 ≤ 1000000006
theorem rd_get {X : List S71} {i : Nat} (hi : i < X.length) : rd_T71 X (i : Int) = X[i] := by simp [rd_T71, hi]
theorem packB_iff (X : List S71) : packB X = true ↔ X.length ≤ 100 ∧ (∀ x ∈ X, okA x) ∧ X.Pairwise LL := by
  constructor
  · intro h
    refine ⟨?_, fun x hx => ?_, ?_⟩
    · rw [packB, Bool.and_eq_true] at h
      exact of_decide_eq_true h.1
    · obtain ⟨i, hi, rfl⟩ := List.getElem_of_mem hx
      rw [packB, Bool.and_eq_true] at h
      have := allFrom_at h.2 i (by omega) (by omega)
      simp only [assetB, Bool.and_eq_true, decide_eq_true_eq, rd_get hi] at this
      exact ⟨this.1.1.1, this.1.1.2, this.1.2⟩
    · rw [List.pairwise_iff_getElem]
      intro i j hi hj hlt
      have := pack_lt h (j - i) i (by omega) (by omega)
      rw [show i + (j - i) = j by omega, nmAt, nmAt, rd_get hi, rd_get hj] at this
      exact this
  · rintro ⟨hl, hv, hp⟩
    rw [packB, decide_eq_true hl, Bool.true_and]
    refine allFrom_of fun j _ hj => ?_
    have hj2 : j < X.length := by omega
    obtain ⟨h1, h2, h3⟩ := hv _ (List.getElem_mem hj2)
    simp only [assetB, Bool.and_eq_true, decide_eq_true_eq, rd_get hj2, Bool.or_eq_true]
    refine ⟨⟨⟨h1, h2⟩, h3⟩, ?_⟩
    by_cases h0 : j = 0
    · exact .inl h0
    · have hj3 : j - 1 < X.length := by omega
      rw [rd_get hj3]
      exact .inr (List.pairwise_iff_getElem.1 hp (j - 1) j hj3 hj2 (by omega))
theorem sortA_perm (l : List S71) : (sortA l).Perm l := by
  have h := (sortA_spec l).1.2.2
  have e := (sortA_spec l).1.1
  unfold sortA
  have e1 : (l.toArray.extract 0 l.toArray.size).toList = l := by simp
  have e2 : ∀ d : Array S71, d.size = l.toArray.size → (d.extract 0 l.toArray.size).toList = d.toList := by
    intro d hd
    rw [← hd]
    simp
  rw [e1, e2 _ e] at h
  exact h
theorem sortA_weak (l : List S71) : (sortA l).Pairwise (fun x y => ¬ LL y x) := by
  rw [List.pairwise_iff_getElem]
  intro i j hi hj hlt
  have hl := sortA_len l
  have h := (sortA_spec l).2 i j (Nat.zero_le _) hlt (by simp; omega)
  rw [lt_cmpN] at h
  rw [← LL_less]
  unfold sortA at hi hj ⊢
  rw [getElem!_pos _ i (by simpa using hi), getElem!_pos _ j (by simpa using hj)] at h
  simp only [Array.getElem_toList]
  rw [h]
  simp
theorem sortA_strict {l S : List S71} (hp : S.Perm l) (hs : S.Pairwise LL) : sortA l = S := by
  have h1 : (sortA l).Perm S := (sortA_perm l).trans hp.symm
  refine strict_unique h1 hs ?_
  have h2 : S.Pairwise (fun x y => x.f0 ≠ y.f0) := hs.imp (fun h => LL_irr h)
  have h3 : (sortA l).Pairwise (fun x y => x.f0 ≠ y.f0) := (h1.pairwise_iff (fun h => Ne.symm h)).2 h2
  exact ((sortA_weak l).and h3).imp (fun ⟨a, b⟩ => LL_tot a (Ne.symm b))

/-! #### Pack -/
def mkA (s : ByteArray) (b : List Int) : S71 := ⟨s, (b.length : Int), dig b⟩
def madeI (ns : List ByteArray) (bs : List (List Int)) (n : Nat) : List S71 := (List.range n).map fun (i : Nat) => mkA (rdOf ByteArray.empty ns (i : Int)) (rd_L5 bs (i : Int))
theorem madeI_succ (ns : List ByteArray) (bs : List (List Int)) (n : Nat) : madeI ns bs (n + 1) = madeI ns bs n ++ [mkA (rdOf ByteArray.empty ns (n : Int)) (rd_L5 bs (n : Int))] := by simp [madeI, List.range_succ]
theorem madeI_len (ns : List ByteArray) (bs : List (List Int)) (n : Nat) : (madeI ns bs n).length = n := by simp [madeI]
theorem madeI_get (ns : List ByteArray) (bs : List (List Int)) (n i : Nat) (h : i < (madeI ns bs n).length) : (madeI ns bs n)[i] = mkA (rdOf ByteArray.empty ns (i : Int)) (rd_L5 bs (i : Int)) := by simp [madeI]
theorem dig_range (xs : List Int) (h : ∀ x ∈ xs, 0 ≤ x ∧ x ≤ 255) : 0 ≤ dig xs ∧ dig xs ≤ 1000000006 := by
  have key : ∀ (ys : List Int) (a : Int), (∀ x ∈ ys, 0 ≤ x ∧ x ≤ 255) → 0 ≤ a ∧ a ≤ 1000000006 → 0 ≤ ys.foldl dstep a ∧ ys.foldl dstep a ≤ 1000000006 := by
    intro ys
    induction ys with
    | nil => intro a _ ha; exact ha
    | cons y ys ih =>
      intro a hy ha
      obtain ⟨h1, h2⟩ := hy y List.mem_cons_self
      rw [List.foldl_cons]
      refine ih _ (fun x hx => hy x (List.mem_cons_of_mem _ hx)) ?_
      have e1 : wrap64 (a * 257) = a * 257 := w64 (by omega) (by omega)
      have e2 : wrap64 y = y := w64 (by omega) (by omega)
      have e3 : wrap64 (a * 257 + y) = a * 257 + y := w64 (by omega) (by omega)
      have e4 : wrap64 (a * 257 + y + 1) = a * 257 + y + 1 := w64 (by omega) (by omega)
      unfold dstep
      rw [e1, e2, e3, e4]
      have : 0 ≤ a * 257 + y + 1 := by omega
      rw [Int.tmod_eq_emod_of_nonneg this]
      omega
  exact key _ 0 (fun x hx => h x (List.mem_of_mem_take hx)) (by omega)
def packT (X : List S71) : List S71 × Bool := if packB X = true then (X, true) else ([], false)
theorem impl_Pack_ev (ns : List ByteArray) (bs : List (List Int)) (hn : ns.length ≤ 1048576) : Ev (fun k => impl_Pack.f k ns bs) (if ns.length = bs.length then packT (sortA (madeI ns bs ns.length)) else ([], false)) := by
  simp only [impl_Pack.f]
  by_cases hl : ns.length = bs.length
  · have hl2 : (ns.length : Int) = (bs.length : Int) := by omega
    simp only [hl2, if_true]
    rw [if_pos hl, ← hl2]
    have key : ∀ d i, i + d = ns.length → Ev (fun k => impl_Pack.l0 k bs (madeI ns bs i) ns (ns.length : Int) (i : Int)) (packT (sortA (madeI ns bs ns.length))) := by
      intro d
      induction d with
      | zero =>
        intro i hi
        refine ev_succ ?_
        have h1 : ¬ (i : Int) < (ns.length : Int) := by omega
        obtain rfl : i = ns.length := by omega
        have h2 : (madeI ns bs ns.length).length < 4611686018427387904 := by rw [madeI_len]; omega
        simp only [impl_Pack.l0, h1, if_false, pk_sort.f, if_pos h2, Option.bind_some]
        have h3 := sortA_len (madeI ns bs ns.length)
        rw [madeI_len] at h3
        refine ev_bind (impl_PackOk_ev _ (by omega)) ?_
        unfold packT
        exact ev_ite (fun h => ev_ret (by rw [if_pos h])) (fun h => ev_ret (by rw [if_neg h]))
      | succ d ih =>
        intro i hi
        refine ev_succ ?_
        have h1 : (i : Int) < (ns.length : Int) := by omega
        have h2 : (0 : Int) ≤ (i : Int) := by omega
        have h3 : (i : Int) < (bs.length : Int) := by omega
        have h4 := w64s (n := i) (by omega)
        have h5 : (madeI ns bs i).length < 4398046511104 := by rw [madeI_len]; omega
        simp only [impl_Pack.l0, h1, h2, h3, h4, h5, if_true]
        refine ev_bind (impl_Digest_ev _) ?_
        have := ih (i + 1) (by omega)
        rw [madeI_succ] at this
        exact this
    exact key ns.length 0 (by omega)
  · have hl2 : ¬ (ns.length : Int) = (bs.length : Int) := by omega
    simp only [hl2, if_false]
    exact ev_ret (by rw [if_neg hl])
theorem spec_ins (ns : List ByteArray) (bs : List (List Int)) (i : Nat) (S : List S71) (a : S71) (hS : S.Pairwise LL) (hl : S.length ≤ 200) (hi : i ≤ 200) (hz : ∀ x ∈ S, x.f0.size ≤ 4611686018427387904) :
    ∀ p, p ≤ S.length → (∀ x ∈ S.drop p, LL a x) → ∀ y, (∃ S' : List S71, S'.Perm (a :: S) ∧ S'.Pairwise LL ∧ ∀ R, Ev (fun k => spec_Pack.l0 k ns bs S' ((i + 1 : Nat) : Int)) R → Ev (fun k => spec_Pack.l1 k ns bs (S.take p ++ y :: S.drop p) (i : Int) (p : Int) a.f0 a.f1 a.f2) R) ∨
      ((∃ x ∈ S, x.f0 = a.f0) ∧ Ev (fun k => spec_Pack.l1 k ns bs (S.take p ++ y :: S.drop p) (i : Int) (p : Int) a.f0 a.f1 a.f2) ([], false)) := by
  have hw := w64s (n := i) (by omega)
  have put : ∀ p y, p ≤ S.length → (∀ x ∈ S.take p, LL x a) → (∀ x ∈ S.drop p, LL a x) → (S.take p ++ a :: S.drop p).Perm (a :: S) ∧ (S.take p ++ a :: S.drop p).Pairwise LL ∧ ∀ R, Ev (fun k => spec_Pack.l0 k ns bs (S.take p ++ a :: S.drop p) ((i + 1 : Nat) : Int)) R → Ev (fun k => spec_Pack.j4 k ns bs (S.take p ++ y :: S.drop p) (i : Int) (p : Int) false a.f0 a.f1 a.f2) R := by
    intro p y hp h1 h2
    refine ⟨?_, ?_, fun R hR => ev_succ ?_⟩
    · have := @List.perm_middle _ a (S.take p) (S.drop p)
      rwa [List.take_append_drop] at this
    · rw [List.pairwise_append]
      refine ⟨hS.sublist (List.take_sublist _ _), List.pairwise_cons.2 ⟨h2, hS.sublist (List.drop_sublist _ _)⟩, fun x hx z hz' => ?_⟩
      rcases List.mem_cons.1 hz' with rfl | hz'
      · exact h1 x hx
      · exact LL_trans (h1 x hx) (h2 z hz')
    · have e1 : (0 : Int) ≤ (p : Int) := by omega
      have e2 : (p : Int) < ((S.take p ++ y :: S.drop p).length : Int) := by simp; omega
      have e3 : (S.take p ++ y :: S.drop p).set p a = S.take p ++ a :: S.drop p := by
        rw [List.set_append_right _ _ (by rw [List.length_take]; omega), List.length_take]
        rw [show p - min p S.length = 0 by omega, List.set_cons_zero]
      simp only [spec_Pack.j4, Bool.false_eq_true, if_false, e1, e2, if_true, Int.toNat_natCast, hw]
      have : (⟨a.f0, a.f1, a.f2⟩ : S71) = a := rfl
      rw [this, e3]
      exact hR
  intro p
  induction p with
  | zero =>
    intro hp hd y
    obtain ⟨q1, q2, q3⟩ := put 0 y (by omega) (fun x hx => by simp at hx) hd
    refine .inl ⟨_, q1, q2, fun R hR => ev_succ ?_⟩
    have e1 : ¬ ((0 : Nat) : Int) > 0 := by omega
    simp only [spec_Pack.l1, e1, if_false]
    exact q3 R hR
  | succ p ih =>
    intro hp hd y
    have e1 : ((p + 1 : Nat) : Int) > 0 := by omega
    have e2 : wrap64 (((p + 1 : Nat) : Int) - 1) = (p : Int) := by rw [w64 (by omega) (by omega)]; omega
    have e3 : (0 : Int) ≤ (p : Int) := by omega
    have e4 : (p : Int) < ((S.take (p + 1) ++ y :: S.drop (p + 1)).length : Int) := by simp; omega
    have hpl : p < S.length := by omega
    have e5 : rd_T71 (S.take (p + 1) ++ y :: S.drop (p + 1)) (p : Int) = S[p] := by
      simp only [rd_T71, Int.toNat_natCast, List.getD_eq_getElem?_getD]
      rw [List.getElem?_append_left (by rw [List.length_take]; omega), List.getElem?_take_of_lt (by omega), List.getElem?_eq_getElem hpl]
      rfl
    have hb := spec_Before_ev S[p].f0 a.f0 (hz _ (List.getElem_mem hpl))
    by_cases hlt : LL S[p] a
    · obtain ⟨q1, q2, q3⟩ := put (p + 1) y (by omega) (fun x hx => by
        obtain ⟨j, hj, rfl⟩ := List.getElem_of_mem hx
        rw [List.length_take] at hj
        rw [List.getElem_take]
        rcases Nat.lt_or_ge j p with h | h
        · exact LL_trans (List.pairwise_iff_getElem.1 hS j p (by omega) hpl h) hlt
        · obtain rfl : j = p := by omega
          exact hlt) hd
      refine .inl ⟨_, q1, q2, fun R hR => ev_succ ?_⟩
      simp only [spec_Pack.l1, e1, e2, e3, e4, e5, if_true]
      refine ev_bind hb ?_
      have : lexB (bytesOf S[p].f0) (bytesOf a.f0) = true := hlt
      rw [this]
      exact q3 R hR
    · have hf : lexB (bytesOf S[p].f0) (bytesOf a.f0) = false := by
        cases h : lexB (bytesOf S[p].f0) (bytesOf a.f0) with
        | false => rfl
        | true => exact absurd h hlt
      have e6 : (0 : Int) ≤ ((p + 1 : Nat) : Int) := by omega
      have e7 : ((p + 1 : Nat) : Int) < ((S.take (p + 1) ++ y :: S.drop (p + 1)).length : Int) := by simp; omega
      by_cases hn : S[p].f0.toList = a.f0.toList
      · refine .inr ⟨⟨S[p], List.getElem_mem hpl, str_inj hn⟩, ev_succ ?_⟩
        simp only [spec_Pack.l1, e1, e2, e3, e4, e5, if_true]
        refine ev_bind hb (ev_succ ?_)
        rw [hf]
        simp only [spec_Pack.j4, Bool.not_false, e2, e3, e4, e5, hn, if_true]
        exact ev_ret rfl
      · have ha : LL a S[p] := LL_tot hlt (fun e => hn (by rw [e]))
        have hset : (S.take (p + 1) ++ y :: S.drop (p + 1)).set (p + 1) S[p] = S.take p ++ S[p] :: S.drop p := by
          rw [List.set_append_right _ _ (by rw [List.length_take]; omega), List.length_take]
          rw [show p + 1 - min (p + 1) S.length = 0 by omega, List.set_cons_zero, List.take_succ_eq_append_getElem hpl, List.append_assoc]
          rw [List.drop_eq_getElem_cons hpl]
          rfl
        have step : ∀ R, Ev (fun k => spec_Pack.l1 k ns bs (S.take p ++ S[p] :: S.drop p) (i : Int) (p : Int) a.f0 a.f1 a.f2) R → Ev (fun k => spec_Pack.l1 k ns bs (S.take (p + 1) ++ y :: S.drop (p + 1)) (i : Int) ((p + 1 : Nat) : Int) a.f0 a.f1 a.f2) R := by
          intro R hR
          refine ev_succ ?_
          simp only [spec_Pack.l1, e1, e2, e3, e4, e5, if_true]
          refine ev_bind hb (ev_succ ?_)
          rw [hf]
          simp only [spec_Pack.j4, Bool.not_false, e2, e3, e4, e5, e6, e7, hn, if_true, if_false, Int.toNat_natCast]
          have : (⟨S[p].f0, S[p].f1, S[p].f2⟩ : S71) = S[p] := rfl
          rw [this, hset]
          exact hR
        rcases ih (by omega) (fun x hx => by
          rw [List.drop_eq_getElem_cons hpl] at hx
          rcases List.mem_cons.1 hx with rfl | hx
          · exact ha
          · exact hd x hx) S[p] with ⟨S', q1, q2, q3⟩ | ⟨q1, q2⟩
        · exact .inl ⟨S', q1, q2, fun R hR => step R (q3 R hR)⟩
        · exact .inr ⟨q1, step _ q2⟩
theorem packT_bad {ns : List ByteArray} {bs : List (List Int)} {n : Nat} (h : packB (sortA (madeI ns bs n)) = true → False) : packT (sortA (madeI ns bs n)) = ([], false) := if_neg h
theorem spec_Pack_ev (ns : List ByteArray) (bs : List (List Int)) (hn : ns.length ≤ 1048576) (hs : ∀ x ∈ ns, x.size ≤ 4611686018427387904) (hb : ∀ b ∈ bs, ∀ x ∈ b, 0 ≤ x ∧ x ≤ 255) : Ev (fun k => spec_Pack.f k ns bs) (if ns.length = bs.length then packT (sortA (madeI ns bs ns.length)) else ([], false)) := by
  simp only [spec_Pack.f, Option.bind_some]
  by_cases hl : ns.length = bs.length
  · have hl2 : (ns.length : Int) = (bs.length : Int) := by omega
    simp only [hl2, if_true]
    rw [if_pos hl, ← hl2]
    have mem : ∀ i, i < ns.length → mkA (rdOf ByteArray.empty ns (i : Int)) (rd_L5 bs (i : Int)) ∈ sortA (madeI ns bs ns.length) := by
      intro i hi
      refine (sortA_perm _).symm.subset ?_
      have h := madeI_get ns bs ns.length i (by rw [madeI_len]; exact hi)
      rw [← h]
      exact List.getElem_mem _
    have key : ∀ d i S, i + d = ns.length → ns.length ≤ 100 → S.Perm (madeI ns bs i) → S.Pairwise LL → (∀ x ∈ S, okA x ∧ x.f0.size ≤ 4611686018427387904) → Ev (fun k => spec_Pack.l0 k ns bs S (i : Int)) (packT (sortA (madeI ns bs ns.length))) := by
      intro d
      induction d with
      | zero =>
        intro i S hi h100 hp hS hv
        refine ev_succ ?_
        have h1 : ¬ (i : Int) < (ns.length : Int) := by omega
        obtain rfl : i = ns.length := by omega
        simp only [spec_Pack.l0, h1, if_false]
        rw [sortA_strict hp hS]
        have hl3 : S.length = ns.length := by rw [hp.length_eq, madeI_len]
        exact ev_ret (by unfold packT; rw [if_pos ((packB_iff S).2 ⟨by omega, fun x hx => (hv x hx).1, hS⟩)])
      | succ d ih =>
        intro i S hi h100 hp hS hv
        refine ev_succ ?_
        have h1 : (i : Int) < (ns.length : Int) := by omega
        have h2 : (0 : Int) ≤ (i : Int) := by omega
        have h3 : (i : Int) < (bs.length : Int) := by omega
        have hlS : S.length = i := by rw [hp.length_eq, madeI_len]
        simp only [spec_Pack.l0, h1, h2, if_true]
        refine ev_bind (spec_Name_ev _) ?_
        have bad : ¬ okA (mkA (rdOf ByteArray.empty ns (i : Int)) (rd_L5 bs (i : Int))) → Ev (fun k => spec_Pack.j2 k ns bs S (i : Int) true) (packT (sortA (madeI ns bs ns.length))) := by
          intro hbad
          refine ev_succ ?_
          simp only [spec_Pack.j2, if_true]
          exact ev_ret (congrArg some (packT_bad fun h => hbad (((packB_iff _).1 h).2.1 _ (mem i (by omega)))).symm)
        refine ev_ifb (fun e1 => ?_) (fun e1 => bad (fun h => by have h1' : nameB (rdOf ByteArray.empty ns (i : Int)) = true := h.1; rw [e1] at h1'; cases h1'))
        simp only [h3, if_true]
        by_cases e2 : ((rd_L5 bs (i : Int)).length : Int) > 40000
        · rw [decide_eq_true e2]
          exact bad (fun h => by have := h.2.1.2; simp only [mkA] at this; omega)
        · rw [decide_eq_false e2]
          refine ev_succ ?_
          simp only [spec_Pack.j2, Bool.false_eq_true, if_false, h1, h2, h3, if_true]
          refine ev_bind (spec_Digest_ev _) ?_
          have h5 : S.length < 4398046511104 := by omega
          simp only [h5, if_true]
          have hbm : rd_L5 bs (i : Int) ∈ bs := getD_mem _ (by omega)
          have hnm : rdOf ByteArray.empty ns (i : Int) ∈ ns := getD_mem _ (by omega)
          have hdr := dig_range (rd_L5 bs (i : Int)) (hb _ hbm)
          obtain ⟨a, ha⟩ : ∃ a, a = mkA (rdOf ByteArray.empty ns (i : Int)) (rd_L5 bs (i : Int)) := ⟨_, rfl⟩
          have hoka : okA a := by rw [ha]; exact ⟨e1, ⟨by simp only [mkA]; omega, by simp only [mkA]; omega⟩, hdr⟩
          have hsz : a.f0.size ≤ 4611686018427387904 := by rw [ha]; exact hs _ hnm
          have hins := spec_ins ns bs i S a hS (by omega) (by omega) (fun x hx => (hv x hx).2) S.length (Nat.le_refl _) (fun x hx => by rw [List.drop_length] at hx; cases hx) a
          rw [List.take_length, List.drop_length, hlS] at hins
          have eS : S ++ [(⟨rdOf ByteArray.empty ns (i : Int), ((rd_L5 bs (i : Int)).length : Int), dig (rd_L5 bs (i : Int))⟩ : S71)] = S ++ [a] := by rw [ha]; rfl
          rw [eS, hlS]
          have ea : a.f0 = rdOf ByteArray.empty ns (i : Int) ∧ a.f1 = ((rd_L5 bs (i : Int)).length : Int) ∧ a.f2 = dig (rd_L5 bs (i : Int)) := by rw [ha]; exact ⟨rfl, rfl, rfl⟩
          rw [← ea.1, ← ea.2.1, ← ea.2.2]
          rcases hins with ⟨S', q1, q2, q3⟩ | ⟨⟨x, hx, hxe⟩, q2⟩
          · refine q3 _ (ih (i + 1) S' (by omega) h100 ?_ q2 (fun x hx => ?_))
            · rw [madeI_succ, ← ha]
              exact q1.trans ((List.Perm.cons a hp).trans (List.perm_append_singleton a _).symm)
            · rcases List.mem_cons.1 (q1.subset hx) with rfl | hx
              · exact ⟨hoka, hsz⟩
              · exact hv x hx
          · have hbad : packT (sortA (madeI ns bs ns.length)) = ([], false) := packT_bad fun h => by
              have hp2 := ((packB_iff _).1 h).2.2
              have h3' : (sortA (madeI ns bs ns.length)).Pairwise (fun x y => x.f0 ≠ y.f0) := hp2.imp (fun h => LL_irr h)
              have h4 := ((sortA_perm (madeI ns bs ns.length)).pairwise_iff (fun h => Ne.symm h)).1 h3'
              obtain ⟨j, hj, hje⟩ := List.getElem_of_mem (hp.subset hx)
              have hj2 := hj
              rw [madeI_len] at hj2
              have hjn : j < (madeI ns bs ns.length).length := by rw [madeI_len]; omega
              have hin : i < (madeI ns bs ns.length).length := by rw [madeI_len]; omega
              have h5' := List.pairwise_iff_getElem.1 h4 j i hjn hin hj2
              rw [madeI_get, madeI_get, ← ha] at h5'
              rw [madeI_get] at hje
              rw [hje] at h5'
              exact h5' hxe
            rw [hbad]
            exact q2
    by_cases h100 : (ns.length : Int) > 100
    · rw [decide_eq_true h100]
      refine ev_succ ?_
      simp only [spec_Pack.j0, if_true]
      refine ev_ret (congrArg some (packT_bad fun h => ?_).symm)
      have := ((packB_iff _).1 h).1
      rw [sortA_len, madeI_len] at this
      omega
    · rw [decide_eq_false h100]
      refine ev_succ ?_
      simp only [spec_Pack.j0, Bool.false_eq_true, if_false]
      exact key ns.length 0 [] (by omega) (by omega) (by simp [madeI]) List.Pairwise.nil (fun x hx => by cases hx)
  · have hl2 : ¬ (ns.length : Int) = (bs.length : Int) := by omega
    simp only [hl2, if_false]
    rw [if_neg hl]
    refine ev_succ ?_
    simp only [spec_Pack.j0, if_true]
    exact ev_ret rfl
theorem packT_len (X : List S71) : (packT X).1.length ≤ X.length := by
  unfold packT
  split <;> simp

/-! #### assets, marked and held -/
def amA (mt : Int → ByteArray) (k : Int) : S71 := ⟨mt k, k + 1, k + 2⟩
def marksA (mt : Int → ByteArray) (k : Int) (n : Nat) : List S71 := (List.range n).map fun (i : Nat) => amA mt (k + 3 * (i : Int))
theorem marksA_len (mt : Int → ByteArray) (k : Int) (n : Nat) : (marksA mt k n).length = n := by simp [marksA]
theorem marksA_succ (mt : Int → ByteArray) (k : Int) (n : Nat) : marksA mt k (n + 1) = marksA mt k n ++ [amA mt (k + 3 * (n : Int))] := by simp [marksA, List.range_succ]
theorem rdA_set (L : List S71) (i : Nat) (a : S71) (h : i < L.length) : rd_T71 (L.set i a) (i : Int) = a := by simp [rd_T71, h]
theorem rdA_mark (mt : Int → ByteArray) (k : Int) (n i : Nat) (h : i < n) : rd_T71 (marksA mt k n) (i : Int) = amA mt (k + 3 * (i : Int)) := by simp [rd_T71, marksA, h]
theorem markAssetS_all {mt : Int → ByteArray} (hmt : MT mt) (xs : List S71) (k : Int) (h0 : 0 ≤ k) (hk : k ≤ 1000) (hl : xs.length ≤ 1048576) : Ev (fun q => laws_markAssetS.f q xs k) (k + 3 * (xs.length : Int), marksA mt k xs.length) := by
  have key : ∀ d i, i + d = xs.length → Ev (fun q => laws_markAssetS.l0 q (marksA mt k i ++ xs.drop i) (k + 3 * (i : Int)) (i : Int)) (k + 3 * (xs.length : Int), marksA mt k xs.length) := by
    intro d
    induction d with
    | zero =>
      intro i hi
      refine ev_succ ?_
      obtain rfl : i = xs.length := by omega
      have h1 : ¬ ((xs.length : Int) < ((marksA mt k xs.length ++ xs.drop xs.length).length : Int)) := by simp [marksA_len]
      simp only [laws_markAssetS.l0, h1, if_false]
      exact ev_ret (by simp)
    | succ d ih =>
      intro i hi
      refine ev_succ ?_
      have hL : i < (marksA mt k i ++ xs.drop i).length := by simp [marksA_len]; omega
      have h1 : (i : Int) < ((marksA mt k i ++ xs.drop i).length : Int) := by omega
      have h2 : (0 : Int) ≤ (i : Int) := by omega
      have h4 := w64s (n := i) (by omega)
      have e1 : wrap64 (k + 3 * (i : Int) + 1) = k + 3 * (i : Int) + 1 := w64 (by omega) (by omega)
      have e2 : wrap64 (k + 3 * (i : Int) + 1 + 1) = k + 3 * (i : Int) + 2 := by rw [w64 (by omega) (by omega)]; omega
      have e3 : wrap64 (k + 3 * (i : Int) + 2 + 1) = k + 3 * ((i + 1 : Nat) : Int) := by rw [w64 (by omega) (by omega)]; omega
      simp only [laws_markAssetS.l0, h1, h2, h4, e1, e2, e3, if_true, Option.bind_some, Int.toNat_natCast]
      refine ev_bind (hmt _ (by omega) (by omega)) ?_
      have hL2 : ∀ a, i < ((marksA mt k i ++ xs.drop i).set i a).length := fun a => by rw [List.length_set]; exact hL
      simp only [rdA_set _ _ _ hL, rdA_set _ _ _ (hL2 _), List.set_set]
      have e : (marksA mt k i ++ xs.drop i).set i (⟨mt (k + 3 * (i : Int)), k + 3 * (i : Int) + 1, k + 3 * (i : Int) + 2⟩ : S71) = marksA mt k (i + 1) ++ xs.drop (i + 1) := by
        rw [List.drop_eq_getElem_cons (show i < xs.length by omega), marksA_succ, List.append_assoc]
        rw [List.set_append_right _ _ (by rw [marksA_len]; omega), marksA_len, Nat.sub_self]
        rfl
      rw [e]
      exact ih (i + 1) (by omega)
  have := key xs.length 0 (by omega)
  simpa [marksA, laws_markAssetS.f] using this
theorem heldAssetS_all {mt : Int → ByteArray} (hmt : MT mt) (n : Nat) (k : Int) (h0 : 0 ≤ k) (hk : k ≤ 1000) (hl : n ≤ 1048576) : Ev (fun q => laws_heldAssetS.f q (marksA mt k n) k) (k + 3 * (n : Int)) := by
  have key : ∀ d i, i + d = n → Ev (fun q => laws_heldAssetS.l0 q (marksA mt k n) (k + 3 * (i : Int)) (i : Int)) (k + 3 * (n : Int)) := by
    intro d
    induction d with
    | zero =>
      intro i hi
      refine ev_succ ?_
      obtain rfl : i = n := by omega
      have h1 : ¬ ((i : Int) < ((marksA mt k i).length : Int)) := by simp [marksA_len]
      simp only [laws_heldAssetS.l0, h1, if_false]
      exact ev_ret rfl
    | succ d ih =>
      intro i hi
      refine ev_succ ?_
      have h1 : (i : Int) < ((marksA mt k n).length : Int) := by rw [marksA_len]; omega
      have h2 : (0 : Int) ≤ (i : Int) := by omega
      have h4 := w64s (n := i) (by omega)
      have e1 : wrap64 (k + 3 * (i : Int) + 1) = k + 3 * (i : Int) + 1 := w64 (by omega) (by omega)
      have e2 : wrap64 (k + 3 * (i : Int) + 1 + 1) = k + 3 * (i : Int) + 2 := by rw [w64 (by omega) (by omega)]; omega
      have e3 : wrap64 (k + 3 * (i : Int) + 2 + 1) = k + 3 * ((i + 1 : Nat) : Int) := by rw [w64 (by omega) (by omega)]; omega
      simp only [laws_heldAssetS.l0, h1, h2, h4, e1, e2, e3, if_true, rdA_mark mt k n i (by omega), amA]
      refine ev_bind (hmt _ (by omega) (by omega)) ?_
      simp only [if_true]
      exact ih (i + 1) (by omega)
  have := key n 0 (by omega)
  simpa [laws_heldAssetS.f] using this

/-! #### laws_eqAssetS at one list twice -/
theorem eqAssetS_refl (xs : List S71) (h : xs.length ≤ 4611686018427387904) : Ev (fun k => laws_eqAssetS.f k xs xs) true := by
  have key : ∀ d i, i + d = xs.length → Ev (fun k => laws_eqAssetS.l0 k xs xs (i : Int)) true := by
    intro d
    induction d with
    | zero =>
      intro i hi
      refine ev_succ ?_
      have h1 : ¬ ((i : Int) < (xs.length : Int)) := by omega
      simp only [laws_eqAssetS.l0, h1, if_false]
      exact ev_ret rfl
    | succ d ih =>
      intro i hi
      refine ev_succ ?_
      have h1 : (i : Int) < (xs.length : Int) := by omega
      have h2 : (0 : Int) ≤ (i : Int) := by omega
      have h4 := w64s (n := i) (by omega)
      simp only [laws_eqAssetS.l0, laws_eqAsset.f, h1, h2, if_true, h4, Option.bind_some]
      exact ih (i + 1) (by omega)
  simp only [laws_eqAssetS.f, if_true]
  exact key xs.length 0 (by omega)

/-! #### the two sizes -/
theorem szStringS_ev (xs : List ByteArray) (left : Int) (h0 : 0 ≤ left) (hl : left ≤ 1048576) (hw : xs.length ≤ maxLen) (hx : ∀ x ∈ xs, x.size ≤ maxLen) :
    ∃ r, Ev (fun k => laws_szStringS.f k xs left) r ∧ r ≤ 1048576 ∧ (0 ≤ r → xs.length ≤ 1048576 ∧ ∀ x ∈ xs, x.size ≤ 1048576) := by
  unfold maxLen at hw hx
  have key : ∀ d i (left : Int), i + d = xs.length → 0 ≤ left → left ≤ 1048576 → ∃ r, Ev (fun k => laws_szStringS.l0 k xs left (i : Int)) r ∧ r ≤ 1048576 ∧ (0 ≤ r → ∀ x ∈ xs.drop i, x.size ≤ 1048576) := by
    intro d
    induction d with
    | zero =>
      intro i left hi h0 hl
      have h1 : ¬ ((i : Int) < (xs.length : Int)) := by omega
      refine ⟨left, ev_succ ?_, hl, fun _ x hx => by rw [drop_end (by omega)] at hx; cases hx⟩
      simp only [laws_szStringS.l0, h1, if_false]
      exact ev_ret rfl
    | succ d ih =>
      intro i left hi h0 hl
      have h1 : (i : Int) < (xs.length : Int) := by omega
      have h2 : (0 : Int) ≤ (i : Int) := by omega
      have h4 := w64s (n := i) (by omega)
      have hm : rdOf ByteArray.empty xs (i : Int) ∈ xs := getD_mem _ (by omega)
      have hb := hx _ hm
      generalize hx0 : rdOf ByteArray.empty xs (i : Int) = x at hm hb
      have h5 : wrap64 (left - (x.size : Int)) = left - (x.size : Int) := w64 (by omega) (by omega)
      have hd : xs.drop i = x :: xs.drop (i + 1) := by rw [drop_getD ByteArray.empty xs i (by omega), ← hx0]; rfl
      by_cases h6 : left - (x.size : Int) < 0
      · refine ⟨-1, ev_succ ?_, by omega, fun h => by omega⟩
        simp [laws_szStringS.l0,  hx0, h1, h2, h5, h6]
        exact ev_ret rfl
      · obtain ⟨r, hr, hle, hp⟩ := ih (i + 1) (left - (x.size : Int)) (by omega) (by omega) (by omega)
        refine ⟨r, ev_succ ?_, hle, fun h y hy => ?_⟩
        · simp only [laws_szStringS.l0,  hx0, h1, h2, h4, h5, h6, if_true, if_false, Option.bind_some]
          exact hr
        · rw [hd] at hy
          rcases List.mem_cons.1 hy with rfl | hy
          · omega
          · exact hp h y hy
  have h5 : wrap64 (left - (xs.length : Int)) = left - (xs.length : Int) := w64 (by omega) (by omega)
  by_cases h6 : left - (xs.length : Int) < 0
  · refine ⟨-1, ?_, by omega, fun h => by omega⟩
    simp only [laws_szStringS.f, h5, h6, if_true]
    exact ev_ret rfl
  · obtain ⟨r, hr, hle, hp⟩ := key xs.length 0 (left - (xs.length : Int)) (by omega) (by omega) (by omega)
    refine ⟨r, ?_, hle, fun h => ⟨by omega, by simpa using hp h⟩⟩
    simp only [laws_szStringS.f, h5, h6, if_false]
    exact hr
theorem szByteSS_ev (xs : List (List Int)) (left : Int) (h0 : 0 ≤ left) (hl : left ≤ 1048576) (hw : xs.length ≤ maxLen) (hx : ∀ x ∈ xs, x.length ≤ maxLen) :
    ∃ r, Ev (fun k => laws_szByteSS.f k xs left) r ∧ r ≤ 1048576 ∧ (0 ≤ r → xs.length ≤ 1048576 ∧ ∀ x ∈ xs, x.length ≤ 1048576) := by
  unfold maxLen at hw hx
  have key : ∀ d i (left : Int), i + d = xs.length → 0 ≤ left → left ≤ 1048576 → ∃ r, Ev (fun k => laws_szByteSS.l0 k xs left (i : Int)) r ∧ r ≤ 1048576 ∧ (0 ≤ r → ∀ x ∈ xs.drop i, x.length ≤ 1048576) := by
    intro d
    induction d with
    | zero =>
      intro i left hi h0 hl
      have h1 : ¬ ((i : Int) < (xs.length : Int)) := by omega
      refine ⟨left, ev_succ ?_, hl, fun _ x hx => by rw [drop_end (by omega)] at hx; cases hx⟩
      simp only [laws_szByteSS.l0, h1, if_false]
      exact ev_ret rfl
    | succ d ih =>
      intro i left hi h0 hl
      have h1 : (i : Int) < (xs.length : Int) := by omega
      have h2 : (0 : Int) ≤ (i : Int) := by omega
      have h4 := w64s (n := i) (by omega)
      have hm : rd_L5 xs (i : Int) ∈ xs := getD_mem _ (by omega)
      have hb := hx _ hm
      generalize hx0 : rd_L5 xs (i : Int) = x at hm hb
      have h5 : wrap64 (left - (x.length : Int)) = left - (x.length : Int) := w64 (by omega) (by omega)
      have hd : xs.drop i = x :: xs.drop (i + 1) := by rw [drop_getD ([] : List Int) xs i (by omega), ← hx0]; rfl
      by_cases h6 : left - (x.length : Int) < 0
      · refine ⟨-1, ev_succ ?_, by omega, fun h => by omega⟩
        simp [laws_szByteSS.l0, laws_szByteS.f, hx0, h1, h2, h5, h6]
        exact ev_ret rfl
      · obtain ⟨r, hr, hle, hp⟩ := ih (i + 1) (left - (x.length : Int)) (by omega) (by omega) (by omega)
        refine ⟨r, ev_succ ?_, hle, fun h y hy => ?_⟩
        · simp only [laws_szByteSS.l0, laws_szByteS.f, hx0, h1, h2, h4, h5, h6, if_true, if_false, Option.bind_some]
          exact hr
        · rw [hd] at hy
          rcases List.mem_cons.1 hy with rfl | hy
          · omega
          · exact hp h y hy
  have h5 : wrap64 (left - (xs.length : Int)) = left - (xs.length : Int) := w64 (by omega) (by omega)
  by_cases h6 : left - (xs.length : Int) < 0
  · refine ⟨-1, ?_, by omega, fun h => by omega⟩
    simp only [laws_szByteSS.f, h5, h6, if_true]
    exact ev_ret rfl
  · obtain ⟨r, hr, hle, hp⟩ := key xs.length 0 (left - (xs.length : Int)) (by omega) (by omega) (by omega)
    refine ⟨r, ?_, hle, fun h => ⟨by omega, by simpa using hp h⟩⟩
    simp only [laws_szByteSS.f, h5, h6, if_false]
    exact hr

/-! #### laws_toStringS, laws_toByteSS -/
theorem toStringS_ev (xs : List ByteArray) (h : xs.length ≤ 1048576) : Ev (fun k => laws_toStringS.f k xs) xs := by
  have key : ∀ d i, i + d = xs.length → Ev (fun k => laws_toStringS.l0 k xs ((xs.take i).map id ++ List.replicate (xs.length - i) (⟨#[]⟩ : ByteArray)) (i : Int)) (xs.map id) := by
    intro d
    induction d with
    | zero =>
      intro i hi
      refine ev_succ ?_
      have h1 : ¬ ((i : Int) < (xs.length : Int)) := by omega
      simp only [laws_toStringS.l0, h1, if_false]
      obtain rfl : i = xs.length := by omega
      exact ev_ret (by rw [fill_all])
    | succ d ih =>
      intro i hi
      have hlt : i < xs.length := by omega
      refine ev_succ ?_
      have h1 : (i : Int) < (xs.length : Int) := by omega
      have h2 : (0 : Int) ≤ (i : Int) := by omega
      have h3 : (i : Int) < ((((xs.take i).map id ++ List.replicate (xs.length - i) (⟨#[]⟩ : ByteArray)).length : Nat) : Int) := by rw [fill_len _ _ _ _ (by omega)]; omega
      have h4 := w64s (n := i) (by omega)
      simp only [laws_toStringS.l0, h1, h2, h3, if_true, h4]
      have := ih (i + 1) (by omega)
      rw [← fill_set id ByteArray.empty (⟨#[]⟩ : ByteArray) xs i hlt] at this
      exact this
  have h1 : (0 : Int) ≤ (xs.length : Int) := by omega
  have h2 : xs.length ≤ 17592186044416 := by omega
  simp only [laws_toStringS.f, h1, Int.toNat_natCast, h2, if_true]
  have := key xs.length 0 (by omega)
  rw [← fill_none id (⟨#[]⟩ : ByteArray) xs, List.map_id] at this
  exact this
theorem toByteSS_ev (xs : List (List Int)) (h : xs.length ≤ 1048576) (hx : ∀ x ∈ xs, x.length ≤ 1048576) : Ev (fun k => laws_toByteSS.f k xs) xs := by
  have key : ∀ d i, i + d = xs.length → Ev (fun k => laws_toByteSS.l0 k xs ((xs.take i).map id ++ List.replicate (xs.length - i) ([] : List Int)) (i : Int)) (xs.map id) := by
    intro d
    induction d with
    | zero =>
      intro i hi
      refine ev_succ ?_
      have h1 : ¬ ((i : Int) < (xs.length : Int)) := by omega
      simp only [laws_toByteSS.l0, h1, if_false]
      obtain rfl : i = xs.length := by omega
      exact ev_ret (by rw [fill_all])
    | succ d ih =>
      intro i hi
      have hlt : i < xs.length := by omega
      refine ev_succ ?_
      have h1 : (i : Int) < (xs.length : Int) := by omega
      have h2 : (0 : Int) ≤ (i : Int) := by omega
      have h3 : (i : Int) < ((((xs.take i).map id ++ List.replicate (xs.length - i) ([] : List Int)).length : Nat) : Int) := by rw [fill_len _ _ _ _ (by omega)]; omega
      have h4 := w64s (n := i) (by omega)
      simp only [laws_toByteSS.l0, h1, h2, if_true]
      refine ev_bind (toByteS_ev (rd_L5 xs (i : Int)) (hx _ (getD_mem _ (by omega)))) ?_
      simp only [h3, if_true, h4]
      have := ih (i + 1) (by omega)
      rw [← fill_set id ([] : List Int) ([] : List Int) xs i hlt] at this
      exact this
  have h1 : (0 : Int) ≤ (xs.length : Int) := by omega
  have h2 : xs.length ≤ 11728124029610 := by omega
  simp only [laws_toByteSS.f, h1, Int.toNat_natCast, h2, if_true]
  have := key xs.length 0 (by omega)
  rw [← fill_none id ([] : List Int) xs, List.map_id] at this
  exact this
theorem eqByteSS_refl (xs : List (List Int)) (h : xs.length ≤ 4611686018427387904) (hx : ∀ x ∈ xs, x.length ≤ 1048576) : Ev (fun k => laws_eqByteSS.f k xs xs) true := by
  have key : ∀ d i, i + d = xs.length → Ev (fun k => laws_eqByteSS.l0 k xs xs (i : Int)) true := by
    intro d
    induction d with
    | zero =>
      intro i hi
      refine ev_succ ?_
      have h1 : ¬ ((i : Int) < (xs.length : Int)) := by omega
      simp only [laws_eqByteSS.l0, h1, if_false]
      exact ev_ret rfl
    | succ d ih =>
      intro i hi
      refine ev_succ ?_
      have h1 : (i : Int) < (xs.length : Int) := by omega
      have h2 : (0 : Int) ≤ (i : Int) := by omega
      have h4 := w64s (n := i) (by omega)
      have hb : (rd_L5 xs (i : Int)).length ≤ 1048576 := hx _ (getD_mem _ (by omega))
      simp only [laws_eqByteSS.l0, h1, h2, if_true, h4]
      refine ev_bind (ev_eq (eqByteS_ev (rd_L5 xs (i : Int)) (rd_L5 xs (i : Int)) (by omega)) (by simp : _ = true)) ?_
      simp only [if_true]
      exact ih (i + 1) (by omega)
  simp only [laws_eqByteSS.f, if_true]
  exact key xs.length 0 (by omega)
/-! #### markText, at one number of rounds for all -/
theorem markText_l0 : ∀ (d k : Nat) (n : Int) (s : ByteArray), d + 1 ≤ k → 0 ≤ n → n < 10 ^ d → n < 10000000000000 → s.size + d ≤ 1000 → ∃ r, laws_markText.l0 k n s = some r := by
  intro d
  induction d with
  | zero =>
    intro k n s hk h0 h1 h2 hs
    obtain ⟨k, rfl⟩ : ∃ j, k = j + 1 := ⟨k - 1, by omega⟩
    have h3 : n < 1 := by simpa using h1
    refine ⟨_, by rw [laws_markText.l0, if_neg (by omega), if_pos (by omega)]⟩
  | succ d ih =>
    intro k n s hk h0 h1 h2 hs
    obtain ⟨k, rfl⟩ : ∃ j, k = j + 1 := ⟨k - 1, by omega⟩
    rw [laws_markText.l0]
    by_cases hp : n > 0
    · have hz : (strOfNums [(wrap64 (48 + (Int.tmod n 10))) % 256]).size = 1 := rfl
      have e : Int.tdiv n 10 = n / 10 := Int.tdiv_eq_ediv_of_nonneg h0
      have hlt : n / 10 < 10 ^ d := by
        have : (10 : Int) ^ (d + 1) = 10 ^ d * 10 := Int.pow_succ 10 d
        omega
      obtain ⟨r, hr⟩ := ih k (n / 10) (strOfNums [(wrap64 (48 + (Int.tmod n 10))) % 256] ++ s) (by omega) (by omega) hlt (by omega) (by rw [ByteArray.size_append, hz]; omega)
      refine ⟨r, ?_⟩
      rw [if_pos hp, Option.bind_some, if_pos (by rw [hz]; omega), e, w64 (by omega) (by omega)]
      exact hr
    · exact ⟨_, by rw [if_neg hp, if_pos (by omega)]⟩
theorem markText_all (k : Nat) (hk : 14 ≤ k) (a : Int) (h0 : 0 ≤ a) (h1 : a ≤ 9000000000000) : ∃ s, laws_markText.f k a = some s := by
  unfold laws_markText.f
  by_cases h : a ≤ 0
  · exact ⟨_, by rw [if_pos h]⟩
  · rw [if_neg h]
    exact markText_l0 13 k a _ (by omega) h0 (by simp; omega) (by omega) (by have : (⟨#[]⟩ : ByteArray).size = 0 := rfl; omega)

theorem FnExactPack : ∀ (l0 : List ByteArray) (l1 : List (List Int)), (l0.length ≤ maxLen ∧ ∀ y1 ∈ l0, y1.size ≤ maxLen) → (l1.length ≤ maxLen ∧ ∀ y1 ∈ l1, (y1.length ≤ maxLen ∧ ∀ y2 ∈ y1, (Lit.int .u8 y2).wf = true)) → ∃ k, laws_FnExactPack.f k l0 l1 = some true := by
  intro l0 l1 ⟨hl0, hw0⟩ ⟨hl1, hw1⟩
  apply Ev.rounds
  simp only [laws_FnExactPack.f]
  obtain ⟨r0, q0, b0, p0⟩ := szStringS_ev l0 1048576 (by omega) (by omega) hl0 hw0
  refine ev_bind q0 ?_
  refine ev_ite (fun _ => ev_ret rfl) (fun n0 => ?_)
  obtain ⟨s0, z0⟩ := p0 (by omega)
  obtain ⟨r1, q1, b1, p1⟩ := szByteSS_ev l1 r0 (by omega) (by omega) hl1 (fun x hx => (hw1 x hx).1)
  refine ev_bind q1 ?_
  refine ev_ite (fun _ => ev_ret rfl) (fun n1 => ?_)
  obtain ⟨s1, z1⟩ := p1 (by omega)
  obtain ⟨mt, hmt⟩ := mt_all
  have hs : ∀ x ∈ l0, x.size ≤ 4611686018427387904 := fun x hx => Nat.le_trans (z0 x hx) (by omega)
  have hb : ∀ b ∈ l1, ∀ x ∈ b, 0 ≤ x ∧ x ≤ 255 := fun b hb x hx => by
    have h := (hw1 b hb).2 x hx
    simp only [Lit.wf, Bool.and_eq_true, decide_eq_true_eq] at h
    exact ⟨h.1, h.2⟩
  obtain ⟨k1, e1⟩ := toStringS_ev l0 s0
  obtain ⟨k2, e2⟩ := toByteSS_ev l1 s1 z1
  obtain ⟨k3, e3⟩ := spec_Pack_ev l0 l1 s0 hs hb
  obtain ⟨k4, e4⟩ := impl_Pack_ev l0 l1 s0
  generalize hT : (if l0.length = l1.length then packT (sortA (madeI l0 l1 l0.length)) else ([], false)) = T at e3 e4
  have hTl : T.1.length ≤ 1048576 := by
    rw [← hT]
    split
    · refine Nat.le_trans (packT_len _) ?_
      rw [sortA_len, madeI_len]
      exact s0
    · simp
  clear hT
  obtain ⟨g, b⟩ := T
  obtain ⟨k5, e5⟩ := eqAssetS_refl g (by have : g.length ≤ 1048576 := hTl; omega)
  obtain ⟨k6, e6⟩ := eqStringS_refl l0 (by omega)
  obtain ⟨k7, e7⟩ := eqByteSS_refl l1 (by omega) z1
  obtain ⟨k8, e8⟩ := markAssetS_all hmt g 1 (by omega) (by omega) hTl
  obtain ⟨k9, e9⟩ := heldAssetS_all hmt g.length 1 (by omega) (by omega) hTl
  refine ⟨k1 + k2 + k3 + k4 + k5 + k6 + k7 + k8 + k9 + 14, fun k hk => if_pos ?_⟩
  exact ⟨_, _, _, _, _, _, e1 k (by omega), e2 k (by omega), e3 k (by omega), e4 k (by omega), e5 k (by omega), e6 k (by omega), e7 k (by omega), s0, s1, z1, e8 k (by omega), e9 k (by omega), by omega, fun a h0 h1 => markText_all k (by omega) a h0 h1⟩
end Go.Proofs.Ytelcpfanjjfgdaa.Pure
