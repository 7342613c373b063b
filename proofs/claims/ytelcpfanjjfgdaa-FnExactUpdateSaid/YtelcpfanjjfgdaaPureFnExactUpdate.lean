/-
  The plain statement of FnExactUpdate: both sides send and drop the same names, the arguments are not written, and the answers own their memory.
  Conditions: the statement's own (lengths that slices and strings can have).
-/
import Derived.Test.YtelcpfanjjfgdaaHFnExactUpdatex0
import Derived.Test.YtelcpfanjjfgdaaHFnExactUpdatex1
import Derived.Test.YtelcpfanjjfgdaaHFnExactUpdatex2
import Derived.Test.YtelcpfanjjfgdaaHFnExactUpdatex3
import Derived.Test.YtelcpfanjjfgdaaHFnExactUpdatex4
import Derived.Test.YtelcpfanjjfgdaaHFnExactUpdatex5
import Derived.Test.YtelcpfanjjfgdaaHFnExactUpdatex6
import Derived.Test.YtelcpfanjjfgdaaHFnExactUpdatex7
import Derived.Test.YtelcpfanjjfgdaaHFnExactUpdatex8
import Derived.Test.YtelcpfanjjfgdaaHFnExactUpdatex9
import Derived.Test.YtelcpfanjjfgdaaHFnExactUpdatex10
import Derived.Test.YtelcpfanjjfgdaaPureBase
import Derived.Laws.BitsLemmas
namespace Go.Proofs.Ytelcpfanjjfgdaa.Pure
open Go.RowKit Go.Proofs.Ytelcpfanjjfgdaa.HFnExactUpdate Go.Proofs.YtelcpfanjjfgdaaW.PrintWords Go.Proofs.YtelcpfanjjfgdaaW.PrintLast Go.Proofs.YtelcpfanjjfgdaaW.PrintMore Go.Proofs.Ytelcpfanjjfgdaa.PB
set_option linter.unusedVariables false
set_option linter.unusedSimpArgs false
theorem spec_in_eq (a lo hi : Int) : spec_l1In.f a lo hi = some (decide (lo ≤ a ∧ a ≤ hi)) := by
  unfold spec_l1In.f
  by_cases h : a ≥ lo
  · rw [if_pos h]; simp [show lo ≤ a from h]
  · rw [if_neg h]; simp; omega

theorem impl_in_eq (a lo hi : Int) : impl_in.f a lo hi = some (decide (lo ≤ a ∧ a ≤ hi)) := by
  unfold impl_in.f
  by_cases h : lo ≤ a
  · rw [if_pos h]; simp [h]
  · rw [if_neg h]; simp; omega

/-! #### laws_toAssetS -/
def cvAsset (a : S77) : S71 := ⟨a.f0, a.f1, a.f2⟩
theorem toAssetS_ev (xs : List S77) (h : xs.length ≤ 1048576) : Ev (fun k => laws_toAssetS.f k xs) (xs.map cvAsset) := by
  have key : ∀ d i, i + d = xs.length → Ev (fun k => laws_toAssetS.l0 k xs ((xs.take i).map cvAsset ++ List.replicate (xs.length - i) z71) (i : Int)) (xs.map cvAsset) := by
    intro d
    induction d with
    | zero =>
      intro i hi
      refine ev_succ ?_
      have h1 : ¬ ((i : Int) < (xs.length : Int)) := by omega
      simp only [laws_toAssetS.l0, h1, if_false]
      obtain rfl : i = xs.length := by omega
      exact ev_ret (by rw [fill_all])
    | succ d ih =>
      intro i hi
      have hlt : i < xs.length := by omega
      refine ev_succ ?_
      have h1 : (i : Int) < (xs.length : Int) := by omega
      have h2 : (0 : Int) ≤ (i : Int) := by omega
      have h3 : (i : Int) < ((((xs.take i).map cvAsset ++ List.replicate (xs.length - i) z71).length : Nat) : Int) := by rw [fill_len _ _ _ _ (by omega)]; omega
      have h4 := w64s (n := i) (by omega)
      simp only [laws_toAssetS.l0, laws_toAsset.f, h1, h2, h3, if_true, h4, Option.bind_some]
      have := ih (i + 1) (by omega)
      rw [← fill_set cvAsset z77 z71 xs i hlt] at this
      exact this
  have h1 : (0 : Int) ≤ (xs.length : Int) := by omega
  have h2 : xs.length ≤ 8796093022208 := by omega
  simp only [laws_toAssetS.f, h1, Int.toNat_natCast, h2, if_true]
  have := key xs.length 0 (by omega)
  rw [← fill_none cvAsset z71 xs] at this
  exact this

/-! #### laws_eqAssetS at one list twice -/
theorem eqAssetS_refl (xs : List S71) (h : xs.length ≤ 4611686018427387904) : Ev (fun k => laws_eqAssetS.f k xs xs) true := by
  have key : ∀ d i, i + d = xs.length → Ev (fun k => laws_eqAssetS.l0 k xs xs (i : Int)) true := by
    intro d
    induction d with
    | zero =>
      intro i hi
      refine ev_succ ?_
      have h1 : ¬ ((i : Int) < (xs.length : Int)) := by omega
      simp only [laws_eqAssetS.l0, h1, if_false]
      exact ev_ret rfl
    | succ d ih =>
      intro i hi
      refine ev_succ ?_
      have h1 : (i : Int) < (xs.length : Int) := by omega
      have h2 : (0 : Int) ≤ (i : Int) := by omega
      have h4 := w64s (n := i) (by omega)
      simp only [laws_eqAssetS.l0, laws_eqAsset.f, h1, h2, if_true, h4, Option.bind_some]
      exact ih (i + 1) (by omega)
  simp only [laws_eqAssetS.f, if_true]
  exact key xs.length 0 (by omega)

/-! #### bytes of a string, by their index -/
theorem drop_bt (s : ByteArray) (i : Nat) (h : i < s.size) : (bytesOf s).drop i = bt s (i : Int) :: (bytesOf s).drop (i + 1) := by
  rw [drop_rd _ i (by rw [bytesOf_length]; exact h), rd_bytesOf]
def lexB : List Int → List Int → Bool
  | _, [] => false
  | [], _ :: _ => true
  | a :: x, b :: y => if a = b then lexB x y else decide (a < b)
theorem bytesLess_lex : ∀ x y : List UInt8, Op.bytesLess x y = lexB (x.map fun b => (b.toNat : Int)) (y.map fun b => (b.toNat : Int))
  | [], [] => by simp [Op.bytesLess, lexB]
  | _ :: _, [] => by simp [Op.bytesLess, lexB]
  | [], _ :: _ => by simp [Op.bytesLess, lexB]
  | a :: x, b :: y => by
    rw [Op.bytesLess, bytesLess_lex x y]
    simp only [List.map_cons, lexB]
    by_cases h : a = b
    · subst h
      simp
    · have h1 : ¬ ((a.toNat : Int) = (b.toNat : Int)) := fun e => h (UInt8.toNat_inj.1 (by omega))
      rw [if_neg h1]
      simp only [h, beq_eq_false_iff_ne.2 h, Bool.false_and, Bool.or_false]
      rw [decide_eq_decide]
      rw [UInt8.lt_iff_toNat_lt]
      omega
theorem bytesLess_bytesOf (a b : ByteArray) : Op.bytesLess a.toList b.toList = lexB (bytesOf a) (bytesOf b) := by
  rw [bytesLess_lex, ByteArray.toList_eq, ByteArray.toList_eq]
  rfl

def allFrom (p : Nat → Bool) : Nat → Nat → Bool
  | 0, _ => true
  | d + 1, i => p i && allFrom p d (i + 1)
theorem allFrom_at {p : Nat → Bool} : ∀ {d i : Nat}, allFrom p d i = true → ∀ j, i ≤ j → j < i + d → p j = true
  | 0, i, _, j, h1, h2 => absurd h2 (by omega)
  | d + 1, i, h, j, h1, h2 => by
    rw [allFrom, Bool.and_eq_true] at h
    rcases Nat.eq_or_lt_of_le h1 with rfl | h3
    · exact h.1
    · exact allFrom_at h.2 j (by omega) (by omega)

/-! #### PackOk -/
def okc (c : Int) : Bool := decide ((48 ≤ c ∧ c ≤ 57) ∨ (97 ≤ c ∧ c ≤ 122) ∨ (65 ≤ c ∧ c ≤ 90) ∨ c = 95 ∨ c = 46)
def nameB (s : ByteArray) : Bool := decide (1 ≤ s.size ∧ s.size ≤ 40) && (bytesOf s).all okc
theorem spec_Name_ev (s : ByteArray) : Ev (fun k => spec_l15Name.f k s) (nameB s) := by
  have key : ∀ d i, s.size ≤ 40 → i + d = s.size → Ev (fun k => spec_l15Name.l0 k s (i : Int)) (((bytesOf s).drop i).all okc) := by
    intro d
    induction d with
    | zero =>
      intro i hs hi
      refine ev_succ ?_
      have h1 : ¬ (i : Int) < (s.size : Int) := by omega
      simp only [spec_l15Name.l0, h1, if_false]
      exact ev_ret (by rw [drop_end (by rw [bytesOf_length]; omega)]; rfl)
    | succ d ih =>
      intro i hs hi
      refine ev_succ ?_
      have h1 : (i : Int) < (s.size : Int) := by omega
      have h2 : (0 : Int) ≤ (i : Int) := by omega
      have h4 := w64s (n := i) (by omega)
      have hih := ih (i + 1) hs (by omega)
      simp only [spec_l15Name.l0, h1, h2, h4, if_true]
      rw [drop_bt s i (by omega), List.all_cons]
      generalize bt s (i : Int) = c
      have yes : okc c = true → Ev (fun k => spec_l15Name.l0 k s ((i + 1 : Nat) : Int)) (okc c && ((bytesOf s).drop (i + 1)).all okc) := fun h => by rw [h, Bool.true_and]; exact hih
      have no : okc c = false → Ev (fun _ => some false) (okc c && ((bytesOf s).drop (i + 1)).all okc) := fun h => by rw [h, Bool.false_and]; exact ev_ret rfl
      repeat' (refine ev_ite (fun _ => ?_) (fun _ => ?_))
      all_goals first | exact yes (decide_eq_true (by omega)) | exact no (decide_eq_false (by omega))
  unfold nameB
  simp only [spec_l15Name.f]
  refine ev_ite (fun h => ?_) (fun h => ?_)
  · refine ev_succ ?_
    simp only [spec_l15Name.j0, if_true]
    exact ev_ret (by rw [decide_eq_false (by omega)]; rfl)
  · refine ev_succ ?_
    by_cases h2 : (s.size : Int) > 40
    · simp only [spec_l15Name.j0, decide_eq_true h2, if_true]
      exact ev_ret (by rw [decide_eq_false (by omega)]; rfl)
    · simp only [spec_l15Name.j0, decide_eq_false h2, Bool.false_eq_true, if_false]
      exact ev_eq (key s.size 0 (by omega) (by omega)) (by rw [decide_eq_true (by omega)]; simp)
theorem impl_Name_ev (s : ByteArray) : Ev (fun k => impl_assetName.f k s) (nameB s) := by
  have hle : ∀ c, impl_isLetter.f c = some (decide ((97 ≤ c ∧ c ≤ 122) ∨ (65 ≤ c ∧ c ≤ 90))) := by
    intro c
    unfold impl_isLetter.f
    repeat' split
    all_goals (congr 1; first | (rw [decide_eq_decide]; omega) | (symm; first | exact decide_eq_true (by omega) | exact decide_eq_false (by omega)))
  have hdi : ∀ c, impl_isDigit.f c = some (decide (48 ≤ c ∧ c ≤ 57)) := by
    intro c
    unfold impl_isDigit.f
    split
    all_goals (congr 1; first | (rw [decide_eq_decide]; omega) | (symm; first | exact decide_eq_true (by omega) | exact decide_eq_false (by omega)))
  have key : ∀ d i, s.size ≤ 40 → i + d = s.size → Ev (fun k => impl_assetName.l0 k s (s.size : Int) (i : Int)) (((bytesOf s).drop i).all okc) := by
    intro d
    induction d with
    | zero =>
      intro i hs hi
      refine ev_succ ?_
      have h1 : ¬ (i : Int) < (s.size : Int) := by omega
      simp only [impl_assetName.l0, h1, if_false]
      exact ev_ret (by rw [drop_end (by rw [bytesOf_length]; omega)]; rfl)
    | succ d ih =>
      intro i hs hi
      refine ev_succ ?_
      have h1 : (i : Int) < (s.size : Int) := by omega
      have h2 : (0 : Int) ≤ (i : Int) := by omega
      have h4 := w64s (n := i) (by omega)
      have hih := ih (i + 1) hs (by omega)
      simp only [impl_assetName.l0, h1, h2, h4, if_true, hle, hdi, Option.bind_some, decide_eq_true_eq]
      rw [drop_bt s i (by omega), List.all_cons]
      generalize bt s (i : Int) = c
      have yes : okc c = true → Ev (fun k => impl_assetName.l0 k s (s.size : Int) ((i + 1 : Nat) : Int)) (okc c && ((bytesOf s).drop (i + 1)).all okc) := fun h => by rw [h, Bool.true_and]; exact hih
      have no : okc c = false → Ev (fun _ => some false) (okc c && ((bytesOf s).drop (i + 1)).all okc) := fun h => by rw [h, Bool.false_and]; exact ev_ret rfl
      repeat' (refine ev_ite (fun _ => ?_) (fun _ => ?_))
      all_goals first | exact yes (decide_eq_true (by omega)) | exact no (decide_eq_false (by omega))
  unfold nameB
  simp only [impl_assetName.f, impl_in_eq, Option.bind_some]
  refine ev_ifb (fun h => ?_) (fun h => ?_)
  · have h' := of_decide_eq_true h
    exact ev_eq (key s.size 0 (by omega) (by omega)) (by rw [decide_eq_true (by omega)]; simp)
  · have h' := of_decide_eq_false h
    exact ev_ret (by rw [decide_eq_false (by omega)]; rfl)
theorem spec_Before_ev (a b : ByteArray) (ha : a.size ≤ 4611686018427387904) : Ev (fun k => spec_l15Before.f k a b) (lexB (bytesOf a) (bytesOf b)) := by
  have key : ∀ d i, i + d = a.size → i ≤ b.size → Ev (fun k => spec_l15Before.l0 k a b (i : Int)) (lexB ((bytesOf a).drop i) ((bytesOf b).drop i)) := by
    intro d
    induction d with
    | zero =>
      intro i hi hb
      refine ev_succ ?_
      have h1 : ¬ (i : Int) < (a.size : Int) := by omega
      simp only [spec_l15Before.l0, h1, if_false]
      refine ev_succ ?_
      simp only [spec_l15Before.j1, Bool.false_eq_true, if_false]
      refine ev_ret ?_
      rw [drop_end (by rw [bytesOf_length]; omega)]
      by_cases h2 : i < b.size
      · rw [drop_bt b i h2, decide_eq_true (by omega)]; rfl
      · rw [drop_end (by rw [bytesOf_length]; omega), decide_eq_false (by omega)]; rfl
    | succ d ih =>
      intro i hi hb
      refine ev_succ ?_
      have h1 : (i : Int) < (a.size : Int) := by omega
      have h3 : (0 : Int) ≤ (i : Int) := by omega
      have h4 := w64s (n := i) (by omega)
      simp only [spec_l15Before.l0, h1, if_true]
      refine ev_succ ?_
      by_cases h2 : (i : Int) < (b.size : Int)
      · simp only [spec_l15Before.j1, decide_eq_true h2, if_true, h1, h2, h3, h4]
        rw [drop_bt a i (by omega), drop_bt b i (by omega), lexB]
        by_cases he : bt a (i : Int) = bt b (i : Int)
        · simp only [he, if_true]
          exact ih (i + 1) (by omega) (by omega)
        · simp only [he, if_false]
          exact ev_ret rfl
      · simp only [spec_l15Before.j1, decide_eq_false h2, Bool.false_eq_true, if_false]
        refine ev_ret ?_
        rw [drop_end (xs := bytesOf b) (by rw [bytesOf_length]; omega), decide_eq_false (by omega)]
        cases (bytesOf a).drop i <;> rfl
  exact key a.size 0 (by omega) (by omega)
/-- One asset behind the one ahead of it. -/
def assetB (xs : List S71) (i : Nat) : Bool :=
  nameB (rd_T71 xs (i : Int)).f0 && decide (0 ≤ (rd_T71 xs (i : Int)).f1 ∧ (rd_T71 xs (i : Int)).f1 ≤ 40000) && decide (0 ≤ (rd_T71 xs (i : Int)).f2 ∧ (rd_T71 xs (i : Int)).f2 ≤ 1000000006)
    && (decide (i = 0) || lexB (bytesOf (rd_T71 xs ((i - 1 : Nat) : Int)).f0) (bytesOf (rd_T71 xs (i : Int)).f0))
def packB (xs : List S71) : Bool := decide (xs.length ≤ 100) && allFrom (assetB xs) xs.length 0
theorem spec_PackOk_ev (xs : List S71) (hs : ∀ x ∈ xs, x.f0.size ≤ 4611686018427387904) : Ev (fun k => spec_PackOk.f k xs) (packB xs) := by
  have key : ∀ d i, xs.length ≤ 100 → i + d = xs.length → Ev (fun k => spec_PackOk.l0 k xs (i : Int)) (allFrom (assetB xs) d i) := by
    intro d
    induction d with
    | zero =>
      intro i hl hi
      refine ev_succ ?_
      have h1 : ¬ (i : Int) < (xs.length : Int) := by omega
      simp only [spec_PackOk.l0, h1, if_false]
      exact ev_ret rfl
    | succ d ih =>
      intro i hl hi
      refine ev_succ ?_
      have h1 : (i : Int) < (xs.length : Int) := by omega
      have h2 : (0 : Int) ≤ (i : Int) := by omega
      have h4 := w64s (n := i) (by omega)
      simp only [spec_PackOk.l0, h1, h2, h4, if_true]
      rw [allFrom, assetB]
      refine ev_bind (spec_Name_ev _) ?_
      refine ev_ifb (fun e1 => ?_) (fun e1 => ev_ret (by rw [e1]; rfl))
      rw [e1, Bool.true_and]
      simp only [spec_in_eq, Option.bind_some]
      refine ev_ifb (fun e2 => ?_) (fun e2 => ev_ret (by rw [e2]; rfl))
      rw [e2, Bool.true_and]
      refine ev_ifb (fun e3 => ?_) (fun e3 => ev_ret (by rw [e3]; rfl))
      rw [e3, Bool.true_and]
      refine ev_ite (fun h5 => ?_) (fun h5 => ?_)
      · have h6 : wrap64 ((i : Int) - 1) = ((i - 1 : Nat) : Int) := by rw [w64 (by omega) (by omega)]; omega
        have h7 : (0 : Int) ≤ ((i - 1 : Nat) : Int) := by omega
        have h8 : ((i - 1 : Nat) : Int) < (xs.length : Int) := by omega
        simp only [h6, h7, h8, if_true]
        refine ev_bind (spec_Before_ev _ _ (hs _ (getD_mem _ (by omega)))) ?_
        rw [decide_eq_false (show ¬ i = 0 by omega), Bool.false_or]
        refine ev_ifb (fun e4 => ?_) (fun e4 => ev_ret (by rw [e4]; rfl))
        rw [e4, Bool.true_and]
        exact ih (i + 1) hl (by omega)
      · rw [decide_eq_true (show i = 0 by omega), Bool.true_or, Bool.true_and]
        exact ih (i + 1) hl (by omega)
  unfold packB
  simp only [spec_PackOk.f]
  refine ev_ite (fun h => ev_ret (by rw [decide_eq_false (by omega)]; rfl)) (fun h => ?_)
  rw [decide_eq_true (show xs.length ≤ 100 by omega), Bool.true_and]
  exact key xs.length 0 (by omega) (by omega)
theorem impl_PackOk_ev (xs : List S71) (hl : xs.length ≤ 4611686018427387904) : Ev (fun k => impl_PackOk.f k xs) (packB xs) := by
  have key : ∀ d i, i + d = xs.length → Ev (fun k => impl_PackOk.l0 k xs xs (xs.length : Int) (i : Int)) (decide (xs.length ≤ 100) && allFrom (assetB xs) d i) := by
    intro d
    induction d with
    | zero =>
      intro i hi
      refine ev_succ ?_
      have h1 : ¬ (i : Int) < (xs.length : Int) := by omega
      simp only [impl_PackOk.l0, h1, if_false]
      exact ev_ret (by rw [allFrom, Bool.and_true]; congr 1; rw [decide_eq_decide]; omega)
    | succ d ih =>
      intro i hi
      refine ev_succ ?_
      have h1 : (i : Int) < (xs.length : Int) := by omega
      have h2 : (0 : Int) ≤ (i : Int) := by omega
      have h4 := w64s (n := i) (by omega)
      simp only [impl_PackOk.l0, h1, h2, h4, if_true]
      rw [allFrom, assetB]
      have no : ∀ b : Bool, b = false → Ev (fun k => some false) (decide (xs.length ≤ 100) && (b && allFrom (assetB xs) d (i + 1))) := fun b hb => by rw [hb, Bool.false_and, Bool.and_false]; exact ev_ret rfl
      refine ev_bind (impl_Name_ev _) ?_
      refine ev_ifb (fun e1 => ?_) (fun e1 => no _ (by rw [e1]; rfl))
      rw [e1, Bool.true_and]
      simp only [impl_in_eq, Option.bind_some]
      refine ev_ifb (fun e2 => ?_) (fun e2 => no _ (by rw [e2]; rfl))
      rw [e2, Bool.true_and]
      refine ev_ifb (fun e3 => ?_) (fun e3 => no _ (by rw [e3]; rfl))
      rw [e3, Bool.true_and]
      refine ev_ite (fun h5 => ?_) (fun h5 => ?_)
      · have h6 : wrap64 ((i : Int) - 1) = ((i - 1 : Nat) : Int) := by rw [w64 (by omega) (by omega)]; omega
        have h7 : (0 : Int) ≤ ((i - 1 : Nat) : Int) := by omega
        have h8 : ((i - 1 : Nat) : Int) < (xs.length : Int) := by omega
        simp only [h6, h7, h8, if_true, bytesLess_bytesOf]
        rw [decide_eq_false (show ¬ i = 0 by omega), Bool.false_or]
        refine ev_ifb (fun e4 => ?_) (fun e4 => no _ e4)
        rw [e4, Bool.true_and]
        exact ih (i + 1) (by omega)
      · rw [decide_eq_true (show i = 0 by omega), Bool.true_or, Bool.true_and]
        exact ih (i + 1) (by omega)
  exact key xs.length 0 (by omega)

/-! #### strings: equal to themselves, marked -/
theorem str_inj {a b : ByteArray} (h : a.toList = b.toList) : a = b := by
  rw [ByteArray.toList_eq, ByteArray.toList_eq] at h
  exact ByteArray.ext (Array.toList_inj.mp h)
theorem eqStringS_refl (xs : List ByteArray) (h : xs.length ≤ 4611686018427387904) : Ev (fun k => laws_eqStringS.f k xs xs) true := by
  have key : ∀ d i, i + d = xs.length → Ev (fun k => laws_eqStringS.l0 k xs xs (i : Int)) true := by
    intro d
    induction d with
    | zero =>
      intro i hi
      refine ev_succ ?_
      have h1 : ¬ ((i : Int) < (xs.length : Int)) := by omega
      simp only [laws_eqStringS.l0, h1, if_false]
      exact ev_ret rfl
    | succ d ih =>
      intro i hi
      refine ev_succ ?_
      have h1 : (i : Int) < (xs.length : Int) := by omega
      have h2 : (0 : Int) ≤ (i : Int) := by omega
      have h4 := w64s (n := i) (by omega)
      simp only [laws_eqStringS.l0, h1, h2, if_true, h4]
      exact ih (i + 1) (by omega)
  simp only [laws_eqStringS.f, if_true]
  exact key xs.length 0 (by omega)
theorem markText_evp (n : Int) (h0 : 0 ≤ n) (h1 : n < 10000000000000) : EvP (fun k => laws_markText.f k n) (fun _ => True) := by
  have key : ∀ (d : Nat) (n : Int) (s : ByteArray), 0 ≤ n → n < 10 ^ d → n < 10000000000000 → s.size + d ≤ 1000 → EvP (fun k => laws_markText.l0 k n s) (fun _ => True) := by
    intro d
    induction d with
    | zero =>
      intro n s h0 h1 h2 hs
      refine evp_succ ?_
      simp only [laws_markText.l0]
      have : n < 1 := by simpa using h1
      exact evp_neg (by omega) (evp_pos (by omega) (evp_now trivial))
    | succ d ih =>
      intro n s h0 h1 h2 hs
      refine evp_succ ?_
      simp only [laws_markText.l0, Option.bind_some]
      refine evp_ite (fun hp => ?_) (fun hp => evp_pos (by omega) (evp_now trivial))
      have hz : (strOfNums [(wrap64 (48 + (Int.tmod n 10))) % 256]).size = 1 := rfl
      refine evp_pos (by rw [hz]; omega) ?_
      have e : Int.tdiv n 10 = n / 10 := Int.tdiv_eq_ediv_of_nonneg h0
      have hlt : n / 10 < 10 ^ d := by
        have : (10 : Int) ^ (d + 1) = 10 ^ d * 10 := Int.pow_succ 10 d
        omega
      rw [e, w64 (by omega) (by omega)]
      exact ih _ _ (by omega) hlt (by omega) (by rw [ByteArray.size_append, hz]; omega)
  unfold laws_markText.f
  refine evp_ite (fun _ => evp_now trivial) (fun _ => ?_)
  exact key 13 n _ h0 (by simpa using h1) h1 (by have : (⟨#[]⟩ : ByteArray).size = 0 := rfl; omega)
/-- What markText gives, as a function. -/
def MT (mt : Int → ByteArray) : Prop := ∀ n, 0 ≤ n → n < 10000000000000 → Ev (fun k => laws_markText.f k n) (mt n)
theorem mt_all : ∃ mt : Int → ByteArray, MT mt := by
  have h : ∀ n : Int, ∃ t : ByteArray, 0 ≤ n → n < 10000000000000 → Ev (fun k => laws_markText.f k n) t := by
    intro n
    by_cases h0 : 0 ≤ n ∧ n < 10000000000000
    · obtain ⟨r, hr, _⟩ := markText_evp n h0.1 h0.2
      exact ⟨r, fun _ _ => hr⟩
    · exact ⟨ByteArray.empty, fun h1 h2 => absurd ⟨h1, h2⟩ h0⟩
  exact Classical.axiomOfChoice h
def marks (mt : Int → ByteArray) (k : Int) (n : Nat) : List ByteArray := (List.range n).map fun i => mt (k + (i : Nat))
theorem marks_len (mt : Int → ByteArray) (k : Int) (n : Nat) : (marks mt k n).length = n := by simp [marks]
theorem marks_succ (mt : Int → ByteArray) (k : Int) (n : Nat) : marks mt k (n + 1) = marks mt k n ++ [mt (k + (n : Nat))] := by simp [marks, List.range_succ]
theorem markStringS_ev {mt : Int → ByteArray} (hmt : MT mt) (xs : List ByteArray) (k : Int) (hk0 : 0 ≤ k) (hk : k ≤ 1000000000000) (hl : xs.length ≤ 1048576) :
    Ev (fun n => laws_markStringS.f n xs k) (k + (xs.length : Nat), marks mt k xs.length) := by
  have key : ∀ d i, i + d = xs.length → Ev (fun n => laws_markStringS.l0 n (marks mt k i ++ xs.drop i) (k + (i : Nat)) (i : Int)) (k + (xs.length : Nat), marks mt k xs.length) := by
    intro d
    induction d with
    | zero =>
      intro i hi
      refine ev_succ ?_
      have hi' : i = xs.length := by omega
      subst hi'
      have h1 : ¬ ((xs.length : Int) < (((marks mt k xs.length ++ xs.drop xs.length).length : Nat) : Int)) := by simp [marks_len]
      simp only [laws_markStringS.l0, h1, if_false]
      exact ev_ret (by simp)
    | succ d ih =>
      intro i hi
      refine ev_succ ?_
      have h1 : (i : Int) < (((marks mt k i ++ xs.drop i).length : Nat) : Int) := by simp [marks_len]; omega
      have h2 : (0 : Int) ≤ (i : Int) := by omega
      have h4 := w64s (n := i) (by omega)
      have h5 : wrap64 (k + (i : Nat) + 1) = k + ((i + 1 : Nat) : Int) := by rw [w64 (by omega) (by omega)]; omega
      simp only [laws_markStringS.l0, h1, h2, h4, h5, if_true, Int.toNat_natCast]
      refine ev_bind (hmt _ (by omega) (by omega)) ?_
      have e : (marks mt k i ++ xs.drop i).set i (mt (k + (i : Nat))) = marks mt k (i + 1) ++ xs.drop (i + 1) := by
        rw [List.drop_eq_getElem_cons (show i < xs.length by omega), marks_succ, List.append_assoc]
        rw [List.set_append_right _ _ (by rw [marks_len]; omega), marks_len, Nat.sub_self]
        rfl
      rw [e]
      exact ih (i + 1) (by omega)
  have := key xs.length 0 (by omega)
  simpa [marks, laws_markStringS.f] using this
theorem heldStringS_ev {mt : Int → ByteArray} (hmt : MT mt) (n : Nat) (k : Int) (hk0 : 0 ≤ k) (hk : k ≤ 1000000000000) (hl : n ≤ 1048576) :
    Ev (fun q => laws_heldStringS.f q (marks mt k n) k) (k + (n : Nat)) := by
  have key : ∀ d i, i + d = n → Ev (fun q => laws_heldStringS.l0 q (marks mt k n) (k + (i : Nat)) (i : Int)) (k + (n : Nat)) := by
    intro d
    induction d with
    | zero =>
      intro i hi
      refine ev_succ ?_
      have hi' : i = n := by omega
      subst hi'
      simp only [laws_heldStringS.l0, marks_len, Int.lt_irrefl, if_false]
      exact ev_ret rfl
    | succ d ih =>
      intro i hi
      refine ev_succ ?_
      have h1 : (i : Int) < ((n : Nat) : Int) := by omega
      have h2 : (0 : Int) ≤ (i : Int) := by omega
      have h4 := w64s (n := i) (by omega)
      have h5 : wrap64 (k + (i : Nat) + 1) = k + ((i + 1 : Nat) : Int) := by rw [w64 (by omega) (by omega)]; omega
      have h6 : rdOf ByteArray.empty (marks mt k n) (i : Int) = mt (k + (i : Nat)) := by
        simp [rdOf, marks, List.getD_eq_getElem?_getD, List.getElem?_map, List.getElem?_range (show i < n by omega)]
      simp only [laws_heldStringS.l0, marks_len, h1, h2, h4, h5, h6, if_true]
      refine ev_bind (hmt _ (by omega) (by omega)) ?_
      simp only [if_true]
      exact ih (i + 1) (by omega)
  have := key n 0 (by omega)
  simpa [laws_heldStringS.f] using this

/-! #### Update -/
theorem lexB_irrefl : ∀ a : List Int, lexB a a = false
  | [] => rfl
  | a :: x => by rw [lexB, if_pos rfl]; exact lexB_irrefl x
theorem lexB_trans : ∀ a b c : List Int, lexB a b = true → lexB b c = true → lexB a c = true
  | _, [], _, h, _ => by simp [lexB] at h
  | a, b :: y, [], _, h => by simp [lexB] at h
  | [], b :: y, c :: z, _, _ => rfl
  | a :: x, b :: y, c :: z, h1, h2 => by
    rw [lexB] at h1 h2 ⊢
    by_cases e1 : a = b
    · rw [if_pos e1] at h1
      by_cases e2 : b = c
      · rw [if_pos e2] at h2
        rw [if_pos (e1.trans e2)]
        exact lexB_trans x y z h1 h2
      · rw [if_neg e2] at h2
        rw [if_neg (by omega), e1]
        exact h2
    · rw [if_neg e1] at h1
      have l1 := of_decide_eq_true h1
      by_cases e2 : b = c
      · rw [if_neg (by omega)]
        exact decide_eq_true (by omega)
      · rw [if_neg e2] at h2
        have l2 := of_decide_eq_true h2
        rw [if_neg (by omega)]
        exact decide_eq_true (by omega)
def nmAt (xs : List S71) (i : Nat) : ByteArray := (rd_T71 xs (i : Int)).f0
theorem pack_lt {xs : List S71} (h : packB xs = true) : ∀ (d i : Nat), 0 < d → i + d < xs.length → lexB (bytesOf (nmAt xs i)) (bytesOf (nmAt xs (i + d))) = true := by
  rw [packB, Bool.and_eq_true] at h
  have one : ∀ i, 0 < i → i < xs.length → lexB (bytesOf (nmAt xs (i - 1))) (bytesOf (nmAt xs i)) = true := by
    intro i h0 hi
    have := allFrom_at h.2 i (by omega) (by omega)
    rw [assetB, Bool.and_eq_true] at this
    have h2 := this.2
    rw [decide_eq_false (show ¬ i = 0 by omega), Bool.false_or] at h2
    exact h2
  intro d
  induction d with
  | zero => intro i h0; omega
  | succ d ih =>
    intro i _ hi
    have h1 := one (i + (d + 1)) (by omega) hi
    rw [show i + (d + 1) - 1 = i + d by omega] at h1
    rcases Nat.eq_zero_or_pos d with h0 | h0
    · subst h0; exact h1
    · exact lexB_trans _ _ _ (ih i h0 (by omega)) h1
theorem pack_uniq {xs : List S71} (h : packB xs = true) {i j : Nat} (hi : i < xs.length) (hj : j < xs.length) (e : nmAt xs i = nmAt xs j) : i = j := by
  rcases Nat.lt_trichotomy i j with hlt | heq | hlt
  · have := pack_lt h (j - i) i (by omega) (by omega)
    rw [show i + (j - i) = j by omega, e, lexB_irrefl] at this
    cases this
  · exact heq
  · have := pack_lt h (i - j) j (by omega) (by omega)
    rw [show j + (i - j) = i by omega, e, lexB_irrefl] at this
    cases this
def sameA (x y : S71) : Bool := x.f0.toList == y.f0.toList && (x.f1 == y.f1 && (x.f2 == y.f2))
def sameN (x y : S71) : Bool := decide (y.f0.toList = x.f0.toList)
def idxW (p : S71 → Bool) : List S71 → Int → Int
  | [], _ => -1
  | x :: xs, i => if p x = true then i else idxW p xs (i + 1)
theorem idxW_spec (p : S71 → Bool) : ∀ (l : List S71) (i : Int), (idxW p l i = -1 ∧ l.any p = false) ∨ (∃ j : Nat, j < l.length ∧ idxW p l i = i + j ∧ p (rd_T71 l (j : Int)) = true)
  | [], i => .inl ⟨rfl, rfl⟩
  | x :: xs, i => by
    rw [idxW]
    by_cases h : p x = true
    · rw [if_pos h]
      exact .inr ⟨0, by simp, by simp, h⟩
    · rw [if_neg h]
      rcases idxW_spec p xs (i + 1) with ⟨h1, h2⟩ | ⟨j, h1, h2, h3⟩
      · exact .inl ⟨h1, by rw [List.any_cons, h2, Bool.eq_false_iff.2 h]; rfl⟩
      · exact .inr ⟨j + 1, by simpa using h1, by rw [h2]; omega, h3⟩
theorem idxW_any (p : S71 → Bool) (l : List S71) : decide (idxW p l 0 ≥ 0) = l.any p := by
  rcases idxW_spec p l 0 with ⟨h1, h2⟩ | ⟨j, h1, h2, h3⟩
  · rw [h1, h2]; rfl
  · rw [h2, decide_eq_true (by omega)]
    symm
    rw [List.any_eq_true]
    exact ⟨_, getD_mem _ (by omega), h3⟩
theorem cont_ev (xs : List S71) (x : S71) (hl : xs.length ≤ 4611686018427387904) : Ev (fun k => impl_Asset_72.f k xs x.f0 x.f1 x.f2) (xs.any (sameA x)) := by
  have key : ∀ d i, i + d = xs.length → Ev (fun k => impl_Asset_86.l0 k xs (xs.length : Int) (i : Int) x.f0 x.f1 x.f2) (idxW (sameA x) (xs.drop i) (i : Int)) := by
    intro d
    induction d with
    | zero =>
      intro i hi
      refine ev_succ ?_
      have h1 : ¬ ((i : Int) < (xs.length : Int)) := by omega
      simp only [impl_Asset_86.l0, h1, if_false]
      exact ev_ret (by rw [drop_end (by omega)]; rfl)
    | succ d ih =>
      intro i hi
      refine ev_succ ?_
      have h1 : (i : Int) < (xs.length : Int) := by omega
      have h2 : (0 : Int) ≤ (i : Int) := by omega
      have h4 := w64s (n := i) (by omega)
      simp only [impl_Asset_86.l0, h1, h2, h4, if_true]
      have hd : xs.drop i = rd_T71 xs (i : Int) :: xs.drop (i + 1) := drop_getD z71 xs i (by omega)
      rw [hd, idxW]
      refine ev_ite (fun h => ev_ret (by rw [if_pos (show sameA x (rd_T71 xs (i : Int)) = true from h)])) (fun h => ?_)
      rw [if_neg (show ¬ sameA x (rd_T71 xs (i : Int)) = true from h)]
      exact ih (i + 1) (by omega)
  unfold impl_Asset_72.f impl_Asset_86.f
  rw [← idxW_any]
  exact ev_bind (key xs.length 0 (by omega)) (ev_ret rfl)
theorem find_ev (xs : List S71) (x : S71) (hl : xs.length ≤ 4611686018427387904) : Ev (fun k => spec_l15Find.f k xs x.f0) (idxW (sameN x) xs 0) := by
  have key : ∀ d i, i + d = xs.length → Ev (fun k => spec_l15Find.l0 k xs x.f0 (i : Int)) (idxW (sameN x) (xs.drop i) (i : Int)) := by
    intro d
    induction d with
    | zero =>
      intro i hi
      refine ev_succ ?_
      have h1 : ¬ ((i : Int) < (xs.length : Int)) := by omega
      simp only [spec_l15Find.l0, h1, if_false]
      exact ev_ret (by rw [drop_end (by omega)]; rfl)
    | succ d ih =>
      intro i hi
      refine ev_succ ?_
      have h1 : (i : Int) < (xs.length : Int) := by omega
      have h2 : (0 : Int) ≤ (i : Int) := by omega
      have h4 := w64s (n := i) (by omega)
      simp only [spec_l15Find.l0, h1, h2, h4, if_true]
      have hd : xs.drop i = rd_T71 xs (i : Int) :: xs.drop (i + 1) := drop_getD z71 xs i (by omega)
      rw [hd, idxW]
      refine ev_ite (fun h => ev_ret (by rw [if_pos (show sameN x _ = true from decide_eq_true h)])) (fun h => ?_)
      rw [if_neg (show ¬ sameN x (rd_T71 xs (i : Int)) = true from fun h2 => h (of_decide_eq_true h2))]
      exact ih (i + 1) (by omega)
  exact key xs.length 0 (by omega)
theorem named_any (xs : List S71) (x : S71) : (xs.any fun y => decide (y.f0 = x.f0)) = xs.any (sameN x) := by
  congr 1
  funext y
  unfold sameN
  rw [decide_eq_decide]
  exact ⟨fun h => by rw [h], fun h => str_inj h⟩
def sentV (a : List S71) : List S71 → List ByteArray
  | [] => []
  | x :: xs => if a.any (sameA x) = true then sentV a xs else x.f0 :: sentV a xs
def goneV (b : List S71) : List S71 → List ByteArray
  | [] => []
  | x :: xs => if b.any (sameN x) = true then goneV b xs else x.f0 :: goneV b xs
theorem sentV_len (a : List S71) : ∀ l, (sentV a l).length ≤ l.length
  | [] => by simp [sentV]
  | x :: xs => by
    have := sentV_len a xs
    rw [sentV]
    split <;> simp <;> omega
theorem goneV_len (a : List S71) : ∀ l, (goneV a l).length ≤ l.length
  | [] => by simp [goneV]
  | x :: xs => by
    have := goneV_len a xs
    rw [goneV]
    split <;> simp <;> omega
def updV (a b : List S71) : List ByteArray × List ByteArray := if packB a = true ∧ packB b = true then (sentV a b, goneV b a) else ([], [])
theorem packB_len {xs : List S71} (h : packB xs = true) : xs.length ≤ 100 := by
  rw [packB, Bool.and_eq_true] at h
  exact of_decide_eq_true h.1
theorem impl_Update_ev (a b : List S71) (ha : a.length ≤ 1048576) (hb : b.length ≤ 1048576) : Ev (fun k => impl_Update.f k a b) (updV a b) := by
  have l1 : a.length ≤ 100 → ∀ d i (s g : List ByteArray), i + d = a.length → g.length ≤ i → Ev (fun k => impl_Update.l1 k b s g a (a.length : Int) (i : Int)) (s, g ++ goneV b (a.drop i)) := by
    intro hA d
    induction d with
    | zero =>
      intro i s g hi hg
      refine ev_succ ?_
      have h1 : ¬ ((i : Int) < (a.length : Int)) := by omega
      simp only [impl_Update.l1, h1, if_false]
      exact ev_ret (by rw [drop_end (by omega)]; simp [goneV])
    | succ d ih =>
      intro i s g hi hg
      refine ev_succ ?_
      have h1 : (i : Int) < (a.length : Int) := by omega
      have h2 : (0 : Int) ≤ (i : Int) := by omega
      have h4 := w64s (n := i) (by omega)
      have hd : a.drop i = rd_T71 a (i : Int) :: a.drop (i + 1) := drop_getD z71 a i (by omega)
      simp only [impl_Update.l1, h1, h2, h4, if_true, impl_named.f, Option.bind_some, named_any]
      rw [hd, goneV]
      refine ev_ite (fun h => ?_) (fun h => ?_)
      · rw [if_pos h]
        exact ih (i + 1) _ _ (by omega) (by omega)
      · rw [if_neg h]
        refine ev_pos (by omega) ?_
        have := ih (i + 1) s (g ++ [(rd_T71 a (i : Int)).f0]) (by omega) (by simp; omega)
        simpa using this
  have l0 : a.length ≤ 100 → b.length ≤ 100 → ∀ d i (s : List ByteArray), i + d = b.length → s.length ≤ i → Ev (fun k => impl_Update.l0 k a b s [] b (b.length : Int) (i : Int)) (s ++ sentV a (b.drop i), goneV b a) := by
    intro hA hB d
    induction d with
    | zero =>
      intro i s hi hs
      refine ev_succ ?_
      have h1 : ¬ ((i : Int) < (b.length : Int)) := by omega
      simp only [impl_Update.l0, h1, if_false]
      have := l1 hA a.length 0 s [] (by omega) (by simp)
      rw [drop_end (xs := b) (by omega)]
      simpa [sentV] using this
    | succ d ih =>
      intro i s hi hs
      refine ev_succ ?_
      have h1 : (i : Int) < (b.length : Int) := by omega
      have h2 : (0 : Int) ≤ (i : Int) := by omega
      have h4 := w64s (n := i) (by omega)
      have hd : b.drop i = rd_T71 b (i : Int) :: b.drop (i + 1) := drop_getD z71 b i (by omega)
      simp only [impl_Update.l0, h1, h2, h4, if_true]
      rw [hd, sentV]
      refine ev_bind (cont_ev a _ (by omega)) ?_
      refine ev_ite (fun h => ?_) (fun h => ?_)
      · rw [if_pos h]
        exact ih (i + 1) _ (by omega) (by omega)
      · rw [if_neg h]
        refine ev_pos (by omega) ?_
        have := ih (i + 1) (s ++ [(rd_T71 b (i : Int)).f0]) (by omega) (by simp; omega)
        simpa using this
  unfold updV
  simp only [impl_Update.f]
  refine ev_bind (impl_PackOk_ev a (by omega)) ?_
  refine ev_ite (fun h1 => ?_) (fun h1 => ?_)
  · refine ev_bind (impl_PackOk_ev b (by omega)) ?_
    refine ev_succ ?_
    simp only [impl_Update.j0]
    refine ev_ite (fun h2 => ?_) (fun h2 => ?_)
    · rw [if_neg (fun h => by simp [h.2] at h2)]
      exact ev_ret rfl
    · have h3 : packB b = true := by simpa using h2
      rw [if_pos ⟨h1, h3⟩]
      have := l0 (packB_len h1) (packB_len h3) b.length 0 [] (by omega) (by simp)
      simpa using this
  · rw [if_neg (fun h => h1 h.1)]
    refine ev_succ ?_
    simp only [impl_Update.j0, if_true]
    exact ev_ret rfl
theorem spec_Update_ev (a b : List S71) (ha : a.length ≤ 1048576) (hb : b.length ≤ 1048576) (sa : ∀ x ∈ a, x.f0.size ≤ 4611686018427387904) (sb : ∀ x ∈ b, x.f0.size ≤ 4611686018427387904) : Ev (fun k => spec_Update.f k a b) (updV a b) := by
  have l1 : a.length ≤ 100 → ∀ d i (s g : List ByteArray), i + d = a.length → g.length ≤ i → Ev (fun k => spec_Update.l1 k a b s g (i : Int)) (s, g ++ goneV b (a.drop i)) := by
    intro hA d
    induction d with
    | zero =>
      intro i s g hi hg
      refine ev_succ ?_
      have h1 : ¬ ((i : Int) < (a.length : Int)) := by omega
      simp only [spec_Update.l1, h1, if_false]
      exact ev_ret (by rw [drop_end (by omega)]; simp [goneV])
    | succ d ih =>
      intro i s g hi hg
      refine ev_succ ?_
      have h1 : (i : Int) < (a.length : Int) := by omega
      have h2 : (0 : Int) ≤ (i : Int) := by omega
      have h4 := w64s (n := i) (by omega)
      have hd : a.drop i = rd_T71 a (i : Int) :: a.drop (i + 1) := drop_getD z71 a i (by omega)
      simp only [spec_Update.l1, h1, h2, h4, if_true]
      rw [hd, goneV, ← idxW_any]
      refine ev_bind (find_ev b _ (by omega)) ?_
      refine ev_ite (fun h => ?_) (fun h => ?_)
      · rw [if_neg (by simp; omega)]
        refine ev_pos (by omega) ?_
        have := ih (i + 1) s (g ++ [(rd_T71 a (i : Int)).f0]) (by omega) (by simp; omega)
        simpa using this
      · rw [if_pos (by simp; omega)]
        exact ih (i + 1) _ _ (by omega) (by omega)
  have l0 : packB a = true → a.length ≤ 100 → b.length ≤ 100 → ∀ d i (s : List ByteArray), i + d = b.length → s.length ≤ i → Ev (fun k => spec_Update.l0 k a b s [] (i : Int)) (s ++ sentV a (b.drop i), goneV b a) := by
    intro hpa hA hB d
    induction d with
    | zero =>
      intro i s hi hs
      refine ev_succ ?_
      have h1 : ¬ ((i : Int) < (b.length : Int)) := by omega
      simp only [spec_Update.l0, h1, if_false]
      have := l1 hA a.length 0 s [] (by omega) (by simp)
      rw [drop_end (xs := b) (by omega)]
      simpa [sentV] using this
    | succ d ih =>
      intro i s hi hs
      refine ev_succ ?_
      have h1 : (i : Int) < (b.length : Int) := by omega
      have h2 : (0 : Int) ≤ (i : Int) := by omega
      have h4 := w64s (n := i) (by omega)
      have hd : b.drop i = rd_T71 b (i : Int) :: b.drop (i + 1) := drop_getD z71 b i (by omega)
      generalize hx : rd_T71 b (i : Int) = x at *
      simp only [spec_Update.l0, h1, h2, h4, if_true, hx]
      rw [hd, sentV]
      refine ev_bind (find_ev a x (by omega)) ?_
      have put : a.any (sameA x) = false → Ev (fun k => if s.length < 8796093022208 then spec_Update.l0 k a b (s ++ [x.f0]) [] ((i + 1 : Nat) : Int) else none) (s ++ (if a.any (sameA x) = true then sentV a (b.drop (i + 1)) else x.f0 :: sentV a (b.drop (i + 1))), goneV b a) := by
        intro h
        rw [if_neg (by rw [h]; simp)]
        refine ev_pos (by omega) ?_
        have := ih (i + 1) (s ++ [x.f0]) (by omega) (by simp; omega)
        simpa using this
      rcases idxW_spec (sameN x) a 0 with ⟨e1, e2⟩ | ⟨j, j1, j2, j3⟩
      · rw [e1]
        refine ev_pos (by omega) (put ?_)
        rw [List.any_eq_false] at e2 ⊢
        intro y hy hs2
        refine e2 y hy ?_
        unfold sameA at hs2
        rw [Bool.and_eq_true, beq_iff_eq] at hs2
        exact decide_eq_true hs2.1.symm
      · have e1 : idxW (sameN x) a 0 = (j : Int) := by omega
        rw [e1]
        refine ev_neg (by omega) (ev_pos (by omega) (ev_pos (by omega) ?_))
        have hn : (rd_T71 a (j : Int)).f0 = x.f0 := str_inj (of_decide_eq_true j3)
        refine ev_ite (fun h => put ?_) (fun h => ?_)
        · rw [List.any_eq_false]
          intro y hy hs2
          obtain ⟨m, hm, hme⟩ := List.getElem_of_mem hy
          have hym : rd_T71 a (m : Int) = y := by
            simp [rd_T71, List.getD_eq_getElem?_getD, List.getElem?_eq_getElem hm, hme]
          unfold sameA at hs2
          rw [Bool.and_eq_true, Bool.and_eq_true, beq_iff_eq, beq_iff_eq, beq_iff_eq] at hs2
          have hmj : m = j := pack_uniq hpa hm j1 (by unfold nmAt; rw [hym, hn]; exact (str_inj hs2.1).symm)
          subst hmj
          rw [hym] at h
          simp [hs2.1, hs2.2.1, hs2.2.2] at h
        · have : a.any (sameA x) = true := by
            rw [List.any_eq_true]
            refine ⟨rd_T71 a (j : Int), getD_mem _ (by omega), ?_⟩
            unfold sameA
            simp only [Bool.or_eq_true, Bool.not_eq_true', not_or, Bool.not_eq_false] at h
            rw [Bool.and_eq_true, Bool.and_eq_true, beq_iff_eq, beq_iff_eq, beq_iff_eq]
            have h' := h
            simp only [beq_iff_eq] at h'
            exact ⟨h'.1.symm, h'.2.1.symm, h'.2.2.symm⟩
          rw [if_pos this]
          exact ih (i + 1) _ (by omega) (by omega)
  unfold updV
  simp only [spec_Update.f, Option.bind_some]
  refine ev_bind (spec_PackOk_ev a sa) ?_
  refine ev_ite (fun h1 => ?_) (fun h1 => ?_)
  · refine ev_bind (spec_PackOk_ev b sb) ?_
    refine ev_succ ?_
    simp only [spec_Update.j0]
    refine ev_ite (fun h2 => ?_) (fun h2 => ?_)
    · rw [if_neg (fun h => by simp [h.2] at h2)]
      exact ev_ret rfl
    · have h3 : packB b = true := by simpa using h2
      rw [if_pos ⟨h1, h3⟩]
      have := l0 h1 (packB_len h1) (packB_len h3) b.length 0 [] (by omega) (by simp)
      simpa using this
  · rw [if_neg (fun h => h1 h.1)]
    refine ev_succ ?_
    simp only [spec_Update.j0, if_true]
    exact ev_ret rfl
theorem updV_len (a b : List S71) : (updV a b).1.length ≤ b.length ∧ (updV a b).2.length ≤ a.length := by
  unfold updV
  split
  · exact ⟨sentV_len _ _, goneV_len _ _⟩
  · simp
theorem szA_ev (xs : List S77) (left : Int) (h0 : 0 ≤ left) (hl : left ≤ 1048576) (hw : xs.length ≤ maxLen) (hx : ∀ x ∈ xs, x.f0.size ≤ maxLen) :
    ∃ r, Ev (fun k => laws_szAssetS.f k xs left) r ∧ r ≤ 1048576 ∧ (0 ≤ r → xs.length ≤ 1048576 ∧ ∀ x ∈ xs, x.f0.size ≤ 1048576) := by
  unfold maxLen at hw hx
  have key : ∀ d i (left : Int), i + d = xs.length → 0 ≤ left → left ≤ 1048576 → ∃ r, Ev (fun k => laws_szAssetS.l0 k xs left (i : Int)) r ∧ r ≤ 1048576 ∧ (0 ≤ r → ∀ x ∈ xs.drop i, x.f0.size ≤ 1048576) := by
    intro d
    induction d with
    | zero =>
      intro i left hi h0 hl
      have h1 : ¬ ((i : Int) < (xs.length : Int)) := by omega
      refine ⟨left, ev_succ ?_, hl, fun _ x hx => by rw [drop_end (by omega)] at hx; cases hx⟩
      simp only [laws_szAssetS.l0, h1, if_false]
      exact ev_ret rfl
    | succ d ih =>
      intro i left hi h0 hl
      have h1 : (i : Int) < (xs.length : Int) := by omega
      have h2 : (0 : Int) ≤ (i : Int) := by omega
      have h4 := w64s (n := i) (by omega)
      have hm : rd_T77 xs (i : Int) ∈ xs := getD_mem _ (by omega)
      have hb := hx _ hm
      generalize hx0 : rd_T77 xs (i : Int) = x at hm hb
      have h5 : wrap64 (left - (x.f0.size : Int)) = left - (x.f0.size : Int) := w64 (by omega) (by omega)
      have hd : xs.drop i = x :: xs.drop (i + 1) := by rw [drop_getD z77 xs i (by omega), ← hx0]; rfl
      by_cases h6 : left - (x.f0.size : Int) < 0
      · refine ⟨-1, ev_succ ?_, by omega, fun h => by omega⟩
        simp [laws_szAssetS.l0, laws_szAsset.f, hx0, h1, h2, h5, h6]
        exact ev_ret rfl
      · obtain ⟨r, hr, hle, hp⟩ := ih (i + 1) (left - (x.f0.size : Int)) (by omega) (by omega) (by omega)
        refine ⟨r, ev_succ ?_, hle, fun h y hy => ?_⟩
        · simp only [laws_szAssetS.l0, laws_szAsset.f, hx0, h1, h2, h4, h5, h6, if_true, if_false, Option.bind_some]
          exact hr
        · rw [hd] at hy
          rcases List.mem_cons.1 hy with rfl | hy
          · omega
          · exact hp h y hy
  have h5 : wrap64 (left - (xs.length : Int)) = left - (xs.length : Int) := w64 (by omega) (by omega)
  by_cases h6 : left - (xs.length : Int) < 0
  · refine ⟨-1, ?_, by omega, fun h => by omega⟩
    simp only [laws_szAssetS.f, h5, h6, if_true]
    exact ev_ret rfl
  · obtain ⟨r, hr, hle, hp⟩ := key xs.length 0 (left - (xs.length : Int)) (by omega) (by omega) (by omega)
    refine ⟨r, ?_, hle, fun h => ⟨by omega, by simpa using hp h⟩⟩
    simp only [laws_szAssetS.f, h5, h6, if_false]
    exact hr
theorem markAssetS_ev {mt : Int → ByteArray} (hmt : MT mt) (xs : List S71) (k : Int) (h0 : 0 ≤ k) (hk : k ≤ 10000000) (hl : xs.length ≤ 1048576) : EvP (fun q => laws_markAssetS.f q xs k) (fun r => r.1 = k + 3 * (xs.length : Int)) := by
  have key : ∀ d i (ys : List S71) (k : Int), i + d = ys.length → ys.length ≤ 1048576 → 0 ≤ k → k + 3 * (d : Int) ≤ 100000000 → EvP (fun q => laws_markAssetS.l0 q ys k (i : Int)) (fun r => r.1 = k + 3 * (d : Int)) := by
    intro d
    induction d with
    | zero =>
      intro i ys k hi hy h0 hk
      refine evp_succ ?_
      have h1 : ¬ ((i : Int) < (ys.length : Int)) := by omega
      simp only [laws_markAssetS.l0, h1, if_false]
      exact evp_now (by simp)
    | succ d ih =>
      intro i ys k hi hy h0 hk
      refine evp_succ ?_
      have h1 : (i : Int) < (ys.length : Int) := by omega
      have h2 : (0 : Int) ≤ (i : Int) := by omega
      have h4 := w64s (n := i) (by omega)
      have e1 : wrap64 (k + 1) = k + 1 := w64 (by omega) (by omega)
      have e2 : wrap64 (k + 1 + 1) = k + 1 + 1 := w64 (by omega) (by omega)
      have e3 : wrap64 (k + 1 + 1 + 1) = k + 1 + 1 + 1 := w64 (by omega) (by omega)
      simp only [laws_markAssetS.l0, h1, h2, h4, e1, e2, e3, if_true, Option.bind_some]
      refine evp_ebind (hmt _ (by omega) (by omega)) ?_
      refine evp_mono (ih (i + 1) _ (k + 1 + 1 + 1) (by simp; omega) (by simp; omega) (by omega) (by omega)) (fun r hr => by rw [hr]; omega)
  exact key xs.length 0 xs k (by omega) hl h0 (by omega)

theorem FnExactUpdate : ∀ (l0 : List S77) (l1 : List S77), (l0.length ≤ maxLen ∧ ∀ y1 ∈ l0, (y1.f0.size ≤ maxLen ∧ ((Lit.int .i64 y1.f1).wf = true ∧ (Lit.int .i64 y1.f2).wf = true))) → (l1.length ≤ maxLen ∧ ∀ y1 ∈ l1, (y1.f0.size ≤ maxLen ∧ ((Lit.int .i64 y1.f1).wf = true ∧ (Lit.int .i64 y1.f2).wf = true))) → ∃ k, laws_FnExactUpdate.f k l0 l1 = some true := by
  intro l0 l1 ⟨hl0, hw0⟩ ⟨hl1, hw1⟩
  obtain ⟨mt, hmt⟩ := mt_all
  apply Ev.rounds
  apply evp_true
  simp only [laws_FnExactUpdate.f]
  obtain ⟨r0, hr0, hle0, hp0⟩ := szA_ev l0 1048576 (by omega) (by omega) hl0 (fun x hx => (hw0 x hx).1)
  refine evp_ebind hr0 ?_
  refine evp_ite (fun _ => evp_now rfl) (fun g0 => ?_)
  obtain ⟨a1, a2⟩ := hp0 (by omega)
  obtain ⟨r1, hr1, hle1, hp1⟩ := szA_ev l1 r0 (by omega) hle0 hl1 (fun x hx => (hw1 x hx).1)
  refine evp_ebind hr1 ?_
  refine evp_ite (fun _ => evp_now rfl) (fun g1 => ?_)
  obtain ⟨b1, b2⟩ := hp1 (by omega)
  have big : ∀ (l : List S77), (∀ x ∈ l, x.f0.size ≤ 1048576) → ∀ x ∈ l.map cvAsset, x.f0.size ≤ 4611686018427387904 := fun l h x hx => by
    obtain ⟨y, hy, rfl⟩ := List.mem_map.1 hx
    have := h y hy
    simp only [cvAsset]
    omega
  have a3 : (l0.map cvAsset).length ≤ 1048576 := by simpa using a1
  have b3 : (l1.map cvAsset).length ≤ 1048576 := by simpa using b1
  have toA := toAssetS_ev l0 a1
  have toB := toAssetS_ev l1 b1
  have sp := spec_Update_ev _ _ a3 b3 (big l0 a2) (big l1 b2)
  have im := impl_Update_ev _ _ a3 b3
  obtain ⟨u1, u2⟩ := updV_len (l0.map cvAsset) (l1.map cvAsset)
  obtain ⟨⟨s, g⟩, hsg⟩ : ∃ p, p = updV (l0.map cvAsset) (l1.map cvAsset) := ⟨_, rfl⟩
  rw [← hsg] at sp im u1 u2
  have v1 : s.length ≤ 1048576 := by have : s.length ≤ (l1.map cvAsset).length := u1; omega
  have v2 : g.length ≤ 1048576 := by have : g.length ≤ (l0.map cvAsset).length := u2; omega
  have es := eqStringS_refl s (by omega)
  have eg := eqStringS_refl g (by omega)
  refine evp_ebind toA (evp_ebind toB (evp_ebind sp (evp_ebind toA (evp_ebind toB (evp_ebind im ?_)))))
  refine evp_ebind es (evp_pos rfl (evp_ebind eg ?_))
  refine evp_succ ?_
  simp only [laws_FnExactUpdate.j0]
  refine evp_neg (by simp) ?_
  refine evp_ebind toA (evp_ebind (eqAssetS_refl _ (by omega)) (evp_pos rfl (evp_ebind toB (evp_ebind (eqAssetS_refl _ (by omega)) (evp_pos rfl ?_)))))
  refine evp_bind (markAssetS_ev hmt _ 1 (by omega) (by omega) a3) (fun m1 e1 => ?_)
  refine evp_bind (markAssetS_ev hmt _ m1.1 (by omega) (by omega) b3) (fun m2 e2 => ?_)
  refine evp_neg (by omega) ?_
  refine evp_ebind es (evp_pos rfl (evp_ebind eg ?_))
  refine evp_succ ?_
  simp only [laws_FnExactUpdate.j1]
  refine evp_neg (by simp) ?_
  refine evp_ebind (markStringS_ev hmt s 1 (by omega) (by omega) v1) ?_
  refine evp_ebind (markStringS_ev hmt g _ (by omega) (by omega) v2) ?_
  refine evp_ebind (heldStringS_ev hmt s.length 1 (by omega) (by omega) v1) ?_
  refine evp_neg (by omega) ?_
  refine evp_ebind (heldStringS_ev hmt g.length _ (by omega) (by omega) v2) ?_
  refine evp_neg (by omega) (evp_pos rfl ?_)
  refine evp_ebind toA (evp_ebind toB (evp_ebind im ?_))
  refine evp_ebind es (evp_pos rfl (evp_ebind eg ?_))
  refine evp_succ ?_
  simp only [laws_FnExactUpdate.j2]
  refine evp_neg (by simp) ?_
  refine evp_ebind (heldStringS_ev hmt s.length 1 (by omega) (by omega) v1) ?_
  refine evp_neg (by omega) ?_
  refine evp_ebind (heldStringS_ev hmt g.length _ (by omega) (by omega) v2) ?_
  exact evp_neg (by omega) (evp_pos rfl (evp_now rfl))
end Go.Proofs.Ytelcpfanjjfgdaa.Pure
