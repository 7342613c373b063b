/-
  The plain statement of FnExactVerify: both sides come to the same codes, asset by asset; what is marked is no part of the answers.
  Conditions: the statement's own.
-/
import Derived.Test.YtelcpfanjjfgdaaHFnExactVerifyx0
import Derived.Test.YtelcpfanjjfgdaaHFnExactVerifyx1
import Derived.Test.YtelcpfanjjfgdaaHFnExactVerifyx2
import Derived.Test.YtelcpfanjjfgdaaHFnExactVerifyx3
import Derived.Test.YtelcpfanjjfgdaaHFnExactVerifyx4
import Derived.Test.YtelcpfanjjfgdaaHFnExactVerifyx5
import Derived.Test.YtelcpfanjjfgdaaHFnExactVerifyx6
import Derived.Test.YtelcpfanjjfgdaaHFnExactVerifyx7
import Derived.Test.YtelcpfanjjfgdaaHFnExactVerifyx8
import Derived.Test.YtelcpfanjjfgdaaHFnExactVerifyx9
import Derived.Test.YtelcpfanjjfgdaaHFnExactVerifyx10
import Derived.Test.YtelcpfanjjfgdaaHFnExactVerifyx11
import Derived.Test.YtelcpfanjjfgdaaHFnExactVerifyx12
import Derived.Test.YtelcpfanjjfgdaaPureBase
import Derived.Laws.BitsLemmas
namespace Go.Proofs.Ytelcpfanjjfgdaa.Pure
open Go.RowKit Go.Proofs.Ytelcpfanjjfgdaa.HFnExactVerify Go.Proofs.YtelcpfanjjfgdaaW.PrintWords Go.Proofs.YtelcpfanjjfgdaaW.PrintLast Go.Proofs.YtelcpfanjjfgdaaW.PrintMore Go.Proofs.Ytelcpfanjjfgdaa.PB
set_option linter.unusedVariables false
set_option linter.unusedSimpArgs false
/-! #### laws_toByteS, laws_eqByteS -/
theorem toByteS_ev (xs : List Int) (h : xs.length ≤ 1048576) : Ev (fun k => laws_toByteS.f k xs) xs := by
  have key : ∀ d i, i + d = xs.length → Ev (fun k => laws_toByteS.l0 k xs ((xs.take i).map id ++ List.replicate (xs.length - i) 0) (i : Int)) (xs.map id) := by
    intro d
    induction d with
    | zero =>
      intro i hi
      refine ev_succ ?_
      have h1 : ¬ ((i : Int) < (xs.length : Int)) := by omega
      simp only [laws_toByteS.l0, h1, if_false]
      obtain rfl : i = xs.length := by omega
      exact ev_ret (by rw [fill_all])
    | succ d ih =>
      intro i hi
      have hlt : i < xs.length := by omega
      refine ev_succ ?_
      have h1 : (i : Int) < (xs.length : Int) := by omega
      have h2 : (0 : Int) ≤ (i : Int) := by omega
      have h3 : (i : Int) < ((((xs.take i).map id ++ List.replicate (xs.length - i) (0 : Int)).length : Nat) : Int) := by rw [fill_len _ _ _ _ (by omega)]; omega
      have h4 := w64s (n := i) (by omega)
      simp only [laws_toByteS.l0, h1, h2, h3, if_true, h4]
      have := ih (i + 1) (by omega)
      rw [← fill_set id 0 0 xs i hlt] at this
      exact this
  have h1 : (0 : Int) ≤ (xs.length : Int) := by omega
  have h2 : xs.length ≤ 281474976710656 := by omega
  simp only [laws_toByteS.f, h1, Int.toNat_natCast, h2, if_true]
  have := key xs.length 0 (by omega)
  rw [← fill_none id 0 xs, List.map_id] at this
  exact this
theorem eqByteS_ev (xs ys : List Int) (h : xs.length ≤ 4611686018427387904) : Ev (fun k => laws_eqByteS.f k xs ys) (decide (xs = ys)) := by
  have key : ∀ d i, i + d = xs.length → xs.length = ys.length → Ev (fun k => laws_eqByteS.l0 k xs ys (i : Int)) (decide (xs.drop i = ys.drop i)) := by
    intro d
    induction d with
    | zero =>
      intro i hi hl
      refine ev_succ ?_
      have h1 : ¬ ((i : Int) < (xs.length : Int)) := by omega
      simp only [laws_eqByteS.l0, h1, if_false]
      exact ev_ret (by rw [drop_end (by omega), drop_end (by omega)]; simp)
    | succ d ih =>
      intro i hi hl
      refine ev_succ ?_
      have h1 : (i : Int) < (xs.length : Int) := by omega
      have h2 : (0 : Int) ≤ (i : Int) := by omega
      have h3 : (i : Int) < (ys.length : Int) := by omega
      have h4 := w64s (n := i) (by omega)
      simp only [laws_eqByteS.l0, h1, h2, h3, if_true, h4]
      rw [drop_rd xs i (by omega), drop_rd ys i (by omega)]
      by_cases he : rd xs (i : Int) = rd ys (i : Int)
      · simp only [he, if_true]
        exact ev_eq (ih (i + 1) (by omega) hl) (by simp)
      · simp only [he, if_false]
        exact ev_ret (by simp [he])
  by_cases hl : xs.length = ys.length
  · have h1 : (xs.length : Int) = (ys.length : Int) := by omega
    simp only [laws_eqByteS.f, h1, if_true]
    exact ev_eq (key xs.length 0 (by omega) hl) (by simp)
  · have h1 : ¬ (xs.length : Int) = (ys.length : Int) := by omega
    simp only [laws_eqByteS.f, h1, if_false]
    exact ev_ret (by
      have : xs ≠ ys := fun e => hl (by rw [e])
      simp [this])

theorem eqInt64S_ev (xs ys : List Int) (h : xs.length ≤ 4611686018427387904) : Ev (fun k => laws_eqInt64S.f k xs ys) (decide (xs = ys)) := by
  have key : ∀ d i, i + d = xs.length → xs.length = ys.length → Ev (fun k => laws_eqInt64S.l0 k xs ys (i : Int)) (decide (xs.drop i = ys.drop i)) := by
    intro d
    induction d with
    | zero =>
      intro i hi hl
      refine ev_succ ?_
      have h1 : ¬ ((i : Int) < (xs.length : Int)) := by omega
      simp only [laws_eqInt64S.l0, h1, if_false]
      exact ev_ret (by rw [drop_end (by omega), drop_end (by omega)]; simp)
    | succ d ih =>
      intro i hi hl
      refine ev_succ ?_
      have h1 : (i : Int) < (xs.length : Int) := by omega
      have h2 : (0 : Int) ≤ (i : Int) := by omega
      have h3 : (i : Int) < (ys.length : Int) := by omega
      have h4 := w64s (n := i) (by omega)
      simp only [laws_eqInt64S.l0, h1, h2, h3, if_true, h4]
      rw [drop_rd xs i (by omega), drop_rd ys i (by omega)]
      by_cases he : rd xs (i : Int) = rd ys (i : Int)
      · simp only [he, if_true]
        exact ev_eq (ih (i + 1) (by omega) hl) (by simp)
      · simp only [he, if_false]
        exact ev_ret (by simp [he])
  by_cases hl : xs.length = ys.length
  · have h1 : (xs.length : Int) = (ys.length : Int) := by omega
    simp only [laws_eqInt64S.f, h1, if_true]
    exact ev_eq (key xs.length 0 (by omega) hl) (by simp)
  · have h1 : ¬ (xs.length : Int) = (ys.length : Int) := by omega
    simp only [laws_eqInt64S.f, h1, if_false]
    exact ev_ret (by
      have : xs ≠ ys := fun e => hl (by rw [e])
      simp [this])

/-! #### laws_markInt64S, laws_heldInt64S -/
def markInt64 (k0 : Int) (n : Nat) : List Int := (List.range n).map fun (j : Nat) => k0 + (j : Int)
theorem markInt64_len (k0 : Int) (n : Nat) : (markInt64 k0 n).length = n := by simp [markInt64]
theorem markInt64_rd (k0 : Int) (n i : Nat) (h : i < n) : rd (markInt64 k0 n) (i : Int) = k0 + (i : Int) := by
  simp [markInt64, rd_nat, List.getD_eq_getElem?_getD, List.getElem?_map, List.getElem?_range h]
theorem markInt64S_ev (xs : List Int) (k0 : Int) (hk : 0 ≤ k0) (hk2 : k0 + xs.length < 9223372036854775807) : Ev (fun k => laws_markInt64S.f k xs k0) (k0 + xs.length, markInt64 k0 xs.length) := by
  have key : ∀ d i, i + d = xs.length → Ev (fun k => laws_markInt64S.l0 k (markInt64 k0 i ++ xs.drop i) (k0 + (i : Int)) (i : Int)) (k0 + xs.length, markInt64 k0 xs.length) := by
    intro d
    induction d with
    | zero =>
      intro i hi
      refine ev_succ ?_
      obtain rfl : i = xs.length := by omega
      have h1 : ¬ ((xs.length : Int) < ((markInt64 k0 xs.length ++ xs.drop xs.length).length : Int)) := by simp [markInt64_len]
      simp only [laws_markInt64S.l0, h1, if_false]
      exact ev_ret (by simp)
    | succ d ih =>
      intro i hi
      refine ev_succ ?_
      have h1 : (i : Int) < ((markInt64 k0 i ++ xs.drop i).length : Int) := by simp [markInt64_len]; omega
      have h2 : (0 : Int) ≤ (i : Int) := by omega
      have h4 := w64s (n := i) (by omega)
      have h5 : wrap64 (k0 + (i : Int) + 1) = k0 + ((i + 1 : Nat) : Int) := by rw [w64 (by omega) (by omega)]; omega
      simp only [laws_markInt64S.l0, h1, h2, if_true, h4, h5]
      have := ih (i + 1) (by omega)
      have he : (markInt64 k0 i ++ xs.drop i).set i (k0 + (i : Int)) = markInt64 k0 (i + 1) ++ xs.drop (i + 1) := by
        rw [List.set_append_right _ _ (by rw [markInt64_len]; omega), markInt64_len, Nat.sub_self, drop_rd xs i (by omega)]
        simp [markInt64, List.range_succ]
      rw [← he] at this
      exact this
  have := key xs.length 0 (by omega)
  simpa [laws_markInt64S.f, markInt64] using this
theorem heldInt64S_ev (n : Nat) (k0 : Int) (hk : 0 ≤ k0) (hk2 : k0 + n < 9223372036854775807) : Ev (fun k => laws_heldInt64S.f k (markInt64 k0 n) k0) (k0 + n) := by
  have key : ∀ d i, i + d = n → Ev (fun k => laws_heldInt64S.l0 k (markInt64 k0 n) (k0 + (i : Int)) (i : Int)) (k0 + n) := by
    intro d
    induction d with
    | zero =>
      intro i hi
      refine ev_succ ?_
      obtain rfl : i = n := by omega
      have h1 : ¬ ((i : Int) < ((markInt64 k0 i).length : Int)) := by simp [markInt64_len]
      simp only [laws_heldInt64S.l0, h1, if_false]
      exact ev_ret (by simp)
    | succ d ih =>
      intro i hi
      refine ev_succ ?_
      have h1 : (i : Int) < ((markInt64 k0 n).length : Int) := by simp [markInt64_len]; omega
      have h2 : (0 : Int) ≤ (i : Int) := by omega
      have h4 := w64s (n := i) (by omega)
      have h5 : wrap64 (k0 + (i : Int) + 1) = k0 + ((i + 1 : Nat) : Int) := by rw [w64 (by omega) (by omega)]; omega
      simp only [laws_heldInt64S.l0, h1, h2, if_true, h4, h5, markInt64_rd k0 n i (by omega)]
      exact ih (i + 1) (by omega)
  have := key n 0 (by omega)
  simpa [laws_heldInt64S.f] using this

theorem spec_in_eq (a lo hi : Int) : spec_l1In.f a lo hi = some (decide (lo ≤ a ∧ a ≤ hi)) := by
  unfold spec_l1In.f
  by_cases h : a ≥ lo
  · rw [if_pos h]; simp [show lo ≤ a from h]
  · rw [if_neg h]; simp; omega

theorem impl_in_eq (a lo hi : Int) : impl_in.f a lo hi = some (decide (lo ≤ a ∧ a ≤ hi)) := by
  unfold impl_in.f
  by_cases h : lo ≤ a
  · rw [if_pos h]; simp [h]
  · rw [if_neg h]; simp; omega

/-! #### laws_toAssetS -/
def cvAsset (a : S77) : S71 := ⟨a.f0, a.f1, a.f2⟩
theorem toAssetS_ev (xs : List S77) (h : xs.length ≤ 1048576) : Ev (fun k => laws_toAssetS.f k xs) (xs.map cvAsset) := by
  have key : ∀ d i, i + d = xs.length → Ev (fun k => laws_toAssetS.l0 k xs ((xs.take i).map cvAsset ++ List.replicate (xs.length - i) z71) (i : Int)) (xs.map cvAsset) := by
    intro d
    induction d with
    | zero =>
      intro i hi
      refine ev_succ ?_
      have h1 : ¬ ((i : Int) < (xs.length : Int)) := by omega
      simp only [laws_toAssetS.l0, h1, if_false]
      obtain rfl : i = xs.length := by omega
      exact ev_ret (by rw [fill_all])
    | succ d ih =>
      intro i hi
      have hlt : i < xs.length := by omega
      refine ev_succ ?_
      have h1 : (i : Int) < (xs.length : Int) := by omega
      have h2 : (0 : Int) ≤ (i : Int) := by omega
      have h3 : (i : Int) < ((((xs.take i).map cvAsset ++ List.replicate (xs.length - i) z71).length : Nat) : Int) := by rw [fill_len _ _ _ _ (by omega)]; omega
      have h4 := w64s (n := i) (by omega)
      simp only [laws_toAssetS.l0, laws_toAsset.f, h1, h2, h3, if_true, h4, Option.bind_some]
      have := ih (i + 1) (by omega)
      rw [← fill_set cvAsset z77 z71 xs i hlt] at this
      exact this
  have h1 : (0 : Int) ≤ (xs.length : Int) := by omega
  have h2 : xs.length ≤ 8796093022208 := by omega
  simp only [laws_toAssetS.f, h1, Int.toNat_natCast, h2, if_true]
  have := key xs.length 0 (by omega)
  rw [← fill_none cvAsset z71 xs] at this
  exact this

/-! #### laws_eqAssetS at one list twice -/
theorem eqAssetS_refl (xs : List S71) (h : xs.length ≤ 4611686018427387904) : Ev (fun k => laws_eqAssetS.f k xs xs) true := by
  have key : ∀ d i, i + d = xs.length → Ev (fun k => laws_eqAssetS.l0 k xs xs (i : Int)) true := by
    intro d
    induction d with
    | zero =>
      intro i hi
      refine ev_succ ?_
      have h1 : ¬ ((i : Int) < (xs.length : Int)) := by omega
      simp only [laws_eqAssetS.l0, h1, if_false]
      exact ev_ret rfl
    | succ d ih =>
      intro i hi
      refine ev_succ ?_
      have h1 : (i : Int) < (xs.length : Int) := by omega
      have h2 : (0 : Int) ≤ (i : Int) := by omega
      have h4 := w64s (n := i) (by omega)
      simp only [laws_eqAssetS.l0, laws_eqAsset.f, h1, h2, if_true, h4, Option.bind_some]
      exact ih (i + 1) (by omega)
  simp only [laws_eqAssetS.f, if_true]
  exact key xs.length 0 (by omega)

/-! #### bytes of a string, by their index -/
theorem drop_bt (s : ByteArray) (i : Nat) (h : i < s.size) : (bytesOf s).drop i = bt s (i : Int) :: (bytesOf s).drop (i + 1) := by
  rw [drop_rd _ i (by rw [bytesOf_length]; exact h), rd_bytesOf]
def lexB : List Int → List Int → Bool
  | _, [] => false
  | [], _ :: _ => true
  | a :: x, b :: y => if a = b then lexB x y else decide (a < b)
theorem bytesLess_lex : ∀ x y : List UInt8, Op.bytesLess x y = lexB (x.map fun b => (b.toNat : Int)) (y.map fun b => (b.toNat : Int))
  | [], [] => by simp [Op.bytesLess, lexB]
  | _ :: _, [] => by simp [Op.bytesLess, lexB]
  | [], _ :: _ => by simp [Op.bytesLess, lexB]
  | a :: x, b :: y => by
    rw [Op.bytesLess, bytesLess_lex x y]
    simp only [List.map_cons, lexB]
    by_cases h : a = b
    · subst h
      simp
    · have h1 : ¬ ((a.toNat : Int) = (b.toNat : Int)) := fun e => h (UInt8.toNat_inj.1 (by omega))
      rw [if_neg h1]
      simp only [h, beq_eq_false_iff_ne.2 h, Bool.false_and, Bool.or_false]
      rw [decide_eq_decide]
      rw [UInt8.lt_iff_toNat_lt]
      omega
theorem bytesLess_bytesOf (a b : ByteArray) : Op.bytesLess a.toList b.toList = lexB (bytesOf a) (bytesOf b) := by
  rw [bytesLess_lex, ByteArray.toList_eq, ByteArray.toList_eq]
  rfl

def allFrom (p : Nat → Bool) : Nat → Nat → Bool
  | 0, _ => true
  | d + 1, i => p i && allFrom p d (i + 1)
theorem allFrom_at {p : Nat → Bool} : ∀ {d i : Nat}, allFrom p d i = true → ∀ j, i ≤ j → j < i + d → p j = true
  | 0, i, _, j, h1, h2 => absurd h2 (by omega)
  | d + 1, i, h, j, h1, h2 => by
    rw [allFrom, Bool.and_eq_true] at h
    rcases Nat.eq_or_lt_of_le h1 with rfl | h3
    · exact h.1
    · exact allFrom_at h.2 j (by omega) (by omega)

/-! #### PackOk -/
def okc (c : Int) : Bool := decide ((48 ≤ c ∧ c ≤ 57) ∨ (97 ≤ c ∧ c ≤ 122) ∨ (65 ≤ c ∧ c ≤ 90) ∨ c = 95 ∨ c = 46)
def nameB (s : ByteArray) : Bool := decide (1 ≤ s.size ∧ s.size ≤ 40) && (bytesOf s).all okc
theorem spec_Name_ev (s : ByteArray) : Ev (fun k => spec_l15Name.f k s) (nameB s) := by
  have key : ∀ d i, s.size ≤ 40 → i + d = s.size → Ev (fun k => spec_l15Name.l0 k s (i : Int)) (((bytesOf s).drop i).all okc) := by
    intro d
    induction d with
    | zero =>
      intro i hs hi
      refine ev_succ ?_
      have h1 : ¬ (i : Int) < (s.size : Int) := by omega
      simp only [spec_l15Name.l0, h1, if_false]
      exact ev_ret (by rw [drop_end (by rw [bytesOf_length]; omega)]; rfl)
    | succ d ih =>
      intro i hs hi
      refine ev_succ ?_
      have h1 : (i : Int) < (s.size : Int) := by omega
      have h2 : (0 : Int) ≤ (i : Int) := by omega
      have h4 := w64s (n := i) (by omega)
      have hih := ih (i + 1) hs (by omega)
      simp only [spec_l15Name.l0, h1, h2, h4, if_true]
      rw [drop_bt s i (by omega), List.all_cons]
      generalize bt s (i : Int) = c
      have yes : okc c = true → Ev (fun k => spec_l15Name.l0 k s ((i + 1 : Nat) : Int)) (okc c && ((bytesOf s).drop (i + 1)).all okc) := fun h => by rw [h, Bool.true_and]; exact hih
      have no : okc c = false → Ev (fun _ => some false) (okc c && ((bytesOf s).drop (i + 1)).all okc) := fun h => by rw [h, Bool.false_and]; exact ev_ret rfl
      repeat' (refine ev_ite (fun _ => ?_) (fun _ => ?_))
      all_goals first | exact yes (decide_eq_true (by omega)) | exact no (decide_eq_false (by omega))
  unfold nameB
  simp only [spec_l15Name.f]
  refine ev_ite (fun h => ?_) (fun h => ?_)
  · refine ev_succ ?_
    simp only [spec_l15Name.j0, if_true]
    exact ev_ret (by rw [decide_eq_false (by omega)]; rfl)
  · refine ev_succ ?_
    by_cases h2 : (s.size : Int) > 40
    · simp only [spec_l15Name.j0, decide_eq_true h2, if_true]
      exact ev_ret (by rw [decide_eq_false (by omega)]; rfl)
    · simp only [spec_l15Name.j0, decide_eq_false h2, Bool.false_eq_true, if_false]
      exact ev_eq (key s.size 0 (by omega) (by omega)) (by rw [decide_eq_true (by omega)]; simp)
theorem impl_Name_ev (s : ByteArray) : Ev (fun k => impl_assetName.f k s) (nameB s) := by
  have hle : ∀ c, impl_isLetter.f c = some (decide ((97 ≤ c ∧ c ≤ 122) ∨ (65 ≤ c ∧ c ≤ 90))) := by
    intro c
    unfold impl_isLetter.f
    repeat' split
    all_goals (congr 1; first | (rw [decide_eq_decide]; omega) | (symm; first | exact decide_eq_true (by omega) | exact decide_eq_false (by omega)))
  have hdi : ∀ c, impl_isDigit.f c = some (decide (48 ≤ c ∧ c ≤ 57)) := by
    intro c
    unfold impl_isDigit.f
    split
    all_goals (congr 1; first | (rw [decide_eq_decide]; omega) | (symm; first | exact decide_eq_true (by omega) | exact decide_eq_false (by omega)))
  have key : ∀ d i, s.size ≤ 40 → i + d = s.size → Ev (fun k => impl_assetName.l0 k s (s.size : Int) (i : Int)) (((bytesOf s).drop i).all okc) := by
    intro d
    induction d with
    | zero =>
      intro i hs hi
      refine ev_succ ?_
      have h1 : ¬ (i : Int) < (s.size : Int) := by omega
      simp only [impl_assetName.l0, h1, if_false]
      exact ev_ret (by rw [drop_end (by rw [bytesOf_length]; omega)]; rfl)
    | succ d ih =>
      intro i hs hi
      refine ev_succ ?_
      have h1 : (i : Int) < (s.size : Int) := by omega
      have h2 : (0 : Int) ≤ (i : Int) := by omega
      have h4 := w64s (n := i) (by omega)
      have hih := ih (i + 1) hs (by omega)
      simp only [impl_assetName.l0, h1, h2, h4, if_true, hle, hdi, Option.bind_some, decide_eq_true_eq]
      rw [drop_bt s i (by omega), List.all_cons]
      generalize bt s (i : Int) = c
      have yes : okc c = true → Ev (fun k => impl_assetName.l0 k s (s.size : Int) ((i + 1 : Nat) : Int)) (okc c && ((bytesOf s).drop (i + 1)).all okc) := fun h => by rw [h, Bool.true_and]; exact hih
      have no : okc c = false → Ev (fun _ => some false) (okc c && ((bytesOf s).drop (i + 1)).all okc) := fun h => by rw [h, Bool.false_and]; exact ev_ret rfl
      repeat' (refine ev_ite (fun _ => ?_) (fun _ => ?_))
      all_goals first | exact yes (decide_eq_true (by omega)) | exact no (decide_eq_false (by omega))
  unfold nameB
  simp only [impl_assetName.f, impl_in_eq, Option.bind_some]
  refine ev_ifb (fun h => ?_) (fun h => ?_)
  · have h' := of_decide_eq_true h
    exact ev_eq (key s.size 0 (by omega) (by omega)) (by rw [decide_eq_true (by omega)]; simp)
  · have h' := of_decide_eq_false h
    exact ev_ret (by rw [decide_eq_false (by omega)]; rfl)
theorem spec_Before_ev (a b : ByteArray) (ha : a.size ≤ 4611686018427387904) : Ev (fun k => spec_l15Before.f k a b) (lexB (bytesOf a) (bytesOf b)) := by
  have key : ∀ d i, i + d = a.size → i ≤ b.size → Ev (fun k => spec_l15Before.l0 k a b (i : Int)) (lexB ((bytesOf a).drop i) ((bytesOf b).drop i)) := by
    intro d
    induction d with
    | zero =>
      intro i hi hb
      refine ev_succ ?_
      have h1 : ¬ (i : Int) < (a.size : Int) := by omega
      simp only [spec_l15Before.l0, h1, if_false]
      refine ev_succ ?_
      simp only [spec_l15Before.j1, Bool.false_eq_true, if_false]
      refine ev_ret ?_
      rw [drop_end (by rw [bytesOf_length]; omega)]
      by_cases h2 : i < b.size
      · rw [drop_bt b i h2, decide_eq_true (by omega)]; rfl
      · rw [drop_end (by rw [bytesOf_length]; omega), decide_eq_false (by omega)]; rfl
    | succ d ih =>
      intro i hi hb
      refine ev_succ ?_
      have h1 : (i : Int) < (a.size : Int) := by omega
      have h3 : (0 : Int) ≤ (i : Int) := by omega
      have h4 := w64s (n := i) (by omega)
      simp only [spec_l15Before.l0, h1, if_true]
      refine ev_succ ?_
      by_cases h2 : (i : Int) < (b.size : Int)
      · simp only [spec_l15Before.j1, decide_eq_true h2, if_true, h1, h2, h3, h4]
        rw [drop_bt a i (by omega), drop_bt b i (by omega), lexB]
        by_cases he : bt a (i : Int) = bt b (i : Int)
        · simp only [he, if_true]
          exact ih (i + 1) (by omega) (by omega)
        · simp only [he, if_false]
          exact ev_ret rfl
      · simp only [spec_l15Before.j1, decide_eq_false h2, Bool.false_eq_true, if_false]
        refine ev_ret ?_
        rw [drop_end (xs := bytesOf b) (by rw [bytesOf_length]; omega), decide_eq_false (by omega)]
        cases (bytesOf a).drop i <;> rfl
  exact key a.size 0 (by omega) (by omega)
/-- One asset behind the one ahead of it. -/
def assetB (xs : List S71) (i : Nat) : Bool :=
  nameB (rd_T71 xs (i : Int)).f0 && decide (0 ≤ (rd_T71 xs (i : Int)).f1 ∧ (rd_T71 xs (i : Int)).f1 ≤ 40000) && decide (0 ≤ (rd_T71 xs (i : Int)).f2 ∧ (rd_T71 xs (i : Int)).f2 ≤ 1000000006)
    && (decide (i = 0) || lexB (bytesOf (rd_T71 xs ((i - 1 : Nat) : Int)).f0) (bytesOf (rd_T71 xs (i : Int)).f0))
def packB (xs : List S71) : Bool := decide (xs.length ≤ 100) && allFrom (assetB xs) xs.length 0
theorem spec_PackOk_ev (xs : List S71) (hs : ∀ x ∈ xs, x.f0.size ≤ 4611686018427387904) : Ev (fun k => spec_PackOk.f k xs) (packB xs) := by
  have key : ∀ d i, xs.length ≤ 100 → i + d = xs.length → Ev (fun k => spec_PackOk.l0 k xs (i : Int)) (allFrom (assetB xs) d i) := by
    intro d
    induction d with
    | zero =>
      intro i hl hi
      refine ev_succ ?_
      have h1 : ¬ (i : Int) < (xs.length : Int) := by omega
      simp only [spec_PackOk.l0, h1, if_false]
      exact ev_ret rfl
    | succ d ih =>
      intro i hl hi
      refine ev_succ ?_
      have h1 : (i : Int) < (xs.length : Int) := by omega
      have h2 : (0 : Int) ≤ (i : Int) := by omega
      have h4 := w64s (n := i) (by omega)
      simp only [spec_PackOk.l0, h1, h2, h4, if_true]
      rw [allFrom, assetB]
      refine ev_bind (spec_Name_ev _) ?_
      refine ev_ifb (fun e1 => ?_) (fun e1 => ev_ret (by rw [e1]; rfl))
      rw [e1, Bool.true_and]
      simp only [spec_in_eq, Option.bind_some]
      refine ev_ifb (fun e2 => ?_) (fun e2 => ev_ret (by rw [e2]; rfl))
      rw [e2, Bool.true_and]
      refine ev_ifb (fun e3 => ?_) (fun e3 => ev_ret (by rw [e3]; rfl))
      rw [e3, Bool.true_and]
      refine ev_ite (fun h5 => ?_) (fun h5 => ?_)
      · have h6 : wrap64 ((i : Int) - 1) = ((i - 1 : Nat) : Int) := by rw [w64 (by omega) (by omega)]; omega
        have h7 : (0 : Int) ≤ ((i - 1 : Nat) : Int) := by omega
        have h8 : ((i - 1 : Nat) : Int) < (xs.length : Int) := by omega
        simp only [h6, h7, h8, if_true]
        refine ev_bind (spec_Before_ev _ _ (hs _ (getD_mem _ (by omega)))) ?_
        rw [decide_eq_false (show ¬ i = 0 by omega), Bool.false_or]
        refine ev_ifb (fun e4 => ?_) (fun e4 => ev_ret (by rw [e4]; rfl))
        rw [e4, Bool.true_and]
        exact ih (i + 1) hl (by omega)
      · rw [decide_eq_true (show i = 0 by omega), Bool.true_or, Bool.true_and]
        exact ih (i + 1) hl (by omega)
  unfold packB
  simp only [spec_PackOk.f]
  refine ev_ite (fun h => ev_ret (by rw [decide_eq_false (by omega)]; rfl)) (fun h => ?_)
  rw [decide_eq_true (show xs.length ≤ 100 by omega), Bool.true_and]
  exact key xs.length 0 (by omega) (by omega)
theorem impl_PackOk_ev (xs : List S71) (hl : xs.length ≤ 4611686018427387904) : Ev (fun k => impl_PackOk.f k xs) (packB xs) := by
  have key : ∀ d i, i + d = xs.length → Ev (fun k => impl_PackOk.l0 k xs xs (xs.length : Int) (i : Int)) (decide (xs.length ≤ 100) && allFrom (assetB xs) d i) := by
    intro d
    induction d with
    | zero =>
      intro i hi
      refine ev_succ ?_
      have h1 : ¬ (i : Int) < (xs.length : Int) := by omega
      simp only [impl_PackOk.l0, h1, if_false]
      exact ev_ret (by rw [allFrom, Bool.and_true]; congr 1; rw [decide_eq_decide]; omega)
    | succ d ih =>
      intro i hi
      refine ev_succ ?_
      have h1 : (i : Int) < (xs.length : Int) := by omega
      have h2 : (0 : Int) ≤ (i : Int) := by omega
      have h4 := w64s (n := i) (by omega)
      simp only [impl_PackOk.l0, h1, h2, h4, if_true]
      rw [allFrom, assetB]
      have no : ∀ b : Bool, b = false → Ev (fun k => some false) (decide (xs.length ≤ 100) && (b && allFrom (assetB xs) d (i + 1))) := fun b hb => by rw [hb, Bool.false_and, Bool.and_false]; exact ev_ret rfl
      refine ev_bind (impl_Name_ev _) ?_
      refine ev_ifb (fun e1 => ?_) (fun e1 => no _ (by rw [e1]; rfl))
      rw [e1, Bool.true_and]
      simp only [impl_in_eq, Option.bind_some]
      refine ev_ifb (fun e2 => ?_) (fun e2 => no _ (by rw [e2]; rfl))
      rw [e2, Bool.true_and]
      refine ev_ifb (fun e3 => ?_) (fun e3 => no _ (by rw [e3]; rfl))
      rw [e3, Bool.true_and]
      refine ev_ite (fun h5 => ?_) (fun h5 => ?_)
      · have h6 : wrap64 ((i : Int) - 1) = ((i - 1 : Nat) : Int) := by rw [w64 (by omega) (by omega)]; omega
        have h7 : (0 : Int) ≤ ((i - 1 : Nat) : Int) := by omega
        have h8 : ((i - 1 : Nat) : Int) < (xs.length : Int) := by omega
        simp only [h6, h7, h8, if_true, bytesLess_bytesOf]
        rw [decide_eq_false (show ¬ i = 0 by omega), Bool.false_or]
        refine ev_ifb (fun e4 => ?_) (fun e4 => no _ e4)
        rw [e4, Bool.true_and]
        exact ih (i + 1) (by omega)
      · rw [decide_eq_true (show i = 0 by omega), Bool.true_or, Bool.true_and]
        exact ih (i + 1) (by omega)
  exact key xs.length 0 (by omega)

/-! #### Digest -/
def dstep (h x : Int) : Int := Int.tmod (wrap64 ((wrap64 ((wrap64 (h * 257)) + (wrap64 x))) + 1)) 1000000007
def dig (xs : List Int) : Int := (xs.take 40000).foldl dstep 0
theorem spec_Digest_ev (xs : List Int) : Ev (fun k => spec_Digest.f k xs) (dig xs) := by
  have key : ∀ d i (h : Int), i + d = (xs.take 40000).length → Ev (fun k => spec_Digest.l0 k xs h (i : Int)) (((xs.take 40000).drop i).foldl dstep h) := by
    intro d
    induction d with
    | zero =>
      intro i h hi
      refine ev_succ ?_
      rw [drop_end (by omega)]
      by_cases h1 : (i : Int) < (xs.length : Int)
      · have h2 : ¬ (i : Int) < 40000 := by rw [List.length_take] at hi; omega
        simp only [spec_Digest.l0, h1, h2, if_true, if_false]
        exact ev_ret rfl
      · simp only [spec_Digest.l0, h1, if_false]
        exact ev_ret rfl
    | succ d ih =>
      intro i h hi
      refine ev_succ ?_
      have h0 : i < (xs.take 40000).length := by omega
      rw [List.length_take] at hi
      have h1 : (i : Int) < (xs.length : Int) := by omega
      have h2 : (i : Int) < 40000 := by omega
      have h3 : (0 : Int) ≤ (i : Int) := by omega
      have h4 := w64s (n := i) (by omega)
      simp only [spec_Digest.l0, h1, h2, h3, if_true, h4]
      rw [drop_rd _ i h0, List.foldl_cons]
      have he : rd (xs.take 40000) (i : Int) = rd xs (i : Int) := by
        simp only [rd_nat, List.getD_eq_getElem?_getD]
        rw [List.getElem?_take_of_lt (by omega)]
      rw [he]
      exact ih (i + 1) _ (by rw [List.length_take]; omega)
  exact key (xs.take 40000).length 0 0 (by omega)
theorem impl_Digest_ev (xs : List Int) : Ev (fun k => impl_Digest.f k xs) (dig xs) := by
  have key : ∀ (ys : List Int) d i (h : Int), ys.length ≤ 40000 → i + d = ys.length → Ev (fun k => impl_Digest.l0 k h ys (ys.length : Int) (i : Int)) ((ys.drop i).foldl dstep h) := by
    intro ys d
    induction d with
    | zero =>
      intro i h hl hi
      refine ev_succ ?_
      rw [drop_end (by omega)]
      have h1 : ¬ (i : Int) < (ys.length : Int) := by omega
      simp only [impl_Digest.l0, h1, if_false]
      exact ev_ret rfl
    | succ d ih =>
      intro i h hl hi
      refine ev_succ ?_
      have h1 : (i : Int) < (ys.length : Int) := by omega
      have h3 : (0 : Int) ≤ (i : Int) := by omega
      have h4 := w64s (n := i) (by omega)
      simp only [impl_Digest.l0, h1, h3, if_true, h4, impl_stepped.f, Option.bind_some]
      rw [drop_rd _ i (by omega), List.foldl_cons]
      exact ih (i + 1) _ hl (by omega)
  have hm : mn (xs.length : Int) 40000 = ((xs.take 40000).length : Int) := by unfold mn; rw [List.length_take]; split <;> omega
  have h0 : (0 : Int) ≤ ((xs.take 40000).length : Int) := by omega
  have h1 : ((xs.take 40000).length : Int) ≤ (xs.length : Int) := by rw [List.length_take]; omega
  have h2 : xs.take (xs.take 40000).length = xs.take 40000 := by
    rw [List.length_take]
    rcases Nat.le_total 40000 xs.length with h | h
    · rw [Nat.min_eq_left h]
    · rw [Nat.min_eq_right h, List.take_of_length_le (Nat.le_refl _), List.take_of_length_le h]
  simp only [impl_Digest.f, hm, h0, h1, if_true, Int.toNat_natCast, h2]
  exact key (xs.take 40000) (xs.take 40000).length 0 0 (by rw [List.length_take]; omega) (by omega)

/-! #### strings: equal to themselves, marked -/
theorem str_inj {a b : ByteArray} (h : a.toList = b.toList) : a = b := by
  rw [ByteArray.toList_eq, ByteArray.toList_eq] at h
  exact ByteArray.ext (Array.toList_inj.mp h)
theorem eqStringS_refl (xs : List ByteArray) (h : xs.length ≤ 4611686018427387904) : Ev (fun k => laws_eqStringS.f k xs xs) true := by
  have key : ∀ d i, i + d = xs.length → Ev (fun k => laws_eqStringS.l0 k xs xs (i : Int)) true := by
    intro d
    induction d with
    | zero =>
      intro i hi
      refine ev_succ ?_
      have h1 : ¬ ((i : Int) < (xs.length : Int)) := by omega
      simp only [laws_eqStringS.l0, h1, if_false]
      exact ev_ret rfl
    | succ d ih =>
      intro i hi
      refine ev_succ ?_
      have h1 : (i : Int) < (xs.length : Int) := by omega
      have h2 : (0 : Int) ≤ (i : Int) := by omega
      have h4 := w64s (n := i) (by omega)
      simp only [laws_eqStringS.l0, h1, h2, if_true, h4]
      exact ih (i + 1) (by omega)
  simp only [laws_eqStringS.f, if_true]
  exact key xs.length 0 (by omega)

/-! #### the three sizes -/
theorem szAssetS_ev (xs : List S77) (left : Int) (h0 : 0 ≤ left) (hl : left ≤ 1048576) (hw : xs.length ≤ maxLen) (hx : ∀ x ∈ xs, x.f0.size ≤ maxLen) :
    ∃ r, Ev (fun k => laws_szAssetS.f k xs left) r ∧ r ≤ 1048576 ∧ (0 ≤ r → xs.length ≤ 1048576 ∧ ∀ x ∈ xs, x.f0.size ≤ 1048576) := by
  unfold maxLen at hw hx
  have key : ∀ d i (left : Int), i + d = xs.length → 0 ≤ left → left ≤ 1048576 → ∃ r, Ev (fun k => laws_szAssetS.l0 k xs left (i : Int)) r ∧ r ≤ 1048576 ∧ (0 ≤ r → ∀ x ∈ xs.drop i, x.f0.size ≤ 1048576) := by
    intro d
    induction d with
    | zero =>
      intro i left hi h0 hl
      have h1 : ¬ ((i : Int) < (xs.length : Int)) := by omega
      refine ⟨left, ev_succ ?_, hl, fun _ x hx => by rw [drop_end (by omega)] at hx; cases hx⟩
      simp only [laws_szAssetS.l0, h1, if_false]
      exact ev_ret rfl
    | succ d ih =>
      intro i left hi h0 hl
      have h1 : (i : Int) < (xs.length : Int) := by omega
      have h2 : (0 : Int) ≤ (i : Int) := by omega
      have h4 := w64s (n := i) (by omega)
      have hm : rd_T77 xs (i : Int) ∈ xs := getD_mem _ (by omega)
      have hb := hx _ hm
      generalize hx0 : rd_T77 xs (i : Int) = x at hm hb
      have h5 : wrap64 (left - (x.f0.size : Int)) = left - (x.f0.size : Int) := w64 (by omega) (by omega)
      have hd : xs.drop i = x :: xs.drop (i + 1) := by rw [drop_getD z77 xs i (by omega), ← hx0]; rfl
      by_cases h6 : left - (x.f0.size : Int) < 0
      · refine ⟨-1, ev_succ ?_, by omega, fun h => by omega⟩
        simp [laws_szAssetS.l0, laws_szAsset.f, hx0, h1, h2, h5, h6]
        exact ev_ret rfl
      · obtain ⟨r, hr, hle, hp⟩ := ih (i + 1) (left - (x.f0.size : Int)) (by omega) (by omega) (by omega)
        refine ⟨r, ev_succ ?_, hle, fun h y hy => ?_⟩
        · simp only [laws_szAssetS.l0, laws_szAsset.f, hx0, h1, h2, h4, h5, h6, if_true, if_false, Option.bind_some]
          exact hr
        · rw [hd] at hy
          rcases List.mem_cons.1 hy with rfl | hy
          · omega
          · exact hp h y hy
  have h5 : wrap64 (left - (xs.length : Int)) = left - (xs.length : Int) := w64 (by omega) (by omega)
  by_cases h6 : left - (xs.length : Int) < 0
  · refine ⟨-1, ?_, by omega, fun h => by omega⟩
    simp only [laws_szAssetS.f, h5, h6, if_true]
    exact ev_ret rfl
  · obtain ⟨r, hr, hle, hp⟩ := key xs.length 0 (left - (xs.length : Int)) (by omega) (by omega) (by omega)
    refine ⟨r, ?_, hle, fun h => ⟨by omega, by simpa using hp h⟩⟩
    simp only [laws_szAssetS.f, h5, h6, if_false]
    exact hr
theorem szStringS_ev (xs : List ByteArray) (left : Int) (h0 : 0 ≤ left) (hl : left ≤ 1048576) (hw : xs.length ≤ maxLen) (hx : ∀ x ∈ xs, x.size ≤ maxLen) :
    ∃ r, Ev (fun k => laws_szStringS.f k xs left) r ∧ r ≤ 1048576 ∧ (0 ≤ r → xs.length ≤ 1048576 ∧ ∀ x ∈ xs, x.size ≤ 1048576) := by
  unfold maxLen at hw hx
  have key : ∀ d i (left : Int), i + d = xs.length → 0 ≤ left → left ≤ 1048576 → ∃ r, Ev (fun k => laws_szStringS.l0 k xs left (i : Int)) r ∧ r ≤ 1048576 ∧ (0 ≤ r → ∀ x ∈ xs.drop i, x.size ≤ 1048576) := by
    intro d
    induction d with
    | zero =>
      intro i left hi h0 hl
      have h1 : ¬ ((i : Int) < (xs.length : Int)) := by omega
      refine ⟨left, ev_succ ?_, hl, fun _ x hx => by rw [drop_end (by omega)] at hx; cases hx⟩
      simp only [laws_szStringS.l0, h1, if_false]
      exact ev_ret rfl
    | succ d ih =>
      intro i left hi h0 hl
      have h1 : (i : Int) < (xs.length : Int) := by omega
      have h2 : (0 : Int) ≤ (i : Int) := by omega
      have h4 := w64s (n := i) (by omega)
      have hm : rdOf ByteArray.empty xs (i : Int) ∈ xs := getD_mem _ (by omega)
      have hb := hx _ hm
      generalize hx0 : rdOf ByteArray.empty xs (i : Int) = x at hm hb
      have h5 : wrap64 (left - (x.size : Int)) = left - (x.size : Int) := w64 (by omega) (by omega)
      have hd : xs.drop i = x :: xs.drop (i + 1) := by rw [drop_getD ByteArray.empty xs i (by omega), ← hx0]; rfl
      by_cases h6 : left - (x.size : Int) < 0
      · refine ⟨-1, ev_succ ?_, by omega, fun h => by omega⟩
        simp [laws_szStringS.l0,  hx0, h1, h2, h5, h6]
        exact ev_ret rfl
      · obtain ⟨r, hr, hle, hp⟩ := ih (i + 1) (left - (x.size : Int)) (by omega) (by omega) (by omega)
        refine ⟨r, ev_succ ?_, hle, fun h y hy => ?_⟩
        · simp only [laws_szStringS.l0,  hx0, h1, h2, h4, h5, h6, if_true, if_false, Option.bind_some]
          exact hr
        · rw [hd] at hy
          rcases List.mem_cons.1 hy with rfl | hy
          · omega
          · exact hp h y hy
  have h5 : wrap64 (left - (xs.length : Int)) = left - (xs.length : Int) := w64 (by omega) (by omega)
  by_cases h6 : left - (xs.length : Int) < 0
  · refine ⟨-1, ?_, by omega, fun h => by omega⟩
    simp only [laws_szStringS.f, h5, h6, if_true]
    exact ev_ret rfl
  · obtain ⟨r, hr, hle, hp⟩ := key xs.length 0 (left - (xs.length : Int)) (by omega) (by omega) (by omega)
    refine ⟨r, ?_, hle, fun h => ⟨by omega, by simpa using hp h⟩⟩
    simp only [laws_szStringS.f, h5, h6, if_false]
    exact hr
theorem szByteSS_ev (xs : List (List Int)) (left : Int) (h0 : 0 ≤ left) (hl : left ≤ 1048576) (hw : xs.length ≤ maxLen) (hx : ∀ x ∈ xs, x.length ≤ maxLen) :
    ∃ r, Ev (fun k => laws_szByteSS.f k xs left) r ∧ r ≤ 1048576 ∧ (0 ≤ r → xs.length ≤ 1048576 ∧ ∀ x ∈ xs, x.length ≤ 1048576) := by
  unfold maxLen at hw hx
  have key : ∀ d i (left : Int), i + d = xs.length → 0 ≤ left → left ≤ 1048576 → ∃ r, Ev (fun k => laws_szByteSS.l0 k xs left (i : Int)) r ∧ r ≤ 1048576 ∧ (0 ≤ r → ∀ x ∈ xs.drop i, x.length ≤ 1048576) := by
    intro d
    induction d with
    | zero =>
      intro i left hi h0 hl
      have h1 : ¬ ((i : Int) < (xs.length : Int)) := by omega
      refine ⟨left, ev_succ ?_, hl, fun _ x hx => by rw [drop_end (by omega)] at hx; cases hx⟩
      simp only [laws_szByteSS.l0, h1, if_false]
      exact ev_ret rfl
    | succ d ih =>
      intro i left hi h0 hl
      have h1 : (i : Int) < (xs.length : Int) := by omega
      have h2 : (0 : Int) ≤ (i : Int) := by omega
      have h4 := w64s (n := i) (by omega)
      have hm : rd_L5 xs (i : Int) ∈ xs := getD_mem _ (by omega)
      have hb := hx _ hm
      generalize hx0 : rd_L5 xs (i : Int) = x at hm hb
      have h5 : wrap64 (left - (x.length : Int)) = left - (x.length : Int) := w64 (by omega) (by omega)
      have hd : xs.drop i = x :: xs.drop (i + 1) := by rw [drop_getD ([] : List Int) xs i (by omega), ← hx0]; rfl
      by_cases h6 : left - (x.length : Int) < 0
      · refine ⟨-1, ev_succ ?_, by omega, fun h => by omega⟩
        simp [laws_szByteSS.l0, laws_szByteS.f, hx0, h1, h2, h5, h6]
        exact ev_ret rfl
      · obtain ⟨r, hr, hle, hp⟩ := ih (i + 1) (left - (x.length : Int)) (by omega) (by omega) (by omega)
        refine ⟨r, ev_succ ?_, hle, fun h y hy => ?_⟩
        · simp only [laws_szByteSS.l0, laws_szByteS.f, hx0, h1, h2, h4, h5, h6, if_true, if_false, Option.bind_some]
          exact hr
        · rw [hd] at hy
          rcases List.mem_cons.1 hy with rfl | hy
          · omega
          · exact hp h y hy
  have h5 : wrap64 (left - (xs.length : Int)) = left - (xs.length : Int) := w64 (by omega) (by omega)
  by_cases h6 : left - (xs.length : Int) < 0
  · refine ⟨-1, ?_, by omega, fun h => by omega⟩
    simp only [laws_szByteSS.f, h5, h6, if_true]
    exact ev_ret rfl
  · obtain ⟨r, hr, hle, hp⟩ := key xs.length 0 (left - (xs.length : Int)) (by omega) (by omega) (by omega)
    refine ⟨r, ?_, hle, fun h => ⟨by omega, by simpa using hp h⟩⟩
    simp only [laws_szByteSS.f, h5, h6, if_false]
    exact hr

/-! #### laws_toStringS, laws_toByteSS -/
theorem toStringS_ev (xs : List ByteArray) (h : xs.length ≤ 1048576) : Ev (fun k => laws_toStringS.f k xs) xs := by
  have key : ∀ d i, i + d = xs.length → Ev (fun k => laws_toStringS.l0 k xs ((xs.take i).map id ++ List.replicate (xs.length - i) (⟨#[]⟩ : ByteArray)) (i : Int)) (xs.map id) := by
    intro d
    induction d with
    | zero =>
      intro i hi
      refine ev_succ ?_
      have h1 : ¬ ((i : Int) < (xs.length : Int)) := by omega
      simp only [laws_toStringS.l0, h1, if_false]
      obtain rfl : i = xs.length := by omega
      exact ev_ret (by rw [fill_all])
    | succ d ih =>
      intro i hi
      have hlt : i < xs.length := by omega
      refine ev_succ ?_
      have h1 : (i : Int) < (xs.length : Int) := by omega
      have h2 : (0 : Int) ≤ (i : Int) := by omega
      have h3 : (i : Int) < ((((xs.take i).map id ++ List.replicate (xs.length - i) (⟨#[]⟩ : ByteArray)).length : Nat) : Int) := by rw [fill_len _ _ _ _ (by omega)]; omega
      have h4 := w64s (n := i) (by omega)
      simp only [laws_toStringS.l0, h1, h2, h3, if_true, h4]
      have := ih (i + 1) (by omega)
      rw [← fill_set id ByteArray.empty (⟨#[]⟩ : ByteArray) xs i hlt] at this
      exact this
  have h1 : (0 : Int) ≤ (xs.length : Int) := by omega
  have h2 : xs.length ≤ 17592186044416 := by omega
  simp only [laws_toStringS.f, h1, Int.toNat_natCast, h2, if_true]
  have := key xs.length 0 (by omega)
  rw [← fill_none id (⟨#[]⟩ : ByteArray) xs, List.map_id] at this
  exact this
theorem toByteSS_ev (xs : List (List Int)) (h : xs.length ≤ 1048576) (hx : ∀ x ∈ xs, x.length ≤ 1048576) : Ev (fun k => laws_toByteSS.f k xs) xs := by
  have key : ∀ d i, i + d = xs.length → Ev (fun k => laws_toByteSS.l0 k xs ((xs.take i).map id ++ List.replicate (xs.length - i) ([] : List Int)) (i : Int)) (xs.map id) := by
    intro d
    induction d with
    | zero =>
      intro i hi
      refine ev_succ ?_
      have h1 : ¬ ((i : Int) < (xs.length : Int)) := by omega
      simp only [laws_toByteSS.l0, h1, if_false]
      obtain rfl : i = xs.length := by omega
      exact ev_ret (by rw [fill_all])
    | succ d ih =>
      intro i hi
      have hlt : i < xs.length := by omega
      refine ev_succ ?_
      have h1 : (i : Int) < (xs.length : Int) := by omega
      have h2 : (0 : Int) ≤ (i : Int) := by omega
      have h3 : (i : Int) < ((((xs.take i).map id ++ List.replicate (xs.length - i) ([] : List Int)).length : Nat) : Int) := by rw [fill_len _ _ _ _ (by omega)]; omega
      have h4 := w64s (n := i) (by omega)
      simp only [laws_toByteSS.l0, h1, h2, if_true]
      refine ev_bind (toByteS_ev (rd_L5 xs (i : Int)) (hx _ (getD_mem _ (by omega)))) ?_
      simp only [h3, if_true, h4]
      have := ih (i + 1) (by omega)
      rw [← fill_set id ([] : List Int) ([] : List Int) xs i hlt] at this
      exact this
  have h1 : (0 : Int) ≤ (xs.length : Int) := by omega
  have h2 : xs.length ≤ 11728124029610 := by omega
  simp only [laws_toByteSS.f, h1, Int.toNat_natCast, h2, if_true]
  have := key xs.length 0 (by omega)
  rw [← fill_none id ([] : List Int) xs, List.map_id] at this
  exact this
theorem eqByteSS_refl (xs : List (List Int)) (h : xs.length ≤ 4611686018427387904) (hx : ∀ x ∈ xs, x.length ≤ 1048576) : Ev (fun k => laws_eqByteSS.f k xs xs) true := by
  have key : ∀ d i, i + d = xs.length → Ev (fun k => laws_eqByteSS.l0 k xs xs (i : Int)) true := by
    intro d
    induction d with
    | zero =>
      intro i hi
      refine ev_succ ?_
      have h1 : ¬ ((i : Int) < (xs.length : Int)) := by omega
      simp only [laws_eqByteSS.l0, h1, if_false]
      exact ev_ret rfl
    | succ d ih =>
      intro i hi
      refine ev_succ ?_
      have h1 : (i : Int) < (xs.length : Int) := by omega
      have h2 : (0 : Int) ≤ (i : Int) := by omega
      have h4 := w64s (n := i) (by omega)
      have hb : (rd_L5 xs (i : Int)).length ≤ 1048576 := hx _ (getD_mem _ (by omega))
      simp only [laws_eqByteSS.l0, h1, h2, if_true, h4]
      refine ev_bind (ev_eq (eqByteS_ev (rd_L5 xs (i : Int)) (rd_L5 xs (i : Int)) (by omega)) (by simp : _ = true)) ?_
      simp only [if_true]
      exact ih (i + 1) (by omega)
  simp only [laws_eqByteSS.f, if_true]
  exact key xs.length 0 (by omega)
/-! #### markText, at one number of rounds for all -/
theorem markText_l0 : ∀ (d k : Nat) (n : Int) (s : ByteArray), d + 1 ≤ k → 0 ≤ n → n < 10 ^ d → n < 10000000000000 → s.size + d ≤ 1000 → ∃ r, laws_markText.l0 k n s = some r := by
  intro d
  induction d with
  | zero =>
    intro k n s hk h0 h1 h2 hs
    obtain ⟨k, rfl⟩ : ∃ j, k = j + 1 := ⟨k - 1, by omega⟩
    have h3 : n < 1 := by simpa using h1
    refine ⟨_, by rw [laws_markText.l0, if_neg (by omega), if_pos (by omega)]⟩
  | succ d ih =>
    intro k n s hk h0 h1 h2 hs
    obtain ⟨k, rfl⟩ : ∃ j, k = j + 1 := ⟨k - 1, by omega⟩
    rw [laws_markText.l0]
    by_cases hp : n > 0
    · have hz : (strOfNums [(wrap64 (48 + (Int.tmod n 10))) % 256]).size = 1 := rfl
      have e : Int.tdiv n 10 = n / 10 := Int.tdiv_eq_ediv_of_nonneg h0
      have hlt : n / 10 < 10 ^ d := by
        have : (10 : Int) ^ (d + 1) = 10 ^ d * 10 := Int.pow_succ 10 d
        omega
      obtain ⟨r, hr⟩ := ih k (n / 10) (strOfNums [(wrap64 (48 + (Int.tmod n 10))) % 256] ++ s) (by omega) (by omega) hlt (by omega) (by rw [ByteArray.size_append, hz]; omega)
      refine ⟨r, ?_⟩
      rw [if_pos hp, Option.bind_some, if_pos (by rw [hz]; omega), e, w64 (by omega) (by omega)]
      exact hr
    · exact ⟨_, by rw [if_neg hp, if_pos (by omega)]⟩
theorem markText_all (k : Nat) (hk : 14 ≤ k) (a : Int) (h0 : 0 ≤ a) (h1 : a ≤ 9000000000000) : ∃ s, laws_markText.f k a = some s := by
  unfold laws_markText.f
  by_cases h : a ≤ 0
  · exact ⟨_, by rw [if_pos h]⟩
  · rw [if_neg h]
    exact markText_l0 13 k a _ (by omega) h0 (by simp; omega) (by omega) (by have : (⟨#[]⟩ : ByteArray).size = 0 := rfl; omega)

/-! #### Verify -/
def codeV (x : S71) (ns : List ByteArray) (bs : List (List Int)) : Nat → Nat → Int
  | 0, _ => 1
  | d + 1, j => if (rdOf ByteArray.empty ns (j : Int)).toList = x.f0.toList then (if ((rd_L5 bs (j : Int)).length : Int) = x.f1 then (if dig (rd_L5 bs (j : Int)) = x.f2 then 0 else 3) else 2) else codeV x ns bs d (j + 1)
def verV (xs : List S71) (ns : List ByteArray) (bs : List (List Int)) : Nat → Nat → List Int → List Int
  | 0, _, out => out
  | d + 1, i, out => verV xs ns bs d (i + 1) (out ++ [codeV (rd_T71 xs (i : Int)) ns bs ns.length 0])
theorem verV_len (xs : List S71) (ns : List ByteArray) (bs : List (List Int)) : ∀ d i out, (verV xs ns bs d i out).length = out.length + d
  | 0, _, _ => rfl
  | d + 1, i, out => by rw [verV, verV_len]; simp; omega
def verifyV (xs : List S71) (ns : List ByteArray) (bs : List (List Int)) : List Int := if packB xs = true ∧ ns.length = bs.length then verV xs ns bs xs.length 0 [] else []
theorem packB_100 {xs : List S71} (h : packB xs = true) : xs.length ≤ 100 := by
  rw [packB, Bool.and_eq_true] at h
  exact of_decide_eq_true h.1
theorem verifyV_len (xs : List S71) (ns : List ByteArray) (bs : List (List Int)) : (verifyV xs ns bs).length ≤ 100 := by
  unfold verifyV
  split
  · rename_i h
    rw [verV_len]
    have := packB_100 h.1
    simpa using this
  · simp
theorem spec_ver (xs : List S71) (ns : List ByteArray) (bs : List (List Int)) (hx : xs.length ≤ 100) (hn : ns.length ≤ 1048576) (hb : ns.length = bs.length) : ∀ d i out, i + d = xs.length → out.length = i → Ev (fun k => spec_Verify.l0 k xs ns bs out (i : Int)) (verV xs ns bs d i out) := by
  intro d
  induction d with
  | zero =>
    intro i out hi ho
    refine ev_succ ?_
    have h1 : ¬ (i : Int) < (xs.length : Int) := by omega
    simp only [spec_Verify.l0, h1, if_false]
    exact ev_ret rfl
  | succ d ih =>
    intro i out hi ho
    refine ev_succ ?_
    have h1 : (i : Int) < (xs.length : Int) := by omega
    have h0 : (0 : Int) ≤ (i : Int) := by omega
    have h4 := w64s (n := i) (by omega)
    have h5 : out.length < 17592186044416 := by omega
    have go : ∀ c, Ev (fun k => spec_Verify.l0 k xs ns bs (out ++ [c]) ((i + 1 : Nat) : Int)) (verV xs ns bs d (i + 1) (out ++ [c])) := fun c => ih (i + 1) _ (by omega) (by simp [ho])
    simp only [spec_Verify.l0, h1, if_true]
    rw [verV]
    have inner : ∀ e j, j + e = ns.length → Ev (fun k => spec_Verify.l1 k xs ns bs out (i : Int) 1 (j : Int)) (verV xs ns bs d (i + 1) (out ++ [codeV (rd_T71 xs (i : Int)) ns bs e j])) := by
      intro e
      induction e with
      | zero =>
        intro j hj
        refine ev_succ ?_
        have h2 : ¬ (j : Int) < (ns.length : Int) := by omega
        simp only [spec_Verify.l1, h2, h4, h5, if_false, if_true]
        exact go 1
      | succ e ih2 =>
        intro j hj
        refine ev_succ ?_
        have h2 : (j : Int) < (ns.length : Int) := by omega
        have h3 : (0 : Int) ≤ (j : Int) := by omega
        have h6 : (j : Int) < (bs.length : Int) := by omega
        have h7 := w64s (n := j) (by omega)
        simp only [spec_Verify.l1, h0, h1, h2, h3, h4, h5, h6, h7, if_true]
        rw [codeV]
        refine ev_ite (fun e1 => ?_) (fun e1 => by rw [if_neg e1]; exact ih2 (j + 1) (by omega))
        rw [if_pos e1]
        refine ev_ite (fun e2 => ?_) (fun e2 => by rw [if_neg e2]; exact go 2)
        rw [if_pos e2]
        refine ev_bind (spec_Digest_ev _) ?_
        refine ev_ite (fun e3 => by rw [if_pos e3]; exact go 0) (fun e3 => by rw [if_neg e3]; exact go 3)
    exact inner _ 0 (by omega)
theorem spec_Verify_ev (xs : List S71) (ns : List ByteArray) (bs : List (List Int)) (hs : ∀ x ∈ xs, x.f0.size ≤ 4611686018427387904) (hn : ns.length ≤ 1048576) : Ev (fun k => spec_Verify.f k xs ns bs) (verifyV xs ns bs) := by
  simp only [spec_Verify.f, Option.bind_some]
  refine ev_bind (spec_PackOk_ev xs hs) ?_
  unfold verifyV
  refine ev_ite (fun h => ?_) (fun h => ?_)
  · by_cases hl : ns.length = bs.length
    · rw [if_pos ⟨h, hl⟩]
      refine ev_succ ?_
      have e : ((ns.length : Int) != (bs.length : Int)) = false := by rw [hl]; simp
      simp only [spec_Verify.j0, e, Bool.false_eq_true, if_false]
      exact spec_ver xs ns bs (packB_100 h) hn hl xs.length 0 [] (by omega) rfl
    · rw [if_neg (fun hh => hl hh.2)]
      refine ev_succ ?_
      have e : ((ns.length : Int) != (bs.length : Int)) = true := by simp; omega
      simp only [spec_Verify.j0, e, if_true]
      exact ev_ret rfl
  · rw [if_neg (fun hh => h hh.1)]
    refine ev_succ ?_
    simp only [spec_Verify.j0, if_true]
    exact ev_ret rfl
def idxS (x : ByteArray) (ns : List ByteArray) : Nat → Nat → Int
  | 0, _ => -1
  | d + 1, j => if x.toList = (rdOf ByteArray.empty ns (j : Int)).toList then (j : Int) else idxS x ns d (j + 1)
theorem index_ev (ns : List ByteArray) (x : ByteArray) (hn : ns.length ≤ 1048576) : Ev (fun k => slices_Index_string_string.f k ns x) (idxS x ns ns.length 0) := by
  have key : ∀ d j, j + d = ns.length → Ev (fun k => slices_Index_string_string.l0 k ns x (ns.length : Int) (j : Int)) (idxS x ns d j) := by
    intro d
    induction d with
    | zero =>
      intro j hj
      refine ev_succ ?_
      have h1 : ¬ (j : Int) < (ns.length : Int) := by omega
      simp only [slices_Index_string_string.l0, h1, if_false]
      exact ev_ret rfl
    | succ d ih =>
      intro j hj
      refine ev_succ ?_
      have h1 : (j : Int) < (ns.length : Int) := by omega
      have h2 : (0 : Int) ≤ (j : Int) := by omega
      have h4 := w64s (n := j) (by omega)
      simp only [slices_Index_string_string.l0, h1, h2, h4, if_true]
      rw [idxS]
      exact ev_ite (fun e => ev_ret (by rw [if_pos e])) (fun e => by rw [if_neg e]; exact ih (j + 1) (by omega))
  exact key ns.length 0 (by omega)
theorem idx_code (x : S71) (ns : List ByteArray) (bs : List (List Int)) : ∀ d j, j + d = ns.length → (idxS x.f0 ns d j < 0 ∧ codeV x ns bs d j = 1) ∨
    ∃ m : Nat, m < ns.length ∧ idxS x.f0 ns d j = (m : Int) ∧ codeV x ns bs d j = (if ((rd_L5 bs (m : Int)).length : Int) = x.f1 then (if dig (rd_L5 bs (m : Int)) = x.f2 then 0 else 3) else 2) := by
  intro d
  induction d with
  | zero => intro j _; exact .inl ⟨by rw [idxS]; omega, rfl⟩
  | succ d ih =>
    intro j hj
    rw [idxS, codeV]
    by_cases e : x.f0.toList = (rdOf ByteArray.empty ns (j : Int)).toList
    · rw [if_pos e, if_pos e.symm]
      exact .inr ⟨j, by omega, rfl, rfl⟩
    · rw [if_neg e, if_neg (fun h => e h.symm)]
      exact ih (j + 1) (by omega)
theorem impl_Verify_ev (xs : List S71) (ns : List ByteArray) (bs : List (List Int)) (hx : xs.length ≤ 4611686018427387904) (hn : ns.length ≤ 1048576) : Ev (fun k => impl_Verify.f k xs ns bs) (verifyV xs ns bs) := by
  simp only [impl_Verify.f]
  refine ev_bind (impl_PackOk_ev xs hx) ?_
  unfold verifyV
  refine ev_ite (fun h => ?_) (fun h => ?_)
  · by_cases hl : ns.length = bs.length
    · rw [if_pos ⟨h, hl⟩]
      refine ev_succ ?_
      have e : ((ns.length : Int) != (bs.length : Int)) = false := by rw [hl]; simp
      simp only [impl_Verify.j0, e, Bool.false_eq_true, if_false]
      have hc := packB_100 h
      have key : ∀ d i out, i + d = xs.length → out.length = i → Ev (fun k => impl_Verify.l0 k ns bs out xs (xs.length : Int) (i : Int)) (verV xs ns bs d i out) := by
        intro d
        induction d with
        | zero =>
          intro i out hi ho
          refine ev_succ ?_
          have h1 : ¬ (i : Int) < (xs.length : Int) := by omega
          simp only [impl_Verify.l0, h1, if_false]
          exact ev_ret rfl
        | succ d ih =>
          intro i out hi ho
          refine ev_succ ?_
          have h1 : (i : Int) < (xs.length : Int) := by omega
          have h0 : (0 : Int) ≤ (i : Int) := by omega
          have h4 := w64s (n := i) (by omega)
          have h5 : out.length < 17592186044416 := by omega
          have go : ∀ c, Ev (fun k => impl_Verify.l0 k ns bs (out ++ [c]) xs (xs.length : Int) ((i + 1 : Nat) : Int)) (verV xs ns bs d (i + 1) (out ++ [c])) := fun c => ih (i + 1) _ (by omega) (by simp [ho])
          simp only [impl_Verify.l0, h0, h1, h4, h5, if_true]
          refine ev_bind (index_ev ns _ hn) ?_
          rw [verV]
          rcases idx_code (rd_T71 xs (i : Int)) ns bs ns.length 0 (by omega) with ⟨e1, e2⟩ | ⟨m, hm, e1, e2⟩
          · rw [e2]
            simp only [e1, if_true]
            exact go 1
          · rw [e2, e1]
            have h6 : ¬ (m : Int) < 0 := by omega
            have h7 : (0 : Int) ≤ (m : Int) := by omega
            have h8 : (m : Int) < (bs.length : Int) := by omega
            simp only [h6, h7, h8, if_true, if_false]
            refine ev_ite (fun e3 => ?_) (fun e3 => by rw [if_neg e3]; exact go 2)
            rw [if_pos e3]
            refine ev_bind (impl_Digest_ev _) ?_
            exact ev_ite (fun e4 => by rw [if_pos e4]; exact go 0) (fun e4 => by rw [if_neg e4]; exact go 3)
      exact key xs.length 0 [] (by omega) rfl
    · rw [if_neg (fun hh => hl hh.2)]
      refine ev_succ ?_
      have e : ((ns.length : Int) != (bs.length : Int)) = true := by simp; omega
      simp only [impl_Verify.j0, e, if_true]
      exact ev_ret rfl
  · rw [if_neg (fun hh => h hh.1)]
    refine ev_succ ?_
    simp only [impl_Verify.j0, if_true]
    exact ev_ret rfl

theorem FnExactVerify : ∀ (l0 : List S77) (l1 : List ByteArray) (l2 : List (List Int)), (l0.length ≤ maxLen ∧ ∀ y1 ∈ l0, (y1.f0.size ≤ maxLen ∧ ((Lit.int .i64 y1.f1).wf = true ∧ (Lit.int .i64 y1.f2).wf = true))) → (l1.length ≤ maxLen ∧ ∀ y1 ∈ l1, y1.size ≤ maxLen) → (l2.length ≤ maxLen ∧ ∀ y1 ∈ l2, (y1.length ≤ maxLen ∧ ∀ y2 ∈ y1, (Lit.int .u8 y2).wf = true)) → ∃ k, laws_FnExactVerify.f k l0 l1 l2 = some true := by
  intro l0 l1 l2 ⟨hl0, hw0⟩ ⟨hl1, hw1⟩ ⟨hl2, hw2⟩
  apply Ev.rounds
  simp only [laws_FnExactVerify.f]
  obtain ⟨r0, q0, b0, p0⟩ := szAssetS_ev l0 1048576 (by omega) (by omega) hl0 (fun x hx => (hw0 x hx).1)
  refine ev_bind q0 ?_
  refine ev_ite (fun _ => ev_ret rfl) (fun n0 => ?_)
  obtain ⟨s0, z0⟩ := p0 (by omega)
  obtain ⟨r1, q1, b1, p1⟩ := szStringS_ev l1 r0 (by omega) (by omega) hl1 hw1
  refine ev_bind q1 ?_
  refine ev_ite (fun _ => ev_ret rfl) (fun n1 => ?_)
  obtain ⟨s1, z1⟩ := p1 (by omega)
  obtain ⟨r2, q2, b2, p2⟩ := szByteSS_ev l2 r1 (by omega) (by omega) hl2 (fun x hx => (hw2 x hx).1)
  refine ev_bind q2 ?_
  refine ev_ite (fun _ => ev_ret rfl) (fun n2 => ?_)
  obtain ⟨s2, z2⟩ := p2 (by omega)
  have h3 : (l0.map cvAsset).length ≤ 1048576 := by simpa using s0
  have h4 : ∀ x ∈ l0.map cvAsset, x.f0.size ≤ 4611686018427387904 := fun x hx => by
    obtain ⟨y, hy, rfl⟩ := List.mem_map.1 hx
    exact Nat.le_trans (z0 y hy) (by omega)
  have hg := verifyV_len (l0.map cvAsset) l1 l2
  obtain ⟨k1, e1⟩ := toAssetS_ev l0 s0
  obtain ⟨k2, e2⟩ := toStringS_ev l1 s1
  obtain ⟨k3, e3⟩ := toByteSS_ev l2 s2 z2
  obtain ⟨k4, e4⟩ := spec_Verify_ev (l0.map cvAsset) l1 l2 h4 s1
  obtain ⟨k5, e5⟩ := impl_Verify_ev (l0.map cvAsset) l1 l2 (by omega) s1
  obtain ⟨k6, e6⟩ := eqInt64S_ev (verifyV (l0.map cvAsset) l1 l2) (verifyV (l0.map cvAsset) l1 l2) (by omega)
  obtain ⟨k7, e7⟩ := eqAssetS_refl (l0.map cvAsset) (by omega)
  obtain ⟨k8, e8⟩ := eqStringS_refl l1 (by omega)
  obtain ⟨k9, e9⟩ := eqByteSS_refl l2 (by omega) z2
  obtain ⟨k10, e10⟩ := markInt64S_ev (verifyV (l0.map cvAsset) l1 l2) 1 (by omega) (by omega)
  obtain ⟨k11, e11⟩ := heldInt64S_ev (verifyV (l0.map cvAsset) l1 l2).length 1 (by omega) (by omega)
  refine ⟨k1 + k2 + k3 + k4 + k5 + k6 + k7 + k8 + k9 + k10 + k11 + 14, fun k hk => if_pos ?_⟩
  exact ⟨_, _, _, _, _, _, e1 k (by omega), e2 k (by omega), e3 k (by omega), e4 k (by omega), e5 k (by omega), (e6 k (by omega)).trans (by simp), e7 k (by omega), e8 k (by omega), e9 k (by omega), h3, s1, s2, z2, e10 k (by omega), e11 k (by omega), by omega, fun a h0 h1 => markText_all k (by omega) a h0 h1⟩
end Go.Proofs.Ytelcpfanjjfgdaa.Pure
