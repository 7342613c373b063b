/-
  The plain statement of FnExactPackOk: both sides hold a list of assets to be right by the same test, and the argument is not written.
  Conditions: the statement's own (lengths that slices and strings can have).
-/
import Derived.Test.YtelcpfanjjfgdaaHFnExactPackOkx0
import Derived.Test.YtelcpfanjjfgdaaHFnExactPackOkx1
import Derived.Test.YtelcpfanjjfgdaaHFnExactPackOkx2
import Derived.Test.YtelcpfanjjfgdaaHFnExactPackOkx3
import Derived.Test.YtelcpfanjjfgdaaHFnExactPackOkx4
import Derived.Test.YtelcpfanjjfgdaaHFnExactPackOkx5
import Derived.Test.YtelcpfanjjfgdaaHFnExactPackOkx6
import Derived.Test.YtelcpfanjjfgdaaPureBase
namespace Go.Proofs.Ytelcpfanjjfgdaa.Pure
open Go.RowKit Go.Proofs.Ytelcpfanjjfgdaa.HFnExactPackOk Go.Proofs.YtelcpfanjjfgdaaW.PrintWords Go.Proofs.YtelcpfanjjfgdaaW.PrintLast Go.Proofs.YtelcpfanjjfgdaaW.PrintMore Go.Proofs.Ytelcpfanjjfgdaa.PB
set_option linter.unusedVariables false
set_option linter.unusedSimpArgs false
/-! #### laws_szAssetS: where it is not below 0, all is small -/
theorem szAssetS_ev (xs : List S77) (hw : xs.length ≤ maxLen) (hx : ∀ x ∈ xs, x.f0.size ≤ maxLen) :
    ∃ r, Ev (fun k => laws_szAssetS.f k xs 1048576) r ∧ (0 ≤ r → xs.length ≤ 1048576 ∧ ∀ x ∈ xs, x.f0.size ≤ 1048576) := by
  unfold maxLen at hw hx
  have key : ∀ d i (left : Int), i + d = xs.length → 0 ≤ left → left ≤ 1048576 → ∃ r, Ev (fun k => laws_szAssetS.l0 k xs left (i : Int)) r ∧ (0 ≤ r → ∀ x ∈ xs.drop i, x.f0.size ≤ 1048576) := by
    intro d
    induction d with
    | zero =>
      intro i left hi h0 hl
      have h1 : ¬ ((i : Int) < (xs.length : Int)) := by omega
      refine ⟨left, ev_succ ?_, fun _ x hx => by rw [drop_end (by omega)] at hx; cases hx⟩
      simp only [laws_szAssetS.l0, h1, if_false]
      exact ev_ret rfl
    | succ d ih =>
      intro i left hi h0 hl
      have h1 : (i : Int) < (xs.length : Int) := by omega
      have h2 : (0 : Int) ≤ (i : Int) := by omega
      have h4 := w64s (n := i) (by omega)
      have hm : rd_T77 xs (i : Int) ∈ xs := getD_mem _ (by omega)
      have hb := hx _ hm
      generalize hx0 : rd_T77 xs (i : Int) = x at hm hb
      have h5 : wrap64 (left - (x.f0.size : Int)) = left - (x.f0.size : Int) := w64 (by omega) (by omega)
      have hd : xs.drop i = x :: xs.drop (i + 1) := by rw [drop_getD z77 xs i (by omega), ← hx0]; rfl
      by_cases h6 : left - (x.f0.size : Int) < 0
      · refine ⟨-1, ev_succ ?_, fun h => by omega⟩
        simp [laws_szAssetS.l0, laws_szAsset.f, hx0, h1, h2, h5, h6]
        exact ev_ret rfl
      · obtain ⟨r, hr, hp⟩ := ih (i + 1) (left - (x.f0.size : Int)) (by omega) (by omega) (by omega)
        refine ⟨r, ev_succ ?_, fun h y hy => ?_⟩
        · simp only [laws_szAssetS.l0, laws_szAsset.f, hx0, h1, h2, h4, h5, h6, if_true, if_false, Option.bind_some]
          exact hr
        · rw [hd] at hy
          rcases List.mem_cons.1 hy with rfl | hy
          · omega
          · exact hp h y hy
  have h5 : wrap64 (1048576 - (xs.length : Int)) = 1048576 - (xs.length : Int) := w64 (by omega) (by omega)
  by_cases h6 : 1048576 - (xs.length : Int) < 0
  · refine ⟨-1, ?_, fun h => by omega⟩
    simp only [laws_szAssetS.f, h5, h6, if_true]
    exact ev_ret rfl
  · obtain ⟨r, hr, hp⟩ := key xs.length 0 (1048576 - (xs.length : Int)) (by omega) (by omega) (by omega)
    refine ⟨r, ?_, fun h => ⟨by omega, by simpa using hp h⟩⟩
    simp only [laws_szAssetS.f, h5, h6, if_false]
    exact hr

theorem spec_in_eq (a lo hi : Int) : spec_l1In.f a lo hi = some (decide (lo ≤ a ∧ a ≤ hi)) := by
  unfold spec_l1In.f
  by_cases h : a ≥ lo
  · rw [if_pos h]; simp [show lo ≤ a from h]
  · rw [if_neg h]; simp; omega

theorem impl_in_eq (a lo hi : Int) : impl_in.f a lo hi = some (decide (lo ≤ a ∧ a ≤ hi)) := by
  unfold impl_in.f
  by_cases h : lo ≤ a
  · rw [if_pos h]; simp [h]
  · rw [if_neg h]; simp; omega

/-! #### laws_toAssetS -/
def cvAsset (a : S77) : S71 := ⟨a.f0, a.f1, a.f2⟩
theorem toAssetS_ev (xs : List S77) (h : xs.length ≤ 1048576) : Ev (fun k => laws_toAssetS.f k xs) (xs.map cvAsset) := by
  have key : ∀ d i, i + d = xs.length → Ev (fun k => laws_toAssetS.l0 k xs ((xs.take i).map cvAsset ++ List.replicate (xs.length - i) z71) (i : Int)) (xs.map cvAsset) := by
    intro d
    induction d with
    | zero =>
      intro i hi
      refine ev_succ ?_
      have h1 : ¬ ((i : Int) < (xs.length : Int)) := by omega
      simp only [laws_toAssetS.l0, h1, if_false]
      obtain rfl : i = xs.length := by omega
      exact ev_ret (by rw [fill_all])
    | succ d ih =>
      intro i hi
      have hlt : i < xs.length := by omega
      refine ev_succ ?_
      have h1 : (i : Int) < (xs.length : Int) := by omega
      have h2 : (0 : Int) ≤ (i : Int) := by omega
      have h3 : (i : Int) < ((((xs.take i).map cvAsset ++ List.replicate (xs.length - i) z71).length : Nat) : Int) := by rw [fill_len _ _ _ _ (by omega)]; omega
      have h4 := w64s (n := i) (by omega)
      simp only [laws_toAssetS.l0, laws_toAsset.f, h1, h2, h3, if_true, h4, Option.bind_some]
      have := ih (i + 1) (by omega)
      rw [← fill_set cvAsset z77 z71 xs i hlt] at this
      exact this
  have h1 : (0 : Int) ≤ (xs.length : Int) := by omega
  have h2 : xs.length ≤ 8796093022208 := by omega
  simp only [laws_toAssetS.f, h1, Int.toNat_natCast, h2, if_true]
  have := key xs.length 0 (by omega)
  rw [← fill_none cvAsset z71 xs] at this
  exact this

/-! #### laws_eqAssetS at one list twice -/
theorem eqAssetS_refl (xs : List S71) (h : xs.length ≤ 4611686018427387904) : Ev (fun k => laws_eqAssetS.f k xs xs) true := by
  have key : ∀ d i, i + d = xs.length → Ev (fun k => laws_eqAssetS.l0 k xs xs (i : Int)) true := by
    intro d
    induction d with
    | zero =>
      intro i hi
      refine ev_succ ?_
      have h1 : ¬ ((i : Int) < (xs.length : Int)) := by omega
      simp only [laws_eqAssetS.l0, h1, if_false]
      exact ev_ret rfl
    | succ d ih =>
      intro i hi
      refine ev_succ ?_
      have h1 : (i : Int) < (xs.length : Int) := by omega
      have h2 : (0 : Int) ≤ (i : Int) := by omega
      have h4 := w64s (n := i) (by omega)
      simp only [laws_eqAssetS.l0, laws_eqAsset.f, h1, h2, if_true, h4, Option.bind_some]
      exact ih (i + 1) (by omega)
  simp only [laws_eqAssetS.f, if_true]
  exact key xs.length 0 (by omega)

/-! #### bytes of a string, by their index -/
theorem drop_bt (s : ByteArray) (i : Nat) (h : i < s.size) : (bytesOf s).drop i = bt s (i : Int) :: (bytesOf s).drop (i + 1) := by
  rw [drop_rd _ i (by rw [bytesOf_length]; exact h), rd_bytesOf]
def lexB : List Int → List Int → Bool
  | _, [] => false
  | [], _ :: _ => true
  | a :: x, b :: y => if a = b then lexB x y else decide (a < b)
theorem bytesLess_lex : ∀ x y : List UInt8, Op.bytesLess x y = lexB (x.map fun b => (b.toNat : Int)) (y.map fun b => (b.toNat : Int))
  | [], [] => by simp [Op.bytesLess, lexB]
  | _ :: _, [] => by simp [Op.bytesLess, lexB]
  | [], _ :: _ => by simp [Op.bytesLess, lexB]
  | a :: x, b :: y => by
    rw [Op.bytesLess, bytesLess_lex x y]
    simp only [List.map_cons, lexB]
    by_cases h : a = b
    · subst h
      simp
    · have h1 : ¬ ((a.toNat : Int) = (b.toNat : Int)) := fun e => h (UInt8.toNat_inj.1 (by omega))
      rw [if_neg h1]
      simp only [h, beq_eq_false_iff_ne.2 h, Bool.false_and, Bool.or_false]
      rw [decide_eq_decide]
      rw [UInt8.lt_iff_toNat_lt]
      omega
theorem bytesLess_bytesOf (a b : ByteArray) : Op.bytesLess a.toList b.toList = lexB (bytesOf a) (bytesOf b) := by
  rw [bytesLess_lex, ByteArray.toList_eq, ByteArray.toList_eq]
  rfl

def allFrom (p : Nat → Bool) : Nat → Nat → Bool
  | 0, _ => true
  | d + 1, i => p i && allFrom p d (i + 1)
theorem allFrom_at {p : Nat → Bool} : ∀ {d i : Nat}, allFrom p d i = true → ∀ j, i ≤ j → j < i + d → p j = true
  | 0, i, _, j, h1, h2 => absurd h2 (by omega)
  | d + 1, i, h, j, h1, h2 => by
    rw [allFrom, Bool.and_eq_true] at h
    rcases Nat.eq_or_lt_of_le h1 with rfl | h3
    · exact h.1
    · exact allFrom_at h.2 j (by omega) (by omega)

/-! #### PackOk -/
def okc (c : Int) : Bool := decide ((48 ≤ c ∧ c ≤ 57) ∨ (97 ≤ c ∧ c ≤ 122) ∨ (65 ≤ c ∧ c ≤ 90) ∨ c = 95 ∨ c = 46)
def nameB (s : ByteArray) : Bool := decide (1 ≤ s.size ∧ s.size ≤ 40) && (bytesOf s).all okc
theorem spec_Name_ev (s : ByteArray) : Ev (fun k => spec_l15Name.f k s) (nameB s) := by
  have key : ∀ d i, s.size ≤ 40 → i + d = s.size → Ev (fun k => spec_l15Name.l0 k s (i : Int)) (((bytesOf s).drop i).all okc) := by
    intro d
    induction d with
    | zero =>
      intro i hs hi
      refine ev_succ ?_
      have h1 : ¬ (i : Int) < (s.size : Int) := by omega
      simp only [spec_l15Name.l0, h1, if_false]
      exact ev_ret (by rw [drop_end (by rw [bytesOf_length]; omega)]; rfl)
    | succ d ih =>
      intro i hs hi
      refine ev_succ ?_
      have h1 : (i : Int) < (s.size : Int) := by omega
      have h2 : (0 : Int) ≤ (i : Int) := by omega
      have h4 := w64s (n := i) (by omega)
      have hih := ih (i + 1) hs (by omega)
      simp only [spec_l15Name.l0, h1, h2, h4, if_true]
      rw [drop_bt s i (by omega), List.all_cons]
      generalize bt s (i : Int) = c
      have yes : okc c = true → Ev (fun k => spec_l15Name.l0 k s ((i + 1 : Nat) : Int)) (okc c && ((bytesOf s).drop (i + 1)).all okc) := fun h => by rw [h, Bool.true_and]; exact hih
      have no : okc c = false → Ev (fun _ => some false) (okc c && ((bytesOf s).drop (i + 1)).all okc) := fun h => by rw [h, Bool.false_and]; exact ev_ret rfl
      repeat' (refine ev_ite (fun _ => ?_) (fun _ => ?_))
      all_goals first | exact yes (decide_eq_true (by omega)) | exact no (decide_eq_false (by omega))
  unfold nameB
  simp only [spec_l15Name.f]
  refine ev_ite (fun h => ?_) (fun h => ?_)
  · refine ev_succ ?_
    simp only [spec_l15Name.j0, if_true]
    exact ev_ret (by rw [decide_eq_false (by omega)]; rfl)
  · refine ev_succ ?_
    by_cases h2 : (s.size : Int) > 40
    · simp only [spec_l15Name.j0, decide_eq_true h2, if_true]
      exact ev_ret (by rw [decide_eq_false (by omega)]; rfl)
    · simp only [spec_l15Name.j0, decide_eq_false h2, Bool.false_eq_true, if_false]
      exact ev_eq (key s.size 0 (by omega) (by omega)) (by rw [decide_eq_true (by omega)]; simp)
theorem impl_Name_ev (s : ByteArray) : Ev (fun k => impl_assetName.f k s) (nameB s) := by
  have hle : ∀ c, impl_isLetter.f c = some (decide ((97 ≤ c ∧ c ≤ 122) ∨ (65 ≤ c ∧ c ≤ 90))) := by
    intro c
    unfold impl_isLetter.f
    repeat' split
    all_goals (congr 1; first | (rw [decide_eq_decide]; omega) | (symm; first | exact decide_eq_true (by omega) | exact decide_eq_false (by omega)))
  have hdi : ∀ c, impl_isDigit.f c = some (decide (48 ≤ c ∧ c ≤ 57)) := by
    intro c
    unfold impl_isDigit.f
    split
    all_goals (congr 1; first | (rw [decide_eq_decide]; omega) | (symm; first | exact decide_eq_true (by omega) | exact decide_eq_false (by omega)))
  have key : ∀ d i, s.size ≤ 40 → i + d = s.size → Ev (fun k => impl_assetName.l0 k s (s.size : Int) (i : Int)) (((bytesOf s).drop i).all okc) := by
    intro d
    induction d with
    | zero =>
      intro i hs hi
      refine ev_succ ?_
      have h1 : ¬ (i : Int) < (s.size : Int) := by omega
      simp only [impl_assetName.l0, h1, if_false]
      exact ev_ret (by rw [drop_end (by rw [bytesOf_length]; omega)]; rfl)
    | succ d ih =>
      intro i hs hi
      refine ev_succ ?_
      have h1 : (i : Int) < (s.size : Int) := by omega
      have h2 : (0 : Int) ≤ (i : Int) := by omega
      have h4 := w64s (n := i) (by omega)
      have hih := ih (i + 1) hs (by omega)
      simp only [impl_assetName.l0, h1, h2, h4, if_true, hle, hdi, Option.bind_some, decide_eq_true_eq]
      rw [drop_bt s i (by omega), List.all_cons]
      generalize bt s (i : Int) = c
      have yes : okc c = true → Ev (fun k => impl_assetName.l0 k s (s.size : Int) ((i + 1 : Nat) : Int)) (okc c && ((bytesOf s).drop (i + 1)).all okc) := fun h => by rw [h, Bool.true_and]; exact hih
      have no : okc c = false → Ev (fun _ => some false) (okc c && ((bytesOf s).drop (i + 1)).all okc) := fun h => by rw [h, Bool.false_and]; exact ev_ret rfl
      repeat' (refine ev_ite (fun _ => ?_) (fun _ => ?_))
      all_goals first | exact yes (decide_eq_true (by omega)) | exact no (decide_eq_false (by omega))
  unfold nameB
  simp only [impl_assetName.f, impl_in_eq, Option.bind_some]
  refine ev_ifb (fun h => ?_) (fun h => ?_)
  · have h' := of_decide_eq_true h
    exact ev_eq (key s.size 0 (by omega) (by omega)) (by rw [decide_eq_true (by omega)]; simp)
  · have h' := of_decide_eq_false h
    exact ev_ret (by rw [decide_eq_false (by omega)]; rfl)
theorem spec_Before_ev (a b : ByteArray) (ha : a.size ≤ 4611686018427387904) : Ev (fun k => spec_l15Before.f k a b) (lexB (bytesOf a) (bytesOf b)) := by
  have key : ∀ d i, i + d = a.size → i ≤ b.size → Ev (fun k => spec_l15Before.l0 k a b (i : Int)) (lexB ((bytesOf a).drop i) ((bytesOf b).drop i)) := by
    intro d
    induction d with
    | zero =>
      intro i hi hb
      refine ev_succ ?_
      have h1 : ¬ (i : Int) < (a.size : Int) := by omega
      simp only [spec_l15Before.l0, h1, if_false]
      refine ev_succ ?_
      simp only [spec_l15Before.j1, Bool.false_eq_true, if_false]
      refine ev_ret ?_
      rw [drop_end (by rw [bytesOf_length]; omega)]
      by_cases h2 : i < b.size
      · rw [drop_bt b i h2, decide_eq_true (by omega)]; rfl
      · rw [drop_end (by rw [bytesOf_length]; omega), decide_eq_false (by omega)]; rfl
    | succ d ih =>
      intro i hi hb
      refine ev_succ ?_
      have h1 : (i : Int) < (a.size : Int) := by omega
      have h3 : (0 : Int) ≤ (i : Int) := by omega
      have h4 := w64s (n := i) (by omega)
      simp only [spec_l15Before.l0, h1, if_true]
      refine ev_succ ?_
      by_cases h2 : (i : Int) < (b.size : Int)
      · simp only [spec_l15Before.j1, decide_eq_true h2, if_true, h1, h2, h3, h4]
        rw [drop_bt a i (by omega), drop_bt b i (by omega), lexB]
        by_cases he : bt a (i : Int) = bt b (i : Int)
        · simp only [he, if_true]
          exact ih (i + 1) (by omega) (by omega)
        · simp only [he, if_false]
          exact ev_ret rfl
      · simp only [spec_l15Before.j1, decide_eq_false h2, Bool.false_eq_true, if_false]
        refine ev_ret ?_
        rw [drop_end (xs := bytesOf b) (by rw [bytesOf_length]; omega), decide_eq_false (by omega)]
        cases (bytesOf a).drop i <;> rfl
  exact key a.size 0 (by omega) (by omega)
/-- One asset behind the one ahead of it. -/
def assetB (xs : List S71) (i : Nat) : Bool :=
  nameB (rd_T71 xs (i : Int)).f0 && decide (0 ≤ (rd_T71 xs (i : Int)).f1 ∧ (rd_T71 xs (i : Int)).f1 ≤ 40000) && decide (0 ≤ (rd_T71 xs (i : Int)).f2 ∧ (rd_T71 xs (i : Int)).f2 ≤ 1000000006)
    && (decide (i = 0) || lexB (bytesOf (rd_T71 xs ((i - 1 : Nat) : Int)).f0) (bytesOf (rd_T71 xs (i : Int)).f0))
def packB (xs : List S71) : Bool := decide (xs.length ≤ 100) && allFrom (assetB xs) xs.length 0
theorem spec_PackOk_ev (xs : List S71) (hs : ∀ x ∈ xs, x.f0.size ≤ 4611686018427387904) : Ev (fun k => spec_PackOk.f k xs) (packB xs) := by
  have key : ∀ d i, xs.length ≤ 100 → i + d = xs.length → Ev (fun k => spec_PackOk.l0 k xs (i : Int)) (allFrom (assetB xs) d i) := by
    intro d
    induction d with
    | zero =>
      intro i hl hi
      refine ev_succ ?_
      have h1 : ¬ (i : Int) < (xs.length : Int) := by omega
      simp only [spec_PackOk.l0, h1, if_false]
      exact ev_ret rfl
    | succ d ih =>
      intro i hl hi
      refine ev_succ ?_
      have h1 : (i : Int) < (xs.length : Int) := by omega
      have h2 : (0 : Int) ≤ (i : Int) := by omega
      have h4 := w64s (n := i) (by omega)
      simp only [spec_PackOk.l0, h1, h2, h4, if_true]
      rw [allFrom, assetB]
      refine ev_bind (spec_Name_ev _) ?_
      refine ev_ifb (fun e1 => ?_) (fun e1 => ev_ret (by rw [e1]; rfl))
      rw [e1, Bool.true_and]
      simp only [spec_in_eq, Option.bind_some]
      refine ev_ifb (fun e2 => ?_) (fun e2 => ev_ret (by rw [e2]; rfl))
      rw [e2, Bool.true_and]
      refine ev_ifb (fun e3 => ?_) (fun e3 => ev_ret (by rw [e3]; rfl))
      rw [e3, Bool.true_and]
      refine ev_ite (fun h5 => ?_) (fun h5 => ?_)
      · have h6 : wrap64 ((i : Int) - 1) = ((i - 1 : Nat) : Int) := by rw [w64 (by omega) (by omega)]; omega
        have h7 : (0 : Int) ≤ ((i - 1 : Nat) : Int) := by omega
        have h8 : ((i - 1 : Nat) : Int) < (xs.length : Int) := by omega
        simp only [h6, h7, h8, if_true]
        refine ev_bind (spec_Before_ev _ _ (hs _ (getD_mem _ (by omega)))) ?_
        rw [decide_eq_false (show ¬ i = 0 by omega), Bool.false_or]
        refine ev_ifb (fun e4 => ?_) (fun e4 => ev_ret (by rw [e4]; rfl))
        rw [e4, Bool.true_and]
        exact ih (i + 1) hl (by omega)
      · rw [decide_eq_true (show i = 0 by omega), Bool.true_or, Bool.true_and]
        exact ih (i + 1) hl (by omega)
  unfold packB
  simp only [spec_PackOk.f]
  refine ev_ite (fun h => ev_ret (by rw [decide_eq_false (by omega)]; rfl)) (fun h => ?_)
  rw [decide_eq_true (show xs.length ≤ 100 by omega), Bool.true_and]
  exact key xs.length 0 (by omega) (by omega)
theorem impl_PackOk_ev (xs : List S71) (hl : xs.length ≤ 4611686018427387904) : Ev (fun k => impl_PackOk.f k xs) (packB xs) := by
  have key : ∀ d i, i + d = xs.length → Ev (fun k => impl_PackOk.l0 k xs xs (xs.length : Int) (i : Int)) (decide (xs.length ≤ 100) && allFrom (assetB xs) d i) := by
    intro d
    induction d with
    | zero =>
      intro i hi
      refine ev_succ ?_
      have h1 : ¬ (i : Int) < (xs.length : Int) := by omega
      simp only [impl_PackOk.l0, h1, if_false]
      exact ev_ret (by rw [allFrom, Bool.and_true]; congr 1; rw [decide_eq_decide]; omega)
    | succ d ih =>
      intro i hi
      refine ev_succ ?_
      have h1 : (i : Int) < (xs.length : Int) := by omega
      have h2 : (0 : Int) ≤ (i : Int) := by omega
      have h4 := w64s (n := i) (by omega)
      simp only [impl_PackOk.l0, h1, h2, h4, if_true]
      rw [allFrom, assetB]
      have no : ∀ b : Bool, b = false → Ev (fun k => some false) (decide (xs.length ≤ 100) && (b && allFrom (assetB xs) d (i + 1))) := fun b hb => by rw [hb, Bool.false_and, Bool.and_false]; exact ev_ret rfl
      refine ev_bind (impl_Name_ev _) ?_
      refine ev_ifb (fun e1 => ?_) (fun e1 => no _ (by rw [e1]; rfl))
      rw [e1, Bool.true_and]
      simp only [impl_in_eq, Option.bind_some]
      refine ev_ifb (fun e2 => ?_) (fun e2 => no _ (by rw [e2]; rfl))
      rw [e2, Bool.true_and]
      refine ev_ifb (fun e3 => ?_) (fun e3 => no _ (by rw [e3]; rfl))
      rw [e3, Bool.true_and]
      refine ev_ite (fun h5 => ?_) (fun h5 => ?_)
      · have h6 : wrap64 ((i : Int) - 1) = ((i - 1 : Nat) : Int) := by rw [w64 (by omega) (by omega)]; omega
        have h7 : (0 : Int) ≤ ((i - 1 : Nat) : Int) := by omega
        have h8 : ((i - 1 : Nat) : Int) < (xs.length : Int) := by omega
        simp only [h6, h7, h8, if_true, bytesLess_bytesOf]
        rw [decide_eq_false (show ¬ i = 0 by omega), Bool.false_or]
        refine ev_ifb (fun e4 => ?_) (fun e4 => no _ e4)
        rw [e4, Bool.true_and]
        exact ih (i + 1) (by omega)
      · rw [decide_eq_true (show i = 0 by omega), Bool.true_or, Bool.true_and]
        exact ih (i + 1) (by omega)
  exact key xs.length 0 (by omega)

theorem FnExactPackOk : ∀ (l0 : List S77), (l0.length ≤ maxLen ∧ ∀ y1 ∈ l0, (y1.f0.size ≤ maxLen ∧ ((Lit.int .i64 y1.f1).wf = true ∧ (Lit.int .i64 y1.f2).wf = true))) → ∃ k, laws_FnExactPackOk.f k l0 = some true := by
  intro l0 ⟨hl, hw⟩
  apply Ev.rounds
  simp only [laws_FnExactPackOk.f]
  obtain ⟨r, hr, hp⟩ := szAssetS_ev l0 hl (fun x hx => (hw x hx).1)
  refine ev_bind hr ?_
  refine ev_ite (fun _ => ev_ret rfl) (fun h0 => ?_)
  obtain ⟨h1, h2⟩ := hp (by omega)
  have h3 : (l0.map cvAsset).length ≤ 1048576 := by simpa using h1
  refine ev_bind (toAssetS_ev l0 h1) ?_
  refine ev_bind (spec_PackOk_ev _ (fun x hx => by
    obtain ⟨y, hy, rfl⟩ := List.mem_map.1 hx
    have := h2 y hy
    simp only [cvAsset]
    omega)) ?_
  refine ev_bind (toAssetS_ev l0 h1) ?_
  refine ev_bind (impl_PackOk_ev _ (by omega)) ?_
  simp only [bne_self_eq_false, Bool.false_eq_true, if_false]
  refine ev_bind (toAssetS_ev l0 h1) ?_
  refine ev_bind (eqAssetS_refl _ (by omega)) ?_
  simp only [if_true]
  exact ev_ret rfl
end Go.Proofs.Ytelcpfanjjfgdaa.Pure
