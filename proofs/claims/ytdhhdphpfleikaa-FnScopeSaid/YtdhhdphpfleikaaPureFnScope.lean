/-
  The plain statement of FnScope: each colour of a right list is counted once; whatever the draw.
  Conditions: the statement's own.
-/
import Derived.Test.YtdhhdphpfleikaaHFnScopex0
import Derived.Test.YtdhhdphpfleikaaHFnScopex1
import Derived.Test.YtdhhdphpfleikaaHFnScopex2
import Derived.Test.YtdhhdphpfleikaaHFnScopex3
import Derived.Test.YtdhhdphpfleikaaPureBase
import Derived.Laws.BitsLemmas
namespace Go.Proofs.Ytdhhdphpfleikaa.Pure
open Go.RowKit Go.Proofs.Ytdhhdphpfleikaa.HFnScope Go.Proofs.YtdhhdphpfleikaaW.PrintWords Go.Proofs.YtdhhdphpfleikaaW.PrintLast Go.Proofs.YtdhhdphpfleikaaW.PrintMore Go.Proofs.Ytdhhdphpfleikaa.PB
set_option linter.unusedVariables false
set_option linter.unusedSimpArgs false
theorem spec_in_eq (a lo hi : Int) : spec_l1In.f a lo hi = some (decide (lo ≤ a ∧ a ≤ hi)) := by
  unfold spec_l1In.f
  by_cases h : a ≥ lo
  · rw [if_pos h]; simp [show lo ≤ a from h]
  · rw [if_neg h]; simp; omega

theorem impl_in_eq (a lo hi : Int) : impl_in.f a lo hi = some (decide (lo ≤ a ∧ a ≤ hi)) := by
  unfold impl_in.f
  by_cases h : lo ≤ a
  · rw [if_pos h]; simp [h]
  · rw [if_neg h]; simp; omega

theorem any_not_all {α : Type} (q : α → Bool) (xs : List α) : (xs.any fun c => !q c) = !(xs.all q) := by
  induction xs with
  | nil => rfl
  | cons c cs ih => simp [List.any_cons, List.all_cons, ih]

theorem impl_Scope_idx_eq {α : Type} (q : α → Bool) : ∀ (l : List α) (i : Int), 0 ≤ i → (impl_Scope_idxO (fun x => some (q x)) l i).bind (fun t => some (decide (0 ≤ t))) = some (l.any q)
  | [], i, _ => by simp [impl_Scope_idxO]
  | x :: xs, i, h => by
    rw [impl_Scope_idxO, List.any_cons]
    simp only [Option.bind_some]
    cases q x with
    | true => simp [h]
    | false => simpa using impl_Scope_idx_eq q xs (i + 1) (by omega)

/-! #### Scope -/
def rgbP (c : S25) : Prop := (0 ≤ c.f0 ∧ c.f0 ≤ 65535) ∧ (0 ≤ c.f1 ∧ c.f1 ≤ 65535) ∧ (0 ≤ c.f2 ∧ c.f2 ≤ 65535)
instance (c : S25) : Decidable (rgbP c) := by unfold rgbP; infer_instance
def bin (c : S25) : Nat := ((c.f0 + 2 * c.f1 + c.f2) / 4 / 4096).toNat
def bump (out : List Int) (c : S25) : List Int := out.set (bin c) (rd out (bin c : Int) + 1)
def Inv (out : List Int) (i : Nat) : Prop := out.length = 16 ∧ ∀ x ∈ out, 0 ≤ x ∧ x ≤ i
theorem bin_lt {c : S25} (h : rgbP c) : bin c < 16 := by
  unfold bin
  obtain ⟨h1, h2, h3⟩ := h
  omega
theorem bin_w {c : S25} (h : rgbP c) : wrap64 (Int.tdiv (wrap64 (Int.tdiv (wrap64 (wrap64 (c.f0 + wrap64 (2 * c.f1)) + c.f2)) 4)) 4096) = (bin c : Int) := by
  obtain ⟨h1, h2, h3⟩ := h
  have e1 : Int.tdiv (c.f0 + 2 * c.f1 + c.f2) 4 = (c.f0 + 2 * c.f1 + c.f2) / 4 := Int.tdiv_eq_ediv_of_nonneg (by omega)
  have e2 : Int.tdiv ((c.f0 + 2 * c.f1 + c.f2) / 4) 4096 = (c.f0 + 2 * c.f1 + c.f2) / 4 / 4096 := Int.tdiv_eq_ediv_of_nonneg (by omega)
  rw [w64 (x := 2 * c.f1) (by omega) (by omega), w64 (x := c.f0 + 2 * c.f1) (by omega) (by omega), w64 (x := c.f0 + 2 * c.f1 + c.f2) (by omega) (by omega), e1, w64 (x := (c.f0 + 2 * c.f1 + c.f2) / 4) (by omega) (by omega), e2, w64 (by omega) (by omega)]
  unfold bin
  omega
theorem bump_inv {out : List Int} {i : Nat} {c : S25} (h : Inv out i) (hc : rgbP c) : Inv (bump out c) (i + 1) ∧ 0 ≤ rd out (bin c : Int) ∧ rd out (bin c : Int) ≤ i := by
  obtain ⟨h1, h2⟩ := h
  have hr := h2 _ (rd_mem (xs := out) (i := bin c) (by have := bin_lt hc; omega))
  refine ⟨⟨by rw [bump, List.length_set]; exact h1, fun x hx => ?_⟩, hr⟩
  rcases List.mem_or_eq_of_mem_set hx with hx | rfl
  · have := h2 x hx
    omega
  · omega
def scopeB (xs : List S25) : Bool := decide (xs.length ≤ 4096) && xs.all fun c => decide (rgbP c)
def scopeV (xs : List S25) : List Int := if scopeB xs = true then xs.foldl bump (List.replicate 16 0) else []
theorem fold_inv : ∀ (xs : List S25) (out : List Int) (i : Nat), Inv out i → (xs.all fun c => decide (rgbP c)) = true → Inv (xs.foldl bump out) (i + xs.length)
  | [], out, i, h, _ => h
  | c :: cs, out, i, h, hall => by
    rw [List.all_cons, Bool.and_eq_true] at hall
    have := fold_inv cs (bump out c) (i + 1) (bump_inv h (of_decide_eq_true hall.1)).1 hall.2
    rw [List.foldl_cons, List.length_cons]
    rw [show i + (cs.length + 1) = i + 1 + cs.length by omega]
    exact this
theorem inv0 : Inv (List.replicate 16 0) 0 := ⟨by simp, fun x hx => by rw [List.eq_of_mem_replicate hx]; exact ⟨Int.le_refl _, Int.le_refl _⟩⟩
theorem scopeV_len (xs : List S25) : (scopeV xs).length ≤ 16 := by
  unfold scopeV
  split
  · rename_i h
    rw [scopeB, Bool.and_eq_true] at h
    exact Nat.le_of_eq (fold_inv xs _ 0 inv0 h.2).1
  · simp
theorem spec_rgb_eq (c : S25) : spec_l9Rgb.f c.f0 c.f1 c.f2 = some (decide (rgbP c)) := by
  unfold spec_l9Rgb.f spec_l9In.f rgbP
  simp only [spec_in_eq, Option.bind_some]
  by_cases h1 : 0 ≤ c.f0 ∧ c.f0 ≤ 65535
  · by_cases h2 : 0 ≤ c.f1 ∧ c.f1 ≤ 65535
    · simp [h1, h2]
    · simp [h1, h2]
  · simp [h1]
theorem impl_rgb_eq (c : S25) : impl_Rgb_ok.f c.f0 c.f1 c.f2 = some (decide (rgbP c)) := by
  unfold impl_Rgb_ok.f impl_isValue.f rgbP
  simp only [impl_in_eq, Option.bind_some]
  by_cases h1 : 0 ≤ c.f0 ∧ c.f0 ≤ 65535
  · by_cases h2 : 0 ≤ c.f1 ∧ c.f1 ≤ 65535
    · simp [h1, h2]
    · simp [h1, h2]
  · simp [h1]
theorem spec_Scope_ev (xs : List S25) : Ev (fun k => spec_Scope.f k xs) (scopeV xs) := by
  have key : xs.length ≤ 4096 → ∀ d i (out : List Int), i + d = xs.length → Inv out i → Ev (fun k => spec_Scope.l0 k xs out (i : Int)) (if ((xs.drop i).all fun c => decide (rgbP c)) = true then (xs.drop i).foldl bump out else []) := by
    intro hl d
    induction d with
    | zero =>
      intro i out hi ho
      refine ev_succ ?_
      have h1 : ¬ (i : Int) < (xs.length : Int) := by omega
      simp only [spec_Scope.l0, h1, if_false]
      exact ev_ret (by rw [drop_end (by omega)]; rfl)
    | succ d ih =>
      intro i out hi ho
      refine ev_succ ?_
      have h1 : (i : Int) < (xs.length : Int) := by omega
      have h2 : (0 : Int) ≤ (i : Int) := by omega
      have h4 := w64s (n := i) (by omega)
      have hd : xs.drop i = rd_T25 xs (i : Int) :: xs.drop (i + 1) := drop_getD z25 xs i (by omega)
      simp only [spec_Scope.l0, h1, h2, h4, if_true, spec_rgb_eq, Option.bind_some]
      rw [hd, List.all_cons, List.foldl_cons]
      generalize rd_T25 xs (i : Int) = c
      refine ev_ifb (fun h => ?_) (fun h => ev_ret (by rw [h]; rfl))
      have hc := of_decide_eq_true h
      obtain ⟨b1, b2, b3⟩ := bump_inv ho hc
      have hb := bin_lt hc
      have h5 : (0 : Int) ≤ (bin c : Int) := by omega
      have h6 : (bin c : Int) < (out.length : Int) := by have := ho.1; omega
      have h7 : wrap64 (rd out (bin c : Int) + 1) = rd out (bin c : Int) + 1 := w64 (by omega) (by omega)
      simp only [bin_w hc, h5, h6, h7, if_true, Int.toNat_natCast]
      rw [h, Bool.true_and]
      exact ih (i + 1) _ (by omega) b1
  unfold scopeV scopeB
  simp only [spec_Scope.f]
  refine ev_ite (fun h => ev_ret (by rw [decide_eq_false (show ¬ xs.length ≤ 4096 by omega)]; rfl)) (fun h => ?_)
  rw [decide_eq_true (show xs.length ≤ 4096 by omega), Bool.true_and]
  refine ev_pos (by omega) ?_
  exact ev_eq (key (by omega) xs.length 0 _ (by omega) inv0) (by rw [List.drop_zero])
theorem impl_Scope_ev (xs : List S25) : Ev (fun k => impl_Scope.f k xs) (scopeV xs) := by
  have key : xs.length ≤ 4096 → (xs.all fun c => decide (rgbP c)) = true → ∀ d i (out : List Int), i + d = xs.length → Inv out i → Ev (fun k => impl_Scope.l0 k out xs (xs.length : Int) (i : Int)) ((xs.drop i).foldl bump out) := by
    intro hl hall d
    induction d with
    | zero =>
      intro i out hi ho
      refine ev_succ ?_
      have h1 : ¬ (i : Int) < (xs.length : Int) := by omega
      simp only [impl_Scope.l0, h1, if_false]
      exact ev_ret (by rw [drop_end (by omega)]; rfl)
    | succ d ih =>
      intro i out hi ho
      refine ev_succ ?_
      have h1 : (i : Int) < (xs.length : Int) := by omega
      have h2 : (0 : Int) ≤ (i : Int) := by omega
      have h4 := w64s (n := i) (by omega)
      have hd : xs.drop i = rd_T25 xs (i : Int) :: xs.drop (i + 1) := drop_getD z25 xs i (by omega)
      have hm : rd_T25 xs (i : Int) ∈ xs := getD_mem _ (by omega)
      have hc := of_decide_eq_true (List.all_eq_true.1 hall _ hm)
      obtain ⟨b1, b2, b3⟩ := bump_inv ho hc
      have hb := bin_lt hc
      have h5 : (0 : Int) ≤ (bin (rd_T25 xs (i : Int)) : Int) := by omega
      have h6 : (bin (rd_T25 xs (i : Int)) : Int) < (out.length : Int) := by have := ho.1; omega
      have h7 : wrap64 (rd out (bin (rd_T25 xs (i : Int)) : Int) + 1) = rd out (bin (rd_T25 xs (i : Int)) : Int) + 1 := w64 (by omega) (by omega)
      simp only [impl_Scope.l0, h1, h2, h4, bin_w hc, h5, h6, h7, if_true, Int.toNat_natCast]
      rw [hd, List.foldl_cons]
      exact ih (i + 1) _ (by omega) b1
  have hcon : impl_Scope_contains.f xs = some (!(xs.all fun c => decide (rgbP c))) := by
    have e : (fun x : S25 => impl_Scope_1.f x.f0 x.f1 x.f2) = fun x => some (!(decide (rgbP x))) := by
      funext x
      simp only [impl_Scope_1.f, impl_rgb_eq, Option.bind_some]
    rw [impl_Scope_contains.f, e, impl_Scope_idx_eq _ _ _ (Int.le_refl _), any_not_all]
  unfold scopeV scopeB
  simp only [impl_Scope.f, hcon, Option.bind_some]
  have no : ∀ b, b = false → Ev (fun k => impl_Scope.j0 k xs true) (if b = true then xs.foldl bump (List.replicate 16 0) else []) := fun b hb => by
    refine ev_succ ?_
    simp only [impl_Scope.j0, if_true]
    exact ev_ret (by rw [hb]; rfl)
  refine ev_ite (fun h => no _ (by rw [decide_eq_false (show ¬ xs.length ≤ 4096 by omega)]; rfl)) (fun h => ?_)
  rw [decide_eq_true (show xs.length ≤ 4096 by omega), Bool.true_and]
  cases hall : (xs.all fun c => decide (rgbP c)) with
  | false => exact no _ rfl
  | true =>
    refine ev_succ ?_
    simp only [impl_Scope.j0, Bool.not_true, Bool.false_eq_true, if_false, if_true]
    refine ev_pos (by omega) ?_
    exact ev_eq (key (by omega) hall xs.length 0 _ (by omega) inv0) (by rw [List.drop_zero])

/-! #### the draws' cursor: where it stands (b: the bytes, i: how many are used) -/
def St (b : List Int) (i : Int) : Prop := 0 ≤ i ∧ i ≤ b.length ∧ b.length ≤ 4096
theorem and255 (x : Int) : 0 ≤ Go.bits .and .i64 x 255 ∧ Go.bits .and .i64 x 255 ≤ 255 := by
  have h : ((BitVec.ofInt 64 x) &&& (BitVec.ofInt 64 255)).toNat ≤ 255 := by
    rw [BitVec.toNat_and]
    exact Nat.le_trans Nat.and_le_right (by decide)
  have e : Go.bits .and .i64 x 255 = IntKind.i64.wrap (((BitVec.ofInt 64 x) &&& (BitVec.ofInt 64 255)).toNat : Int) := rfl
  rw [e, IntKind.wrap_i64]
  omega
theorem byte_some {b : List Int} {i : Int} (h : Int) (hs : St b i) : SomeP (spec_l1Byte.f b i h) (fun r => (0 ≤ r.1 ∧ r.1 ≤ 255) ∧ St b r.2.1) := by
  obtain ⟨h1, h2, h3⟩ := hs
  unfold spec_l1Byte.f
  refine somep_ite (fun hl => somep_pos h1 (somep_now ⟨and255 _, ?_⟩)) (fun hl => somep_now ⟨and255 _, h1, h2, h3⟩)
  show St b (wrap64 (i + 1))
  rw [w64 (by omega) (by omega)]
  exact ⟨by omega, by omega, h3⟩
theorem below_some {b : List Int} {i : Int} (h : Int) (n : Int) (hs : St b i) : SomeP (spec_l1Below.f b i h n) (fun r => (0 ≤ r.1 ∧ (0 < n → r.1 < n)) ∧ St b r.2.1) := by
  unfold spec_l1Below.f
  refine somep_ite (fun hn => somep_now ⟨⟨Int.le_refl _, fun h => by omega⟩, hs⟩) (fun hn => somep_ite (fun h2 => ?_) (fun h2 => ?_))
  · refine somep_bind (byte_some h hs) (fun a ha => somep_neg (by omega) (somep_now ⟨?_, ha.2⟩))
    have e : Int.tmod a.1 n = a.1 % n := Int.tmod_eq_emod_of_nonneg ha.1.1
    show 0 ≤ Int.tmod a.1 n ∧ (0 < n → Int.tmod a.1 n < n)
    rw [e]
    exact ⟨Int.emod_nonneg _ (by omega), fun h => Int.emod_lt_of_pos _ h⟩
  · refine somep_bind (byte_some h hs) (fun a ha => somep_bind (byte_some _ ha.2) (fun c hc => somep_bind (byte_some _ hc.2) (fun d hd => somep_bind (byte_some _ hd.2) (fun e he => somep_neg (by omega) (somep_now ⟨?_, he.2⟩)))))
    have h1 := ha.1; have h3 := hc.1; have h4 := hd.1; have h5 := he.1
    have w1 : wrap64 (a.1 * 16777216) = a.1 * 16777216 := w64 (by omega) (by omega)
    have w2 : wrap64 (c.1 * 65536) = c.1 * 65536 := w64 (by omega) (by omega)
    have w3 : wrap64 (d.1 * 256) = d.1 * 256 := w64 (by omega) (by omega)
    show 0 ≤ Int.tmod (wrap64 (wrap64 (wrap64 (wrap64 (a.1 * 16777216) + wrap64 (c.1 * 65536)) + wrap64 (d.1 * 256)) + e.1)) n ∧ (0 < n → Int.tmod (wrap64 (wrap64 (wrap64 (wrap64 (a.1 * 16777216) + wrap64 (c.1 * 65536)) + wrap64 (d.1 * 256)) + e.1)) n < n)
    rw [w1, w2, w3, w64 (x := a.1 * 16777216 + c.1 * 65536) (by omega) (by omega), w64 (x := a.1 * 16777216 + c.1 * 65536 + d.1 * 256) (by omega) (by omega), w64 (by omega) (by omega), Int.tmod_eq_emod_of_nonneg (by omega)]
    exact ⟨Int.emod_nonneg _ (by omega), fun h => Int.emod_lt_of_pos _ h⟩
theorem new_ev (code : List Int) (hc : code.length ≤ 4096) : EvP (fun k => spec_l1New.f k code) (fun r => r.1 = code ∧ St code r.2.1) := by
  have key : ∀ d i (h : Int), i + d = code.length → EvP (fun k => spec_l1New.l0 k code h (i : Int)) (fun r => r.1 = code ∧ St code r.2.1) := by
    intro d
    induction d with
    | zero =>
      intro i h hi
      refine evp_succ ?_
      have h1 : ¬ (i : Int) < (code.length : Int) := by omega
      simp only [spec_l1New.l0, h1, if_false]
      exact evp_now ⟨rfl, by refine ⟨Int.le_refl _, ?_, hc⟩; show (0 : Int) ≤ code.length; omega⟩
    | succ d ih =>
      intro i h hi
      refine evp_succ ?_
      have h1 : (i : Int) < (code.length : Int) := by omega
      have h2 : (0 : Int) ≤ (i : Int) := by omega
      have h4 := w64s (n := i) (by omega)
      simp only [spec_l1New.l0, h1, h2, h4, if_true]
      exact ih (i + 1) _ (by omega)
  exact key code.length 0 _ (by omega)

theorem once_some {b : List Int} {i : Int} (h : Int) (n : Int) (hs : St b i) : SomeP (spec_l1Once.f b i h n) (fun r => St b r.2.1) := by
  unfold spec_l1Once.f
  exact somep_bind (below_some h n hs) (fun a ha => somep_now ha.2)

theorem pick_ok {b : List Int} {i : Int} (h : Int) (ys : List Int) (n : Nat) (hy : ys.length = n) (hn : 0 < n) (hs : St b i) : SomeP (spec_l1Below.f b i h (n : Int)) (fun r => (0 ≤ r.1 ∧ r.1 < (ys.length : Int)) ∧ St b r.2.1) := by
  obtain ⟨a, ha, hp, hq⟩ := below_some h (n : Int) hs
  exact ⟨a, ha, ⟨hp.1, by rw [hy]; exact hp.2 (by omega)⟩, hq⟩
theorem value_some {b : List Int} {i : Int} (h : Int) (hs : St b i) : SomeP (spec_l9DrawValue.f b i h) (fun r => St b r.2.1) := by
  unfold spec_l9DrawValue.f
  simp only [Option.bind_some]
  refine somep_bind (once_some h 5 hs) (fun a ha => somep_ite (fun _ => ?_) (fun _ => ?_))
  · exact somep_bind (pick_ok _ [0, 65535, 32767, 32768, 16384, 1] 6 rfl (by omega) ha) (fun c hc => somep_pos hc.1.1 (somep_pos hc.1.2 (somep_now hc.2)))
  · exact somep_bind (below_some _ 65536 ha) (fun c hc => somep_now hc.2)
theorem rgb_ev {b : List Int} {i : Int} (h : Int) (hs : St b i) : EvP (fun k => spec_l9DrawRgb.f k b i h) (fun r => St b r.2.2.2.1) := by
  have j1 : ∀ (x y z i h : Int), St b i → EvP (fun k => spec_l9DrawRgb.j1 k b i h x y z) (fun r => St b r.2.2.2.1) := by
    intro x y z i h hs
    refine evp_succ ?_
    simp only [spec_l9DrawRgb.j1, Option.bind_some]
    refine evp_some (once_some h 40 hs) (fun a ha => evp_ite (fun _ => ?_) (fun _ => evp_now ha))
    exact evp_some (pick_ok _ [-1, 65536, 4611686018427387904] 3 rfl (by omega) ha) (fun c hc => evp_pos hc.1.1 (evp_pos hc.1.2 (evp_now hc.2)))
  have j0 : ∀ (x y z i h : Int), St b i → EvP (fun k => spec_l9DrawRgb.j0 k b i h x y z) (fun r => St b r.2.2.2.1) := by
    intro x y z i h hs
    refine evp_succ ?_
    simp only [spec_l9DrawRgb.j0]
    exact evp_some (once_some h 6 hs) (fun a ha => evp_ite (fun _ => j1 _ _ _ _ _ ha) (fun _ => j1 _ _ _ _ _ ha))
  unfold spec_l9DrawRgb.f
  refine evp_some (value_some h hs) (fun a ha => evp_some (value_some _ ha) (fun c hc => evp_some (value_some _ hc) (fun d hd => evp_some (once_some _ 6 hd) (fun e he => ?_))))
  exact evp_ite (fun _ => j0 _ _ _ _ _ he) (fun _ => j0 _ _ _ _ _ he)

theorem sameInts_ev (xs ys : List Int) (h : xs.length ≤ 4611686018427387904) : Ev (fun k => laws_sameInts.f k xs ys) (decide (xs = ys)) := by
  have key : ∀ d i, i + d = xs.length → xs.length = ys.length → Ev (fun k => laws_sameInts.l0 k xs ys (i : Int)) (decide (xs.drop i = ys.drop i)) := by
    intro d
    induction d with
    | zero =>
      intro i hi hl
      refine ev_succ ?_
      have h1 : ¬ ((i : Int) < (xs.length : Int)) := by omega
      simp only [laws_sameInts.l0, h1, if_false]
      exact ev_ret (by rw [drop_end (by omega), drop_end (by omega)]; simp)
    | succ d ih =>
      intro i hi hl
      refine ev_succ ?_
      have h1 : (i : Int) < (xs.length : Int) := by omega
      have h2 : (0 : Int) ≤ (i : Int) := by omega
      have h3 : (i : Int) < (ys.length : Int) := by omega
      have h4 := w64s (n := i) (by omega)
      simp only [laws_sameInts.l0, h1, h2, h3, if_true, h4]
      rw [drop_rd xs i (by omega), drop_rd ys i (by omega)]
      by_cases he : rd xs (i : Int) = rd ys (i : Int)
      · simp only [he, if_true]
        exact ev_eq (ih (i + 1) (by omega) hl) (by simp)
      · simp only [he, if_false]
        exact ev_ret (by simp [he])
  by_cases hl : xs.length = ys.length
  · have h1 : (xs.length : Int) = (ys.length : Int) := by omega
    simp only [laws_sameInts.f, h1, if_true]
    exact ev_eq (key xs.length 0 (by omega) hl) (by simp)
  · have h1 : ¬ (xs.length : Int) = (ys.length : Int) := by omega
    simp only [laws_sameInts.f, h1, if_false]
    exact ev_ret (by
      have : xs ≠ ys := fun e => hl (by rw [e])
      simp [this])

theorem DrawScope_ev (code : List Int) (hc : code.length ≤ 4096) : EvP (fun k => spec_DrawScope.f k code) (fun r => r.length ≤ 4097) := by
  have key : ∀ (b : List Int) (d : Nat) (out : List S25) (i h : Int), St b i → out.length + d ≤ 30 → EvP (fun k => spec_DrawScope.l0 k out (d : Int) b i h) (fun r => r.length ≤ 4097) := by
    intro b d
    induction d with
    | zero =>
      intro out i h hs ho
      refine evp_succ ?_
      have h1 : ¬ (((0 : Nat) : Int) > 0) := by omega
      simp only [spec_DrawScope.l0, h1, if_false]
      refine evp_some (once_some h 60 hs) (fun a ha => evp_ite (fun _ => ?_) (fun _ => evp_now (by omega)))
      refine evp_some (below_some _ 2 ha) (fun c hc => ?_)
      have h2 := hc.1.1
      have h3 := hc.1.2 (by omega)
      have h4 : wrap64 (4096 + c.1) = 4096 + c.1 := w64 (by omega) (by omega)
      rw [h4]
      refine evp_pos (by omega) (evp_pos (by omega) (evp_now ?_))
      show (List.replicate (4096 + c.1).toNat z25).length ≤ 4097
      rw [List.length_replicate]
      omega
    | succ d ih =>
      intro out i h hs ho
      refine evp_succ ?_
      have h1 : (((d + 1 : Nat) : Int) > 0) := by omega
      have h2 : wrap64 (((d + 1 : Nat) : Int) - 1) = (d : Int) := by rw [w64 (by omega) (by omega)]; omega
      have h5 : out.length < 5864062014805 := by omega
      simp only [spec_DrawScope.l0, h1, h2, h5, if_true]
      exact evp_bind (rgb_ev h hs) (fun a ha => ih _ _ _ ha (by simp; omega))
  unfold spec_DrawScope.f
  refine evp_bind (new_ev code hc) (fun a ha => ?_)
  obtain ⟨c0, i0, h0⟩ := a
  obtain ⟨rfl, hs⟩ := ha
  refine evp_some (below_some h0 20 hs) (fun n hn => ?_)
  obtain ⟨m, hm⟩ := Int.eq_ofNat_of_zero_le hn.1.1
  have := hn.1.2 (by omega)
  rw [hm]
  exact key _ m [] _ _ hn.2 (by simp; omega)
def isum : List Int → Int
  | [] => 0
  | x :: xs => x + isum xs
theorem isum_set : ∀ (l : List Int) (i : Nat) (v : Int), i < l.length → isum (l.set i v) = isum l - rd l (i : Int) + v
  | [], _, _, h => absurd h (by simp)
  | x :: xs, 0, v, _ => by
    have e : rd (x :: xs) ((0 : Nat) : Int) = x := rfl
    rw [e]
    simp only [List.set_cons_zero, isum]
    omega
  | x :: xs, i + 1, v, h => by
    have e : rd (x :: xs) ((i + 1 : Nat) : Int) = rd xs (i : Int) := by rw [rd_nat, rd_nat]; rfl
    rw [e]
    simp only [List.set_cons_succ, isum, isum_set xs i v (by simpa using h)]
    omega
theorem isum_rep : ∀ n : Nat, isum (List.replicate n 0) = 0
  | 0 => rfl
  | n + 1 => by rw [List.replicate_succ, isum, isum_rep n]; omega
theorem fold_sum : ∀ (xs : List S25) (out : List Int) (i : Nat), Inv out i → (xs.all fun c => decide (rgbP c)) = true → isum (xs.foldl bump out) = isum out + xs.length
  | [], out, i, h, _ => by simp
  | c :: cs, out, i, h, hall => by
    rw [List.all_cons, Bool.and_eq_true] at hall
    have hc := of_decide_eq_true hall.1
    rw [List.foldl_cons, fold_sum cs (bump out c) (i + 1) (bump_inv h hc).1 hall.2, bump, isum_set _ _ _ (by have := bin_lt hc; have := h.1; omega), List.length_cons]
    omega
theorem isum_nonneg : ∀ (l : List Int), (∀ x ∈ l, 0 ≤ x) → 0 ≤ isum l
  | [], _ => Int.le_refl _
  | x :: xs, h => by
    have h1 := h x List.mem_cons_self
    have h2 := isum_nonneg xs (fun y hy => h y (List.mem_cons_of_mem _ hy))
    simp only [isum]
    omega
theorem FnScope : laws_FnScope.Pure := by
  intro code _ _ _
  apply Ev.rounds
  apply evp_true
  simp only [laws_FnScope.f, laws_big.f, Option.bind_some]
  refine evp_ite (fun _ => evp_now rfl) (fun hb => ?_)
  have hc : code.length ≤ 4096 := by
    have := of_decide_eq_false (Bool.eq_false_iff.2 hb)
    omega
  refine evp_bind (DrawScope_ev code hc) (fun xs hl => ?_)
  refine evp_ebind (impl_Scope_ev xs) ?_
  refine evp_ebind (spec_Scope_ev xs) ?_
  have hlen := scopeV_len xs
  refine evp_ebind (sameInts_ev _ _ (by omega)) ?_
  simp only [decide_true, if_true]
  have fin : ∀ ls : List Int, ls.length ≤ 16 → (∀ x ∈ ls, 0 ≤ x) → isum ls ≤ 100000 → (ls.length = 0 ∨ (ls.length = 16 ∧ isum ls = xs.length)) → EvP (fun k => laws_FnScope.l0 k xs ls 0 0) (fun r => r = true) := by
    intro ls h16 hnn hs hd
    have key : ∀ d i (acc : Int), i + d = ls.length → 0 ≤ acc → acc + isum (ls.drop i) = isum ls → EvP (fun k => laws_FnScope.l0 k xs ls acc (i : Int)) (fun r => r = true) := by
      intro d
      induction d with
      | zero =>
        intro i acc hi h0 ha
        refine evp_succ ?_
        have h1 : ¬ (i : Int) < (ls.length : Int) := by omega
        simp only [laws_FnScope.l0, h1, if_false]
        rw [drop_end (by omega)] at ha
        have ha' : acc = isum ls := by simpa [isum] using ha
        refine evp_ite (fun _ => evp_now rfl) (fun hz => ?_)
        rcases hd with hd | ⟨hd, he⟩
        · exact absurd (by omega) hz
        · exact evp_pos (by omega) (evp_now (by rw [ha', he]; simp))
      | succ d ih =>
        intro i acc hi h0 ha
        refine evp_succ ?_
        have h1 : (i : Int) < (ls.length : Int) := by omega
        have h2 : (0 : Int) ≤ (i : Int) := by omega
        have h4 := w64s (n := i) (by omega)
        rw [drop_rd ls i (by omega), isum] at ha
        have h5 := hnn _ (rd_mem (xs := ls) (i := i) (by omega))
        have h6 := isum_nonneg (ls.drop (i + 1)) (fun x hx => hnn x (List.mem_of_mem_drop hx))
        have h7 : wrap64 (acc + rd ls (i : Int)) = acc + rd ls (i : Int) := w64 (by omega) (by omega)
        simp only [laws_FnScope.l0, h1, h2, h4, h7, if_true]
        exact ih (i + 1) _ (by omega) (by omega) (by omega)
    exact key ls.length 0 0 (by omega) (by omega) (by simp)
  unfold scopeV at hlen ⊢
  by_cases hB : scopeB xs = true
  · rw [if_pos hB] at hlen ⊢
    rw [scopeB, Bool.and_eq_true] at hB
    have h1 := fold_inv xs _ 0 inv0 hB.2
    have h2 := fold_sum xs _ 0 inv0 hB.2
    rw [isum_rep] at h2
    exact fin _ hlen (fun x hx => (h1.2 x hx).1) (by omega) (.inr ⟨h1.1, by omega⟩)
  · rw [if_neg hB] at hlen ⊢
    exact fin [] (by simp) (fun x hx => by cases hx) (by simp [isum]) (.inl rfl)
end Go.Proofs.Ytdhhdphpfleikaa.Pure
