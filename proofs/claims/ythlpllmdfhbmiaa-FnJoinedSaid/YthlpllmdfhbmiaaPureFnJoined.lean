/-
  The plain statement of FnJoined: joined, a track shows the same, and joined again is itself; whatever the draw.
  Conditions: the statement's own.
-/
import Derived.Test.YthlpllmdfhbmiaaHFnJoinedx0
import Derived.Test.YthlpllmdfhbmiaaHFnJoinedx1
import Derived.Test.YthlpllmdfhbmiaaHFnJoinedx2
import Derived.Test.YthlpllmdfhbmiaaHFnJoinedx3
import Derived.Test.YthlpllmdfhbmiaaHFnJoinedx4
import Derived.Test.YthlpllmdfhbmiaaHFnJoinedx5
import Derived.Test.YthlpllmdfhbmiaaHFnJoinedx6
import Derived.Test.YthlpllmdfhbmiaaHFnJoinedx7
import Derived.Test.YthlpllmdfhbmiaaHFnJoinedx8
import Derived.Test.YthlpllmdfhbmiaaHFnJoinedx9
import Derived.Test.YthlpllmdfhbmiaaPureBase
import Derived.Laws.BitsLemmas
namespace Go.Proofs.Ythlpllmdfhbmiaa.Pure
open Go.RowKit Go.Proofs.Ythlpllmdfhbmiaa.HFnJoined Go.Proofs.YthlpllmdfhbmiaaW.PrintWords Go.Proofs.YthlpllmdfhbmiaaW.PrintLast Go.Proofs.YthlpllmdfhbmiaaW.PrintMore Go.Proofs.Ythlpllmdfhbmiaa.PB
set_option linter.unusedVariables false
set_option linter.unusedSimpArgs false
theorem spec_in_eq (a lo hi : Int) : spec_l1In.f a lo hi = some (decide (lo ≤ a ∧ a ≤ hi)) := by
  unfold spec_l1In.f
  by_cases h : a ≥ lo
  · rw [if_pos h]; simp [show lo ≤ a from h]
  · rw [if_neg h]; simp; omega

theorem impl_in_eq (a lo hi : Int) : impl_in.f a lo hi = some (decide (lo ≤ a ∧ a ≤ hi)) := by
  unfold impl_in.f
  by_cases h : lo ≤ a
  · rw [if_pos h]; simp [h]
  · rw [if_neg h]; simp; omega

/-! #### clips and tracks -/
def clipP (c : S47) : Prop := (0 ≤ c.f0 ∧ c.f0 ≤ 500) ∧ (0 ≤ c.f1 ∧ c.f1 ≤ 10000000) ∧ (1 ≤ c.f2 ∧ c.f2 ≤ 10000000) ∧ c.f1 + c.f2 ≤ 10000000 ∧ (c.f0 = 0 → c.f1 = 0)
instance (c : S47) : Decidable (clipP c) := by unfold clipP; infer_instance
def lenSum : List S47 → Int
  | [] => 0
  | c :: cs => c.f2 + lenSum cs
def trackB (xs : List S47) : Bool := decide (xs.length ≤ 300) && (xs.all fun c => decide (clipP c)) && decide (lenSum xs ≤ 10000000)
theorem all_drop {p : S47 → Bool} {xs : List S47} (h : xs.all p = true) (i : Nat) : (xs.drop i).all p = true := by
  rw [List.all_eq_true] at h ⊢
  exact fun x hx => h x (List.mem_of_mem_drop hx)
theorem lenSum_bd {xs : List S47} (h : (xs.all fun c => decide (clipP c)) = true) : 0 ≤ lenSum xs ∧ lenSum xs ≤ 10000000 * xs.length := by
  induction xs with
  | nil => simp [lenSum]
  | cons c cs ih =>
    rw [List.all_cons, Bool.and_eq_true] at h
    have h1 := of_decide_eq_true h.1
    have h2 := ih h.2
    have := h1.2.2.1
    simp only [lenSum, List.length_cons]
    omega
theorem spec_clip_eq (c : S47) : spec_l4Clip.f c.f0 c.f1 c.f2 = some (decide (clipP c)) := by
  unfold spec_l4Clip.f spec_l4Src.f
  simp only [spec_in_eq, Option.bind_some]
  by_cases h1 : 1 ≤ c.f2 ∧ c.f2 ≤ 10000000
  · rw [if_pos (decide_eq_true h1)]
    by_cases h2 : 0 ≤ c.f1 ∧ c.f1 ≤ 10000000
    · rw [if_pos (decide_eq_true h2), w64 (by omega) (by omega)]
      by_cases h3 : c.f1 + c.f2 > 10000000
      · rw [if_pos h3, decide_eq_false (fun h : clipP c => by have := h.2.2.2.1; omega)]
      · rw [if_neg h3]
        by_cases h4 : 1 ≤ c.f0 ∧ c.f0 ≤ 500
        · rw [if_pos (decide_eq_true h4), decide_eq_true (show clipP c from ⟨by omega, h2, h1, by omega, fun h => by omega⟩)]
        · rw [if_neg (by rw [decide_eq_false h4]; simp)]
          by_cases h5 : c.f0 = 0
          · rw [if_pos h5]
            by_cases h6 : c.f1 = 0
            · rw [h6, decide_eq_true (show clipP c from ⟨by omega, h2, h1, by omega, fun _ => h6⟩)]
              rfl
            · rw [decide_eq_false (fun h : clipP c => h6 (h.2.2.2.2 h5)), beq_eq_false_iff_ne.2 h6]
          · rw [if_neg h5, decide_eq_false (fun h : clipP c => by have := h.1; omega)]
    · rw [if_neg (by rw [decide_eq_false h2]; simp), decide_eq_false (fun h : clipP c => h2 h.2.1)]
  · rw [if_neg (by rw [decide_eq_false h1]; simp), decide_eq_false (fun h : clipP c => h1 h.2.2.1)]
theorem impl_clip_ev (c : S47) : Ev (fun k => impl_Clip_ok.f k c.f0 c.f1 c.f2) (decide (clipP c)) := by
  simp only [impl_Clip_ok.f, impl_in_eq, Option.bind_some]
  have no : ¬ clipP c → Ev (fun k => impl_Clip_ok.j0 k true c.f0 c.f1 c.f2) (decide (clipP c)) := fun h => by
    refine ev_succ ?_
    simp only [impl_Clip_ok.j0, if_true]
    exact ev_ret (by rw [decide_eq_false h])
  refine ev_ifb (fun h1 => ?_) (fun h1 => no (fun h => of_decide_eq_false h1 h.1))
  refine ev_ifb (fun h2 => ?_) (fun h2 => no (fun h => of_decide_eq_false h2 h.2.1))
  have h1' := of_decide_eq_true h1
  have h2' := of_decide_eq_true h2
  by_cases h3 : 1 ≤ c.f2 ∧ c.f2 ≤ 10000000
  · rw [decide_eq_true h3]
    refine ev_succ ?_
    have hw : wrap64 (c.f1 + c.f2) = c.f1 + c.f2 := w64 (by omega) (by omega)
    simp only [impl_Clip_ok.j0, impl_Clip_isGap.f, Option.bind_some, Bool.not_true, Bool.false_eq_true, if_false, hw]
    refine ev_ret ?_
    by_cases h4 : c.f0 = 0
    · rw [if_pos (beq_iff_eq.2 h4)]
      by_cases h5 : c.f1 = 0
      · rw [if_pos h5, decide_eq_true (show clipP c from ⟨h1', h2', h3, by omega, fun _ => h5⟩)]
      · rw [if_neg h5, if_pos (beq_iff_eq.2 h4), decide_eq_false (fun h : clipP c => h5 (h.2.2.2.2 h4))]
    · have h4' : ¬ ((c.f0 == 0) = true) := fun h => h4 (beq_iff_eq.1 h)
      rw [if_neg h4', if_neg h4']
      congr 1
      rw [decide_eq_decide]
      exact ⟨fun h => ⟨h1', h2', h3, h, fun h => absurd h h4⟩, fun h => h.2.2.2.1⟩
  · rw [decide_eq_false h3]
    exact no (fun h => h3 h.2.2.1)
theorem spec_TrackOk_ev (xs : List S47) : Ev (fun k => spec_TrackOk.f k xs) (trackB xs) := by
  have key : ∀ d i (n : Int), xs.length ≤ 300 → i + d = xs.length → 0 ≤ n → n ≤ 10000000 * i → Ev (fun k => spec_TrackOk.l0 k xs n (i : Int)) (((xs.drop i).all fun c => decide (clipP c)) && decide (n + lenSum (xs.drop i) ≤ 10000000)) := by
    intro d
    induction d with
    | zero =>
      intro i n hl hi h0 hn
      refine ev_succ ?_
      have h1 : ¬ (i : Int) < (xs.length : Int) := by omega
      simp only [spec_TrackOk.l0, h1, if_false]
      exact ev_ret (by rw [drop_end (by omega)]; simp [lenSum])
    | succ d ih =>
      intro i n hl hi h0 hn
      refine ev_succ ?_
      have h1 : (i : Int) < (xs.length : Int) := by omega
      have h2 : (0 : Int) ≤ (i : Int) := by omega
      have h4 := w64s (n := i) (by omega)
      simp only [spec_TrackOk.l0, h1, h2, h4, if_true, spec_clip_eq, Option.bind_some]
      have hd : xs.drop i = rd_T47 xs (i : Int) :: xs.drop (i + 1) := drop_getD z47 xs i (by omega)
      rw [hd, List.all_cons, lenSum]
      refine ev_ifb (fun h5 => ?_) (fun h5 => ev_ret (by rw [h5]; rfl))
      have h6 := of_decide_eq_true h5
      have h7 := h6.2.2.1
      have h8 : wrap64 (n + (rd_T47 xs (i : Int)).f2) = n + (rd_T47 xs (i : Int)).f2 := w64 (by omega) (by omega)
      rw [h5, Bool.true_and, h8]
      exact ev_eq (ih (i + 1) _ hl (by omega) (by omega) (by omega)) (by rw [Int.add_assoc])
  unfold trackB
  simp only [spec_TrackOk.f]
  refine ev_ite (fun h => ev_ret (by rw [decide_eq_false (show ¬ xs.length ≤ 300 by omega)]; rfl)) (fun h => ?_)
  rw [decide_eq_true (show xs.length ≤ 300 by omega), Bool.true_and]
  exact ev_eq (key xs.length 0 0 (by omega) (by omega) (by omega) (by omega)) (by simp)
def idxV {α : Type} (q : α → Bool) : List α → Int → Int
  | [], _ => -1
  | x :: xs, i => if q x = true then i else idxV q xs (i + 1)
theorem idxV_any {α : Type} (q : α → Bool) : ∀ (l : List α) (i : Int), 0 ≤ i → decide (0 ≤ idxV q l i) = l.any q
  | [], i, _ => by simp [idxV]
  | x :: xs, i, h => by
    rw [idxV, List.any_cons]
    split
    · rename_i hq
      rw [hq, decide_eq_true h, Bool.true_or]
    · rename_i hq
      rw [Bool.eq_false_iff.2 hq, Bool.false_or]
      exact idxV_any q xs (i + 1) (by omega)
theorem trk_ev (xs : List S47) (i : Int) : Ev (fun k => trk_idxO (fun x => impl_TrackOk_1.f k x.f0 x.f1 x.f2) xs i) (idxV (fun c => !decide (clipP c)) xs i) := by
  induction xs generalizing i with
  | nil => exact ev_ret rfl
  | cons c cs ih =>
    simp only [trk_idxO, idxV]
    refine ev_bind (a := !decide (clipP c)) ?_ ?_
    · simp only [impl_TrackOk_1.f]
      exact ev_bind (impl_clip_ev c) (ev_ret rfl)
    · refine ev_ite (fun h => ev_ret (by rw [if_pos h])) (fun h => ?_)
      rw [if_neg h]
      exact ih _
theorem any_not_all {α : Type} (q : α → Bool) (xs : List α) : (xs.any fun c => !q c) = !(xs.all q) := by
  induction xs with
  | nil => rfl
  | cons c cs ih => simp [List.any_cons, List.all_cons, ih]
theorem impl_long_ev (xs : List S47) (hl : xs.length ≤ 300) (h : (xs.all fun c => decide (clipP c)) = true) : Ev (fun k => impl_long.f k xs) (lenSum xs) := by
  have key : ∀ d i (n : Int), i + d = xs.length → 0 ≤ n → n ≤ 10000000 * i → Ev (fun k => impl_long.l0 k n xs (xs.length : Int) (i : Int)) (n + lenSum (xs.drop i)) := by
    intro d
    induction d with
    | zero =>
      intro i n hi h0 hn
      refine ev_succ ?_
      have h1 : ¬ (i : Int) < (xs.length : Int) := by omega
      simp only [impl_long.l0, h1, if_false]
      exact ev_ret (by rw [drop_end (by omega)]; simp [lenSum])
    | succ d ih =>
      intro i n hi h0 hn
      refine ev_succ ?_
      have h1 : (i : Int) < (xs.length : Int) := by omega
      have h2 : (0 : Int) ≤ (i : Int) := by omega
      have h4 := w64s (n := i) (by omega)
      have hm : rd_T47 xs (i : Int) ∈ xs := getD_mem _ (by omega)
      have h6 := of_decide_eq_true (List.all_eq_true.1 h _ hm)
      have h7 := h6.2.2.1
      have h8 : wrap64 (n + (rd_T47 xs (i : Int)).f2) = n + (rd_T47 xs (i : Int)).f2 := w64 (by omega) (by omega)
      simp only [impl_long.l0, h1, h2, h4, h8, if_true]
      have hd : xs.drop i = rd_T47 xs (i : Int) :: xs.drop (i + 1) := drop_getD z47 xs i (by omega)
      rw [hd, lenSum, ← Int.add_assoc]
      exact ih (i + 1) _ (by omega) (by omega) (by omega)
  exact ev_eq (key xs.length 0 0 (by omega) (by omega) (by omega)) (by simp)
theorem trackB_parts {xs : List S47} (h : trackB xs = true) : xs.length ≤ 300 ∧ (xs.all fun c => decide (clipP c)) = true ∧ lenSum xs ≤ 10000000 := by
  rw [trackB, Bool.and_eq_true, Bool.and_eq_true] at h
  exact ⟨of_decide_eq_true h.1.1, h.1.2, of_decide_eq_true h.2⟩
theorem impl_TrackOk_ev (xs : List S47) : Ev (fun k => impl_TrackOk.f k xs) (trackB xs) := by
  unfold trackB
  simp only [impl_TrackOk.f]
  refine ev_ite (fun h => ?_) (fun h => ev_ret (by rw [decide_eq_false (show ¬ xs.length ≤ 300 by omega)]; rfl))
  rw [decide_eq_true (show xs.length ≤ 300 by omega), Bool.true_and]
  refine ev_bind (trk_ev xs 0) ?_
  rw [idxV_any _ _ _ (Int.le_refl _), any_not_all]
  cases hall : (xs.all fun c => decide (clipP c)) with
  | false => exact ev_ret rfl
  | true =>
    simp only [Bool.not_true, Bool.false_eq_true, if_false, Bool.true_and]
    exact ev_bind (impl_long_ev xs (by omega) hall) (ev_ret rfl)

/-! #### Joined -/
def jlast (out : List S47) : S47 := rd_T47 out ((out.length - 1 : Nat) : Int)
def jstep (out : List S47) (c : S47) : List S47 :=
  if out.length = 0 then out ++ [c]
  else if (jlast out).f0 = c.f0 ∧ (c.f0 = 0 ∨ wrap64 ((jlast out).f1 + (jlast out).f2) = c.f1) then out.set (out.length - 1) ⟨(jlast out).f0, (jlast out).f1, wrap64 ((jlast out).f2 + c.f2)⟩
  else out ++ [c]
theorem jstep_len (out : List S47) (c : S47) : (jstep out c).length ≤ out.length + 1 := by
  unfold jstep
  split
  · simp
  · split <;> simp
theorem jfold_len (xs : List S47) : ∀ out, (xs.foldl jstep out).length ≤ out.length + xs.length := by
  induction xs with
  | nil => intro out; simp
  | cons c cs ih =>
    intro out
    have := ih (jstep out c)
    have := jstep_len out c
    simp only [List.foldl_cons, List.length_cons]
    omega
def joinedV (xs : List S47) : List S47 := if trackB xs = true then xs.foldl jstep [] else []
theorem joinedV_len (xs : List S47) : (joinedV xs).length ≤ xs.length := by
  unfold joinedV
  split
  · have := jfold_len xs []
    simpa using this
  · simp
theorem spec_Join_ev (xs : List S47) (hl : xs.length ≤ 300) : Ev (fun k => spec_l4Join.f k xs) (xs.foldl jstep []) := by
  have key : ∀ d i (out : List S47), i + d = xs.length → out.length ≤ i → Ev (fun k => spec_l4Join.l0 k xs out (i : Int)) ((xs.drop i).foldl jstep out) := by
    intro d
    induction d with
    | zero =>
      intro i out hi ho
      refine ev_succ ?_
      have h1 : ¬ (i : Int) < (xs.length : Int) := by omega
      simp only [spec_l4Join.l0, h1, if_false]
      exact ev_ret (by rw [drop_end (by omega)]; rfl)
    | succ d ih =>
      intro i out hi ho
      refine ev_succ ?_
      have h1 : (i : Int) < (xs.length : Int) := by omega
      have h2 : (0 : Int) ≤ (i : Int) := by omega
      have h4 := w64s (n := i) (by omega)
      have h5 : out.length < 5864062014805 := by omega
      have hs := jstep_len out (rd_T47 xs (i : Int))
      have hih := ih (i + 1) (jstep out (rd_T47 xs (i : Int))) (by omega) (by omega)
      have hd : xs.drop i = rd_T47 xs (i : Int) :: xs.drop (i + 1) := drop_getD z47 xs i (by omega)
      rw [hd, List.foldl_cons]
      generalize hc : rd_T47 xs (i : Int) = c at *
      simp only [spec_l4Join.l0, hc, h1, h2, h4, h5, if_true]
      refine ev_ite (fun h6 => ?_) (fun h6 => ?_)
      · have h7 : wrap64 ((out.length : Int) - 1) = ((out.length - 1 : Nat) : Int) := by rw [w64 (by omega) (by omega)]; omega
        have h8 : (0 : Int) ≤ ((out.length - 1 : Nat) : Int) := by omega
        have h9 : ((out.length - 1 : Nat) : Int) < (out.length : Int) := by omega
        simp only [h7, h8, h9, if_true, Int.toNat_natCast]
        have hL : rd_T47 out ((out.length - 1 : Nat) : Int) = jlast out := rfl
        rw [hL]
        have yes : ((jlast out).f0 = c.f0 ∧ (c.f0 = 0 ∨ wrap64 ((jlast out).f1 + (jlast out).f2) = c.f1)) → Ev (fun k => spec_l4Join.l0 k xs (out.set (out.length - 1) ⟨(jlast out).f0, (jlast out).f1, wrap64 ((jlast out).f2 + c.f2)⟩) ((i + 1 : Nat) : Int)) ((xs.drop (i + 1)).foldl jstep (jstep out c)) := fun h => by
          have e : jstep out c = out.set (out.length - 1) ⟨(jlast out).f0, (jlast out).f1, wrap64 ((jlast out).f2 + c.f2)⟩ := by unfold jstep; rw [if_neg (by omega), if_pos h]
          rw [e] at hih ⊢
          exact hih
        have no : ¬ ((jlast out).f0 = c.f0 ∧ (c.f0 = 0 ∨ wrap64 ((jlast out).f1 + (jlast out).f2) = c.f1)) → Ev (fun k => spec_l4Join.l0 k xs (out ++ [⟨c.f0, c.f1, c.f2⟩]) ((i + 1 : Nat) : Int)) ((xs.drop (i + 1)).foldl jstep (jstep out c)) := fun h => by
          have e : jstep out c = out ++ [c] := by unfold jstep; rw [if_neg (by omega), if_neg h]
          rw [e] at hih ⊢
          exact hih
        refine ev_ite (fun a1 => ?_) (fun a1 => no (fun h => a1 h.1))
        refine ev_ite (fun a2 => yes ⟨a1, .inl a2⟩) (fun a2 => ?_)
        exact ev_ite (fun a3 => yes ⟨a1, .inr a3⟩) (fun a3 => no (fun h => h.2.elim a2 a3))
      · have e : jstep out c = out ++ [c] := by unfold jstep; rw [if_pos (by omega)]
        rw [e] at hih ⊢
        exact hih
  exact key xs.length 0 [] (by omega) (by simp)
theorem impl_join_ev (xs : List S47) (hl : xs.length ≤ 300) : Ev (fun k => impl_joined.f k xs) (xs.foldl jstep []) := by
  have key : ∀ d i (out : List S47), i + d = xs.length → out.length ≤ i → Ev (fun k => impl_joined.l0 k out xs (xs.length : Int) (i : Int)) ((xs.drop i).foldl jstep out) := by
    intro d
    induction d with
    | zero =>
      intro i out hi ho
      refine ev_succ ?_
      have h1 : ¬ (i : Int) < (xs.length : Int) := by omega
      simp only [impl_joined.l0, h1, if_false]
      exact ev_ret (by rw [drop_end (by omega)]; rfl)
    | succ d ih =>
      intro i out hi ho
      refine ev_succ ?_
      have h1 : (i : Int) < (xs.length : Int) := by omega
      have h2 : (0 : Int) ≤ (i : Int) := by omega
      have h4 := w64s (n := i) (by omega)
      have h5 : out.length < 5864062014805 := by omega
      have hs := jstep_len out (rd_T47 xs (i : Int))
      have hih := ih (i + 1) (jstep out (rd_T47 xs (i : Int))) (by omega) (by omega)
      have hd : xs.drop i = rd_T47 xs (i : Int) :: xs.drop (i + 1) := drop_getD z47 xs i (by omega)
      rw [hd, List.foldl_cons]
      generalize hc : rd_T47 xs (i : Int) = c at *
      simp only [impl_joined.l0, hc, h1, h2, h4, h5, if_true]
      refine ev_ite (fun h6 => ?_) (fun h6 => ?_)
      · have h7 : wrap64 ((out.length : Int) - 1) = ((out.length - 1 : Nat) : Int) := by rw [w64 (by omega) (by omega)]; omega
        have h8 : (0 : Int) ≤ ((out.length - 1 : Nat) : Int) := by omega
        have h9 : ((out.length - 1 : Nat) : Int) < (out.length : Int) := by omega
        simp only [h7, h8, h9, if_true, Int.toNat_natCast]
        have hL : rd_T47 out ((out.length - 1 : Nat) : Int) = jlast out := rfl
        rw [hL]
        have hf : impl_Clip_follows.f c.f0 c.f1 c.f2 (jlast out).f0 (jlast out).f1 (jlast out).f2 = some (decide ((jlast out).f0 = c.f0 ∧ (c.f0 = 0 ∨ wrap64 ((jlast out).f1 + (jlast out).f2) = c.f1))) := by
          simp only [impl_Clip_follows.f, impl_Clip_isGap.f, Option.bind_some]
          by_cases a1 : c.f0 = (jlast out).f0
          · rw [if_pos a1]
            by_cases a2 : c.f0 = 0
            · rw [if_pos (beq_iff_eq.2 a2), decide_eq_true ⟨a1.symm, .inl a2⟩]
            · rw [if_neg (fun h => a2 (beq_iff_eq.1 h))]
              by_cases a3 : c.f1 = wrap64 ((jlast out).f1 + (jlast out).f2)
              · rw [beq_iff_eq.2 a3, decide_eq_true ⟨a1.symm, .inr a3.symm⟩]
              · rw [beq_eq_false_iff_ne.2 a3, decide_eq_false (fun h => h.2.elim a2 (fun e => a3 e.symm))]
          · rw [if_neg a1, decide_eq_false (fun h => a1 h.1.symm)]
        rw [hf]
        simp only [Option.bind_some]
        refine ev_ifb (fun h => ?_) (fun h => ?_)
        · have e : jstep out c = out.set (out.length - 1) ⟨(jlast out).f0, (jlast out).f1, wrap64 ((jlast out).f2 + c.f2)⟩ := by unfold jstep; rw [if_neg (by omega), if_pos (of_decide_eq_true h)]
          rw [e] at hih ⊢
          exact hih
        · have e : jstep out c = out ++ [c] := by unfold jstep; rw [if_neg (by omega), if_neg (of_decide_eq_false h)]
          rw [e] at hih ⊢
          exact hih
      · have e : jstep out c = out ++ [c] := by unfold jstep; rw [if_pos (by omega)]
        rw [e] at hih ⊢
        exact hih
  exact key xs.length 0 [] (by omega) (by simp)
theorem spec_Joined_ev (xs : List S47) : Ev (fun k => spec_Joined.f k xs) (joinedV xs) := by
  unfold joinedV
  simp only [spec_Joined.f]
  refine ev_bind (spec_TrackOk_ev xs) ?_
  refine ev_ite (fun h => ?_) (fun h => ev_ret (by rw [if_neg h]))
  rw [if_pos h]
  exact ev_bind (spec_Join_ev xs (trackB_parts h).1) (ev_ret rfl)
theorem impl_Joined_ev (xs : List S47) : Ev (fun k => impl_Joined.f k xs) (joinedV xs) := by
  unfold joinedV
  simp only [impl_Joined.f]
  refine ev_bind (impl_TrackOk_ev xs) ?_
  refine ev_ite (fun h => ?_) (fun h => ev_ret (by rw [if_neg h]))
  rw [if_pos h]
  exact ev_bind (impl_join_ev xs (trackB_parts h).1) (ev_ret rfl)

def lengthV (xs : List S47) : Int := if trackB xs = true then lenSum xs else -1
theorem impl_Length_ev (xs : List S47) : Ev (fun k => impl_Length.f k xs) (lengthV xs) := by
  unfold lengthV
  simp only [impl_Length.f]
  refine ev_bind (impl_TrackOk_ev xs) ?_
  refine ev_ite (fun h => ?_) (fun h => ev_ret (by rw [if_neg h]))
  obtain ⟨h1, h2, _⟩ := trackB_parts h
  rw [if_pos h]
  exact ev_bind (impl_long_ev xs h1 h2) (ev_ret rfl)

/-! #### FrameAt -/
def frameV : List S47 → Int → Int × Int
  | [], _ => (-1, -1)
  | c :: cs, at_ => if at_ < c.f2 then (if c.f0 = 0 then (0, 0) else (c.f0, c.f1 + at_)) else frameV cs (at_ - c.f2)
theorem frameV_end {xs : List S47} (h : (xs.all fun c => decide (clipP c)) = true) : ∀ at_, lenSum xs ≤ at_ → frameV xs at_ = (-1, -1) := by
  induction xs with
  | nil => intro at_ _; rfl
  | cons c cs ih =>
    intro at_ ha
    rw [List.all_cons, Bool.and_eq_true] at h
    have h2 := (lenSum_bd h.2).1
    simp only [lenSum] at ha
    rw [frameV, if_neg (by omega)]
    exact ih h.2 _ (by omega)
def frameAtV (xs : List S47) (at_ : Int) : Int × Int := if trackB xs = true ∧ 0 ≤ at_ then frameV xs at_ else (-1, -1)
theorem impl_FrameAt_ev (xs : List S47) (at_ : Int) : Ev (fun k => impl_FrameAt.f k xs at_) (frameAtV xs at_) := by
  have key : (xs.all fun c => decide (clipP c)) = true → xs.length ≤ 300 → ∀ d i (a : Int), i + d = xs.length → 0 ≤ a → a ≤ 10000000 → Ev (fun k => impl_FrameAt.l0 k a xs (xs.length : Int) (i : Int)) (frameV (xs.drop i) a) := by
    intro hall hl d
    induction d with
    | zero =>
      intro i a hi h0 ha
      refine ev_succ ?_
      have h1 : ¬ (i : Int) < (xs.length : Int) := by omega
      simp only [impl_FrameAt.l0, h1, if_false]
      exact ev_ret (by rw [drop_end (by omega)]; rfl)
    | succ d ih =>
      intro i a hi h0 ha
      refine ev_succ ?_
      have h1 : (i : Int) < (xs.length : Int) := by omega
      have h2 : (0 : Int) ≤ (i : Int) := by omega
      have h4 := w64s (n := i) (by omega)
      have hm : rd_T47 xs (i : Int) ∈ xs := getD_mem _ (by omega)
      have h6 := of_decide_eq_true (List.all_eq_true.1 hall _ hm)
      have h7 := h6.2.2.1
      have h8 := h6.2.1
      have hd : xs.drop i = rd_T47 xs (i : Int) :: xs.drop (i + 1) := drop_getD z47 xs i (by omega)
      rw [hd, frameV]
      simp only [impl_FrameAt.l0, h1, h2, h4, if_true]
      refine ev_ite (fun h => ?_) (fun h => ?_)
      · rw [if_pos h]
        have hw : wrap64 ((rd_T47 xs (i : Int)).f1 + a) = (rd_T47 xs (i : Int)).f1 + a := w64 (by omega) (by omega)
        simp only [impl_Clip_from.f, impl_Clip_isGap.f, impl_Clip_place.f, Option.bind_some, hw]
        refine ev_ret ?_
        by_cases hz : (rd_T47 xs (i : Int)).f0 = 0
        · rw [if_pos hz, if_pos (beq_iff_eq.2 hz)]
          simp only [Option.bind_some]
          rw [hz, h6.2.2.2.2 hz]
        · rw [if_neg hz, if_neg (fun h => hz (beq_iff_eq.1 h))]
          rfl
      · rw [if_neg h]
        have hw : wrap64 (a - (rd_T47 xs (i : Int)).f2) = a - (rd_T47 xs (i : Int)).f2 := w64 (by omega) (by omega)
        rw [hw]
        exact ih (i + 1) _ (by omega) (by omega) (by omega)
  unfold frameAtV
  simp only [impl_FrameAt.f]
  refine ev_bind (impl_TrackOk_ev xs) ?_
  have no : ∀ r, r = ((-1 : Int), (-1 : Int)) → Ev (fun k => impl_FrameAt.j0 k xs at_ true) r := fun r hr => by
    subst hr
    refine ev_succ ?_
    simp only [impl_FrameAt.j0, if_true]
    exact ev_ret rfl
  refine ev_ite (fun h => ?_) (fun h => no _ (by rw [if_neg (fun hh => h hh.1)]))
  obtain ⟨h1, h2, h3⟩ := trackB_parts h
  have h4 := lenSum_bd h2
  refine ev_bind (impl_long_ev xs h1 h2) ?_
  have hw : wrap64 (lenSum xs - 1) = lenSum xs - 1 := w64 (by omega) (by omega)
  simp only [hw, impl_in_eq, Option.bind_some]
  by_cases hin : 0 ≤ at_ ∧ at_ ≤ lenSum xs - 1
  · rw [decide_eq_true hin, if_pos ⟨h, hin.1⟩]
    refine ev_succ ?_
    simp only [impl_FrameAt.j0, Bool.not_true, Bool.false_eq_true, if_false]
    exact key h2 h1 xs.length 0 at_ (by omega) hin.1 (by omega)
  · rw [decide_eq_false hin]
    refine no _ ?_
    by_cases h0 : 0 ≤ at_
    · rw [if_pos ⟨h, h0⟩]
      exact frameV_end h2 at_ (by omega)
    · rw [if_neg (fun hh => h0 hh.2)]

/-! #### what is joined -/
def jc (l c : S47) : Prop := l.f0 = c.f0 ∧ (c.f0 = 0 ∨ wrap64 (l.f1 + l.f2) = c.f1)
instance (l c : S47) : Decidable (jc l c) := by unfold jc; infer_instance
def jm (l c : S47) : S47 := ⟨l.f0, l.f1, wrap64 (l.f2 + c.f2)⟩
def jgo : S47 → List S47 → List S47
  | l, [] => [l]
  | l, c :: cs => if jc l c then jgo (jm l c) cs else l :: jgo c cs
theorem jstep_snoc (init : List S47) (l c : S47) : jstep (init ++ [l]) c = if jc l c then init ++ [jm l c] else init ++ [l] ++ [c] := by
  have hL : jlast (init ++ [l]) = l := by
    unfold jlast rd_T47
    simp [List.getD_eq_getElem?_getD]
  unfold jstep
  rw [if_neg (by simp), hL]
  by_cases h : jc l c
  · rw [if_pos (show l.f0 = c.f0 ∧ (c.f0 = 0 ∨ wrap64 (l.f1 + l.f2) = c.f1) from h), if_pos h]
    simp [jm, List.set_append]
  · rw [if_neg (show ¬ (l.f0 = c.f0 ∧ (c.f0 = 0 ∨ wrap64 (l.f1 + l.f2) = c.f1)) from h), if_neg h]
theorem jfold_go (cs : List S47) : ∀ (init : List S47) (l : S47), cs.foldl jstep (init ++ [l]) = init ++ jgo l cs := by
  induction cs with
  | nil => intro init l; rfl
  | cons c cs ih =>
    intro init l
    rw [List.foldl_cons, jstep_snoc, jgo]
    by_cases h : jc l c
    · rw [if_pos h, if_pos h, ih]
    · rw [if_neg h, if_neg h, ih, List.append_assoc]
      rfl
theorem jfold_cons (c : S47) (cs : List S47) : (c :: cs).foldl jstep [] = jgo c cs := by
  have h : jstep [] c = [] ++ [c] := by unfold jstep; rw [if_pos (show ([] : List S47).length = 0 from rfl)]
  rw [List.foldl_cons, h, jfold_go, List.nil_append]
theorem jm_ok {l c : S47} (hl : clipP l) (hc : clipP c) (hj : jc l c) (hs : l.f2 + c.f2 ≤ 10000000) : clipP (jm l c) ∧ (jm l c).f2 = l.f2 + c.f2 := by
  obtain ⟨⟨a1, a2⟩, ⟨a3, a4⟩, ⟨a5, a6⟩, a7, a8⟩ := hl
  obtain ⟨⟨b1, b2⟩, ⟨b3, b4⟩, ⟨b5, b6⟩, b7, b8⟩ := hc
  have hw : wrap64 (l.f2 + c.f2) = l.f2 + c.f2 := w64 (by omega) (by omega)
  have hw2 : wrap64 (l.f1 + l.f2) = l.f1 + l.f2 := w64 (by omega) (by omega)
  obtain ⟨j1, j2⟩ := hj
  rw [hw2] at j2
  refine ⟨⟨⟨a1, a2⟩, ⟨a3, a4⟩, ?_, ?_, a8⟩, hw⟩
  · show 1 ≤ wrap64 (l.f2 + c.f2) ∧ wrap64 (l.f2 + c.f2) ≤ 10000000
    rw [hw]; omega
  · show l.f1 + wrap64 (l.f2 + c.f2) ≤ 10000000
    rw [hw]
    rcases j2 with j2 | j2
    · have := a8 (by omega); omega
    · omega
theorem jgo_ok (cs : List S47) : ∀ l, clipP l → (cs.all fun c => decide (clipP c)) = true → l.f2 + lenSum cs ≤ 10000000 →
    ((jgo l cs).all fun c => decide (clipP c)) = true ∧ lenSum (jgo l cs) = l.f2 + lenSum cs ∧ ∀ a, frameV (jgo l cs) a = frameV (l :: cs) a := by
  induction cs with
  | nil =>
    intro l hl _ _
    exact ⟨by simp [jgo, hl], by simp [jgo, lenSum], fun a => rfl⟩
  | cons c cs ih =>
    intro l hl ha hs
    rw [List.all_cons, Bool.and_eq_true] at ha
    have hc := of_decide_eq_true ha.1
    have h0 := (lenSum_bd ha.2).1
    simp only [lenSum] at hs
    rw [jgo]
    by_cases h : jc l c
    · obtain ⟨h1, h2⟩ := jm_ok hl hc h (by omega)
      obtain ⟨i1, i2, i3⟩ := ih (jm l c) h1 ha.2 (by rw [h2]; omega)
      rw [if_pos h]
      refine ⟨i1, by rw [i2, h2, lenSum]; omega, fun a => ?_⟩
      rw [i3]
      have hw2 : wrap64 (l.f1 + l.f2) = l.f1 + l.f2 := w64 (by have := hl.2.1; have := hl.2.2.1; omega) (by have := hl.2.2.2.1; omega)
      obtain ⟨j1, j2⟩ := h
      rw [hw2] at j2
      have hl1 := hl.2.2.1.1
      have hc1 := hc.2.2.1.1
      have e0 : (jm l c).f0 = l.f0 := rfl
      have e1 : (jm l c).f1 = l.f1 := rfl
      simp only [frameV, h2, e0, e1]
      by_cases g1 : a < l.f2
      · rw [if_pos g1, if_pos (by omega)]
      · rw [if_neg g1]
        by_cases g2 : a - l.f2 < c.f2
        · rw [if_pos g2, if_pos (by omega)]
          by_cases g3 : l.f0 = 0
          · rw [if_pos g3, if_pos (by omega)]
          · rw [if_neg g3, if_neg (by omega), j1]
            rcases j2 with j2 | j2
            · omega
            · rw [← j2]; congr 1; omega
        · rw [if_neg g2, if_neg (by omega)]
          congr 1
          omega
    · rw [if_neg h]
      obtain ⟨i1, i2, i3⟩ := ih c hc ha.2 (by have := hl.2.2.1.1; omega)
      refine ⟨by rw [List.all_cons, decide_eq_true hl, i1]; rfl, by simp only [lenSum]; rw [i2], fun a => ?_⟩
      simp only [frameV]
      split
      · rfl
      · rw [i3]; rfl
theorem jgo_head (cs : List S47) : ∀ l, ∃ h t, jgo l cs = h :: t ∧ h.f0 = l.f0 ∧ h.f1 = l.f1 := by
  induction cs with
  | nil => intro l; exact ⟨l, [], rfl, rfl, rfl⟩
  | cons c cs ih =>
    intro l
    rw [jgo]
    by_cases h : jc l c
    · rw [if_pos h]
      obtain ⟨x, t, e, e0, e1⟩ := ih (jm l c)
      exact ⟨x, t, e, e0, e1⟩
    · rw [if_neg h]
      exact ⟨l, _, rfl, rfl, rfl⟩
def jch : S47 → List S47 → Prop
  | _, [] => True
  | l, c :: cs => ¬ jc l c ∧ jch c cs
theorem jgo_ch (cs : List S47) : ∀ l h t, jgo l cs = h :: t → jch h t := by
  induction cs with
  | nil =>
    intro l h t e
    simp only [jgo, List.cons.injEq] at e
    obtain ⟨rfl, rfl⟩ := e
    trivial
  | cons c cs ih =>
    intro l h t e
    rw [jgo] at e
    by_cases hj : jc l c
    · rw [if_pos hj] at e
      exact ih _ _ _ e
    · rw [if_neg hj] at e
      simp only [List.cons.injEq] at e
      obtain ⟨rfl, rfl⟩ := e
      obtain ⟨x, t, e, e0, e1⟩ := jgo_head cs c
      rw [e]
      refine ⟨fun hx => hj ?_, ih _ _ _ e⟩
      obtain ⟨a, b⟩ := hx
      rw [e0] at a b
      rw [e1] at b
      exact ⟨a, b⟩
theorem jgo_same (t : List S47) : ∀ h, jch h t → jgo h t = h :: t := by
  induction t with
  | nil => intro h _; rfl
  | cons c cs ih =>
    intro h hh
    rw [jgo, if_neg hh.1, ih c hh.2]
theorem joined_facts {xs : List S47} (h : trackB xs = true) : trackB (joinedV xs) = true ∧ joinedV (joinedV xs) = joinedV xs ∧ lenSum (joinedV xs) = lenSum xs ∧ ∀ a, frameV (joinedV xs) a = frameV xs a := by
  have hlen := joinedV_len xs
  obtain ⟨h1, h2, h3⟩ := trackB_parts h
  have e0 : joinedV xs = xs.foldl jstep [] := by unfold joinedV; rw [if_pos h]
  have core : ((joinedV xs).all fun c => decide (clipP c)) = true ∧ lenSum (joinedV xs) = lenSum xs ∧ (∀ a, frameV (joinedV xs) a = frameV xs a) ∧ (joinedV xs).foldl jstep [] = joinedV xs := by
    rw [e0]
    cases xs with
    | nil => exact ⟨rfl, rfl, fun a => rfl, rfl⟩
    | cons c cs =>
      rw [List.all_cons, Bool.and_eq_true] at h2
      rw [jfold_cons]
      obtain ⟨i1, i2, i3⟩ := jgo_ok cs c (of_decide_eq_true h2.1) h2.2 h3
      refine ⟨i1, i2, i3, ?_⟩
      obtain ⟨x, t, e, _, _⟩ := jgo_head cs c
      rw [e, jfold_cons]
      exact jgo_same t x (jgo_ch cs c x t e)
  obtain ⟨c1, c2, c3, c4⟩ := core
  have ht : trackB (joinedV xs) = true := by
    unfold trackB
    rw [c1, decide_eq_true (show (joinedV xs).length ≤ 300 by omega), decide_eq_true (show lenSum (joinedV xs) ≤ 10000000 by rw [c2]; exact h3)]
    rfl
  refine ⟨ht, ?_, c2, c3⟩
  unfold joinedV at c4 ht ⊢
  rw [if_pos ht, c4]

/-! #### the draws' cursor: where it stands (b: the bytes, i: how many are used) -/
def St (b : List Int) (i : Int) : Prop := 0 ≤ i ∧ i ≤ b.length ∧ b.length ≤ 4096
theorem and255 (x : Int) : 0 ≤ Go.bits .and .i64 x 255 ∧ Go.bits .and .i64 x 255 ≤ 255 := by
  have h : ((BitVec.ofInt 64 x) &&& (BitVec.ofInt 64 255)).toNat ≤ 255 := by
    rw [BitVec.toNat_and]
    exact Nat.le_trans Nat.and_le_right (by decide)
  have e : Go.bits .and .i64 x 255 = IntKind.i64.wrap (((BitVec.ofInt 64 x) &&& (BitVec.ofInt 64 255)).toNat : Int) := rfl
  rw [e, IntKind.wrap_i64]
  omega
theorem byte_some {b : List Int} {i : Int} (h : Int) (hs : St b i) : SomeP (spec_l1Byte.f b i h) (fun r => (0 ≤ r.1 ∧ r.1 ≤ 255) ∧ St b r.2.1) := by
  obtain ⟨h1, h2, h3⟩ := hs
  unfold spec_l1Byte.f
  refine somep_ite (fun hl => somep_pos h1 (somep_now ⟨and255 _, ?_⟩)) (fun hl => somep_now ⟨and255 _, h1, h2, h3⟩)
  show St b (wrap64 (i + 1))
  rw [w64 (by omega) (by omega)]
  exact ⟨by omega, by omega, h3⟩
theorem below_some {b : List Int} {i : Int} (h : Int) (n : Int) (hs : St b i) : SomeP (spec_l1Below.f b i h n) (fun r => (0 ≤ r.1 ∧ (0 < n → r.1 < n)) ∧ St b r.2.1) := by
  unfold spec_l1Below.f
  refine somep_ite (fun hn => somep_now ⟨⟨Int.le_refl _, fun h => by omega⟩, hs⟩) (fun hn => somep_ite (fun h2 => ?_) (fun h2 => ?_))
  · refine somep_bind (byte_some h hs) (fun a ha => somep_neg (by omega) (somep_now ⟨?_, ha.2⟩))
    have e : Int.tmod a.1 n = a.1 % n := Int.tmod_eq_emod_of_nonneg ha.1.1
    show 0 ≤ Int.tmod a.1 n ∧ (0 < n → Int.tmod a.1 n < n)
    rw [e]
    exact ⟨Int.emod_nonneg _ (by omega), fun h => Int.emod_lt_of_pos _ h⟩
  · refine somep_bind (byte_some h hs) (fun a ha => somep_bind (byte_some _ ha.2) (fun c hc => somep_bind (byte_some _ hc.2) (fun d hd => somep_bind (byte_some _ hd.2) (fun e he => somep_neg (by omega) (somep_now ⟨?_, he.2⟩)))))
    have h1 := ha.1; have h3 := hc.1; have h4 := hd.1; have h5 := he.1
    have w1 : wrap64 (a.1 * 16777216) = a.1 * 16777216 := w64 (by omega) (by omega)
    have w2 : wrap64 (c.1 * 65536) = c.1 * 65536 := w64 (by omega) (by omega)
    have w3 : wrap64 (d.1 * 256) = d.1 * 256 := w64 (by omega) (by omega)
    show 0 ≤ Int.tmod (wrap64 (wrap64 (wrap64 (wrap64 (a.1 * 16777216) + wrap64 (c.1 * 65536)) + wrap64 (d.1 * 256)) + e.1)) n ∧ (0 < n → Int.tmod (wrap64 (wrap64 (wrap64 (wrap64 (a.1 * 16777216) + wrap64 (c.1 * 65536)) + wrap64 (d.1 * 256)) + e.1)) n < n)
    rw [w1, w2, w3, w64 (x := a.1 * 16777216 + c.1 * 65536) (by omega) (by omega), w64 (x := a.1 * 16777216 + c.1 * 65536 + d.1 * 256) (by omega) (by omega), w64 (by omega) (by omega), Int.tmod_eq_emod_of_nonneg (by omega)]
    exact ⟨Int.emod_nonneg _ (by omega), fun h => Int.emod_lt_of_pos _ h⟩
theorem new_ev (code : List Int) (hc : code.length ≤ 4096) : EvP (fun k => spec_l1New.f k code) (fun r => r.1 = code ∧ St code r.2.1) := by
  have key : ∀ d i (h : Int), i + d = code.length → EvP (fun k => spec_l1New.l0 k code h (i : Int)) (fun r => r.1 = code ∧ St code r.2.1) := by
    intro d
    induction d with
    | zero =>
      intro i h hi
      refine evp_succ ?_
      have h1 : ¬ (i : Int) < (code.length : Int) := by omega
      simp only [spec_l1New.l0, h1, if_false]
      exact evp_now ⟨rfl, by refine ⟨Int.le_refl _, ?_, hc⟩; show (0 : Int) ≤ code.length; omega⟩
    | succ d ih =>
      intro i h hi
      refine evp_succ ?_
      have h1 : (i : Int) < (code.length : Int) := by omega
      have h2 : (0 : Int) ≤ (i : Int) := by omega
      have h4 := w64s (n := i) (by omega)
      simp only [spec_l1New.l0, h1, h2, h4, if_true]
      exact ih (i + 1) _ (by omega)
  exact key code.length 0 _ (by omega)

theorem once_some {b : List Int} {i : Int} (h : Int) (n : Int) (hs : St b i) : SomeP (spec_l1Once.f b i h n) (fun r => St b r.2.1) := by
  unfold spec_l1Once.f
  exact somep_bind (below_some h n hs) (fun a ha => somep_now ha.2)

/-! #### a track that is drawn -/
theorem tk_pick {b : List Int} {i : Int} (h : Int) (ys : List Int) (n : Nat) (hy : ys.length = n) (hn : 0 < n) (hs : St b i) : SomeP (spec_l1Below.f b i h (n : Int)) (fun r => (0 ≤ r.1 ∧ r.1 < (ys.length : Int)) ∧ St b r.2.1) := by
  obtain ⟨a, ha, hp, hq⟩ := below_some h (n : Int) hs
  exact ⟨a, ha, ⟨hp.1, by rw [hy]; exact hp.2 (by omega)⟩, hq⟩
theorem clip_ev {b : List Int} {i : Int} (h : Int) (hs : St b i) : EvP (fun k => spec_l4DrawClip.f k b i h) (fun r => St b r.2.2.2.1) := by
  have j0 : ∀ (x y z i h : Int), St b i → EvP (fun k => spec_l4DrawClip.j0 k b i h x y z) (fun r => St b r.2.2.2.1) := by
    intro x y z i h hs
    refine evp_succ ?_
    simp only [spec_l4DrawClip.j0, Option.bind_some]
    refine evp_some (once_some h 40 hs) (fun a ha => evp_ite (fun _ => ?_) (fun _ => evp_now ha))
    refine evp_some (below_some _ 4 ha) (fun c hc => evp_ite (fun _ => ?_) (fun _ => evp_ite (fun _ => ?_) (fun _ => evp_ite (fun _ => ?_) (fun _ => evp_ite (fun _ => evp_now hc.2) (fun _ => evp_now hc.2)))))
    · exact evp_some (tk_pick _ [-1, 500, 501] 3 rfl (by omega) hc.2) (fun d hd => evp_pos hd.1.1 (evp_pos hd.1.2 (evp_now hd.2)))
    · exact evp_some (tk_pick _ [-1, 10000000, wrap64 (10000000 - z), wrap64 ((wrap64 (10000000 - z)) + 1), 4611686018427387904] 5 rfl (by omega) hc.2) (fun d hd => evp_pos hd.1.1 (evp_pos hd.1.2 (evp_now hd.2)))
    · exact evp_some (tk_pick _ [0, -1, 10000000, 10000001, 4611686018427387904] 5 rfl (by omega) hc.2) (fun d hd => evp_pos hd.1.1 (evp_pos hd.1.2 (evp_now hd.2)))
  unfold spec_l4DrawClip.f
  refine evp_some (below_some h 4 hs) (fun a ha => evp_some (below_some _ 40 ha.2) (fun c hc => evp_some (below_some _ 20 hc.2) (fun d hd => ?_)))
  exact evp_ite (fun _ => j0 _ _ _ _ _ hd.2) (fun _ => j0 _ _ _ _ _ hd.2)
theorem track_ev {b : List Int} {i : Int} (h : Int) (hs : St b i) : EvP (fun k => spec_l4DrawTrack.f k b i h) (fun r => r.1.length ≤ 400) := by
  have l1 : ∀ (d : Nat) (m : Nat) (out : List S47) (i h : Int), St b i → m + d = 302 → out.length = m → EvP (fun k => spec_l4DrawTrack.l1 k out (m : Int) b i h) (fun r => r.1.length ≤ 400) := by
    intro d
    induction d with
    | zero =>
      intro m out i h hs hm ho
      refine evp_succ ?_
      simp only [spec_l4DrawTrack.l1]
      refine evp_some (below_some h 2 hs) (fun a ha => ?_)
      have h1 := ha.1.1
      have h2 := ha.1.2 (by omega)
      have h3 : wrap64 (300 + a.1) = 300 + a.1 := w64 (by omega) (by omega)
      rw [h3]
      exact evp_neg (by omega) (evp_now (by show out.length ≤ 400; omega))
    | succ d ih =>
      intro m out i h hs hm ho
      refine evp_succ ?_
      simp only [spec_l4DrawTrack.l1]
      refine evp_some (below_some h 2 hs) (fun a ha => evp_ite (fun _ => evp_pos (by omega) ?_) (fun _ => evp_now (by show out.length ≤ 400; omega)))
      rw [w64s (n := m) (by omega)]
      exact ih (m + 1) _ _ _ ha.2 (by omega) (by simp; omega)
  have l0 : ∀ (n : Nat) (out : List S47) (i h : Int), St b i → out.length + n ≤ 10 → EvP (fun k => spec_l4DrawTrack.l0 k out (n : Int) b i h) (fun r => r.1.length ≤ 400) := by
    intro n
    induction n with
    | zero =>
      intro out i h hs ho
      refine evp_succ ?_
      have h1 : ¬ (((0 : Nat) : Int) > 0) := by omega
      simp only [spec_l4DrawTrack.l0, h1, if_false]
      refine evp_some (once_some h 60 hs) (fun a ha => evp_ite (fun _ => ?_) (fun _ => evp_now (by show out.length ≤ 400; omega)))
      exact l1 302 0 [] _ _ ha rfl rfl
    | succ n ih =>
      intro out i h hs ho
      have j1 : ∀ (c : Bool) (i h x y z : Int), St b i → (c = true → 0 < out.length) → EvP (fun k => spec_l4DrawTrack.j1 k out ((n + 1 : Nat) : Int) c b i h x y z) (fun r => r.1.length ≤ 400) := by
        intro c i h x y z hs hc
        refine evp_succ ?_
        have h2 : wrap64 (((n + 1 : Nat) : Int) - 1) = (n : Int) := by rw [w64 (by omega) (by omega)]; omega
        simp only [spec_l4DrawTrack.j1, h2]
        refine evp_ite (fun h => ?_) (fun _ => evp_pos (by omega) (ih _ _ _ hs (by simp; omega)))
        have h3 := hc h
        have h4 : wrap64 ((out.length : Int) - 1) = (out.length : Int) - 1 := w64 (by omega) (by omega)
        rw [h4]
        refine evp_pos (by omega) (evp_pos (by omega) (evp_ite (fun _ => evp_pos (by omega) (ih _ _ _ hs (by simp; omega))) (fun _ => evp_pos (by omega) (ih _ _ _ hs (by simp; omega)))))
      refine evp_succ ?_
      have h1 : (((n + 1 : Nat) : Int) > 0) := by omega
      simp only [spec_l4DrawTrack.l0, h1, if_true]
      refine evp_bind (clip_ev h hs) (fun a ha => evp_ite (fun h5 => ?_) (fun _ => j1 _ _ _ _ _ _ ha (fun h => by cases h)))
      exact evp_some (once_some _ 5 ha) (fun c hc => j1 _ _ _ _ _ _ hc (fun _ => by omega))
  unfold spec_l4DrawTrack.f
  refine evp_some (below_some h 8 hs) (fun a ha => ?_)
  have h1 := ha.1.1
  have h2 := ha.1.2 (by omega)
  obtain ⟨m, hm⟩ := Int.eq_ofNat_of_zero_le h1
  rw [hm]
  exact l0 m [] _ _ ha.2 (by simp; omega)
theorem drawJoined_ev (code : List Int) (hc : code.length ≤ 4096) : EvP (fun k => spec_DrawJoined.f k code) (fun r => r.length ≤ 400) := by
  unfold spec_DrawJoined.f spec_DrawTrackOk.f
  refine evp_bind (P := fun r : List S47 => r.length ≤ 400) ?_ (fun a ha => evp_now ha)
  refine evp_bind (new_ev code hc) (fun a ha => ?_)
  obtain ⟨c0, i0, h0⟩ := a
  obtain ⟨rfl, hs⟩ := ha
  exact evp_bind (track_ev h0 hs) (fun c hc => evp_now hc)

theorem sameClips_ev (xs : List S47) (h : xs.length ≤ 4096) : Ev (fun k => laws_sameClips.f k xs xs) true := by
  have key : ∀ d i, i + d = xs.length → Ev (fun k => laws_sameClips.l0 k xs xs (i : Int)) true := by
    intro d
    induction d with
    | zero =>
      intro i hi
      refine ev_succ ?_
      have h1 : ¬ ((i : Int) < (xs.length : Int)) := by omega
      simp only [laws_sameClips.l0, h1, if_false]
      exact ev_ret rfl
    | succ d ih =>
      intro i hi
      refine ev_succ ?_
      have h1 : (i : Int) < (xs.length : Int) := by omega
      have h2 : (0 : Int) ≤ (i : Int) := by omega
      have h4 := w64s (n := i) (by omega)
      simp only [laws_sameClips.l0, h1, h2, h4, if_true, beq_self_eq_true, Bool.not_true, Bool.or_self, Bool.false_eq_true, if_false]
      exact ih (i + 1) (by omega)
  unfold laws_sameClips.f
  simp only [if_true]
  exact key xs.length 0 (by omega)
theorem sameClips_eq {xs ys : List S47} (e : xs = ys) (h : xs.length ≤ 4096) : Ev (fun k => laws_sameClips.f k xs ys) true := by
  subst e
  exact sameClips_ev xs h
theorem FnJoined : laws_FnJoined.Pure := by
  intro code _ _ _
  apply Ev.rounds
  apply evp_true
  simp only [laws_FnJoined.f, laws_big.f, Option.bind_some]
  refine evp_ite (fun _ => evp_now rfl) (fun hb => ?_)
  have hc : code.length ≤ 4096 := by
    have := of_decide_eq_false (Bool.eq_false_iff.2 hb)
    omega
  refine evp_bind (drawJoined_ev code hc) (fun t hl => ?_)
  have hlen := joinedV_len t
  refine evp_ebind (impl_Joined_ev t) ?_
  refine evp_ebind (spec_Joined_ev t) ?_
  refine evp_ebind (sameClips_ev _ (by omega)) ?_
  simp only [if_true]
  refine evp_ebind (spec_TrackOk_ev t) ?_
  refine evp_ite (fun ht => ?_) (fun ht => ?_)
  · obtain ⟨f1, f2, f3, f4⟩ := joined_facts ht
    refine evp_ebind (impl_Joined_ev _) ?_
    refine evp_ebind (sameClips_eq f2 (by rw [f2]; omega)) ?_
    simp only [if_true]
    refine evp_ebind (impl_Length_ev _) ?_
    refine evp_ebind (impl_Length_ev _) ?_
    have e1 : lengthV (joinedV t) = lengthV t := by unfold lengthV; rw [if_pos f1, if_pos ht, f3]
    have e2 : lengthV t = lenSum t := by unfold lengthV; rw [if_pos ht]
    have hb2 := lenSum_bd (trackB_parts ht).2.1
    have hb3 := (trackB_parts ht).2.2
    have e4 : ∀ a : Int, frameAtV t a = frameAtV (joinedV t) a := by
      intro a
      unfold frameAtV
      by_cases h0 : 0 ≤ a
      · rw [if_pos ⟨ht, h0⟩, if_pos ⟨f1, h0⟩, f4]
      · rw [if_neg (fun h => h0 h.2), if_neg (fun h => h0 h.2)]
    have key : ∀ (d : Nat) (i : Int), -1 ≤ i → i + d = 60 → EvP (fun k => laws_FnJoined.l0 k t (joinedV t) (lenSum t) i) (fun r => r = true) := by
      intro d
      induction d with
      | zero =>
        intro i hi hd
        have j2 : ∀ i, EvP (fun k => laws_FnJoined.j2 k t (joinedV t) (lenSum t) i false) (fun r => r = true) := by
          intro i
          refine evp_succ ?_
          simp only [laws_FnJoined.j2]
          exact evp_neg (by simp) (evp_now rfl)
        refine evp_succ ?_
        simp only [laws_FnJoined.l0]
        rw [decide_eq_false (show ¬ i < 60 by omega)]
        exact evp_ite (fun _ => j2 _) (fun _ => j2 _)
      | succ d ih =>
        intro i hi hd
        refine evp_succ ?_
        simp only [laws_FnJoined.l0]
        rw [decide_eq_true (show i < 60 by omega)]
        refine evp_ite (fun _ => ?_) (fun _ => ?_)
        · refine evp_succ ?_
          simp only [laws_FnJoined.j2, if_true]
          refine evp_ebind (impl_FrameAt_ev t i) ?_
          refine evp_ebind (impl_FrameAt_ev (joinedV t) i) ?_
          refine evp_pos (by rw [e4]) (evp_pos (by rw [e4]) ?_)
          rw [w64 (by omega) (by omega)]
          exact ih (i + 1) (by omega) (by omega)
        · refine evp_succ ?_
          simp only [laws_FnJoined.j2]
          exact evp_neg (by simp) (evp_now rfl)
    refine evp_pos e1 ?_
    refine evp_succ ?_
    simp only [laws_FnJoined.j0]
    refine evp_neg (by simp; omega) ?_
    refine evp_ebind (impl_Length_ev t) ?_
    rw [e2]
    exact key 61 (-1) (by omega) (by omega)
  · have e0 : joinedV t = [] := by unfold joinedV; rw [if_neg ht]
    rw [e0]
    refine evp_pos (by simp) ?_
    refine evp_ebind (impl_Length_ev t) ?_
    have e2 : lengthV t = -1 := by unfold lengthV; rw [if_neg ht]
    rw [e2]
    exact evp_now (by simp)
end Go.Proofs.Ythlpllmdfhbmiaa.Pure
