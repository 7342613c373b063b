/-
  The plain statement of FnExactJoined: both sides join a track alike, the argument is not written, and the answer owns its memory.
  Conditions: the statement's own.
-/
import Derived.Test.YthlpllmdfhbmiaaHFnExactJoinedx0
import Derived.Test.YthlpllmdfhbmiaaHFnExactJoinedx1
import Derived.Test.YthlpllmdfhbmiaaHFnExactJoinedx2
import Derived.Test.YthlpllmdfhbmiaaHFnExactJoinedx3
import Derived.Test.YthlpllmdfhbmiaaHFnExactJoinedx4
import Derived.Test.YthlpllmdfhbmiaaHFnExactJoinedx5
import Derived.Test.YthlpllmdfhbmiaaHFnExactJoinedx6
import Derived.Test.YthlpllmdfhbmiaaPureBase
import Derived.Laws.BitsLemmas
namespace Go.Proofs.Ythlpllmdfhbmiaa.Pure
open Go.RowKit Go.Proofs.Ythlpllmdfhbmiaa.HFnExactJoined Go.Proofs.YthlpllmdfhbmiaaW.PrintWords Go.Proofs.YthlpllmdfhbmiaaW.PrintLast Go.Proofs.YthlpllmdfhbmiaaW.PrintMore Go.Proofs.Ythlpllmdfhbmiaa.PB
set_option linter.unusedVariables false
set_option linter.unusedSimpArgs false
theorem spec_in_eq (a lo hi : Int) : spec_l1In.f a lo hi = some (decide (lo ≤ a ∧ a ≤ hi)) := by
  unfold spec_l1In.f
  by_cases h : a ≥ lo
  · rw [if_pos h]; simp [show lo ≤ a from h]
  · rw [if_neg h]; simp; omega

theorem impl_in_eq (a lo hi : Int) : impl_in.f a lo hi = some (decide (lo ≤ a ∧ a ≤ hi)) := by
  unfold impl_in.f
  by_cases h : lo ≤ a
  · rw [if_pos h]; simp [h]
  · rw [if_neg h]; simp; omega

/-! #### laws_toClipS -/
def cvClip (a : S49) : S47 := ⟨a.f0, a.f1, a.f2⟩
theorem toClipS_ev (xs : List S49) (h : xs.length ≤ 1048576) : Ev (fun k => laws_toClipS.f k xs) (xs.map cvClip) := by
  have key : ∀ d i, i + d = xs.length → Ev (fun k => laws_toClipS.l0 k xs ((xs.take i).map cvClip ++ List.replicate (xs.length - i) z47) (i : Int)) (xs.map cvClip) := by
    intro d
    induction d with
    | zero =>
      intro i hi
      refine ev_succ ?_
      have h1 : ¬ ((i : Int) < (xs.length : Int)) := by omega
      simp only [laws_toClipS.l0, h1, if_false]
      obtain rfl : i = xs.length := by omega
      exact ev_ret (by rw [fill_all])
    | succ d ih =>
      intro i hi
      have hlt : i < xs.length := by omega
      refine ev_succ ?_
      have h1 : (i : Int) < (xs.length : Int) := by omega
      have h2 : (0 : Int) ≤ (i : Int) := by omega
      have h3 : (i : Int) < ((((xs.take i).map cvClip ++ List.replicate (xs.length - i) z47).length : Nat) : Int) := by rw [fill_len _ _ _ _ (by omega)]; omega
      have h4 := w64s (n := i) (by omega)
      simp only [laws_toClipS.l0, laws_toClip.f, h1, h2, h3, if_true, h4, Option.bind_some]
      have := ih (i + 1) (by omega)
      rw [← fill_set cvClip z49 z47 xs i hlt] at this
      exact this
  have h1 : (0 : Int) ≤ (xs.length : Int) := by omega
  have h2 : xs.length ≤ 11728124029610 := by omega
  simp only [laws_toClipS.f, h1, Int.toNat_natCast, h2, if_true]
  have := key xs.length 0 (by omega)
  rw [← fill_none cvClip z47 xs] at this
  exact this

/-! #### laws_eqClipS at one list twice -/
theorem eqClipS_refl (xs : List S47) (h : xs.length ≤ 4611686018427387904) : Ev (fun k => laws_eqClipS.f k xs xs) true := by
  have key : ∀ d i, i + d = xs.length → Ev (fun k => laws_eqClipS.l0 k xs xs (i : Int)) true := by
    intro d
    induction d with
    | zero =>
      intro i hi
      refine ev_succ ?_
      have h1 : ¬ ((i : Int) < (xs.length : Int)) := by omega
      simp only [laws_eqClipS.l0, h1, if_false]
      exact ev_ret rfl
    | succ d ih =>
      intro i hi
      refine ev_succ ?_
      have h1 : (i : Int) < (xs.length : Int) := by omega
      have h2 : (0 : Int) ≤ (i : Int) := by omega
      have h4 := w64s (n := i) (by omega)
      simp only [laws_eqClipS.l0, laws_eqClip.f, h1, h2, if_true, h4, Option.bind_some]
      exact ih (i + 1) (by omega)
  simp only [laws_eqClipS.f, if_true]
  exact key xs.length 0 (by omega)

/-! #### laws_markClipS, laws_heldClipS: three whole numbers a row -/
def mkClip (k0 : Int) (j : Nat) : S47 := ⟨k0 + 3 * (j : Int), k0 + 3 * (j : Int) + 1, k0 + 3 * (j : Int) + 2⟩
def markClip (k0 : Int) (n : Nat) : List S47 := (List.range n).map (mkClip k0)
theorem markClip_len (k0 : Int) (n : Nat) : (markClip k0 n).length = n := by simp [markClip]
theorem markClip_rd (k0 : Int) (n i : Nat) (h : i < n) : rd_T47 (markClip k0 n) (i : Int) = mkClip k0 i := by
  simp [markClip, rd_T47, List.getD_eq_getElem?_getD, List.getElem?_map, List.getElem?_range h]
theorem rdsetClip (xs : List S47) (i : Nat) (v : S47) (h : i < xs.length) : rd_T47 (xs.set i v) (i : Int) = v := by
  simp [rd_T47, List.getD_eq_getElem?_getD, h]
theorem markClipS_ev (xs : List S47) (k0 : Int) (hk : 0 ≤ k0) (hk2 : k0 + 3 * (xs.length : Int) < 9223372036854775800) : Ev (fun k => laws_markClipS.f k xs k0) (k0 + 3 * (xs.length : Int), markClip k0 xs.length) := by
  have key : ∀ d i, i + d = xs.length → Ev (fun k => laws_markClipS.l0 k (markClip k0 i ++ xs.drop i) (k0 + 3 * (i : Int)) (i : Int)) (k0 + 3 * (xs.length : Int), markClip k0 xs.length) := by
    intro d
    induction d with
    | zero =>
      intro i hi
      refine ev_succ ?_
      obtain rfl : i = xs.length := by omega
      have h1 : ¬ ((xs.length : Int) < ((markClip k0 xs.length ++ xs.drop xs.length).length : Int)) := by simp [markClip_len]
      simp only [laws_markClipS.l0, h1, if_false]
      exact ev_ret (by simp)
    | succ d ih =>
      intro i hi
      refine ev_succ ?_
      have hlt : i < (markClip k0 i ++ xs.drop i).length := by simp [markClip_len]; omega
      have h1 : (i : Int) < ((markClip k0 i ++ xs.drop i).length : Int) := by omega
      have h2 : (0 : Int) ≤ (i : Int) := by omega
      have h4 := w64s (n := i) (by omega)
      have w1 : wrap64 (k0 + 3 * (i : Int) + 1) = k0 + 3 * (i : Int) + 1 := w64 (by omega) (by omega)
      have w2 : wrap64 (k0 + 3 * (i : Int) + 1 + 1) = k0 + 3 * (i : Int) + 2 := by rw [w64 (by omega) (by omega)]; omega
      have w3 : wrap64 (k0 + 3 * (i : Int) + 2 + 1) = k0 + 3 * ((i + 1 : Nat) : Int) := by rw [w64 (by omega) (by omega)]; omega
      simp only [laws_markClipS.l0, h1, h2, if_true, h4, w1, w2, w3, Option.bind_some, Int.toNat_natCast]
      have := ih (i + 1) (by omega)
      have he : (markClip k0 i ++ xs.drop i).set i (mkClip k0 i) = markClip k0 (i + 1) ++ xs.drop (i + 1) := by
        rw [List.set_append_right _ _ (by rw [markClip_len]; omega), markClip_len, Nat.sub_self, drop_getD z47 xs i (by omega)]
        simp [markClip, List.range_succ]
      rw [← he] at this
      generalize markClip k0 i ++ xs.drop i = ys at *
      rw [rdsetClip _ _ _ hlt]
      rw [rdsetClip _ _ _ (by rw [List.length_set]; exact hlt), List.set_set, List.set_set]
      exact this
  have := key xs.length 0 (by omega)
  simpa [laws_markClipS.f, markClip] using this
theorem heldClipS_ev (n : Nat) (k0 : Int) (hk : 0 ≤ k0) (hk2 : k0 + 3 * (n : Int) < 9223372036854775800) : Ev (fun k => laws_heldClipS.f k (markClip k0 n) k0) (k0 + 3 * (n : Int)) := by
  have key : ∀ d i, i + d = n → Ev (fun k => laws_heldClipS.l0 k (markClip k0 n) (k0 + 3 * (i : Int)) (i : Int)) (k0 + 3 * (n : Int)) := by
    intro d
    induction d with
    | zero =>
      intro i hi
      refine ev_succ ?_
      obtain rfl : i = n := by omega
      have h1 : ¬ ((i : Int) < ((markClip k0 i).length : Int)) := by simp [markClip_len]
      simp only [laws_heldClipS.l0, h1, if_false]
      exact ev_ret rfl
    | succ d ih =>
      intro i hi
      refine ev_succ ?_
      have h1 : (i : Int) < ((markClip k0 n).length : Int) := by simp [markClip_len]; omega
      have h2 : (0 : Int) ≤ (i : Int) := by omega
      have h4 := w64s (n := i) (by omega)
      have w1 : wrap64 (k0 + 3 * (i : Int) + 1) = k0 + 3 * (i : Int) + 1 := w64 (by omega) (by omega)
      have w2 : wrap64 (k0 + 3 * (i : Int) + 1 + 1) = k0 + 3 * (i : Int) + 2 := by rw [w64 (by omega) (by omega)]; omega
      have w3 : wrap64 (k0 + 3 * (i : Int) + 2 + 1) = k0 + 3 * ((i + 1 : Nat) : Int) := by rw [w64 (by omega) (by omega)]; omega
      simp only [laws_heldClipS.l0, h1, h2, if_true, h4, w1, w2, w3, markClip_rd k0 n i (by omega), mkClip]
      exact ih (i + 1) (by omega)
  have := key n 0 (by omega)
  simpa [laws_heldClipS.f] using this

/-! #### clips and tracks -/
def clipP (c : S47) : Prop := (0 ≤ c.f0 ∧ c.f0 ≤ 500) ∧ (0 ≤ c.f1 ∧ c.f1 ≤ 10000000) ∧ (1 ≤ c.f2 ∧ c.f2 ≤ 10000000) ∧ c.f1 + c.f2 ≤ 10000000 ∧ (c.f0 = 0 → c.f1 = 0)
instance (c : S47) : Decidable (clipP c) := by unfold clipP; infer_instance
def lenSum : List S47 → Int
  | [] => 0
  | c :: cs => c.f2 + lenSum cs
def trackB (xs : List S47) : Bool := decide (xs.length ≤ 300) && (xs.all fun c => decide (clipP c)) && decide (lenSum xs ≤ 10000000)
theorem all_drop {p : S47 → Bool} {xs : List S47} (h : xs.all p = true) (i : Nat) : (xs.drop i).all p = true := by
  rw [List.all_eq_true] at h ⊢
  exact fun x hx => h x (List.mem_of_mem_drop hx)
theorem lenSum_bd {xs : List S47} (h : (xs.all fun c => decide (clipP c)) = true) : 0 ≤ lenSum xs ∧ lenSum xs ≤ 10000000 * xs.length := by
  induction xs with
  | nil => simp [lenSum]
  | cons c cs ih =>
    rw [List.all_cons, Bool.and_eq_true] at h
    have h1 := of_decide_eq_true h.1
    have h2 := ih h.2
    have := h1.2.2.1
    simp only [lenSum, List.length_cons]
    omega
theorem spec_clip_eq (c : S47) : spec_l4Clip.f c.f0 c.f1 c.f2 = some (decide (clipP c)) := by
  unfold spec_l4Clip.f spec_l4Src.f
  simp only [spec_in_eq, Option.bind_some]
  by_cases h1 : 1 ≤ c.f2 ∧ c.f2 ≤ 10000000
  · rw [if_pos (decide_eq_true h1)]
    by_cases h2 : 0 ≤ c.f1 ∧ c.f1 ≤ 10000000
    · rw [if_pos (decide_eq_true h2), w64 (by omega) (by omega)]
      by_cases h3 : c.f1 + c.f2 > 10000000
      · rw [if_pos h3, decide_eq_false (fun h : clipP c => by have := h.2.2.2.1; omega)]
      · rw [if_neg h3]
        by_cases h4 : 1 ≤ c.f0 ∧ c.f0 ≤ 500
        · rw [if_pos (decide_eq_true h4), decide_eq_true (show clipP c from ⟨by omega, h2, h1, by omega, fun h => by omega⟩)]
        · rw [if_neg (by rw [decide_eq_false h4]; simp)]
          by_cases h5 : c.f0 = 0
          · rw [if_pos h5]
            by_cases h6 : c.f1 = 0
            · rw [h6, decide_eq_true (show clipP c from ⟨by omega, h2, h1, by omega, fun _ => h6⟩)]
              rfl
            · rw [decide_eq_false (fun h : clipP c => h6 (h.2.2.2.2 h5)), beq_eq_false_iff_ne.2 h6]
          · rw [if_neg h5, decide_eq_false (fun h : clipP c => by have := h.1; omega)]
    · rw [if_neg (by rw [decide_eq_false h2]; simp), decide_eq_false (fun h : clipP c => h2 h.2.1)]
  · rw [if_neg (by rw [decide_eq_false h1]; simp), decide_eq_false (fun h : clipP c => h1 h.2.2.1)]
theorem impl_clip_ev (c : S47) : Ev (fun k => impl_Clip_ok.f k c.f0 c.f1 c.f2) (decide (clipP c)) := by
  simp only [impl_Clip_ok.f, impl_in_eq, Option.bind_some]
  have no : ¬ clipP c → Ev (fun k => impl_Clip_ok.j0 k true c.f0 c.f1 c.f2) (decide (clipP c)) := fun h => by
    refine ev_succ ?_
    simp only [impl_Clip_ok.j0, if_true]
    exact ev_ret (by rw [decide_eq_false h])
  refine ev_ifb (fun h1 => ?_) (fun h1 => no (fun h => of_decide_eq_false h1 h.1))
  refine ev_ifb (fun h2 => ?_) (fun h2 => no (fun h => of_decide_eq_false h2 h.2.1))
  have h1' := of_decide_eq_true h1
  have h2' := of_decide_eq_true h2
  by_cases h3 : 1 ≤ c.f2 ∧ c.f2 ≤ 10000000
  · rw [decide_eq_true h3]
    refine ev_succ ?_
    have hw : wrap64 (c.f1 + c.f2) = c.f1 + c.f2 := w64 (by omega) (by omega)
    simp only [impl_Clip_ok.j0, impl_Clip_isGap.f, Option.bind_some, Bool.not_true, Bool.false_eq_true, if_false, hw]
    refine ev_ret ?_
    by_cases h4 : c.f0 = 0
    · rw [if_pos (beq_iff_eq.2 h4)]
      by_cases h5 : c.f1 = 0
      · rw [if_pos h5, decide_eq_true (show clipP c from ⟨h1', h2', h3, by omega, fun _ => h5⟩)]
      · rw [if_neg h5, if_pos (beq_iff_eq.2 h4), decide_eq_false (fun h : clipP c => h5 (h.2.2.2.2 h4))]
    · have h4' : ¬ ((c.f0 == 0) = true) := fun h => h4 (beq_iff_eq.1 h)
      rw [if_neg h4', if_neg h4']
      congr 1
      rw [decide_eq_decide]
      exact ⟨fun h => ⟨h1', h2', h3, h, fun h => absurd h h4⟩, fun h => h.2.2.2.1⟩
  · rw [decide_eq_false h3]
    exact no (fun h => h3 h.2.2.1)
theorem spec_TrackOk_ev (xs : List S47) : Ev (fun k => spec_TrackOk.f k xs) (trackB xs) := by
  have key : ∀ d i (n : Int), xs.length ≤ 300 → i + d = xs.length → 0 ≤ n → n ≤ 10000000 * i → Ev (fun k => spec_TrackOk.l0 k xs n (i : Int)) (((xs.drop i).all fun c => decide (clipP c)) && decide (n + lenSum (xs.drop i) ≤ 10000000)) := by
    intro d
    induction d with
    | zero =>
      intro i n hl hi h0 hn
      refine ev_succ ?_
      have h1 : ¬ (i : Int) < (xs.length : Int) := by omega
      simp only [spec_TrackOk.l0, h1, if_false]
      exact ev_ret (by rw [drop_end (by omega)]; simp [lenSum])
    | succ d ih =>
      intro i n hl hi h0 hn
      refine ev_succ ?_
      have h1 : (i : Int) < (xs.length : Int) := by omega
      have h2 : (0 : Int) ≤ (i : Int) := by omega
      have h4 := w64s (n := i) (by omega)
      simp only [spec_TrackOk.l0, h1, h2, h4, if_true, spec_clip_eq, Option.bind_some]
      have hd : xs.drop i = rd_T47 xs (i : Int) :: xs.drop (i + 1) := drop_getD z47 xs i (by omega)
      rw [hd, List.all_cons, lenSum]
      refine ev_ifb (fun h5 => ?_) (fun h5 => ev_ret (by rw [h5]; rfl))
      have h6 := of_decide_eq_true h5
      have h7 := h6.2.2.1
      have h8 : wrap64 (n + (rd_T47 xs (i : Int)).f2) = n + (rd_T47 xs (i : Int)).f2 := w64 (by omega) (by omega)
      rw [h5, Bool.true_and, h8]
      exact ev_eq (ih (i + 1) _ hl (by omega) (by omega) (by omega)) (by rw [Int.add_assoc])
  unfold trackB
  simp only [spec_TrackOk.f]
  refine ev_ite (fun h => ev_ret (by rw [decide_eq_false (show ¬ xs.length ≤ 300 by omega)]; rfl)) (fun h => ?_)
  rw [decide_eq_true (show xs.length ≤ 300 by omega), Bool.true_and]
  exact ev_eq (key xs.length 0 0 (by omega) (by omega) (by omega) (by omega)) (by simp)
def idxV {α : Type} (q : α → Bool) : List α → Int → Int
  | [], _ => -1
  | x :: xs, i => if q x = true then i else idxV q xs (i + 1)
theorem idxV_any {α : Type} (q : α → Bool) : ∀ (l : List α) (i : Int), 0 ≤ i → decide (0 ≤ idxV q l i) = l.any q
  | [], i, _ => by simp [idxV]
  | x :: xs, i, h => by
    rw [idxV, List.any_cons]
    split
    · rename_i hq
      rw [hq, decide_eq_true h, Bool.true_or]
    · rename_i hq
      rw [Bool.eq_false_iff.2 hq, Bool.false_or]
      exact idxV_any q xs (i + 1) (by omega)
theorem trk_ev (xs : List S47) (i : Int) : Ev (fun k => trk_idxO (fun x => impl_TrackOk_1.f k x.f0 x.f1 x.f2) xs i) (idxV (fun c => !decide (clipP c)) xs i) := by
  induction xs generalizing i with
  | nil => exact ev_ret rfl
  | cons c cs ih =>
    simp only [trk_idxO, idxV]
    refine ev_bind (a := !decide (clipP c)) ?_ ?_
    · simp only [impl_TrackOk_1.f]
      exact ev_bind (impl_clip_ev c) (ev_ret rfl)
    · refine ev_ite (fun h => ev_ret (by rw [if_pos h])) (fun h => ?_)
      rw [if_neg h]
      exact ih _
theorem any_not_all {α : Type} (q : α → Bool) (xs : List α) : (xs.any fun c => !q c) = !(xs.all q) := by
  induction xs with
  | nil => rfl
  | cons c cs ih => simp [List.any_cons, List.all_cons, ih]
theorem impl_long_ev (xs : List S47) (hl : xs.length ≤ 300) (h : (xs.all fun c => decide (clipP c)) = true) : Ev (fun k => impl_long.f k xs) (lenSum xs) := by
  have key : ∀ d i (n : Int), i + d = xs.length → 0 ≤ n → n ≤ 10000000 * i → Ev (fun k => impl_long.l0 k n xs (xs.length : Int) (i : Int)) (n + lenSum (xs.drop i)) := by
    intro d
    induction d with
    | zero =>
      intro i n hi h0 hn
      refine ev_succ ?_
      have h1 : ¬ (i : Int) < (xs.length : Int) := by omega
      simp only [impl_long.l0, h1, if_false]
      exact ev_ret (by rw [drop_end (by omega)]; simp [lenSum])
    | succ d ih =>
      intro i n hi h0 hn
      refine ev_succ ?_
      have h1 : (i : Int) < (xs.length : Int) := by omega
      have h2 : (0 : Int) ≤ (i : Int) := by omega
      have h4 := w64s (n := i) (by omega)
      have hm : rd_T47 xs (i : Int) ∈ xs := getD_mem _ (by omega)
      have h6 := of_decide_eq_true (List.all_eq_true.1 h _ hm)
      have h7 := h6.2.2.1
      have h8 : wrap64 (n + (rd_T47 xs (i : Int)).f2) = n + (rd_T47 xs (i : Int)).f2 := w64 (by omega) (by omega)
      simp only [impl_long.l0, h1, h2, h4, h8, if_true]
      have hd : xs.drop i = rd_T47 xs (i : Int) :: xs.drop (i + 1) := drop_getD z47 xs i (by omega)
      rw [hd, lenSum, ← Int.add_assoc]
      exact ih (i + 1) _ (by omega) (by omega) (by omega)
  exact ev_eq (key xs.length 0 0 (by omega) (by omega) (by omega)) (by simp)
theorem trackB_parts {xs : List S47} (h : trackB xs = true) : xs.length ≤ 300 ∧ (xs.all fun c => decide (clipP c)) = true ∧ lenSum xs ≤ 10000000 := by
  rw [trackB, Bool.and_eq_true, Bool.and_eq_true] at h
  exact ⟨of_decide_eq_true h.1.1, h.1.2, of_decide_eq_true h.2⟩
theorem impl_TrackOk_ev (xs : List S47) : Ev (fun k => impl_TrackOk.f k xs) (trackB xs) := by
  unfold trackB
  simp only [impl_TrackOk.f]
  refine ev_ite (fun h => ?_) (fun h => ev_ret (by rw [decide_eq_false (show ¬ xs.length ≤ 300 by omega)]; rfl))
  rw [decide_eq_true (show xs.length ≤ 300 by omega), Bool.true_and]
  refine ev_bind (trk_ev xs 0) ?_
  rw [idxV_any _ _ _ (Int.le_refl _), any_not_all]
  cases hall : (xs.all fun c => decide (clipP c)) with
  | false => exact ev_ret rfl
  | true =>
    simp only [Bool.not_true, Bool.false_eq_true, if_false, Bool.true_and]
    exact ev_bind (impl_long_ev xs (by omega) hall) (ev_ret rfl)

/-! #### Joined -/
def jlast (out : List S47) : S47 := rd_T47 out ((out.length - 1 : Nat) : Int)
def jstep (out : List S47) (c : S47) : List S47 :=
  if out.length = 0 then out ++ [c]
  else if (jlast out).f0 = c.f0 ∧ (c.f0 = 0 ∨ wrap64 ((jlast out).f1 + (jlast out).f2) = c.f1) then out.set (out.length - 1) ⟨(jlast out).f0, (jlast out).f1, wrap64 ((jlast out).f2 + c.f2)⟩
  else out ++ [c]
theorem jstep_len (out : List S47) (c : S47) : (jstep out c).length ≤ out.length + 1 := by
  unfold jstep
  split
  · simp
  · split <;> simp
theorem jfold_len (xs : List S47) : ∀ out, (xs.foldl jstep out).length ≤ out.length + xs.length := by
  induction xs with
  | nil => intro out; simp
  | cons c cs ih =>
    intro out
    have := ih (jstep out c)
    have := jstep_len out c
    simp only [List.foldl_cons, List.length_cons]
    omega
def joinedV (xs : List S47) : List S47 := if trackB xs = true then xs.foldl jstep [] else []
theorem joinedV_len (xs : List S47) : (joinedV xs).length ≤ xs.length := by
  unfold joinedV
  split
  · have := jfold_len xs []
    simpa using this
  · simp
theorem spec_Join_ev (xs : List S47) (hl : xs.length ≤ 300) : Ev (fun k => spec_l4Join.f k xs) (xs.foldl jstep []) := by
  have key : ∀ d i (out : List S47), i + d = xs.length → out.length ≤ i → Ev (fun k => spec_l4Join.l0 k xs out (i : Int)) ((xs.drop i).foldl jstep out) := by
    intro d
    induction d with
    | zero =>
      intro i out hi ho
      refine ev_succ ?_
      have h1 : ¬ (i : Int) < (xs.length : Int) := by omega
      simp only [spec_l4Join.l0, h1, if_false]
      exact ev_ret (by rw [drop_end (by omega)]; rfl)
    | succ d ih =>
      intro i out hi ho
      refine ev_succ ?_
      have h1 : (i : Int) < (xs.length : Int) := by omega
      have h2 : (0 : Int) ≤ (i : Int) := by omega
      have h4 := w64s (n := i) (by omega)
      have h5 : out.length < 5864062014805 := by omega
      have hs := jstep_len out (rd_T47 xs (i : Int))
      have hih := ih (i + 1) (jstep out (rd_T47 xs (i : Int))) (by omega) (by omega)
      have hd : xs.drop i = rd_T47 xs (i : Int) :: xs.drop (i + 1) := drop_getD z47 xs i (by omega)
      rw [hd, List.foldl_cons]
      generalize hc : rd_T47 xs (i : Int) = c at *
      simp only [spec_l4Join.l0, hc, h1, h2, h4, h5, if_true]
      refine ev_ite (fun h6 => ?_) (fun h6 => ?_)
      · have h7 : wrap64 ((out.length : Int) - 1) = ((out.length - 1 : Nat) : Int) := by rw [w64 (by omega) (by omega)]; omega
        have h8 : (0 : Int) ≤ ((out.length - 1 : Nat) : Int) := by omega
        have h9 : ((out.length - 1 : Nat) : Int) < (out.length : Int) := by omega
        simp only [h7, h8, h9, if_true, Int.toNat_natCast]
        have hL : rd_T47 out ((out.length - 1 : Nat) : Int) = jlast out := rfl
        rw [hL]
        have yes : ((jlast out).f0 = c.f0 ∧ (c.f0 = 0 ∨ wrap64 ((jlast out).f1 + (jlast out).f2) = c.f1)) → Ev (fun k => spec_l4Join.l0 k xs (out.set (out.length - 1) ⟨(jlast out).f0, (jlast out).f1, wrap64 ((jlast out).f2 + c.f2)⟩) ((i + 1 : Nat) : Int)) ((xs.drop (i + 1)).foldl jstep (jstep out c)) := fun h => by
          have e : jstep out c = out.set (out.length - 1) ⟨(jlast out).f0, (jlast out).f1, wrap64 ((jlast out).f2 + c.f2)⟩ := by unfold jstep; rw [if_neg (by omega), if_pos h]
          rw [e] at hih ⊢
          exact hih
        have no : ¬ ((jlast out).f0 = c.f0 ∧ (c.f0 = 0 ∨ wrap64 ((jlast out).f1 + (jlast out).f2) = c.f1)) → Ev (fun k => spec_l4Join.l0 k xs (out ++ [⟨c.f0, c.f1, c.f2⟩]) ((i + 1 : Nat) : Int)) ((xs.drop (i + 1)).foldl jstep (jstep out c)) := fun h => by
          have e : jstep out c = out ++ [c] := by unfold jstep; rw [if_neg (by omega), if_neg h]
          rw [e] at hih ⊢
          exact hih
        refine ev_ite (fun a1 => ?_) (fun a1 => no (fun h => a1 h.1))
        refine ev_ite (fun a2 => yes ⟨a1, .inl a2⟩) (fun a2 => ?_)
        exact ev_ite (fun a3 => yes ⟨a1, .inr a3⟩) (fun a3 => no (fun h => h.2.elim a2 a3))
      · have e : jstep out c = out ++ [c] := by unfold jstep; rw [if_pos (by omega)]
        rw [e] at hih ⊢
        exact hih
  exact key xs.length 0 [] (by omega) (by simp)
theorem impl_join_ev (xs : List S47) (hl : xs.length ≤ 300) : Ev (fun k => impl_joined.f k xs) (xs.foldl jstep []) := by
  have key : ∀ d i (out : List S47), i + d = xs.length → out.length ≤ i → Ev (fun k => impl_joined.l0 k out xs (xs.length : Int) (i : Int)) ((xs.drop i).foldl jstep out) := by
    intro d
    induction d with
    | zero =>
      intro i out hi ho
      refine ev_succ ?_
      have h1 : ¬ (i : Int) < (xs.length : Int) := by omega
      simp only [impl_joined.l0, h1, if_false]
      exact ev_ret (by rw [drop_end (by omega)]; rfl)
    | succ d ih =>
      intro i out hi ho
      refine ev_succ ?_
      have h1 : (i : Int) < (xs.length : Int) := by omega
      have h2 : (0 : Int) ≤ (i : Int) := by omega
      have h4 := w64s (n := i) (by omega)
      have h5 : out.length < 5864062014805 := by omega
      have hs := jstep_len out (rd_T47 xs (i : Int))
      have hih := ih (i + 1) (jstep out (rd_T47 xs (i : Int))) (by omega) (by omega)
      have hd : xs.drop i = rd_T47 xs (i : Int) :: xs.drop (i + 1) := drop_getD z47 xs i (by omega)
      rw [hd, List.foldl_cons]
      generalize hc : rd_T47 xs (i : Int) = c at *
      simp only [impl_joined.l0, hc, h1, h2, h4, h5, if_true]
      refine ev_ite (fun h6 => ?_) (fun h6 => ?_)
      · have h7 : wrap64 ((out.length : Int) - 1) = ((out.length - 1 : Nat) : Int) := by rw [w64 (by omega) (by omega)]; omega
        have h8 : (0 : Int) ≤ ((out.length - 1 : Nat) : Int) := by omega
        have h9 : ((out.length - 1 : Nat) : Int) < (out.length : Int) := by omega
        simp only [h7, h8, h9, if_true, Int.toNat_natCast]
        have hL : rd_T47 out ((out.length - 1 : Nat) : Int) = jlast out := rfl
        rw [hL]
        have hf : impl_Clip_follows.f c.f0 c.f1 c.f2 (jlast out).f0 (jlast out).f1 (jlast out).f2 = some (decide ((jlast out).f0 = c.f0 ∧ (c.f0 = 0 ∨ wrap64 ((jlast out).f1 + (jlast out).f2) = c.f1))) := by
          simp only [impl_Clip_follows.f, impl_Clip_isGap.f, Option.bind_some]
          by_cases a1 : c.f0 = (jlast out).f0
          · rw [if_pos a1]
            by_cases a2 : c.f0 = 0
            · rw [if_pos (beq_iff_eq.2 a2), decide_eq_true ⟨a1.symm, .inl a2⟩]
            · rw [if_neg (fun h => a2 (beq_iff_eq.1 h))]
              by_cases a3 : c.f1 = wrap64 ((jlast out).f1 + (jlast out).f2)
              · rw [beq_iff_eq.2 a3, decide_eq_true ⟨a1.symm, .inr a3.symm⟩]
              · rw [beq_eq_false_iff_ne.2 a3, decide_eq_false (fun h => h.2.elim a2 (fun e => a3 e.symm))]
          · rw [if_neg a1, decide_eq_false (fun h => a1 h.1.symm)]
        rw [hf]
        simp only [Option.bind_some]
        refine ev_ifb (fun h => ?_) (fun h => ?_)
        · have e : jstep out c = out.set (out.length - 1) ⟨(jlast out).f0, (jlast out).f1, wrap64 ((jlast out).f2 + c.f2)⟩ := by unfold jstep; rw [if_neg (by omega), if_pos (of_decide_eq_true h)]
          rw [e] at hih ⊢
          exact hih
        · have e : jstep out c = out ++ [c] := by unfold jstep; rw [if_neg (by omega), if_neg (of_decide_eq_false h)]
          rw [e] at hih ⊢
          exact hih
      · have e : jstep out c = out ++ [c] := by unfold jstep; rw [if_pos (by omega)]
        rw [e] at hih ⊢
        exact hih
  exact key xs.length 0 [] (by omega) (by simp)
theorem spec_Joined_ev (xs : List S47) : Ev (fun k => spec_Joined.f k xs) (joinedV xs) := by
  unfold joinedV
  simp only [spec_Joined.f]
  refine ev_bind (spec_TrackOk_ev xs) ?_
  refine ev_ite (fun h => ?_) (fun h => ev_ret (by rw [if_neg h]))
  rw [if_pos h]
  exact ev_bind (spec_Join_ev xs (trackB_parts h).1) (ev_ret rfl)
theorem impl_Joined_ev (xs : List S47) : Ev (fun k => impl_Joined.f k xs) (joinedV xs) := by
  unfold joinedV
  simp only [impl_Joined.f]
  refine ev_bind (impl_TrackOk_ev xs) ?_
  refine ev_ite (fun h => ?_) (fun h => ev_ret (by rw [if_neg h]))
  rw [if_pos h]
  exact ev_bind (impl_join_ev xs (trackB_parts h).1) (ev_ret rfl)

theorem FnExactJoined : ∀ (l0 : List S49), (l0.length ≤ maxLen ∧ ∀ y1 ∈ l0, ((Lit.int .i64 y1.f0).wf = true ∧ ((Lit.int .i64 y1.f1).wf = true ∧ (Lit.int .i64 y1.f2).wf = true))) → ∃ k, laws_FnExactJoined.f k l0 = some true := by
  intro l0 ⟨hl, _⟩
  unfold maxLen at hl
  apply Ev.rounds
  have h5 : wrap64 (1048576 - (l0.length : Int)) = 1048576 - (l0.length : Int) := w64 (by omega) (by omega)
  simp only [laws_FnExactJoined.f, laws_szClipS.f, h5]
  by_cases h6 : 1048576 - (l0.length : Int) < 0
  · simp only [h6, if_true, Option.bind_some, show (-1 : Int) < 0 by omega]
    exact ev_ret rfl
  · simp only [h6, if_false, Option.bind_some]
    have h1 : l0.length ≤ 1048576 := by omega
    have h3 : (l0.map cvClip).length ≤ 1048576 := by simpa using h1
    have h2 := joinedV_len (l0.map cvClip)
    refine ev_bind (toClipS_ev l0 h1) ?_
    refine ev_bind (spec_Joined_ev _) ?_
    refine ev_bind (toClipS_ev l0 h1) ?_
    refine ev_bind (impl_Joined_ev _) ?_
    refine ev_bind (eqClipS_refl _ (by omega)) ?_
    simp only [if_true]
    refine ev_bind (toClipS_ev l0 h1) ?_
    refine ev_bind (eqClipS_refl _ (by omega)) ?_
    simp only [if_true]
    refine ev_bind (markClipS_ev _ 1 (by omega) (by omega)) ?_
    have h7 : ¬ (1 + 3 * ((l0.map cvClip).length : Int) < 0) := by omega
    simp only [h7, if_false]
    refine ev_bind (eqClipS_refl _ (by omega)) ?_
    refine ev_succ ?_
    simp only [laws_FnExactJoined.j0, Bool.not_true, Bool.false_eq_true, if_false]
    refine ev_bind (markClipS_ev _ 1 (by omega) (by omega)) ?_
    refine ev_bind (heldClipS_ev _ 1 (by omega) (by omega)) ?_
    have h8 : ¬ (1 + 3 * ((joinedV (l0.map cvClip)).length : Int) < 0) := by omega
    simp only [h8, if_false, if_true]
    refine ev_bind (toClipS_ev l0 h1) ?_
    refine ev_bind (impl_Joined_ev _) ?_
    refine ev_bind (eqClipS_refl _ (by omega)) ?_
    simp only [if_true]
    refine ev_bind (heldClipS_ev _ 1 (by omega) (by omega)) ?_
    simp only [h8, if_false, if_true]
    exact ev_ret rfl
end Go.Proofs.Ythlpllmdfhbmiaa.Pure
