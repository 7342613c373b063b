-- Laid by myprint.py, a program of this repo, out of the kit's printer and this repo's own texts (wip/hand).
import Derived.Test.YtelcpfanjjfgdaaHFnExactPackx0
import Derived.Test.YtelcpfanjjfgdaaHFnExactPackx1
import Derived.Test.YtelcpfanjjfgdaaHFnExactPackx2
import Derived.Test.YtelcpfanjjfgdaaHFnExactPackx3
import Derived.Test.YtelcpfanjjfgdaaHFnExactPackx6
import Derived.Test.YtelcpfanjjfgdaaHFnExactPackx9
namespace Go.Proofs.Ytelcpfanjjfgdaa.HFnExactPack
open Go.RowKit Go.Proofs.YtelcpfanjjfgdaaW.PrintWords Go.Proofs.YtelcpfanjjfgdaaW.PrintLast Go.Proofs.YtelcpfanjjfgdaaW.PrintMore
attribute [local go_sem] max2_int min2_int max_two min_two max_three min_three max_four min_four   -- for this text's walks alone
set_option linter.unusedVariables false
set_option linter.unusedSimpArgs false

/-! ### laws_heldAssetS: function 53 -/
def laws_heldAssetS.l0 : Nat → List (S71) → Int → Int → Option (Int)
  | 0, _, _, _ => none
  | k + 1, x0, x1, x5 => if x5 < (x0.length : Int) then (if 0 ≤ x5 then ((laws_markText.f k x1).bind fun t193 => (if ((rd_T71 x0 x5).f0).toList = t193.toList then (if ((rd_T71 x0 x5).f1) = (wrap64 (x1 + 1)) then (if ((rd_T71 x0 x5).f2) = (wrap64 ((wrap64 (x1 + 1)) + 1)) then (laws_heldAssetS.l0 k x0 (wrap64 ((wrap64 ((wrap64 (x1 + 1)) + 1)) + 1)) (wrap64 (x5 + 1))) else (some (-1))) else (some (-1))) else (some (-1)))) else (none)) else (some x1)
def laws_heldAssetS.f (k : Nat) (l0 : List (S71)) (a1 : Int) : Option (Int) := laws_heldAssetS.l0 k l0 a1 0
theorem laws_heldAssetS.mono_l : ∀ k, (∀ y0 y1 y2, LeO (laws_heldAssetS.l0 k y0 y1 y2) (laws_heldAssetS.l0 (k + 1) y0 y1 y2))
  | 0 => fun _ _ _ r h => by simp [laws_heldAssetS.l0] at h
  | k + 1 => by
    have ih0 := laws_heldAssetS.mono_l k
    · intro y0 y1 y2
      unfold laws_heldAssetS.l0
      repeat' first
      | (with_reducible exact ih0 _ _ _)
      | (with_reducible exact laws_markText.mono _ _)
      | (with_reducible exact LeO.refl _)
      | (with_reducible exact LeO.none _)
      | (with_reducible refine LeO.ite ?_ ?_)
      | (with_reducible refine LeO.bind ?_ (fun _ => ?_))
      | exact ih0 _ _ _
      | exact laws_markText.mono _ _
      | exact LeO.none _
      | refine LeO.ite ?_ ?_
      | refine LeO.bind ?_ (fun _ => ?_)
theorem laws_heldAssetS.mono : ∀ a0 a1 k, LeO (laws_heldAssetS.f k a0 a1) (laws_heldAssetS.f (k + 1) a0 a1) := by
  intro a0 a1 k
  have ih0 := laws_heldAssetS.mono_l k
  unfold laws_heldAssetS.f
  repeat' first
      | (with_reducible exact ih0 _ _ _)
      | (with_reducible exact laws_markText.mono _ _)
      | (with_reducible exact LeO.refl _)
      | (with_reducible exact LeO.none _)
      | (with_reducible refine LeO.ite ?_ ?_)
      | (with_reducible refine LeO.bind ?_ (fun _ => ?_))
      | exact ih0 _ _ _
      | exact laws_markText.mono _ _
      | exact LeO.none _
      | refine LeO.ite ?_ ?_
      | refine LeO.bind ?_ (fun _ => ?_)
def laws_heldAssetS.T4 : Bool × List (List Nat × List Nat) := (true, [([], []), ([], []), ([0, 1], [0, 1]), ([2], [2]), ([3], [3]), ([], []), ([5], [5]), ([4, 6], [4, 6])])
def laws_heldAssetS.B4 : List Nat := [0, 0, 3, 7, 15, 0, 32, 127]
theorem laws_heldAssetS.tab4 : rtab .any (opsOf Try.f53 4) = laws_heldAssetS.T4 := by kernel_rfl
theorem laws_heldAssetS.bits4 : waitsOk laws_heldAssetS.T4.2 laws_heldAssetS.B4 = true := by kernel_rfl
set_option maxHeartbeats 8000000 in
set_option maxRecDepth 100000 in
theorem laws_heldAssetS.calls (k : Nat) (A0 : Option Addr) (c0 : Nat) (l0 : List (S71)) (a1 : Int) (r : Int) (w : World) (hr0 : Kd.C k71 w A0 l0.length l0) (hc0 : l0.length ≤ c0) (h : laws_heldAssetS.f k l0 a1 = some r) :
    Calls Try.prog 53 #[.slice A0 l0.length c0, .int .i64 a1] w fun e w' => e = .returned (.int .i64 r) ∧ Below w.heap.size w w' := by
  have HR0 := Aside0.mk hr0
  have HC0 := Aside0.mk hc0
  clear hr0 hc0
  have HB := Aside0.mk (Below.refl w.heap.size w)
  have H : (laws_heldAssetS.l0 k l0 a1 0) = some r := h
  clear h
  have H' := Aside0.mk H
  clear H
  go_enter Try.func53, Try.ntmps53
  go_wp2
  go_loopg [1, 5] k (fun kq v1 v5 w' => ∃ (x1_1 : Int) (x5_1 : Int), v1 = .int .i64 x1_1 ∧ v5 = .int .i64 x5_1 ∧ Aside0 (laws_heldAssetS.l0 kq l0 x1_1 x5_1 = some r) ∧ Aside0 (kq ≤ k) ∧ Aside0 (Below w.heap.size w w'))
  case atStart => exact ⟨(a1), (0), (by first | rfl | (simp; done) | (simp [*]; done)), (by first | rfl | (simp; done) | (simp [*]; done)), H', ⟨Nat.le_refl _⟩, ⟨by repeat (first | (with_reducible first | exact HB.out | apply below_alloc | apply pw_below_drewN | apply below_drew1) | exact HB.out)⟩⟩
  case round =>
    clear H'
    try clear p2
    obtain ⟨x1_1, x5_1, rfl, rfl, HA, HK1, HB⟩ := hrel
    cases gk with
    | zero => exact absurd HA.out (by simp [laws_heldAssetS.l0])
    | succ k1 =>
      have H := HA.out
      clear HA
      simp only [laws_heldAssetS.l0] at H
      by_cases c3 : x5_1 < (l0.length : Int)
      · rw [if_pos c3] at H
        have c3b0 : decide (x5_1 < (l0.length : Int)) = true := decide_eq_true c3
        clear c3
        by_cases c4 : 0 ≤ x5_1
        · rw [if_pos c4] at H
          have c4b0 : decide (0 ≤ x5_1) = true := decide_eq_true c4
          clear c4
          replace H := Option.bind_eq_some_iff.mp H
          obtain ⟨t193, A50, H⟩ := H
          replace H : (if ((rd_T71 l0 x5_1).f0).toList = t193.toList then (if ((rd_T71 l0 x5_1).f1) = (wrap64 (x1_1 + 1)) then (if ((rd_T71 l0 x5_1).f2) = (wrap64 ((wrap64 (x1_1 + 1)) + 1)) then (laws_heldAssetS.l0 k1 l0 (wrap64 ((wrap64 ((wrap64 (x1_1 + 1)) + 1)) + 1)) (wrap64 (x5_1 + 1))) else (some (-1))) else (some (-1))) else (some (-1))) = some r := H
          have A5 := Aside0.mk A50
          clear A50
          by_cases c6 : ((rd_T71 l0 x5_1).f0).toList = t193.toList
          · rw [if_pos c6] at H
            have c6b0 : (((rd_T71 l0 x5_1).f0).toList == t193.toList) = true := beq_iff_eq.mpr c6
            have c6b1 : (((rd_T71 l0 x5_1).f0).toList != t193.toList) = false := bne_eq_false_iff_eq.mpr c6
            clear c6
            by_cases c7 : ((rd_T71 l0 x5_1).f1) = (wrap64 (x1_1 + 1))
            · rw [if_pos c7] at H
              have c7b0 : (((rd_T71 l0 x5_1).f1) == (wrap64 (x1_1 + 1))) = true := beq_iff_eq.mpr c7
              have c7b1 : (((rd_T71 l0 x5_1).f1) != (wrap64 (x1_1 + 1))) = false := bne_eq_false_iff_eq.mpr c7
              clear c7
              by_cases c8 : ((rd_T71 l0 x5_1).f2) = (wrap64 ((wrap64 (x1_1 + 1)) + 1))
              · rw [if_pos c8] at H
                have c8b0 : (((rd_T71 l0 x5_1).f2) == (wrap64 ((wrap64 (x1_1 + 1)) + 1))) = true := beq_iff_eq.mpr c8
                have c8b1 : (((rd_T71 l0 x5_1).f2) != (wrap64 ((wrap64 (x1_1 + 1)) + 1))) = false := bne_eq_false_iff_eq.mpr c8
                clear c8
                have H' := Aside0.mk H
                clear H
                try go_wp2
                have n0_ := Aside0.mk (below_drew1 HB.out)
                clear HB
                have HB := n0_
                clear n0_
                have p192 : 0 ≤ (x5_1 : Int) := of_decide_eq_true (by first | (with_reducible assumption) | assumption)
                have q192 : x5_1 < (l0.length : Int) := of_decide_eq_true (by first | (with_reducible assumption) | assumption)
                obtain ⟨ad192, e192, hx192_0, hx192_1, hx192_2⟩ := at_T71 HR0.out x5_1 p192 q192
                have hw192_2 := hx192_2
                have hw192_1 := hx192_1
                have hw192_0 := hx192_0
                cases e192
                replace hx192_0 := (HB.out.cell (World.block_lt_of_cell? w _ hx192_0)).trans hx192_0
                replace hx192_1 := (HB.out.cell (World.block_lt_of_cell? w _ hx192_1)).trans hx192_1
                replace hx192_2 := (HB.out.cell (World.block_lt_of_cell? w _ hx192_2)).trans hx192_2
                replace p192 := eq_true p192
                replace q192 := eq_true q192
                refine start_ (n := 8) (S := fun w' => w'.cell? (ad192.add ((x5_1).toNat * 3)) = some (.string ((rd_T71 l0 x5_1).f0)) ∧ w'.cell? ⟨(ad192.add ((x5_1).toNat * 3)).block, (ad192.add ((x5_1).toNat * 3)).off + 1, none⟩ = some (.int .i64 ((rd_T71 l0 x5_1).f1)) ∧ w'.cell? ⟨(ad192.add ((x5_1).toNat * 3)).block, (ad192.add ((x5_1).toNat * 3)).off + 2, none⟩ = some (.int .i64 ((rd_T71 l0 x5_1).f2))) (ds := []) #[false, false, false, false, false, false, false, false] (by kernel_rfl) rfl rfl ⟨((HB.out.cell (World.block_lt_of_cell? w _ hw192_0)).trans hw192_0), ((HB.out.cell (World.block_lt_of_cell? w _ hw192_1)).trans hw192_1), ((HB.out.cell (World.block_lt_of_cell? w _ hw192_2)).trans hw192_2)⟩ (fun hHeld => ?_); refine with_tabW laws_heldAssetS.tab4 laws_heldAssetS.bits4 (fun HT_ HW_ => ?_)
                generalize wr.drew = w9 at HB hx192_0 hx192_1 hx192_2 hHeld ⊢
                refine pure_ (i := 0) (N := some 12) (v := ?_) (a' := ?_) #[true, false, false, false, false, false, false, false] rfl rfl (any_of HT_.out (by kernel_rfl)) (fun _ _ _ h => h) (Or.inl ⟨by rfl, ?_⟩) ?_ ?_
                rotate_left
                · intro w'
                  go_simp
                  with_reducible rfl
                rotate_left
                · simp only [Act.put, List.setIfInBounds_toArray, List.set_cons_zero, List.set_cons_succ, i64_w, i32_w]
                  rfl
                refine pure_ (i := 1) (N := some 13) (v := ?_) (a' := ?_) #[true, true, false, false, false, false, false, false] rfl rfl (any_of HT_.out (by kernel_rfl)) (fun _ _ _ h => h) (Or.inl ⟨by rfl, ?_⟩) ?_ ?_
                rotate_left
                · intro w'
                  go_simp
                  with_reducible rfl
                rotate_left
                · simp only [Act.put, List.setIfInBounds_toArray, List.set_cons_zero, List.set_cons_succ, i64_w, i32_w]
                  rfl
                refine pure_ (i := 2) (N := some 14) (v := ?_) (a' := ?_) #[true, true, true, false, false, false, false, false] rfl rfl (any_of HT_.out (by kernel_rfl)) (fun _ _ _ h => h) (Or.inl ⟨by rfl, ?_⟩) ?_ ?_
                rotate_left
                · intro w'
                  go_simp
                  with_reducible rfl
                rotate_left
                · simp only [Act.put, List.setIfInBounds_toArray, List.set_cons_zero, List.set_cons_succ, i64_w, i32_w]
                  rfl
                refine pure_ (i := 3) (N := some 15) (v := ?_) (a' := ?_) #[true, true, true, true, false, false, false, false] rfl rfl (any_of HT_.out (by kernel_rfl)) (fun _ _ _ h => h) (Or.inl ⟨by rfl, ?_⟩) ?_ ?_
                rotate_left
                · intro w'
                  go_simp
                  with_reducible rfl
                rotate_left
                · simp only [Act.put, List.setIfInBounds_toArray, List.set_cons_zero, List.set_cons_succ, i64_w, i32_w]
                  rfl
                refine pure_ (i := 5) (N := some 17) (v := ?_) (a' := ?_) #[true, true, true, true, false, true, false, false] rfl rfl (any_of HT_.out (by kernel_rfl)) (fun _ _ _ h => h) (Or.inl ⟨by rfl, ?_⟩) ?_ ?_
                rotate_left
                · intro w'
                  go_simp
                  with_reducible rfl
                rotate_left
                · simp only [Act.put, List.setIfInBounds_toArray, List.set_cons_zero, List.set_cons_succ, i64_w, i32_w]
                  rfl
                refine take_ (i := 4) (N := some 16) (v := ?_) (a' := ?_) #[true, true, true, true, true, true, false, false] rfl rfl (take_ofW HT_.out HW_.out (by kernel_rfl)) (fun _ _ _ h => h) (Or.inl ⟨by rfl, ?_⟩) hHeld ?_ ?_
                rotate_left
                · rintro w' ⟨s0, s1, s2⟩
                  go_simp
                  with_reducible rfl
                rotate_left
                · simp only [Act.put, List.setIfInBounds_toArray, List.set_cons_zero, List.set_cons_succ, i64_w, i32_w]
                  rfl
                refine one_ (i := 6) (N := some 18) #[true, true, true, true, true, true, true, false] rfl rfl (one_of HT_.out (by kernel_rfl)) (by decide) (fun K hK => ?_)
                refine goes_ Try.func74 (by kernel_rfl) rfl #[.int .i64 x1_1] (by rfl) rfl rfl (by (try simp only [List.map_toArray, List.map_cons, List.map_nil]); first | done | rfl | (simp only [List.length_drop, List.length_take]; rfl)) ?_
                with_reducible refine (laws_markText.calls k1 x1_1 t193 _ A5.out).mono ?_
                rintro e w10 ⟨rfl, hb⟩
                refine ⟨_, rfl, ?_⟩
                have n0_ := Aside0.mk (below_step (by repeat (first | (with_reducible first | exact HB.out | apply below_alloc | apply pw_below_drewN | apply below_drew1) | exact HB.out)) hb)
                clear HB
                have HB := n0_
                clear n0_
                (try clear hb)
                (try clear hb2)
                (try clear hk)
                (try clear hi)
                refine hK.out _ _ ⟨((HB.out.cell (World.block_lt_of_cell? w _ hw192_0)).trans hw192_0), ((HB.out.cell (World.block_lt_of_cell? w _ hw192_1)).trans hw192_1), ((HB.out.cell (World.block_lt_of_cell? w _ hw192_2)).trans hw192_2)⟩ (fun hHeld => ?_)
                clear hK K
                refine norm_ (a' := ?_) ?_ ?_
                rotate_left
                · show Act.put _ (some 18) _ = _
                  simp only [Act.put, List.setIfInBounds_toArray, List.set_cons_zero, List.set_cons_succ, i64_w, i32_w]
                  rfl
                refine pure_ (i := 7) (N := some 19) (v := ?_) (a' := ?_) #[true, true, true, true, true, true, true, true] rfl rfl (any_of HT_.out (by kernel_rfl)) (fun _ _ _ h => h) (Or.inl ⟨by rfl, ?_⟩) ?_ ?_
                rotate_left
                · intro w'
                  go_simp
                  with_reducible rfl
                rotate_left
                · simp only [Act.put, List.setIfInBounds_toArray, List.set_cons_zero, List.set_cons_succ, i64_w, i32_w]
                  rfl
                refine done_ (done_of HT_.out (by kernel_rfl)) ?_
                have p194 : 0 ≤ (x5_1 : Int) := of_decide_eq_true (by first | (with_reducible assumption) | assumption)
                have q194 : x5_1 < (l0.length : Int) := of_decide_eq_true (by first | (with_reducible assumption) | assumption)
                obtain ⟨ad194, e194, hx194_0, hx194_1, hx194_2⟩ := at_T71 HR0.out x5_1 p194 q194
                obtain rfl : ad192 = ad194 := (by injection e194)
                replace hx194_0 := (HB.out.cell (World.block_lt_of_cell? w _ hx194_0)).trans hx194_0
                replace hx194_1 := (HB.out.cell (World.block_lt_of_cell? w _ hx194_1)).trans hx194_1
                replace hx194_2 := (HB.out.cell (World.block_lt_of_cell? w _ hx194_2)).trans hx194_2
                replace p194 := eq_true p194
                replace q194 := eq_true q194
                have p195 : 0 ≤ (x5_1 : Int) := of_decide_eq_true (by first | (with_reducible assumption) | assumption)
                have q195 : x5_1 < (l0.length : Int) := of_decide_eq_true (by first | (with_reducible assumption) | assumption)
                obtain ⟨ad195, e195, hx195_0, hx195_1, hx195_2⟩ := at_T71 HR0.out x5_1 p195 q195
                obtain rfl : ad192 = ad195 := (by injection e195)
                replace hx195_0 := (HB.out.cell (World.block_lt_of_cell? w _ hx195_0)).trans hx195_0
                replace hx195_1 := (HB.out.cell (World.block_lt_of_cell? w _ hx195_1)).trans hx195_1
                replace hx195_2 := (HB.out.cell (World.block_lt_of_cell? w _ hx195_2)).trans hx195_2
                replace p195 := eq_true p195
                replace q195 := eq_true q195
                try go_wp2
                go_roundg k1
                case measure => have := HK1.out; omega
                case rel => exact ⟨(wrap64 ((wrap64 ((wrap64 (x1_1 + 1)) + 1)) + 1)), (wrap64 (x5_1 + 1)), (by first | rfl | (simp; done) | (simp [*]; done)), (by first | rfl | (simp; done) | (simp [*]; done)), H', ⟨by have := HK1.out; omega⟩, ⟨by repeat (first | (with_reducible first | exact HB.out | apply below_alloc | apply pw_below_drewN | apply below_drew1) | exact HB.out)⟩⟩
              · rw [if_neg c8] at H
                have c8b0 : (((rd_T71 l0 x5_1).f2) == (wrap64 ((wrap64 (x1_1 + 1)) + 1))) = false := beq_eq_false_iff_ne.mpr c8
                have c8b1 : (((rd_T71 l0 x5_1).f2) != (wrap64 ((wrap64 (x1_1 + 1)) + 1))) = true := bne_iff_ne.mpr c8
                obtain rfl := Option.some.inj H
                try go_wp2
                have n0_ := Aside0.mk (below_drew1 HB.out)
                clear HB
                have HB := n0_
                clear n0_
                have p192 : 0 ≤ (x5_1 : Int) := of_decide_eq_true (by first | (with_reducible assumption) | assumption)
                have q192 : x5_1 < (l0.length : Int) := of_decide_eq_true (by first | (with_reducible assumption) | assumption)
                obtain ⟨ad192, e192, hx192_0, hx192_1, hx192_2⟩ := at_T71 HR0.out x5_1 p192 q192
                have hw192_2 := hx192_2
                have hw192_1 := hx192_1
                have hw192_0 := hx192_0
                cases e192
                replace hx192_0 := (HB.out.cell (World.block_lt_of_cell? w _ hx192_0)).trans hx192_0
                replace hx192_1 := (HB.out.cell (World.block_lt_of_cell? w _ hx192_1)).trans hx192_1
                replace hx192_2 := (HB.out.cell (World.block_lt_of_cell? w _ hx192_2)).trans hx192_2
                replace p192 := eq_true p192
                replace q192 := eq_true q192
                refine start_ (n := 8) (S := fun w' => w'.cell? (ad192.add ((x5_1).toNat * 3)) = some (.string ((rd_T71 l0 x5_1).f0)) ∧ w'.cell? ⟨(ad192.add ((x5_1).toNat * 3)).block, (ad192.add ((x5_1).toNat * 3)).off + 1, none⟩ = some (.int .i64 ((rd_T71 l0 x5_1).f1)) ∧ w'.cell? ⟨(ad192.add ((x5_1).toNat * 3)).block, (ad192.add ((x5_1).toNat * 3)).off + 2, none⟩ = some (.int .i64 ((rd_T71 l0 x5_1).f2))) (ds := []) #[false, false, false, false, false, false, false, false] (by kernel_rfl) rfl rfl ⟨((HB.out.cell (World.block_lt_of_cell? w _ hw192_0)).trans hw192_0), ((HB.out.cell (World.block_lt_of_cell? w _ hw192_1)).trans hw192_1), ((HB.out.cell (World.block_lt_of_cell? w _ hw192_2)).trans hw192_2)⟩ (fun hHeld => ?_); refine with_tabW laws_heldAssetS.tab4 laws_heldAssetS.bits4 (fun HT_ HW_ => ?_)
                generalize wr.drew = w11 at HB hx192_0 hx192_1 hx192_2 hHeld ⊢
                refine pure_ (i := 0) (N := some 12) (v := ?_) (a' := ?_) #[true, false, false, false, false, false, false, false] rfl rfl (any_of HT_.out (by kernel_rfl)) (fun _ _ _ h => h) (Or.inl ⟨by rfl, ?_⟩) ?_ ?_
                rotate_left
                · intro w'
                  go_simp
                  with_reducible rfl
                rotate_left
                · simp only [Act.put, List.setIfInBounds_toArray, List.set_cons_zero, List.set_cons_succ, i64_w, i32_w]
                  rfl
                refine pure_ (i := 1) (N := some 13) (v := ?_) (a' := ?_) #[true, true, false, false, false, false, false, false] rfl rfl (any_of HT_.out (by kernel_rfl)) (fun _ _ _ h => h) (Or.inl ⟨by rfl, ?_⟩) ?_ ?_
                rotate_left
                · intro w'
                  go_simp
                  with_reducible rfl
                rotate_left
                · simp only [Act.put, List.setIfInBounds_toArray, List.set_cons_zero, List.set_cons_succ, i64_w, i32_w]
                  rfl
                refine pure_ (i := 2) (N := some 14) (v := ?_) (a' := ?_) #[true, true, true, false, false, false, false, false] rfl rfl (any_of HT_.out (by kernel_rfl)) (fun _ _ _ h => h) (Or.inl ⟨by rfl, ?_⟩) ?_ ?_
                rotate_left
                · intro w'
                  go_simp
                  with_reducible rfl
                rotate_left
                · simp only [Act.put, List.setIfInBounds_toArray, List.set_cons_zero, List.set_cons_succ, i64_w, i32_w]
                  rfl
                refine pure_ (i := 3) (N := some 15) (v := ?_) (a' := ?_) #[true, true, true, true, false, false, false, false] rfl rfl (any_of HT_.out (by kernel_rfl)) (fun _ _ _ h => h) (Or.inl ⟨by rfl, ?_⟩) ?_ ?_
                rotate_left
                · intro w'
                  go_simp
                  with_reducible rfl
                rotate_left
                · simp only [Act.put, List.setIfInBounds_toArray, List.set_cons_zero, List.set_cons_succ, i64_w, i32_w]
                  rfl
                refine pure_ (i := 5) (N := some 17) (v := ?_) (a' := ?_) #[true, true, true, true, false, true, false, false] rfl rfl (any_of HT_.out (by kernel_rfl)) (fun _ _ _ h => h) (Or.inl ⟨by rfl, ?_⟩) ?_ ?_
                rotate_left
                · intro w'
                  go_simp
                  with_reducible rfl
                rotate_left
                · simp only [Act.put, List.setIfInBounds_toArray, List.set_cons_zero, List.set_cons_succ, i64_w, i32_w]
                  rfl
                refine take_ (i := 4) (N := some 16) (v := ?_) (a' := ?_) #[true, true, true, true, true, true, false, false] rfl rfl (take_ofW HT_.out HW_.out (by kernel_rfl)) (fun _ _ _ h => h) (Or.inl ⟨by rfl, ?_⟩) hHeld ?_ ?_
                rotate_left
                · rintro w' ⟨s0, s1, s2⟩
                  go_simp
                  with_reducible rfl
                rotate_left
                · simp only [Act.put, List.setIfInBounds_toArray, List.set_cons_zero, List.set_cons_succ, i64_w, i32_w]
                  rfl
                refine one_ (i := 6) (N := some 18) #[true, true, true, true, true, true, true, false] rfl rfl (one_of HT_.out (by kernel_rfl)) (by decide) (fun K hK => ?_)
                refine goes_ Try.func74 (by kernel_rfl) rfl #[.int .i64 x1_1] (by rfl) rfl rfl (by (try simp only [List.map_toArray, List.map_cons, List.map_nil]); first | done | rfl | (simp only [List.length_drop, List.length_take]; rfl)) ?_
                with_reducible refine (laws_markText.calls k1 x1_1 t193 _ A5.out).mono ?_
                rintro e w12 ⟨rfl, hb⟩
                refine ⟨_, rfl, ?_⟩
                have n0_ := Aside0.mk (below_step (by repeat (first | (with_reducible first | exact HB.out | apply below_alloc | apply pw_below_drewN | apply below_drew1) | exact HB.out)) hb)
                clear HB
                have HB := n0_
                clear n0_
                (try clear hb)
                (try clear hb2)
                (try clear hk)
                (try clear hi)
                refine hK.out _ _ ⟨((HB.out.cell (World.block_lt_of_cell? w _ hw192_0)).trans hw192_0), ((HB.out.cell (World.block_lt_of_cell? w _ hw192_1)).trans hw192_1), ((HB.out.cell (World.block_lt_of_cell? w _ hw192_2)).trans hw192_2)⟩ (fun hHeld => ?_)
                clear hK K
                refine norm_ (a' := ?_) ?_ ?_
                rotate_left
                · show Act.put _ (some 18) _ = _
                  simp only [Act.put, List.setIfInBounds_toArray, List.set_cons_zero, List.set_cons_succ, i64_w, i32_w]
                  rfl
                refine pure_ (i := 7) (N := some 19) (v := ?_) (a' := ?_) #[true, true, true, true, true, true, true, true] rfl rfl (any_of HT_.out (by kernel_rfl)) (fun _ _ _ h => h) (Or.inl ⟨by rfl, ?_⟩) ?_ ?_
                rotate_left
                · intro w'
                  go_simp
                  with_reducible rfl
                rotate_left
                · simp only [Act.put, List.setIfInBounds_toArray, List.set_cons_zero, List.set_cons_succ, i64_w, i32_w]
                  rfl
                refine done_ (done_of HT_.out (by kernel_rfl)) ?_
                have p194 : 0 ≤ (x5_1 : Int) := of_decide_eq_true (by first | (with_reducible assumption) | assumption)
                have q194 : x5_1 < (l0.length : Int) := of_decide_eq_true (by first | (with_reducible assumption) | assumption)
                obtain ⟨ad194, e194, hx194_0, hx194_1, hx194_2⟩ := at_T71 HR0.out x5_1 p194 q194
                obtain rfl : ad192 = ad194 := (by injection e194)
                replace hx194_0 := (HB.out.cell (World.block_lt_of_cell? w _ hx194_0)).trans hx194_0
                replace hx194_1 := (HB.out.cell (World.block_lt_of_cell? w _ hx194_1)).trans hx194_1
                replace hx194_2 := (HB.out.cell (World.block_lt_of_cell? w _ hx194_2)).trans hx194_2
                replace p194 := eq_true p194
                replace q194 := eq_true q194
                have p195 : 0 ≤ (x5_1 : Int) := of_decide_eq_true (by first | (with_reducible assumption) | assumption)
                have q195 : x5_1 < (l0.length : Int) := of_decide_eq_true (by first | (with_reducible assumption) | assumption)
                obtain ⟨ad195, e195, hx195_0, hx195_1, hx195_2⟩ := at_T71 HR0.out x5_1 p195 q195
                obtain rfl : ad192 = ad195 := (by injection e195)
                replace hx195_0 := (HB.out.cell (World.block_lt_of_cell? w _ hx195_0)).trans hx195_0
                replace hx195_1 := (HB.out.cell (World.block_lt_of_cell? w _ hx195_1)).trans hx195_1
                replace hx195_2 := (HB.out.cell (World.block_lt_of_cell? w _ hx195_2)).trans hx195_2
                replace p195 := eq_true p195
                replace q195 := eq_true q195
                try go_wp2
                go_ret
                exact ⟨by first | rfl | (simp [errW_none, errW_some] <;> rfl) | (simp [*, errW_none, errW_some] <;> rfl), by repeat (first | (with_reducible first | exact HB.out | apply below_alloc | apply pw_below_drewN | apply below_drew1) | exact HB.out)⟩
            · rw [if_neg c7] at H
              have c7b0 : (((rd_T71 l0 x5_1).f1) == (wrap64 (x1_1 + 1))) = false := beq_eq_false_iff_ne.mpr c7
              have c7b1 : (((rd_T71 l0 x5_1).f1) != (wrap64 (x1_1 + 1))) = true := bne_iff_ne.mpr c7
              obtain rfl := Option.some.inj H
              try go_wp2
              have n0_ := Aside0.mk (below_drew1 HB.out)
              clear HB
              have HB := n0_
              clear n0_
              have p192 : 0 ≤ (x5_1 : Int) := of_decide_eq_true (by first | (with_reducible assumption) | assumption)
              have q192 : x5_1 < (l0.length : Int) := of_decide_eq_true (by first | (with_reducible assumption) | assumption)
              obtain ⟨ad192, e192, hx192_0, hx192_1, hx192_2⟩ := at_T71 HR0.out x5_1 p192 q192
              have hw192_2 := hx192_2
              have hw192_1 := hx192_1
              have hw192_0 := hx192_0
              cases e192
              replace hx192_0 := (HB.out.cell (World.block_lt_of_cell? w _ hx192_0)).trans hx192_0
              replace hx192_1 := (HB.out.cell (World.block_lt_of_cell? w _ hx192_1)).trans hx192_1
              replace hx192_2 := (HB.out.cell (World.block_lt_of_cell? w _ hx192_2)).trans hx192_2
              replace p192 := eq_true p192
              replace q192 := eq_true q192
              refine start_ (n := 8) (S := fun w' => w'.cell? (ad192.add ((x5_1).toNat * 3)) = some (.string ((rd_T71 l0 x5_1).f0)) ∧ w'.cell? ⟨(ad192.add ((x5_1).toNat * 3)).block, (ad192.add ((x5_1).toNat * 3)).off + 1, none⟩ = some (.int .i64 ((rd_T71 l0 x5_1).f1)) ∧ w'.cell? ⟨(ad192.add ((x5_1).toNat * 3)).block, (ad192.add ((x5_1).toNat * 3)).off + 2, none⟩ = some (.int .i64 ((rd_T71 l0 x5_1).f2))) (ds := []) #[false, false, false, false, false, false, false, false] (by kernel_rfl) rfl rfl ⟨((HB.out.cell (World.block_lt_of_cell? w _ hw192_0)).trans hw192_0), ((HB.out.cell (World.block_lt_of_cell? w _ hw192_1)).trans hw192_1), ((HB.out.cell (World.block_lt_of_cell? w _ hw192_2)).trans hw192_2)⟩ (fun hHeld => ?_); refine with_tabW laws_heldAssetS.tab4 laws_heldAssetS.bits4 (fun HT_ HW_ => ?_)
              generalize wr.drew = w13 at HB hx192_0 hx192_1 hx192_2 hHeld ⊢
              refine pure_ (i := 0) (N := some 12) (v := ?_) (a' := ?_) #[true, false, false, false, false, false, false, false] rfl rfl (any_of HT_.out (by kernel_rfl)) (fun _ _ _ h => h) (Or.inl ⟨by rfl, ?_⟩) ?_ ?_
              rotate_left
              · intro w'
                go_simp
                with_reducible rfl
              rotate_left
              · simp only [Act.put, List.setIfInBounds_toArray, List.set_cons_zero, List.set_cons_succ, i64_w, i32_w]
                rfl
              refine pure_ (i := 1) (N := some 13) (v := ?_) (a' := ?_) #[true, true, false, false, false, false, false, false] rfl rfl (any_of HT_.out (by kernel_rfl)) (fun _ _ _ h => h) (Or.inl ⟨by rfl, ?_⟩) ?_ ?_
              rotate_left
              · intro w'
                go_simp
                with_reducible rfl
              rotate_left
              · simp only [Act.put, List.setIfInBounds_toArray, List.set_cons_zero, List.set_cons_succ, i64_w, i32_w]
                rfl
              refine pure_ (i := 2) (N := some 14) (v := ?_) (a' := ?_) #[true, true, true, false, false, false, false, false] rfl rfl (any_of HT_.out (by kernel_rfl)) (fun _ _ _ h => h) (Or.inl ⟨by rfl, ?_⟩) ?_ ?_
              rotate_left
              · intro w'
                go_simp
                with_reducible rfl
              rotate_left
              · simp only [Act.put, List.setIfInBounds_toArray, List.set_cons_zero, List.set_cons_succ, i64_w, i32_w]
                rfl
              refine pure_ (i := 3) (N := some 15) (v := ?_) (a' := ?_) #[true, true, true, true, false, false, false, false] rfl rfl (any_of HT_.out (by kernel_rfl)) (fun _ _ _ h => h) (Or.inl ⟨by rfl, ?_⟩) ?_ ?_
              rotate_left
              · intro w'
                go_simp
                with_reducible rfl
              rotate_left
              · simp only [Act.put, List.setIfInBounds_toArray, List.set_cons_zero, List.set_cons_succ, i64_w, i32_w]
                rfl
              refine pure_ (i := 5) (N := some 17) (v := ?_) (a' := ?_) #[true, true, true, true, false, true, false, false] rfl rfl (any_of HT_.out (by kernel_rfl)) (fun _ _ _ h => h) (Or.inl ⟨by rfl, ?_⟩) ?_ ?_
              rotate_left
              · intro w'
                go_simp
                with_reducible rfl
              rotate_left
              · simp only [Act.put, List.setIfInBounds_toArray, List.set_cons_zero, List.set_cons_succ, i64_w, i32_w]
                rfl
              refine take_ (i := 4) (N := some 16) (v := ?_) (a' := ?_) #[true, true, true, true, true, true, false, false] rfl rfl (take_ofW HT_.out HW_.out (by kernel_rfl)) (fun _ _ _ h => h) (Or.inl ⟨by rfl, ?_⟩) hHeld ?_ ?_
              rotate_left
              · rintro w' ⟨s0, s1, s2⟩
                go_simp
                with_reducible rfl
              rotate_left
              · simp only [Act.put, List.setIfInBounds_toArray, List.set_cons_zero, List.set_cons_succ, i64_w, i32_w]
                rfl
              refine one_ (i := 6) (N := some 18) #[true, true, true, true, true, true, true, false] rfl rfl (one_of HT_.out (by kernel_rfl)) (by decide) (fun K hK => ?_)
              refine goes_ Try.func74 (by kernel_rfl) rfl #[.int .i64 x1_1] (by rfl) rfl rfl (by (try simp only [List.map_toArray, List.map_cons, List.map_nil]); first | done | rfl | (simp only [List.length_drop, List.length_take]; rfl)) ?_
              with_reducible refine (laws_markText.calls k1 x1_1 t193 _ A5.out).mono ?_
              rintro e w14 ⟨rfl, hb⟩
              refine ⟨_, rfl, ?_⟩
              have n0_ := Aside0.mk (below_step (by repeat (first | (with_reducible first | exact HB.out | apply below_alloc | apply pw_below_drewN | apply below_drew1) | exact HB.out)) hb)
              clear HB
              have HB := n0_
              clear n0_
              (try clear hb)
              (try clear hb2)
              (try clear hk)
              (try clear hi)
              refine hK.out _ _ ⟨((HB.out.cell (World.block_lt_of_cell? w _ hw192_0)).trans hw192_0), ((HB.out.cell (World.block_lt_of_cell? w _ hw192_1)).trans hw192_1), ((HB.out.cell (World.block_lt_of_cell? w _ hw192_2)).trans hw192_2)⟩ (fun hHeld => ?_)
              clear hK K
              refine norm_ (a' := ?_) ?_ ?_
              rotate_left
              · show Act.put _ (some 18) _ = _
                simp only [Act.put, List.setIfInBounds_toArray, List.set_cons_zero, List.set_cons_succ, i64_w, i32_w]
                rfl
              refine pure_ (i := 7) (N := some 19) (v := ?_) (a' := ?_) #[true, true, true, true, true, true, true, true] rfl rfl (any_of HT_.out (by kernel_rfl)) (fun _ _ _ h => h) (Or.inl ⟨by rfl, ?_⟩) ?_ ?_
              rotate_left
              · intro w'
                go_simp
                with_reducible rfl
              rotate_left
              · simp only [Act.put, List.setIfInBounds_toArray, List.set_cons_zero, List.set_cons_succ, i64_w, i32_w]
                rfl
              refine done_ (done_of HT_.out (by kernel_rfl)) ?_
              have p194 : 0 ≤ (x5_1 : Int) := of_decide_eq_true (by first | (with_reducible assumption) | assumption)
              have q194 : x5_1 < (l0.length : Int) := of_decide_eq_true (by first | (with_reducible assumption) | assumption)
              obtain ⟨ad194, e194, hx194_0, hx194_1, hx194_2⟩ := at_T71 HR0.out x5_1 p194 q194
              obtain rfl : ad192 = ad194 := (by injection e194)
              replace hx194_0 := (HB.out.cell (World.block_lt_of_cell? w _ hx194_0)).trans hx194_0
              replace hx194_1 := (HB.out.cell (World.block_lt_of_cell? w _ hx194_1)).trans hx194_1
              replace hx194_2 := (HB.out.cell (World.block_lt_of_cell? w _ hx194_2)).trans hx194_2
              replace p194 := eq_true p194
              replace q194 := eq_true q194
              try go_wp2
              go_ret
              exact ⟨by first | rfl | (simp [errW_none, errW_some] <;> rfl) | (simp [*, errW_none, errW_some] <;> rfl), by repeat (first | (with_reducible first | exact HB.out | apply below_alloc | apply pw_below_drewN | apply below_drew1) | exact HB.out)⟩
          · rw [if_neg c6] at H
            have c6b0 : (((rd_T71 l0 x5_1).f0).toList == t193.toList) = false := beq_eq_false_iff_ne.mpr c6
            have c6b1 : (((rd_T71 l0 x5_1).f0).toList != t193.toList) = true := bne_iff_ne.mpr c6
            obtain rfl := Option.some.inj H
            try go_wp2
            have n0_ := Aside0.mk (below_drew1 HB.out)
            clear HB
            have HB := n0_
            clear n0_
            have p192 : 0 ≤ (x5_1 : Int) := of_decide_eq_true (by first | (with_reducible assumption) | assumption)
            have q192 : x5_1 < (l0.length : Int) := of_decide_eq_true (by first | (with_reducible assumption) | assumption)
            obtain ⟨ad192, e192, hx192_0, hx192_1, hx192_2⟩ := at_T71 HR0.out x5_1 p192 q192
            have hw192_2 := hx192_2
            have hw192_1 := hx192_1
            have hw192_0 := hx192_0
            cases e192
            replace hx192_0 := (HB.out.cell (World.block_lt_of_cell? w _ hx192_0)).trans hx192_0
            replace hx192_1 := (HB.out.cell (World.block_lt_of_cell? w _ hx192_1)).trans hx192_1
            replace hx192_2 := (HB.out.cell (World.block_lt_of_cell? w _ hx192_2)).trans hx192_2
            replace p192 := eq_true p192
            replace q192 := eq_true q192
            refine start_ (n := 8) (S := fun w' => w'.cell? (ad192.add ((x5_1).toNat * 3)) = some (.string ((rd_T71 l0 x5_1).f0)) ∧ w'.cell? ⟨(ad192.add ((x5_1).toNat * 3)).block, (ad192.add ((x5_1).toNat * 3)).off + 1, none⟩ = some (.int .i64 ((rd_T71 l0 x5_1).f1)) ∧ w'.cell? ⟨(ad192.add ((x5_1).toNat * 3)).block, (ad192.add ((x5_1).toNat * 3)).off + 2, none⟩ = some (.int .i64 ((rd_T71 l0 x5_1).f2))) (ds := []) #[false, false, false, false, false, false, false, false] (by kernel_rfl) rfl rfl ⟨((HB.out.cell (World.block_lt_of_cell? w _ hw192_0)).trans hw192_0), ((HB.out.cell (World.block_lt_of_cell? w _ hw192_1)).trans hw192_1), ((HB.out.cell (World.block_lt_of_cell? w _ hw192_2)).trans hw192_2)⟩ (fun hHeld => ?_); refine with_tabW laws_heldAssetS.tab4 laws_heldAssetS.bits4 (fun HT_ HW_ => ?_)
            generalize wr.drew = w15 at HB hx192_0 hx192_1 hx192_2 hHeld ⊢
            refine pure_ (i := 0) (N := some 12) (v := ?_) (a' := ?_) #[true, false, false, false, false, false, false, false] rfl rfl (any_of HT_.out (by kernel_rfl)) (fun _ _ _ h => h) (Or.inl ⟨by rfl, ?_⟩) ?_ ?_
            rotate_left
            · intro w'
              go_simp
              with_reducible rfl
            rotate_left
            · simp only [Act.put, List.setIfInBounds_toArray, List.set_cons_zero, List.set_cons_succ, i64_w, i32_w]
              rfl
            refine pure_ (i := 1) (N := some 13) (v := ?_) (a' := ?_) #[true, true, false, false, false, false, false, false] rfl rfl (any_of HT_.out (by kernel_rfl)) (fun _ _ _ h => h) (Or.inl ⟨by rfl, ?_⟩) ?_ ?_
            rotate_left
            · intro w'
              go_simp
              with_reducible rfl
            rotate_left
            · simp only [Act.put, List.setIfInBounds_toArray, List.set_cons_zero, List.set_cons_succ, i64_w, i32_w]
              rfl
            refine pure_ (i := 2) (N := some 14) (v := ?_) (a' := ?_) #[true, true, true, false, false, false, false, false] rfl rfl (any_of HT_.out (by kernel_rfl)) (fun _ _ _ h => h) (Or.inl ⟨by rfl, ?_⟩) ?_ ?_
            rotate_left
            · intro w'
              go_simp
              with_reducible rfl
            rotate_left
            · simp only [Act.put, List.setIfInBounds_toArray, List.set_cons_zero, List.set_cons_succ, i64_w, i32_w]
              rfl
            refine pure_ (i := 3) (N := some 15) (v := ?_) (a' := ?_) #[true, true, true, true, false, false, false, false] rfl rfl (any_of HT_.out (by kernel_rfl)) (fun _ _ _ h => h) (Or.inl ⟨by rfl, ?_⟩) ?_ ?_
            rotate_left
            · intro w'
              go_simp
              with_reducible rfl
            rotate_left
            · simp only [Act.put, List.setIfInBounds_toArray, List.set_cons_zero, List.set_cons_succ, i64_w, i32_w]
              rfl
            refine pure_ (i := 5) (N := some 17) (v := ?_) (a' := ?_) #[true, true, true, true, false, true, false, false] rfl rfl (any_of HT_.out (by kernel_rfl)) (fun _ _ _ h => h) (Or.inl ⟨by rfl, ?_⟩) ?_ ?_
            rotate_left
            · intro w'
              go_simp
              with_reducible rfl
            rotate_left
            · simp only [Act.put, List.setIfInBounds_toArray, List.set_cons_zero, List.set_cons_succ, i64_w, i32_w]
              rfl
            refine take_ (i := 4) (N := some 16) (v := ?_) (a' := ?_) #[true, true, true, true, true, true, false, false] rfl rfl (take_ofW HT_.out HW_.out (by kernel_rfl)) (fun _ _ _ h => h) (Or.inl ⟨by rfl, ?_⟩) hHeld ?_ ?_
            rotate_left
            · rintro w' ⟨s0, s1, s2⟩
              go_simp
              with_reducible rfl
            rotate_left
            · simp only [Act.put, List.setIfInBounds_toArray, List.set_cons_zero, List.set_cons_succ, i64_w, i32_w]
              rfl
            refine one_ (i := 6) (N := some 18) #[true, true, true, true, true, true, true, false] rfl rfl (one_of HT_.out (by kernel_rfl)) (by decide) (fun K hK => ?_)
            refine goes_ Try.func74 (by kernel_rfl) rfl #[.int .i64 x1_1] (by rfl) rfl rfl (by (try simp only [List.map_toArray, List.map_cons, List.map_nil]); first | done | rfl | (simp only [List.length_drop, List.length_take]; rfl)) ?_
            with_reducible refine (laws_markText.calls k1 x1_1 t193 _ A5.out).mono ?_
            rintro e w16 ⟨rfl, hb⟩
            refine ⟨_, rfl, ?_⟩
            have n0_ := Aside0.mk (below_step (by repeat (first | (with_reducible first | exact HB.out | apply below_alloc | apply pw_below_drewN | apply below_drew1) | exact HB.out)) hb)
            clear HB
            have HB := n0_
            clear n0_
            (try clear hb)
            (try clear hb2)
            (try clear hk)
            (try clear hi)
            refine hK.out _ _ ⟨((HB.out.cell (World.block_lt_of_cell? w _ hw192_0)).trans hw192_0), ((HB.out.cell (World.block_lt_of_cell? w _ hw192_1)).trans hw192_1), ((HB.out.cell (World.block_lt_of_cell? w _ hw192_2)).trans hw192_2)⟩ (fun hHeld => ?_)
            clear hK K
            refine norm_ (a' := ?_) ?_ ?_
            rotate_left
            · show Act.put _ (some 18) _ = _
              simp only [Act.put, List.setIfInBounds_toArray, List.set_cons_zero, List.set_cons_succ, i64_w, i32_w]
              rfl
            refine pure_ (i := 7) (N := some 19) (v := ?_) (a' := ?_) #[true, true, true, true, true, true, true, true] rfl rfl (any_of HT_.out (by kernel_rfl)) (fun _ _ _ h => h) (Or.inl ⟨by rfl, ?_⟩) ?_ ?_
            rotate_left
            · intro w'
              go_simp
              with_reducible rfl
            rotate_left
            · simp only [Act.put, List.setIfInBounds_toArray, List.set_cons_zero, List.set_cons_succ, i64_w, i32_w]
              rfl
            refine done_ (done_of HT_.out (by kernel_rfl)) ?_
            try go_wp2
            go_ret
            exact ⟨by first | rfl | (simp [errW_none, errW_some] <;> rfl) | (simp [*, errW_none, errW_some] <;> rfl), by repeat (first | (with_reducible first | exact HB.out | apply below_alloc | apply pw_below_drewN | apply below_drew1) | exact HB.out)⟩
        · rw [if_neg c4] at H
          exact absurd H (by simp)
      · rw [if_neg c3] at H
        have c3b0 : decide (x5_1 < (l0.length : Int)) = false := decide_eq_false c3
        clear c3
        obtain rfl := Option.some.inj H
        go_wp2
        go_ret
        exact ⟨by first | rfl | (simp [errW_none, errW_some] <;> rfl) | (simp [*, errW_none, errW_some] <;> rfl), by repeat (first | (with_reducible first | exact HB.out | apply below_alloc | apply pw_below_drewN | apply below_drew1) | exact HB.out)⟩

/-! ### laws_FnExactPack: function 12 -/
/-! ### FnExactPack, whole -/
theorem drawn_below {w w' : World} (h : Drawn0 w w') : Below w.heap.size w w' := by
  obtain ⟨n, rfl⟩ := h.out
  exact pw_below_drewN (Below.refl _ _) n
def Stg (_ : Nat) : Prop := True
theorem heap71 : Kd.Heap k71 := Kd.heap_iso _ (Kd.heap_pair Kd.heap_string (Kd.heap_pair (Kd.heap_int .i64) (Kd.heap_int .i64)))
theorem stage_a {W wc wk : World} {A : Option Addr} {g : List S71} {α : Type} {d : Kd α} {e : Nat} {v : Value} {t : List α} (hW : W.heap.size ≤ wc.heap.size) (hC : k71.C wc A g.length g) (hS : d.R e wk wc.heap.size (fun _ => True) v t) (hb : Below wc.heap.size wc wk) :
    ∃ N1, (W.heap.size ≤ N1 ∧ N1 ≤ wk.heap.size) ∧ Kd.F k71 wk (fun j => j < N1) A g.length g ∧ d.R e wk W.heap.size (fun j => N1 ≤ j) v t :=
  ⟨wc.heap.size, ⟨hW, hb.size⟩, Kd.F_below (Kd.C_F heap71 hC) hb, Kd.R_mono (Kd.R_lower (Kd.R_bound hS) hW) (fun _ hj => hj.2.1)⟩
theorem stage_b {W wc wk : World} {N : Nat} {α : Type} {d : Kd α} {e : Nat} {v : Value} {g : List α} (hW : W.heap.size ≤ wc.heap.size) (hN : N ≤ wc.heap.size) (hR : d.R e wk wc.heap.size (fun _ => True) v g) : d.R e wk W.heap.size (fun j => N ≤ j) v g :=
  Kd.R_mono (Kd.R_lower (Kd.R_bound hR) hW) (fun _ hj => Nat.le_trans hN hj.2.1)
theorem stage_c {wc wk : World} {N1 N4 B : Nat} {α : Type} {d : Kd α} {e : Nat} {v : Value} {g : List α} (hX : d.R e wc B (fun j => N1 ≤ j) v g) (hb : Below wc.heap.size wc wk) (hN : N4 = wc.heap.size) : d.R e wk B (fun j => N1 ≤ j ∧ j < N4) v g :=
  Kd.R_below (Kd.R_mono (Kd.R_bound hX) (fun _ hj => ⟨hj.1, by rw [hN]; exact hj.2.2.1⟩)) hb
theorem size_of {wc wk : World} (_h : Below wc.heap.size wc wk) : ∃ N, N = wc.heap.size := ⟨_, rfl⟩
theorem heldN (k : Nat) (A : Option Addr) (n c : Nat) (l : List S71) (a1 r : Int) (w : World) (hn : n = l.length) (hr : Kd.C k71 w A l.length l) (hc : n ≤ c) (h : laws_heldAssetS.f k l a1 = some r) :
    Calls Try.prog 53 #[.slice A n c, .int .i64 a1] w fun e w' => e = .returned (.int .i64 r) ∧ Below w.heap.size w w' := by
  subst hn
  exact laws_heldAssetS.calls k A c l a1 r w hr hc h
/-- What the law's parts come to where it is not out of bounds. -/
def Fine (k : Nat) (l0 : List ByteArray) (l1 : List (List Int)) : Prop := ∃ t0 t1 g b m g2, laws_toStringS.f k l0 = some t0 ∧ laws_toByteSS.f k l1 = some t1 ∧ spec_Pack.f k t0 t1 = some (g, b) ∧ impl_Pack.f k t0 t1 = some (g, b) ∧
  laws_eqAssetS.f k g g = some true ∧ laws_eqStringS.f k t0 t0 = some true ∧ laws_eqByteSS.f k t1 t1 = some true ∧ t0.length ≤ 1048576 ∧ t1.length ≤ 1048576 ∧ (∀ x ∈ t1, x.length ≤ 1048576) ∧
  laws_markAssetS.f k g 1 = some (m, g2) ∧ laws_heldAssetS.f k g2 1 = some m ∧ 0 ≤ m ∧ ∀ a : Int, 0 ≤ a → a ≤ 9000000000000 → ∃ s, laws_markText.f k a = some s
open Classical in
noncomputable def laws_FnExactPack.f (k : Nat) (l0 : List ByteArray) (l1 : List (List Int)) : Option Bool := (laws_szStringS.f k l0 1048576).bind fun s => if s < 0 then some true else (laws_szByteSS.f k l1 s).bind fun s => if s < 0 then some true else if Fine k l0 l1 then some true else none
set_option maxHeartbeats 8000000 in
set_option maxRecDepth 100000 in
theorem laws_FnExactPack.calls (k : Nat) (A0 : Option Addr) (c0 : Nat) (l0 : List ByteArray) (A1 : Option Addr) (c1 : Nat) (l1 : List (List Int)) (r : Bool) (w : World) (hr0 : Kd.C Kd.string w A0 l0.length l0) (hc0 : l0.length ≤ c0) (hr1 : Kd.C (Kd.slice 5 (Kd.int .u8)) w A1 l1.length l1) (hc1 : l1.length ≤ c1) (h : laws_FnExactPack.f k l0 l1 = some r) :
    Calls Try.prog 12 #[.slice A0 l0.length c0, .slice A1 l1.length c1] w fun e w' => e = .returned (.bool r) ∧ Below w.heap.size w w' := by
  have HR0 := Aside0.mk hr0
  have HC0 := Aside0.mk hc0
  have HR1 := Aside0.mk hr1
  have HC1 := Aside0.mk hc1
  have HB := Aside0.mk (Below.refl w.heap.size w)
  have HSTG : Aside0 (Stg 0) := ⟨trivial⟩
  clear hr0 hc0 hr1 hc1
  unfold laws_FnExactPack.f at h
  cases hs : laws_szStringS.f k l0 1048576 with
  | none => rw [hs] at h; cases h
  | some s0 =>
    rw [hs] at h
    simp only [Option.bind_some] at h
    have HS0 := Aside0.mk hs
    clear hs
    by_cases hneg : s0 < 0
    · rw [if_pos hneg] at h
      obtain rfl := Option.some.inj h
      have d0 : decide (s0 < 0) = true := decide_eq_true hneg
      clear h hneg
      go_enter Try.func12, Try.ntmps12
      go_wp2_with (first | (go_at_call 38; (with_reducible have t_ : Aside0 (Stg 0) := HSTG); clear t_; (with_reducible refine (laws_szStringS.calls k A0 c0 l0 1048576 s0 _ ?z0 HC0.out HS0.out).mono ?_); (case z0 => exact Kd.C_below HR0.out (by repeat (first | (with_reducible first | exact HB.out | apply below_alloc | apply pw_below_drewN | apply below_drew1) | exact HB.out))); rintro e wk_ ⟨rfl, hd_⟩; have hb_ := drawn_below hd_; clear hd_; have n1_ := Aside0.mk (below_step (by repeat (first | (with_reducible first | exact HB.out | apply below_alloc | apply pw_below_drewN | apply below_drew1) | exact HB.out)) hb_); clear HB; have HB := n1_; clear n1_; clear hb_; clear HSTG; have HSTG : Aside0 (Stg 1) := ⟨trivial⟩))
      go_ret
      exact ⟨rfl, (by repeat (first | (with_reducible first | exact HB.out | apply below_alloc | apply pw_below_drewN | apply below_drew1) | exact HB.out))⟩
    · rw [if_neg hneg] at h
      have d0 : decide (s0 < 0) = false := decide_eq_false hneg
      clear hneg
      cases hs : laws_szByteSS.f k l1 s0 with
      | none => rw [hs] at h; cases h
      | some s1 =>
        rw [hs] at h
        simp only [Option.bind_some] at h
        have HS1 := Aside0.mk hs
        clear hs
        by_cases hneg : s1 < 0
        · rw [if_pos hneg] at h
          obtain rfl := Option.some.inj h
          have d1 : decide (s1 < 0) = true := decide_eq_true hneg
          clear h hneg
          go_enter Try.func12, Try.ntmps12
          go_wp2_with (first | (go_at_call 38; (with_reducible have t_ : Aside0 (Stg 0) := HSTG); clear t_; (with_reducible refine (laws_szStringS.calls k A0 c0 l0 1048576 s0 _ ?z0 HC0.out HS0.out).mono ?_); (case z0 => exact Kd.C_below HR0.out (by repeat (first | (with_reducible first | exact HB.out | apply below_alloc | apply pw_below_drewN | apply below_drew1) | exact HB.out))); rintro e wk_ ⟨rfl, hd_⟩; have hb_ := drawn_below hd_; clear hd_; have n1_ := Aside0.mk (below_step (by repeat (first | (with_reducible first | exact HB.out | apply below_alloc | apply pw_below_drewN | apply below_drew1) | exact HB.out)) hb_); clear HB; have HB := n1_; clear n1_; clear hb_; clear HSTG; have HSTG : Aside0 (Stg 1) := ⟨trivial⟩) | (go_at_call 39; (with_reducible have t_ : Aside0 (Stg 1) := HSTG); clear t_; (with_reducible refine (laws_szByteSS.calls k A1 c1 l1 s0 s1 _ ?z1 HC1.out HS1.out).mono ?_); (case z1 => exact Kd.C_below HR1.out (by repeat (first | (with_reducible first | exact HB.out | apply below_alloc | apply pw_below_drewN | apply below_drew1) | exact HB.out))); rintro e wk_ ⟨rfl, hd_⟩; have hb_ := drawn_below hd_; clear hd_; have n1_ := Aside0.mk (below_step (by repeat (first | (with_reducible first | exact HB.out | apply below_alloc | apply pw_below_drewN | apply below_drew1) | exact HB.out)) hb_); clear HB; have HB := n1_; clear n1_; clear hb_; clear HSTG; have HSTG : Aside0 (Stg 2) := ⟨trivial⟩))
          go_ret
          exact ⟨rfl, (by repeat (first | (with_reducible first | exact HB.out | apply below_alloc | apply pw_below_drewN | apply below_drew1) | exact HB.out))⟩
        · rw [if_neg hneg] at h
          have d1 : decide (s1 < 0) = false := decide_eq_false hneg
          clear hneg
          by_cases hf : Fine k l0 l1
          · rw [if_pos hf] at h
            obtain rfl := Option.some.inj h
            clear h
            obtain ⟨t0, t1, g, b, m, g2, ht0, ht1, hsp, him, heq, he0, he1, hl0, hl1, hl3, hmk, hhd, hm0, htx⟩ := hf
            have HT0 := Aside0.mk ht0
            have HT1 := Aside0.mk ht1
            have HSP := Aside0.mk hsp
            have HIM := Aside0.mk him
            have HEQ := Aside0.mk heq
            have HE0 := Aside0.mk he0
            have HE1 := Aside0.mk he1
            have HLT0 := Aside0.mk hl0
            have HLT1 := Aside0.mk hl1
            have HLX3 := Aside0.mk hl3
            have HMK := Aside0.mk hmk
            have HHD := Aside0.mk hhd
            have HTX := Aside0.mk htx
            have dm : decide (m < 0) = false := decide_eq_false (by omega)
            have db : (b != b) = false := by simp
            clear ht0 ht1 hsp him heq he0 he1 hl0 hl1 hl3 hmk hhd hm0 htx
            go_enter Try.func12, Try.ntmps12
            go_wp2_with (first | (go_at_call 38; (with_reducible have t_ : Aside0 (Stg 0) := HSTG); clear t_; (with_reducible refine (laws_szStringS.calls k A0 c0 l0 1048576 s0 _ ?z0 HC0.out HS0.out).mono ?_); (case z0 => exact Kd.C_below HR0.out (by repeat (first | (with_reducible first | exact HB.out | apply below_alloc | apply pw_below_drewN | apply below_drew1) | exact HB.out))); rintro e wk_ ⟨rfl, hd_⟩; have hb_ := drawn_below hd_; clear hd_; have n1_ := Aside0.mk (below_step (by repeat (first | (with_reducible first | exact HB.out | apply below_alloc | apply pw_below_drewN | apply below_drew1) | exact HB.out)) hb_); clear HB; have HB := n1_; clear n1_; clear hb_; clear HSTG; have HSTG : Aside0 (Stg 1) := ⟨trivial⟩) | (go_at_call 39; (with_reducible have t_ : Aside0 (Stg 1) := HSTG); clear t_; (with_reducible refine (laws_szByteSS.calls k A1 c1 l1 s0 s1 _ ?z1 HC1.out HS1.out).mono ?_); (case z1 => exact Kd.C_below HR1.out (by repeat (first | (with_reducible first | exact HB.out | apply below_alloc | apply pw_below_drewN | apply below_drew1) | exact HB.out))); rintro e wk_ ⟨rfl, hd_⟩; have hb_ := drawn_below hd_; clear hd_; have n1_ := Aside0.mk (below_step (by repeat (first | (with_reducible first | exact HB.out | apply below_alloc | apply pw_below_drewN | apply below_drew1) | exact HB.out)) hb_); clear HB; have HB := n1_; clear n1_; clear hb_; clear HSTG; have HSTG : Aside0 (Stg 2) := ⟨trivial⟩) | (go_at_call 41; (with_reducible have t_ : Aside0 (Stg 2) := HSTG); clear t_; (with_reducible refine (laws_toStringS.calls k A0 c0 l0 t0 _ ?to2 HC0.out HT0.out).mono ?_); (case to2 => exact Kd.C_below HR0.out (by repeat (first | (with_reducible first | exact HB.out | apply below_alloc | apply pw_below_drewN | apply below_drew1) | exact HB.out))); rintro e wk_ ⟨v_, rfl, hs_, hb_⟩; obtain ⟨Ap0, cp0, rfl, hc_, hC_⟩ := Kd.R_reads (hs_); have Hp0 := Aside0.mk hC_; have Lp0 := Aside0.mk hc_; clear hc_ hC_ hs_; have n1_ := Aside0.mk (below_step (by repeat (first | (with_reducible first | exact HB.out | apply below_alloc | apply pw_below_drewN | apply below_drew1) | exact HB.out)) hb_); clear HB; have HB := n1_; clear n1_; clear hb_; clear HSTG; have HSTG : Aside0 (Stg 3) := ⟨trivial⟩) | (go_at_call 42; (with_reducible have t_ : Aside0 (Stg 3) := HSTG); clear t_; (with_reducible refine (laws_toByteSS.calls k A1 c1 l1 t1 _ ?to3 HC1.out HT1.out).mono ?_); (case to3 => exact Kd.C_below HR1.out (by repeat (first | (with_reducible first | exact HB.out | apply below_alloc | apply pw_below_drewN | apply below_drew1) | exact HB.out))); rintro e wk_ ⟨v_, rfl, hs_, hb_⟩; obtain ⟨Ap1, cp1, rfl, hc_, hC_⟩ := Kd.R_reads (Kd.S_R hs_); have Hp1 := Aside0.mk hC_; have Lp1 := Aside0.mk hc_; clear hc_ hC_ hs_; have n1_ := Aside0.mk (below_step (by repeat (first | (with_reducible first | exact HB.out | apply below_alloc | apply pw_below_drewN | apply below_drew1) | exact HB.out)) hb_); clear HB; have HB := n1_; clear n1_; have n1_ := Aside0.mk (Kd.C_below (Kd.C_below Hp0.out (by repeat (first | exact Below.refl _ _ | apply pw_below_drewN | apply below_drew1))) hb_); clear Hp0; have Hp0 := n1_; clear n1_; clear hb_; clear HSTG; have HSTG : Aside0 (Stg 4) := ⟨trivial⟩) | (go_at_call 51; (with_reducible have t_ : Aside0 (Stg 4) := HSTG); clear t_; (with_reducible refine (spec_Pack.calls k Ap0 cp0 t0 Ap1 cp1 t1 g b _ ?v04 Lp0.out ?v14 Lp1.out HSP.out).mono ?_); (case v04 => exact Kd.C_below Hp0.out (by repeat (first | exact Below.refl _ _ | apply pw_below_drewN | apply below_drew1))); (case v14 => exact Kd.C_below Hp1.out (by repeat (first | exact Below.refl _ _ | apply pw_below_drewN | apply below_drew1))); rintro e wk_ ⟨v_, rfl, hw_, hb_⟩; obtain ⟨AW, cW, rfl, hc_, hC_⟩ := Kd.R_reads hw_; have HCW := Aside0.mk hC_; have HLW := Aside0.mk hc_; clear hc_ hC_ hw_; have n1_ := Aside0.mk (below_step (by repeat (first | (with_reducible first | exact HB.out | apply below_alloc | apply pw_below_drewN | apply below_drew1) | exact HB.out)) hb_); clear HB; have HB := n1_; clear n1_; clear hb_; clear HSTG; have HSTG : Aside0 (Stg 5) := ⟨trivial⟩) | (go_at_call 41; (with_reducible have t_ : Aside0 (Stg 5) := HSTG); clear t_; (with_reducible refine (laws_toStringS.calls k A0 c0 l0 t0 _ ?to5 HC0.out HT0.out).mono ?_); (case to5 => exact Kd.C_below HR0.out (by repeat (first | (with_reducible first | exact HB.out | apply below_alloc | apply pw_below_drewN | apply below_drew1) | exact HB.out))); rintro e wk_ ⟨v_, rfl, hs_, hb_⟩; obtain ⟨N1, hN0, hF, hX⟩ := stage_a (W := w) (Below.size (by repeat (first | (with_reducible first | exact HB.out | apply below_alloc | apply pw_below_drewN | apply below_drew1) | exact HB.out))) (Kd.C_below HCW.out (by repeat (first | exact Below.refl _ _ | apply pw_below_drewN | apply below_drew1))) (Kd.R_lower hs_ (Nat.le_refl _)) hb_; obtain ⟨AX0, cX0, rfl, hc_, _⟩ := Kd.R_reads hX; have HX0 := Aside0.mk hX; have HLX0 := Aside0.mk hc_; have HWF := Aside0.mk hF; have HN0 := Aside0.mk hN0.1; have HN1 := Aside0.mk hN0.2; clear hN0 hF hX hc_ HCW hs_; have n1_ := Aside0.mk (below_step (by repeat (first | (with_reducible first | exact HB.out | apply below_alloc | apply pw_below_drewN | apply below_drew1) | exact HB.out)) hb_); clear HB; have HB := n1_; clear n1_ hb_; clear HSTG; have HSTG : Aside0 (Stg 6) := ⟨trivial⟩) | (go_at_call 42; (with_reducible have t_ : Aside0 (Stg 6) := HSTG); clear t_; (with_reducible refine (laws_toByteSS.calls k A1 c1 l1 t1 _ ?to6 HC1.out HT1.out).mono ?_); (case to6 => exact Kd.C_below HR1.out (by repeat (first | (with_reducible first | exact HB.out | apply below_alloc | apply pw_below_drewN | apply below_drew1) | exact HB.out))); rintro e wk_ ⟨v_, rfl, hs_, hb_⟩; have hX := stage_b (W := w) (Below.size (by repeat (first | (with_reducible first | exact HB.out | apply below_alloc | apply pw_below_drewN | apply below_drew1) | exact HB.out))) (Nat.le_trans HN1.out (Below.size (B := 0) (by repeat (first | exact Below.refl _ _ | apply pw_below_drewN | apply below_drew1)))) (Kd.S_R hs_); obtain ⟨AX1, cX1, rfl, hc_, _⟩ := Kd.R_reads hX; have HX1 := Aside0.mk hX; have HLX1 := Aside0.mk hc_; have hn_ := Aside0.mk (Nat.le_trans HN1.out (Nat.le_trans (Below.size (B := 0) (by repeat (first | exact Below.refl _ _ | apply pw_below_drewN | apply below_drew1))) hb_.size)); clear HN1; have HN1 := hn_; clear hX hc_ hs_ hn_; have n1_ := Aside0.mk (below_step (by repeat (first | (with_reducible first | exact HB.out | apply below_alloc | apply pw_below_drewN | apply below_drew1) | exact HB.out)) hb_); clear HB; have HB := n1_; clear n1_; have n1_ := Aside0.mk (Kd.F_below (Kd.F_below HWF.out (by repeat (first | exact Below.refl _ _ | apply pw_below_drewN | apply below_drew1))) hb_); clear HWF; have HWF := n1_; clear n1_; have n1_ := Aside0.mk (Kd.R_below (Kd.R_below HX0.out (by repeat (first | exact Below.refl _ _ | apply pw_below_drewN | apply below_drew1))) hb_); clear HX0; have HX0 := n1_; clear n1_; clear hb_; clear HSTG; have HSTG : Aside0 (Stg 7) := ⟨trivial⟩) | (go_at_call 50; (with_reducible have t_ : Aside0 (Stg 7) := HSTG); clear t_; (with_reducible refine (impl_Pack.calls k AX0 cX0 t0 AX1 cX1 t1 g b _ ?v07 HLX0.out ?v17 HLX1.out HIM.out).mono ?_); (case v07 => exact Kd.C_below (Kd.R_reads' HX0.out).2.2 (by repeat (first | exact Below.refl _ _ | apply pw_below_drewN | apply below_drew1))); (case v17 => exact Kd.C_below (Kd.R_reads' HX1.out).2.2 (by repeat (first | exact Below.refl _ _ | apply pw_below_drewN | apply below_drew1))); rintro e wk_ ⟨v_, rfl, hw_, hb_⟩; obtain ⟨N4, hN4⟩ := size_of hb_; have hG := stage_b (W := w) (Below.size (by repeat (first | (with_reducible first | exact HB.out | apply below_alloc | apply pw_below_drewN | apply below_drew1) | exact HB.out))) (Nat.le_of_eq hN4) hw_; obtain ⟨AG, cG, rfl, hc_, _⟩ := Kd.R_reads hw_; have HG := Aside0.mk hG; have HLG := Aside0.mk hc_; have n_ := Aside0.mk (stage_c (Kd.R_below HX0.out (by repeat (first | exact Below.refl _ _ | apply pw_below_drewN | apply below_drew1))) hb_ hN4); clear HX0; have HX0 := n_; clear n_; have n_ := Aside0.mk (stage_c (Kd.R_below HX1.out (by repeat (first | exact Below.refl _ _ | apply pw_below_drewN | apply below_drew1))) hb_ hN4); clear HX1; have HX1 := n_; clear n_; have HN4 := Aside0.mk (Nat.le_trans HN1.out (Nat.le_trans (Below.size (B := 0) (by repeat (first | exact Below.refl _ _ | apply pw_below_drewN | apply below_drew1))) (Nat.le_of_eq hN4.symm))); clear hN4 hG hc_ hw_; have n1_ := Aside0.mk (below_step (by repeat (first | (with_reducible first | exact HB.out | apply below_alloc | apply pw_below_drewN | apply below_drew1) | exact HB.out)) hb_); clear HB; have HB := n1_; clear n1_; have n1_ := Aside0.mk (Kd.F_below (Kd.F_below HWF.out (by repeat (first | exact Below.refl _ _ | apply pw_below_drewN | apply below_drew1))) hb_); clear HWF; have HWF := n1_; clear n1_ hb_; clear HSTG; have HSTG : Aside0 (Stg 8) := ⟨trivial⟩) | (go_at_call 28; (with_reducible have t_ : Aside0 (Stg 8) := HSTG); clear t_; (with_reducible refine (laws_eqAssetS.calls k AG cG g AW cW g true _ ?q08 HLG.out ?q18 HLW.out HEQ.out).mono ?_); (case q08 => exact Kd.C_below (Kd.R_reads' HG.out).2.2 (by repeat (first | exact Below.refl _ _ | apply pw_below_drewN | apply below_drew1))); (case q18 => exact Kd.C_below (Kd.F_now HWF.out) (by repeat (first | exact Below.refl _ _ | apply pw_below_drewN | apply below_drew1))); rintro e wk_ ⟨rfl, hb_⟩; have n1_ := Aside0.mk (below_step (by repeat (first | (with_reducible first | exact HB.out | apply below_alloc | apply pw_below_drewN | apply below_drew1) | exact HB.out)) hb_); clear HB; have HB := n1_; clear n1_; have n1_ := Aside0.mk (Kd.F_below (Kd.F_below HWF.out (by repeat (first | exact Below.refl _ _ | apply pw_below_drewN | apply below_drew1))) hb_); clear HWF; have HWF := n1_; clear n1_; have n1_ := Aside0.mk (Kd.R_below (Kd.R_below HX0.out (by repeat (first | exact Below.refl _ _ | apply pw_below_drewN | apply below_drew1))) hb_); clear HX0; have HX0 := n1_; clear n1_; have n1_ := Aside0.mk (Kd.R_below (Kd.R_below HX1.out (by repeat (first | exact Below.refl _ _ | apply pw_below_drewN | apply below_drew1))) hb_); clear HX1; have HX1 := n1_; clear n1_; have n1_ := Aside0.mk (Kd.R_below (Kd.R_below HG.out (by repeat (first | exact Below.refl _ _ | apply pw_below_drewN | apply below_drew1))) hb_); clear HG; have HG := n1_; clear n1_; clear hb_; clear HSTG; have HSTG : Aside0 (Stg 9) := ⟨trivial⟩) | (go_at_call 41; (with_reducible have t_ : Aside0 (Stg 9) := HSTG); clear t_; (with_reducible refine (laws_toStringS.calls k A0 c0 l0 t0 _ ?to9 HC0.out HT0.out).mono ?_); (case to9 => exact Kd.C_below HR0.out (by repeat (first | (with_reducible first | exact HB.out | apply below_alloc | apply pw_below_drewN | apply below_drew1) | exact HB.out))); rintro e wk_ ⟨v_, rfl, hs_, hb_⟩; obtain ⟨Aq0, cq0, rfl, hc_, hC_⟩ := Kd.R_reads (hs_); have Hq0 := Aside0.mk hC_; have Lq0 := Aside0.mk hc_; clear hc_ hC_ hs_; have n1_ := Aside0.mk (below_step (by repeat (first | (with_reducible first | exact HB.out | apply below_alloc | apply pw_below_drewN | apply below_drew1) | exact HB.out)) hb_); clear HB; have HB := n1_; clear n1_; have n1_ := Aside0.mk (Kd.F_below (Kd.F_below HWF.out (by repeat (first | exact Below.refl _ _ | apply pw_below_drewN | apply below_drew1))) hb_); clear HWF; have HWF := n1_; clear n1_; have n1_ := Aside0.mk (Kd.R_below (Kd.R_below HX0.out (by repeat (first | exact Below.refl _ _ | apply pw_below_drewN | apply below_drew1))) hb_); clear HX0; have HX0 := n1_; clear n1_; have n1_ := Aside0.mk (Kd.R_below (Kd.R_below HX1.out (by repeat (first | exact Below.refl _ _ | apply pw_below_drewN | apply below_drew1))) hb_); clear HX1; have HX1 := n1_; clear n1_; have n1_ := Aside0.mk (Kd.R_below (Kd.R_below HG.out (by repeat (first | exact Below.refl _ _ | apply pw_below_drewN | apply below_drew1))) hb_); clear HG; have HG := n1_; clear n1_; clear hb_; clear HSTG; have HSTG : Aside0 (Stg 10) := ⟨trivial⟩) | (go_at_call 33; (with_reducible have t_ : Aside0 (Stg 10) := HSTG); clear t_; (with_reducible refine (laws_eqStringS.calls k AX0 cX0 t0 Aq0 cq0 t0 true _ ?q010 HLX0.out ?q110 Lq0.out HE0.out).mono ?_); (case q010 => exact Kd.C_below (Kd.R_reads' HX0.out).2.2 (by repeat (first | exact Below.refl _ _ | apply pw_below_drewN | apply below_drew1))); (case q110 => exact Kd.C_below Hq0.out (by repeat (first | exact Below.refl _ _ | apply pw_below_drewN | apply below_drew1))); rintro e wk_ ⟨rfl, hd_⟩; have hb_ := drawn_below hd_; clear hd_; have n1_ := Aside0.mk (below_step (by repeat (first | (with_reducible first | exact HB.out | apply below_alloc | apply pw_below_drewN | apply below_drew1) | exact HB.out)) hb_); clear HB; have HB := n1_; clear n1_; have n1_ := Aside0.mk (Kd.F_below (Kd.F_below HWF.out (by repeat (first | exact Below.refl _ _ | apply pw_below_drewN | apply below_drew1))) hb_); clear HWF; have HWF := n1_; clear n1_; have n1_ := Aside0.mk (Kd.R_below (Kd.R_below HX0.out (by repeat (first | exact Below.refl _ _ | apply pw_below_drewN | apply below_drew1))) hb_); clear HX0; have HX0 := n1_; clear n1_; have n1_ := Aside0.mk (Kd.R_below (Kd.R_below HX1.out (by repeat (first | exact Below.refl _ _ | apply pw_below_drewN | apply below_drew1))) hb_); clear HX1; have HX1 := n1_; clear n1_; have n1_ := Aside0.mk (Kd.R_below (Kd.R_below HG.out (by repeat (first | exact Below.refl _ _ | apply pw_below_drewN | apply below_drew1))) hb_); clear HG; have HG := n1_; clear n1_; have n1_ := Aside0.mk (Kd.C_below (Kd.C_below Hq0.out (by repeat (first | exact Below.refl _ _ | apply pw_below_drewN | apply below_drew1))) hb_); clear Hq0; have Hq0 := n1_; clear n1_; clear hb_; clear HSTG; have HSTG : Aside0 (Stg 11) := ⟨trivial⟩) | (go_at_call 42; (with_reducible have t_ : Aside0 (Stg 11) := HSTG); clear t_; (with_reducible refine (laws_toByteSS.calls k A1 c1 l1 t1 _ ?to11 HC1.out HT1.out).mono ?_); (case to11 => exact Kd.C_below HR1.out (by repeat (first | (with_reducible first | exact HB.out | apply below_alloc | apply pw_below_drewN | apply below_drew1) | exact HB.out))); rintro e wk_ ⟨v_, rfl, hs_, hb_⟩; obtain ⟨Aq1, cq1, rfl, hc_, hC_⟩ := Kd.R_reads (Kd.S_R hs_); have Hq1 := Aside0.mk hC_; have Lq1 := Aside0.mk hc_; clear hc_ hC_ hs_; have n1_ := Aside0.mk (below_step (by repeat (first | (with_reducible first | exact HB.out | apply below_alloc | apply pw_below_drewN | apply below_drew1) | exact HB.out)) hb_); clear HB; have HB := n1_; clear n1_; have n1_ := Aside0.mk (Kd.F_below (Kd.F_below HWF.out (by repeat (first | exact Below.refl _ _ | apply pw_below_drewN | apply below_drew1))) hb_); clear HWF; have HWF := n1_; clear n1_; have n1_ := Aside0.mk (Kd.R_below (Kd.R_below HX0.out (by repeat (first | exact Below.refl _ _ | apply pw_below_drewN | apply below_drew1))) hb_); clear HX0; have HX0 := n1_; clear n1_; have n1_ := Aside0.mk (Kd.R_below (Kd.R_below HX1.out (by repeat (first | exact Below.refl _ _ | apply pw_below_drewN | apply below_drew1))) hb_); clear HX1; have HX1 := n1_; clear n1_; have n1_ := Aside0.mk (Kd.R_below (Kd.R_below HG.out (by repeat (first | exact Below.refl _ _ | apply pw_below_drewN | apply below_drew1))) hb_); clear HG; have HG := n1_; clear n1_; clear hb_; clear HSTG; have HSTG : Aside0 (Stg 12) := ⟨trivial⟩) | (go_at_call 45; (with_reducible have t_ : Aside0 (Stg 12) := HSTG); clear t_; (with_reducible refine (laws_eqByteSS.calls k AX1 cX1 t1 Aq1 cq1 t1 true _ ?q012 HLX1.out ?q112 Lq1.out HE1.out).mono ?_); (case q012 => exact Kd.C_below (Kd.R_reads' HX1.out).2.2 (by repeat (first | exact Below.refl _ _ | apply pw_below_drewN | apply below_drew1))); (case q112 => exact Kd.C_below Hq1.out (by repeat (first | exact Below.refl _ _ | apply pw_below_drewN | apply below_drew1))); rintro e wk_ ⟨rfl, hd_⟩; have hb_ := drawn_below hd_; clear hd_; have n1_ := Aside0.mk (below_step (by repeat (first | (with_reducible first | exact HB.out | apply below_alloc | apply pw_below_drewN | apply below_drew1) | exact HB.out)) hb_); clear HB; have HB := n1_; clear n1_; have n1_ := Aside0.mk (Kd.F_below (Kd.F_below HWF.out (by repeat (first | exact Below.refl _ _ | apply pw_below_drewN | apply below_drew1))) hb_); clear HWF; have HWF := n1_; clear n1_; have n1_ := Aside0.mk (Kd.R_below (Kd.R_below HX0.out (by repeat (first | exact Below.refl _ _ | apply pw_below_drewN | apply below_drew1))) hb_); clear HX0; have HX0 := n1_; clear n1_; have n1_ := Aside0.mk (Kd.R_below (Kd.R_below HX1.out (by repeat (first | exact Below.refl _ _ | apply pw_below_drewN | apply below_drew1))) hb_); clear HX1; have HX1 := n1_; clear n1_; have n1_ := Aside0.mk (Kd.R_below (Kd.R_below HG.out (by repeat (first | exact Below.refl _ _ | apply pw_below_drewN | apply below_drew1))) hb_); clear HG; have HG := n1_; clear n1_; have n1_ := Aside0.mk (Kd.C_below (Kd.C_below Hq1.out (by repeat (first | exact Below.refl _ _ | apply pw_below_drewN | apply below_drew1))) hb_); clear Hq1; have Hq1 := n1_; clear n1_; clear hb_; clear HSTG; have HSTG : Aside0 (Stg 13) := ⟨trivial⟩) | (go_at_call 35; (with_reducible have t_ : Aside0 (Stg 13) := HSTG); clear t_; (with_reducible refine (mark_strings (fun j => N1 ≤ j ∧ j < N4) k HTX.out AX0 t0.length cX0 1 w _ ?b13 ?s13 ?r13 ?n13).mono ?_); (case b13 => exact (by repeat (first | (with_reducible first | exact HB.out | apply below_alloc | apply pw_below_drewN | apply below_drew1) | exact HB.out))); (case s13 => exact fun j hj => Nat.le_trans HN0.out hj.1); (case r13 => exact RowS.of_R (Kd.R_below HX0.out (by repeat (first | exact Below.refl _ _ | apply pw_below_drewN | apply below_drew1))) (fun _ hj => hj)); (case n13 => exact ⟨by omega, by omega, HLT0.out⟩); rintro e wk_ ⟨rfl, ha_, hb_⟩; have HX1b := Aside0.mk ((RowR.of_R (Kd.R_below HX1.out (by repeat (first | exact Below.refl _ _ | apply pw_below_drewN | apply below_drew1))) (fun _ hj => hj) HLX3.out).alk ha_); have n1_ := Aside0.mk hb_; have n2_ := Aside0.mk (Kd.F_kept (Kd.F_below HWF.out (by repeat (first | exact Below.refl _ _ | apply pw_below_drewN | apply below_drew1))) ha_.kept (fun j h1 h2 => by have := h2.1; omega)); have n3_ := Aside0.mk (Kd.R_kept (Kd.R_below HG.out (by repeat (first | exact Below.refl _ _ | apply pw_below_drewN | apply below_drew1))) ha_.kept (fun j h1 h2 => by have := h2.2; omega)); clear HB HWF HG; have HB := n1_; have HWF := n2_; have HG := n3_; clear n1_ n2_ n3_; clear ha_ hb_; clear HSTG; have HSTG : Aside0 (Stg 14) := ⟨trivial⟩) | (go_at_call 46; (with_reducible have t_ : Aside0 (Stg 14) := HSTG); clear t_; (with_reducible refine (mark_rows (fun j => N1 ≤ j ∧ j < N4) AX1 t1.length cX1 _ w _ ?b14 ?s14 ?r14 ?n14).mono ?_); (case b14 => exact (by repeat (first | (with_reducible first | exact HB.out | apply below_alloc | apply pw_below_drewN | apply below_drew1) | exact HB.out))); (case s14 => exact fun j hj => Nat.le_trans HN0.out hj.1); (case r14 => exact HX1b.out); (case n14 => exact ⟨by omega, by have := HLT0.out; omega, HLT1.out⟩); rintro e wk_ ⟨⟨km_, rfl, hk0_⟩, ha_, hb_⟩; have dk_ : decide (km_ < 0) = false := decide_eq_false (by omega); have n1_ := Aside0.mk hb_; have n2_ := Aside0.mk (Kd.F_kept (Kd.F_below HWF.out (by repeat (first | exact Below.refl _ _ | apply pw_below_drewN | apply below_drew1))) ha_.kept (fun j h1 h2 => by have := h2.1; omega)); have n3_ := Aside0.mk (Kd.R_kept (Kd.R_below HG.out (by repeat (first | exact Below.refl _ _ | apply pw_below_drewN | apply below_drew1))) ha_.kept (fun j h1 h2 => by have := h2.2; omega)); clear HB HWF HG; have HB := n1_; have HWF := n2_; have HG := n3_; clear n1_ n2_ n3_; clear ha_ hb_ hk0_; clear HSTG; have HSTG : Aside0 (Stg 15) := ⟨trivial⟩) | (go_at_call 28; (with_reducible have t_ : Aside0 (Stg 15) := HSTG); clear t_; (with_reducible refine (laws_eqAssetS.calls k AG cG g AW cW g true _ ?q015 HLG.out ?q115 HLW.out HEQ.out).mono ?_); (case q015 => exact Kd.C_below (Kd.R_reads' HG.out).2.2 (by repeat (first | exact Below.refl _ _ | apply pw_below_drewN | apply below_drew1))); (case q115 => exact Kd.C_below (Kd.F_now HWF.out) (by repeat (first | exact Below.refl _ _ | apply pw_below_drewN | apply below_drew1))); rintro e wk_ ⟨rfl, hb_⟩; have n1_ := Aside0.mk (below_step (by repeat (first | (with_reducible first | exact HB.out | apply below_alloc | apply pw_below_drewN | apply below_drew1) | exact HB.out)) hb_); clear HB; have HB := n1_; clear n1_; have n1_ := Aside0.mk (Kd.F_below (Kd.F_below HWF.out (by repeat (first | exact Below.refl _ _ | apply pw_below_drewN | apply below_drew1))) hb_); clear HWF; have HWF := n1_; clear n1_; have n1_ := Aside0.mk (Kd.R_below (Kd.R_below HG.out (by repeat (first | exact Below.refl _ _ | apply pw_below_drewN | apply below_drew1))) hb_); clear HG; have HG := n1_; clear n1_; clear hb_; clear HSTG; have HSTG : Aside0 (Stg 16) := ⟨trivial⟩) | (go_at_call 34; (with_reducible have t_ : Aside0 (Stg 16) := HSTG); clear t_; (with_reducible refine (laws_markAssetS.calls k (fun j => N4 ≤ j) (.slice AG g.length cG) g 1 m g2 w _ ?b16 ?r16 HMK.out).mono ?_); (case b16 => exact (by repeat (first | (with_reducible first | exact HB.out | apply below_alloc | apply pw_below_drewN | apply below_drew1) | exact HB.out))); (case r16 => exact Kd.R_below HG.out (by repeat (first | exact Below.refl _ _ | apply pw_below_drewN | apply below_drew1))); rintro e wk_ ⟨rfl, hg_, hb_, hk_⟩; have n1_ := Aside0.mk hb_; have n2_ := Aside0.mk (Kd.F_kept (Kd.F_below HWF.out (by repeat (first | exact Below.refl _ _ | apply pw_below_drewN | apply below_drew1))) hk_ (fun j h1 h2 => by have := HN4.out; omega)); have HG2 := Aside0.mk (Kd.R_reads' hg_).1; have n3_ := Aside0.mk hg_; clear HB HWF HG hb_ hg_ hk_; have HB := n1_; have HWF := n2_; have HG := n3_; clear n1_ n2_ n3_; clear HSTG; have HSTG : Aside0 (Stg 17) := ⟨trivial⟩) | (go_at_call 53; (with_reducible have t_ : Aside0 (Stg 17) := HSTG); clear t_; (with_reducible refine (heldN k AG g.length cG g2 1 m _ HG2.out ?h17 HLG.out HHD.out).mono ?_); (case h17 => exact Kd.C_below (Kd.R_reads' HG.out).2.2 (by repeat (first | exact Below.refl _ _ | apply pw_below_drewN | apply below_drew1))); rintro e wk_ ⟨rfl, hb_⟩; have n1_ := Aside0.mk (below_step (by repeat (first | (with_reducible first | exact HB.out | apply below_alloc | apply pw_below_drewN | apply below_drew1) | exact HB.out)) hb_); clear HB; have HB := n1_; clear n1_; have n1_ := Aside0.mk (Kd.F_below (Kd.F_below HWF.out (by repeat (first | exact Below.refl _ _ | apply pw_below_drewN | apply below_drew1))) hb_); clear HWF; have HWF := n1_; clear n1_; have n1_ := Aside0.mk (Kd.R_below (Kd.R_below HG.out (by repeat (first | exact Below.refl _ _ | apply pw_below_drewN | apply below_drew1))) hb_); clear HG; have HG := n1_; clear n1_; clear hb_; clear HSTG; have HSTG : Aside0 (Stg 18) := ⟨trivial⟩) | (go_at_call 41; (with_reducible have t_ : Aside0 (Stg 18) := HSTG); clear t_; (with_reducible refine (laws_toStringS.calls k A0 c0 l0 t0 _ ?to18 HC0.out HT0.out).mono ?_); (case to18 => exact Kd.C_below HR0.out (by repeat (first | (with_reducible first | exact HB.out | apply below_alloc | apply pw_below_drewN | apply below_drew1) | exact HB.out))); rintro e wk_ ⟨v_, rfl, hs_, hb_⟩; obtain ⟨Ar0, cr0, rfl, hc_, hC_⟩ := Kd.R_reads (hs_); have Hr0 := Aside0.mk hC_; have Lr0 := Aside0.mk hc_; clear hc_ hC_ hs_; have n1_ := Aside0.mk (below_step (by repeat (first | (with_reducible first | exact HB.out | apply below_alloc | apply pw_below_drewN | apply below_drew1) | exact HB.out)) hb_); clear HB; have HB := n1_; clear n1_; have n1_ := Aside0.mk (Kd.F_below (Kd.F_below HWF.out (by repeat (first | exact Below.refl _ _ | apply pw_below_drewN | apply below_drew1))) hb_); clear HWF; have HWF := n1_; clear n1_; have n1_ := Aside0.mk (Kd.R_below (Kd.R_below HG.out (by repeat (first | exact Below.refl _ _ | apply pw_below_drewN | apply below_drew1))) hb_); clear HG; have HG := n1_; clear n1_; clear hb_; clear HSTG; have HSTG : Aside0 (Stg 19) := ⟨trivial⟩) | (go_at_call 42; (with_reducible have t_ : Aside0 (Stg 19) := HSTG); clear t_; (with_reducible refine (laws_toByteSS.calls k A1 c1 l1 t1 _ ?to19 HC1.out HT1.out).mono ?_); (case to19 => exact Kd.C_below HR1.out (by repeat (first | (with_reducible first | exact HB.out | apply below_alloc | apply pw_below_drewN | apply below_drew1) | exact HB.out))); rintro e wk_ ⟨v_, rfl, hs_, hb_⟩; obtain ⟨Ar1, cr1, rfl, hc_, hC_⟩ := Kd.R_reads (Kd.S_R hs_); have Hr1 := Aside0.mk hC_; have Lr1 := Aside0.mk hc_; clear hc_ hC_ hs_; have n1_ := Aside0.mk (below_step (by repeat (first | (with_reducible first | exact HB.out | apply below_alloc | apply pw_below_drewN | apply below_drew1) | exact HB.out)) hb_); clear HB; have HB := n1_; clear n1_; have n1_ := Aside0.mk (Kd.F_below (Kd.F_below HWF.out (by repeat (first | exact Below.refl _ _ | apply pw_below_drewN | apply below_drew1))) hb_); clear HWF; have HWF := n1_; clear n1_; have n1_ := Aside0.mk (Kd.R_below (Kd.R_below HG.out (by repeat (first | exact Below.refl _ _ | apply pw_below_drewN | apply below_drew1))) hb_); clear HG; have HG := n1_; clear n1_; have n1_ := Aside0.mk (Kd.C_below (Kd.C_below Hr0.out (by repeat (first | exact Below.refl _ _ | apply pw_below_drewN | apply below_drew1))) hb_); clear Hr0; have Hr0 := n1_; clear n1_; clear hb_; clear HSTG; have HSTG : Aside0 (Stg 20) := ⟨trivial⟩) | (go_at_call 50; (with_reducible have t_ : Aside0 (Stg 20) := HSTG); clear t_; (with_reducible refine (impl_Pack.calls k Ar0 cr0 t0 Ar1 cr1 t1 g b _ ?v020 Lr0.out ?v120 Lr1.out HIM.out).mono ?_); (case v020 => exact Kd.C_below Hr0.out (by repeat (first | exact Below.refl _ _ | apply pw_below_drewN | apply below_drew1))); (case v120 => exact Kd.C_below Hr1.out (by repeat (first | exact Below.refl _ _ | apply pw_below_drewN | apply below_drew1))); rintro e wk_ ⟨v_, rfl, hw_, hb_⟩; obtain ⟨AH, cH, rfl, hc_, hC_⟩ := Kd.R_reads hw_; have HCH := Aside0.mk hC_; have HLH := Aside0.mk hc_; clear hc_ hC_ hw_; have n1_ := Aside0.mk (below_step (by repeat (first | (with_reducible first | exact HB.out | apply below_alloc | apply pw_below_drewN | apply below_drew1) | exact HB.out)) hb_); clear HB; have HB := n1_; clear n1_; have n1_ := Aside0.mk (Kd.F_below (Kd.F_below HWF.out (by repeat (first | exact Below.refl _ _ | apply pw_below_drewN | apply below_drew1))) hb_); clear HWF; have HWF := n1_; clear n1_; have n1_ := Aside0.mk (Kd.R_below (Kd.R_below HG.out (by repeat (first | exact Below.refl _ _ | apply pw_below_drewN | apply below_drew1))) hb_); clear HG; have HG := n1_; clear n1_; clear hb_; clear HSTG; have HSTG : Aside0 (Stg 21) := ⟨trivial⟩) | (go_at_call 28; (with_reducible have t_ : Aside0 (Stg 21) := HSTG); clear t_; (with_reducible refine (laws_eqAssetS.calls k AH cH g AW cW g true _ ?q021 HLH.out ?q121 HLW.out HEQ.out).mono ?_); (case q021 => exact Kd.C_below HCH.out (by repeat (first | exact Below.refl _ _ | apply pw_below_drewN | apply below_drew1))); (case q121 => exact Kd.C_below (Kd.F_now HWF.out) (by repeat (first | exact Below.refl _ _ | apply pw_below_drewN | apply below_drew1))); rintro e wk_ ⟨rfl, hb_⟩; have n1_ := Aside0.mk (below_step (by repeat (first | (with_reducible first | exact HB.out | apply below_alloc | apply pw_below_drewN | apply below_drew1) | exact HB.out)) hb_); clear HB; have HB := n1_; clear n1_; have n1_ := Aside0.mk (Kd.F_below (Kd.F_below HWF.out (by repeat (first | exact Below.refl _ _ | apply pw_below_drewN | apply below_drew1))) hb_); clear HWF; have HWF := n1_; clear n1_; have n1_ := Aside0.mk (Kd.R_below (Kd.R_below HG.out (by repeat (first | exact Below.refl _ _ | apply pw_below_drewN | apply below_drew1))) hb_); clear HG; have HG := n1_; clear n1_; have n1_ := Aside0.mk (Kd.C_below (Kd.C_below HCH.out (by repeat (first | exact Below.refl _ _ | apply pw_below_drewN | apply below_drew1))) hb_); clear HCH; have HCH := n1_; clear n1_; clear hb_; clear HSTG; have HSTG : Aside0 (Stg 22) := ⟨trivial⟩) | (go_at_call 53; (with_reducible have t_ : Aside0 (Stg 22) := HSTG); clear t_; (with_reducible refine (heldN k AG g.length cG g2 1 m _ HG2.out ?h22 HLG.out HHD.out).mono ?_); (case h22 => exact Kd.C_below (Kd.R_reads' HG.out).2.2 (by repeat (first | exact Below.refl _ _ | apply pw_below_drewN | apply below_drew1))); rintro e wk_ ⟨rfl, hb_⟩; have n1_ := Aside0.mk (below_step (by repeat (first | (with_reducible first | exact HB.out | apply below_alloc | apply pw_below_drewN | apply below_drew1) | exact HB.out)) hb_); clear HB; have HB := n1_; clear n1_; have n1_ := Aside0.mk (Kd.F_below (Kd.F_below HWF.out (by repeat (first | exact Below.refl _ _ | apply pw_below_drewN | apply below_drew1))) hb_); clear HWF; have HWF := n1_; clear n1_; have n1_ := Aside0.mk (Kd.R_below (Kd.R_below HG.out (by repeat (first | exact Below.refl _ _ | apply pw_below_drewN | apply below_drew1))) hb_); clear HG; have HG := n1_; clear n1_; have n1_ := Aside0.mk (Kd.C_below (Kd.C_below HCH.out (by repeat (first | exact Below.refl _ _ | apply pw_below_drewN | apply below_drew1))) hb_); clear HCH; have HCH := n1_; clear n1_; clear hb_; clear HSTG; have HSTG : Aside0 (Stg 23) := ⟨trivial⟩))
            go_ret
            exact ⟨rfl, (by repeat (first | (with_reducible first | exact HB.out | apply below_alloc | apply pw_below_drewN | apply below_drew1) | exact HB.out))⟩
          · rw [if_neg hf] at h
            cases h


end Go.Proofs.Ytelcpfanjjfgdaa.HFnExactPack
