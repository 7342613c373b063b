/-
  Walks of the sound functions: each comes to a plain function of doubles' worths.
  Conditions: none beyond what each theorem names.
-/
import Derived.Test.YtofiabjphjpglaaFlWalk0
namespace Go.Proofs.Ytofiabjphjpglaa.Fl
open Go.RowKit Go.Proofs.YtofiabjphjpglaaW.PrintWords Go.Proofs.YtofiabjphjpglaaW.PrintLast Go.Proofs.YtofiabjphjpglaaW.PrintMore
set_option linter.unusedVariables false
set_option linter.unusedSimpArgs false
def spec_Convolve.f (l0 l1 : List Fl) : Option (List Fl) := if l0.length ≤ 1048576 ∧ l1.length ≤ 1048576 then some (convF l0 l1) else none
set_option maxHeartbeats 4000000 in
set_option maxRecDepth 100000 in
theorem spec_Convolve.calls (A0 : Option Addr) (c0 : Nat) (l0 : List Fl) (A1 : Option Addr) (c1 : Nat) (l1 : List Fl) (r : List Fl) (w : World) (hr0 : Kd.C Kf w A0 l0.length l0) (hc0 : l0.length ≤ c0) (hr1 : Kd.C Kf w A1 l1.length l1) (hc1 : l1.length ≤ c1) (h : spec_Convolve.f l0 l1 = some r) :
    Calls Try.prog 19 #[.slice A0 l0.length c0, .slice A1 l1.length c1] w fun e w' => ∃ v0_ : Value, e = .returned v0_ ∧ Kd.R Kf 23 w' w.heap.size (fun _ => True) v0_ r ∧ Below w.heap.size w w' := by
  have HR0 := Aside0.mk hr0
  have HC0 := Aside0.mk hc0
  have HM0 := Aside0.mk hr0.2.1
  clear hr0 hc0
  have HR1 := Aside0.mk hr1
  have HC1 := Aside0.mk hc1
  have HM1 := Aside0.mk hr1.2.1
  clear hr1 hc1
  have HB := Aside0.mk (Below.refl w.heap.size w)
  unfold spec_Convolve.f at h
  by_cases hb : l0.length ≤ 1048576 ∧ l1.length ≤ 1048576
  · rw [if_pos hb] at h
    obtain rfl := Option.some.inj h
    clear h
    obtain ⟨hb0, hb1⟩ := hb
    by_cases z0 : l0.length = 0
    · have e0 : ((l0.length : Int) == 0) = true := by rw [beq_iff_eq]; omega
      rw [show convF l0 l1 = [] by unfold convF; rw [if_pos (by omega)]]
      go_enter Try.func19, Try.ntmps19
      go_wp2_with (first | ((with_reducible refine gate_dst (N := 11) rfl ?_); (try (refine gate_guard (by rfl) ?_; dsimp only)); refine Kd.R_lit Kf _ 23 ?hg (N := 11) ?hd (xs := ([] : List Fl)) (inner := []) (ok := fun _ => True) (okp := fun _ => True) ?hr ?hp (fun _ hk => hk) trivial (Below.refl _ _) (Nat.le_refl _) (by simp) ?_; (case hd => rfl); (case hg => rfl); (case hr => first | (go_simp; done) | (go_simp; rfl)); (case hp => exact (Reps.none _ _)); intro vl_ wl_ hol_ hbl_ hg_ hnew_; clear hg_ hnew_; have HO := Aside0.mk (Kd.R_lower hol_ (below_size (by repeat (first | (with_reducible first | exact HB.out | apply below_alloc | apply pw_below_drewN | apply below_drew1) | exact HB.out)))); have n1_ := Aside0.mk (below_step (by repeat (first | (with_reducible first | exact HB.out | apply below_alloc | apply pw_below_drewN | apply below_drew1) | exact HB.out)) hbl_); clear HB; have HB := n1_; clear n1_ hol_ hbl_))
      go_ret
      exact ⟨_, rfl, HO.out, (by repeat (first | (with_reducible first | exact HB.out | apply below_alloc | apply pw_below_drewN | apply below_drew1) | exact HB.out))⟩
    · have e0 : ((l0.length : Int) == 0) = false := by rw [beq_eq_false_iff_ne]; omega
      by_cases z1 : l1.length = 0
      · have e1 : ((l1.length : Int) == 0) = true := by rw [beq_iff_eq]; omega
        rw [show convF l0 l1 = [] by unfold convF; rw [if_pos (by omega)]]
        go_enter Try.func19, Try.ntmps19
        go_wp2_with (first | ((with_reducible refine gate_dst (N := 11) rfl ?_); (try (refine gate_guard (by rfl) ?_; dsimp only)); refine Kd.R_lit Kf _ 23 ?hg (N := 11) ?hd (xs := ([] : List Fl)) (inner := []) (ok := fun _ => True) (okp := fun _ => True) ?hr ?hp (fun _ hk => hk) trivial (Below.refl _ _) (Nat.le_refl _) (by simp) ?_; (case hd => rfl); (case hg => rfl); (case hr => first | (go_simp; done) | (go_simp; rfl)); (case hp => exact (Reps.none _ _)); intro vl_ wl_ hol_ hbl_ hg_ hnew_; clear hg_ hnew_; have HO := Aside0.mk (Kd.R_lower hol_ (below_size (by repeat (first | (with_reducible first | exact HB.out | apply below_alloc | apply pw_below_drewN | apply below_drew1) | exact HB.out)))); have n1_ := Aside0.mk (below_step (by repeat (first | (with_reducible first | exact HB.out | apply below_alloc | apply pw_below_drewN | apply below_drew1) | exact HB.out)) hbl_); clear HB; have HB := n1_; clear n1_ hol_ hbl_))
        go_ret
        exact ⟨_, rfl, HO.out, (by repeat (first | (with_reducible first | exact HB.out | apply below_alloc | apply pw_below_drewN | apply below_drew1) | exact HB.out))⟩
      · have e1 : ((l1.length : Int) == 0) = false := by rw [beq_eq_false_iff_ne]; omega
        by_cases z2 : 4096 < l0.length + l1.length - 1
        · have e2 : decide ((l0.length : Int) + (l1.length : Int) - 1 > 4096) = true := decide_eq_true (by omega)
          rw [show convF l0 l1 = [] by unfold convF; rw [if_pos (by omega)]]
          go_enter Try.func19, Try.ntmps19
          go_wp2_with (first | ((with_reducible refine gate_dst (N := 11) rfl ?_); (try (refine gate_guard (by rfl) ?_; dsimp only)); refine Kd.R_lit Kf _ 23 ?hg (N := 11) ?hd (xs := ([] : List Fl)) (inner := []) (ok := fun _ => True) (okp := fun _ => True) ?hr ?hp (fun _ hk => hk) trivial (Below.refl _ _) (Nat.le_refl _) (by simp) ?_; (case hd => rfl); (case hg => rfl); (case hr => first | (go_simp; done) | (go_simp; rfl)); (case hp => exact (Reps.none _ _)); intro vl_ wl_ hol_ hbl_ hg_ hnew_; clear hg_ hnew_; have HO := Aside0.mk (Kd.R_lower hol_ (below_size (by repeat (first | (with_reducible first | exact HB.out | apply below_alloc | apply pw_below_drewN | apply below_drew1) | exact HB.out)))); have n1_ := Aside0.mk (below_step (by repeat (first | (with_reducible first | exact HB.out | apply below_alloc | apply pw_below_drewN | apply below_drew1) | exact HB.out)) hbl_); clear HB; have HB := n1_; clear n1_ hol_ hbl_))
          go_ret
          exact ⟨_, rfl, HO.out, (by repeat (first | (with_reducible first | exact HB.out | apply below_alloc | apply pw_below_drewN | apply below_drew1) | exact HB.out))⟩
        · have e2 : decide ((l0.length : Int) + (l1.length : Int) - 1 > 4096) = false := decide_eq_false (by omega)
          rw [show convF l0 l1 = convG l0 l1 (l0.length + l1.length - 1) by unfold convF; rw [if_neg (by omega)]]
          obtain ⟨N, hN⟩ : ∃ N, N = l0.length + l1.length - 1 := ⟨_, rfl⟩
          rw [← hN]
          go_enter Try.func19, Try.ntmps19
          go_wp2_with (first | ((with_reducible refine gate_dst (N := 11) rfl ?_); (try (refine gate_guard (by rfl) ?_; dsimp only)); refine Kd.R_lit Kf _ 23 ?hg (N := 11) ?hd (xs := ([] : List Fl)) (inner := []) (ok := fun _ => True) (okp := fun _ => True) ?hr ?hp (fun _ hk => hk) trivial (Below.refl _ _) (Nat.le_refl _) (by simp) ?_; (case hd => rfl); (case hg => rfl); (case hr => first | (go_simp; done) | (go_simp; rfl)); (case hp => exact (Reps.none _ _)); intro vl_ wl_ hol_ hbl_ hg_ hnew_; clear hg_ hnew_; have HO := Aside0.mk (Kd.R_lower hol_ (below_size (by repeat (first | (with_reducible first | exact HB.out | apply below_alloc | apply pw_below_drewN | apply below_drew1) | exact HB.out)))); have n1_ := Aside0.mk (below_step (by repeat (first | (with_reducible first | exact HB.out | apply below_alloc | apply pw_below_drewN | apply below_drew1) | exact HB.out)) hbl_); clear HB; have HB := n1_; clear n1_ hol_ hbl_))
          go_loopg [5, 7] N (fun gg v5 v7 w' => ∃ i : Nat, Aside0 (i ≤ N ∧ N - i ≤ gg) ∧ v7 = .int .i64 (i : Int) ∧ Aside0 (Kd.R Kf 23 w' w.heap.size (fun _ => True) v5 (convG l0 l1 i)) ∧ Aside0 (Below w.heap.size w w'))
          case atStart => exact ⟨0, ⟨Nat.zero_le _, Nat.le_refl _⟩, rfl, HO, HB⟩
          case round =>
            clear HB HO
            obtain ⟨i, HI, rfl, HO, HB⟩ := hrel
            have hiN : i ≤ N := HI.out.1
            by_cases hi : i < N
            · have di : decide ((i : Int) < (l0.length : Int) + (l1.length : Int) - 1) = true := decide_eq_true (by omega)
              go_wp2
              go_loopg [8, 9] l1.length (fun gg v8 v9 w' => ∃ (k b : Nat), Aside0 (k ≤ l1.length ∧ l1.length - k ≤ gg) ∧ v9 = .int .i64 (k : Int) ∧ v8 = .float .f64 b ∧ Aside0 (cv b = convS l0 l1 i k) ∧ Aside0 (Kd.R Kf 23 w' w.heap.size (fun _ => True) u5 (convG l0 l1 i)) ∧ Aside0 (Below w.heap.size w w'))
              case atStart => exact ⟨0, 0, ⟨Nat.zero_le _, Nat.le_refl _⟩, rfl, rfl, ⟨rfl⟩, ⟨(by (with_reducible repeat (first | apply Kd.R_alloc | apply Kd.R_drewN | apply Kd.R_drew)); exact HO.out)⟩, ⟨(by repeat (first | (with_reducible first | exact HB.out | apply below_alloc | apply pw_below_drewN | apply below_drew1) | exact HB.out))⟩⟩
              case round =>
                clear HB HO
                obtain ⟨k, bs, HK, rfl, rfl, HS, HO, HB⟩ := hrel
                have hk0 : k ≤ l1.length := HK.out.1
                by_cases hk : k < l1.length
                · have dk : decide ((k : Int) < (l1.length : Int)) = true := decide_eq_true (by omega)
                  by_cases hik : k ≤ i
                  · have dik : decide (0 ≤ (i : Int) - (k : Int)) = true := decide_eq_true (by omega)
                    have dki : decide ((k : Int) ≤ (i : Int)) = true := decide_eq_true (by omega)
                    by_cases hil : i - k < l0.length
                    · have dil : decide ((i : Int) - (k : Int) < (l0.length : Int)) = true := decide_eq_true (by omega)
                      obtain ⟨ad, b, e, hx, hb⟩ := at_f HR1.out (k : Int) (by omega) (by omega)
                      cases e
                      replace hx := (HB.out.cell (World.block_lt_of_cell? w _ hx)).trans hx
                      obtain ⟨ad2, b2, e2, hx2, hb2⟩ := at_f HR0.out ((i : Int) - (k : Int)) (by omega) (by omega)
                      cases e2
                      replace hx2 := (HB.out.cell (World.block_lt_of_cell? w _ hx2)).trans hx2
                      simp only [Int.toNat_natCast] at hx
                      rw [show ((i : Int) - (k : Int)).toNat = i - k by omega] at hx2
                      have p0 : (0 ≤ (k : Int)) = True := eq_true (by omega)
                      have q0 : ((k : Int) < (l1.length : Int)) = True := eq_true (by omega)
                      have p1 : (0 ≤ (i : Int) - (k : Int)) = True := eq_true (by omega)
                      have q1 : ((i : Int) - (k : Int) < (l0.length : Int)) = True := eq_true (by omega)
                      have HV := Aside0.mk hb
                      have HV2 := Aside0.mk (show cv b2 = rf l0 ((i - k : Nat) : Int) by rw [hb2]; congr 1; omega)
                      have HSU := Aside0.mk (show convS l0 l1 i (k + 1) = fadd (convS l0 l1 i k) (fmul (rf l1 k) (rf l0 ((i - k : Nat) : Int))) by rw [convS, if_pos ⟨hik, hil⟩])
                      clear hb hb2
                      go_wp2
                      go_region
                      all_goals (go_wp2; go_roundg (l1.length - (k + 1)); (case measure => (have := HK.out; omega)); (case rel => exact ⟨k + 1, _, ⟨by omega, by omega⟩, by go_num, rfl, ⟨by rw [HSU.out, ← HV.out, ← HV2.out, ← HS.out]; simp only [cv_bits]⟩, ⟨(by (with_reducible repeat (first | apply Kd.R_alloc | apply Kd.R_drewN | apply Kd.R_drew)); exact HO.out)⟩, ⟨(by repeat (first | (with_reducible first | exact HB.out | apply below_alloc | apply pw_below_drewN | apply below_drew1) | exact HB.out))⟩⟩))
                    · have dil : decide ((i : Int) - (k : Int) < (l0.length : Int)) = false := decide_eq_false (by omega)
                      have HSU := Aside0.mk (show convS l0 l1 i (k + 1) = convS l0 l1 i k by rw [convS, if_neg (fun h => hil h.2)])
                      go_wp2
                      go_roundg (l1.length - (k + 1))
                      case measure => have := HK.out; omega
                      case rel => exact ⟨k + 1, _, ⟨by omega, by omega⟩, by go_num, rfl, ⟨by rw [HSU.out, HS.out]⟩, HO, HB⟩
                  · have dik : decide (0 ≤ (i : Int) - (k : Int)) = false := decide_eq_false (by omega)
                    have dki : decide ((k : Int) ≤ (i : Int)) = false := decide_eq_false (by omega)
                    have HSU := Aside0.mk (show convS l0 l1 i (k + 1) = convS l0 l1 i k by rw [convS, if_neg (fun h => hik h.1)])
                    go_wp2
                    go_roundg (l1.length - (k + 1))
                    case measure => have := HK.out; omega
                    case rel => exact ⟨k + 1, _, ⟨by omega, by omega⟩, by go_num, rfl, ⟨by rw [HSU.out, HS.out]⟩, HO, HB⟩
                · have dk : decide ((k : Int) < (l1.length : Int)) = false := decide_eq_false (by omega)
                  have hkk : k = l1.length := by omega
                  have HE := Aside0.mk (show cv bs = convS l0 l1 i l1.length by rw [HS.out, hkk])
                  clear hkk
                  go_wp2_with (first | ((with_reducible refine gate_builtin (b := .append) (xs := #[.tmp 68, .tmp 70]) rfl ?_); (try (refine gate_guard (by rfl) ?_; dsimp only)); at_builtin; refine Kd.R_append Kf (w0 := w) w.heap.size rfl (.tmp 68) (.tmp 70) 22 23 (.float .f64 0) 8 rfl Try.underlying22 finfo rfl (by decide) (by omega) u5 (convG l0 l1 i) (convS l0 l1 i l1.length) [_] (fun _ => True) (fun _ => False) rfl rfl ?aP (fun _ hk => hk.elim) ?aF ?aO ?aB ?aS ?aL ?_; (case aP => exact ⟨_, rfl, (by exact HE.out)⟩); (case aB => exact (by repeat (first | (with_reducible first | exact HB.out | apply below_alloc | apply pw_below_drewN | apply below_drew1) | exact HB.out))); (case aF => exact (fun _ _ => trivial)); (case aO => exact (by (with_reducible repeat (first | apply Kd.R_alloc | apply Kd.R_drewN | apply Kd.R_drew)); exact HO.out)); (case aS => exact (below_size (by repeat (first | (with_reducible first | exact HB.out | apply below_alloc | apply pw_below_drewN | apply below_drew1) | exact HB.out)))); (case aL => (rw [convG_len]; omega)); intro va_ wa_ hoa_ hba_ hg_ hat_; clear hg_ hat_; have n0_ := Aside0.mk hba_; have n1_ := Aside0.mk hoa_; clear HB HO; have HB := n0_; have HO := n1_; clear n0_ n1_ hoa_ hba_))
                  rw [← convG_succ] at HO
                  go_roundg (N - (i + 1))
                  case measure => have := HI.out; omega
                  case rel => exact ⟨i + 1, ⟨by omega, by omega⟩, by go_num, HO, HB⟩
            · have di : decide ((i : Int) < (l0.length : Int) + (l1.length : Int) - 1) = false := decide_eq_false (by omega)
              have hii : i = N := by omega
              subst hii
              go_wp2
              go_ret
              exact ⟨_, rfl, HO.out, HB.out⟩
  · rw [if_neg hb] at h
    cases h

def impl_Convolve.f (l0 l1 : List Fl) : Option (List Fl) := if l0.length ≤ 1048576 ∧ l1.length ≤ 1048576 then some (convF l0 l1) else none
set_option maxHeartbeats 4000000 in
set_option maxRecDepth 100000 in
theorem impl_Convolve.calls (A0 : Option Addr) (c0 : Nat) (l0 : List Fl) (A1 : Option Addr) (c1 : Nat) (l1 : List Fl) (r : List Fl) (w : World) (hr0 : Kd.C Kf w A0 l0.length l0) (hc0 : l0.length ≤ c0) (hr1 : Kd.C Kf w A1 l1.length l1) (hc1 : l1.length ≤ c1) (h : impl_Convolve.f l0 l1 = some r) :
    Calls Try.prog 20 #[.slice A0 l0.length c0, .slice A1 l1.length c1] w fun e w' => ∃ v0_ : Value, e = .returned v0_ ∧ Kd.R Kf 23 w' w.heap.size (fun _ => True) v0_ r ∧ Below w.heap.size w w' := by
  have HR0 := Aside0.mk hr0
  have HC0 := Aside0.mk hc0
  have HM0 := Aside0.mk hr0.2.1
  clear hr0 hc0
  have HR1 := Aside0.mk hr1
  have HC1 := Aside0.mk hc1
  have HM1 := Aside0.mk hr1.2.1
  clear hr1 hc1
  have HB := Aside0.mk (Below.refl w.heap.size w)
  unfold impl_Convolve.f at h
  by_cases hb : l0.length ≤ 1048576 ∧ l1.length ≤ 1048576
  · rw [if_pos hb] at h
    obtain rfl := Option.some.inj h
    clear h
    obtain ⟨hb0, hb1⟩ := hb
    by_cases z0 : l0.length = 0
    · have e0 : ((l0.length : Int) == 0) = true := by rw [beq_iff_eq]; omega
      rw [show convF l0 l1 = [] by unfold convF; rw [if_pos (by omega)]]
      go_enter Try.func20, Try.ntmps20
      go_wp2
      go_ret
      exact ⟨_, rfl, Kd.R_nil _ _ _ _ _, (by repeat (first | (with_reducible first | exact HB.out | apply below_alloc | apply pw_below_drewN | apply below_drew1) | exact HB.out))⟩
    · have e0 : ((l0.length : Int) == 0) = false := by rw [beq_eq_false_iff_ne]; omega
      by_cases z1 : l1.length = 0
      · have e1 : ((l1.length : Int) == 0) = true := by rw [beq_iff_eq]; omega
        rw [show convF l0 l1 = [] by unfold convF; rw [if_pos (by omega)]]
        go_enter Try.func20, Try.ntmps20
        go_wp2
        go_ret
        exact ⟨_, rfl, Kd.R_nil _ _ _ _ _, (by repeat (first | (with_reducible first | exact HB.out | apply below_alloc | apply pw_below_drewN | apply below_drew1) | exact HB.out))⟩
      · have e1 : ((l1.length : Int) == 0) = false := by rw [beq_eq_false_iff_ne]; omega
        by_cases z2 : 4096 < l0.length + l1.length - 1
        · have e2 : decide ((l0.length : Int) + (l1.length : Int) - 1 > 4096) = true := decide_eq_true (by omega)
          rw [show convF l0 l1 = [] by unfold convF; rw [if_pos (by omega)]]
          go_enter Try.func20, Try.ntmps20
          go_wp2
          go_ret
          exact ⟨_, rfl, Kd.R_nil _ _ _ _ _, (by repeat (first | (with_reducible first | exact HB.out | apply below_alloc | apply pw_below_drewN | apply below_drew1) | exact HB.out))⟩
        · have e2 : decide ((l0.length : Int) + (l1.length : Int) - 1 > 4096) = false := decide_eq_false (by omega)
          rw [show convF l0 l1 = convG l0 l1 (l0.length + l1.length - 1) by unfold convF; rw [if_neg (by omega)]]
          obtain ⟨N, hN⟩ : ∃ N, N = l0.length + l1.length - 1 := ⟨_, rfl⟩
          rw [← hN]
          go_enter Try.func20, Try.ntmps20
          go_wp2_with (first | ((with_reducible refine gate_dst (N := 26) rfl ?_); (try (refine gate_guard (by rfl) ?_; dsimp only)); refine Kd.R_lit Kf _ 23 ?hg (N := 26) ?hd (xs := ([] : List Fl)) (inner := []) (ok := fun _ => True) (okp := fun _ => True) ?hr ?hp (fun _ hk => hk) trivial (Below.refl _ _) (Nat.le_refl _) (by simp) ?_; (case hd => rfl); (case hg => rfl); (case hr => first | (go_simp; done) | (go_simp; rfl)); (case hp => exact (Reps.none _ _)); intro vl_ wl_ hol_ hbl_ hg_ hnew_; clear hg_ hnew_; have HO := Aside0.mk (Kd.R_lower hol_ (below_size (by repeat (first | (with_reducible first | exact HB.out | apply below_alloc | apply pw_below_drewN | apply below_drew1) | exact HB.out)))); have n1_ := Aside0.mk (below_step (by repeat (first | (with_reducible first | exact HB.out | apply below_alloc | apply pw_below_drewN | apply below_drew1) | exact HB.out)) hbl_); clear HB; have HB := n1_; clear n1_ hol_ hbl_))
          go_loopg [5, 33] N (fun gg v5 v33 w' => ∃ i : Nat, Aside0 (i ≤ N ∧ N - i ≤ gg) ∧ v33 = .int .i64 (i : Int) ∧ Aside0 (Kd.R Kf 23 w' w.heap.size (fun _ => True) v5 (convG l0 l1 i)) ∧ Aside0 (Below w.heap.size w w'))
          case atStart => exact ⟨0, ⟨Nat.zero_le _, Nat.le_refl _⟩, rfl, HO, HB⟩
          case round =>
            clear HB HO
            obtain ⟨i, HI, rfl, HO, HB⟩ := hrel
            have hiN : i ≤ N := HI.out.1
            by_cases hi : i < N
            · have di : decide ((i : Int) < (l0.length : Int) + (l1.length : Int) - 1) = true := decide_eq_true (by omega)
              obtain ⟨k0, hk0⟩ : ∃ k0 : Nat, k0 = i + 1 - l0.length := ⟨_, rfl⟩
              have hc0 : convS l0 l1 i k0 = zero := by
                rcases Nat.lt_or_ge (i + 1) l0.length with h | h
                · rw [show k0 = 0 by omega]; rfl
                · exact convS_low l0 l1 i k0 (by omega)
              by_cases hm : (0 : Int) < (i : Int) - (l0.length : Int) + 1
              · go_wp2
                go_loopg [7, 8] l1.length (fun gg v7 v8 w' => ∃ (k b : Nat), Aside0 (k0 ≤ k ∧ k ≤ l1.length ∧ k ≤ i + 1 ∧ l1.length - k ≤ gg) ∧ v8 = .int .i64 (k : Int) ∧ v7 = .float .f64 b ∧ Aside0 (cv b = convS l0 l1 i k) ∧ Aside0 (Kd.R Kf 23 w' w.heap.size (fun _ => True) u5 (convG l0 l1 i)) ∧ Aside0 (Below w.heap.size w w'))
                case atStart => exact ⟨k0, 0, ⟨Nat.le_refl _, by omega, by omega, by omega⟩, by first | rfl | (congr 1; omega), rfl, ⟨hc0.symm⟩, ⟨(by (with_reducible repeat (first | apply Kd.R_alloc | apply Kd.R_drewN | apply Kd.R_drew)); exact HO.out)⟩, ⟨(by repeat (first | (with_reducible first | exact HB.out | apply below_alloc | apply pw_below_drewN | apply below_drew1) | exact HB.out))⟩⟩
                case round =>
                  clear HB HO
                  obtain ⟨k, bs, HK, rfl, rfl, HS, HO, HB⟩ := hrel
                  have hk1 : k0 ≤ k := HK.out.1
                  have hk2 : k ≤ l1.length := HK.out.2.1
                  have hk3 : k ≤ i + 1 := HK.out.2.2.1
                  by_cases hk : k < l1.length
                  · have dk : decide ((k : Int) < (l1.length : Int)) = true := decide_eq_true (by omega)
                    by_cases hik : k ≤ i
                    · have dki : decide ((k : Int) ≤ (i : Int)) = true := decide_eq_true (by omega)
                      have hil : i - k < l0.length := by omega
                      obtain ⟨ad, b, e, hx, hb⟩ := at_f HR1.out (k : Int) (by omega) (by omega)
                      cases e
                      replace hx := (HB.out.cell (World.block_lt_of_cell? w _ hx)).trans hx
                      obtain ⟨ad2, b2, e2, hx2, hb2⟩ := at_f HR0.out ((i : Int) - (k : Int)) (by omega) (by omega)
                      cases e2
                      replace hx2 := (HB.out.cell (World.block_lt_of_cell? w _ hx2)).trans hx2
                      simp only [Int.toNat_natCast] at hx
                      rw [show ((i : Int) - (k : Int)).toNat = i - k by omega] at hx2
                      have p0 : (0 ≤ (k : Int)) = True := eq_true (by omega)
                      have q0 : ((k : Int) < (l1.length : Int)) = True := eq_true (by omega)
                      have p1 : (0 ≤ (i : Int) - (k : Int)) = True := eq_true (by omega)
                      have q1 : ((i : Int) - (k : Int) < (l0.length : Int)) = True := eq_true (by omega)
                      have HV := Aside0.mk hb
                      have HV2 := Aside0.mk (show cv b2 = rf l0 ((i - k : Nat) : Int) by rw [hb2]; congr 1; omega)
                      have HSU := Aside0.mk (show convS l0 l1 i (k + 1) = fadd (convS l0 l1 i k) (fmul (rf l1 k) (rf l0 ((i - k : Nat) : Int))) by rw [convS, if_pos ⟨hik, hil⟩])
                      clear hb hb2
                      go_wp2
                      go_region
                      all_goals (go_wp2; go_roundg (l1.length - (k + 1)); (case measure => (have := HK.out; omega)); (case rel => exact ⟨k + 1, _, ⟨by omega, by omega, by omega, by omega⟩, by go_num, rfl, ⟨by rw [HSU.out, ← HV.out, ← HV2.out, ← HS.out]; simp only [cv_bits]⟩, ⟨(by (with_reducible repeat (first | apply Kd.R_alloc | apply Kd.R_drewN | apply Kd.R_drew)); exact HO.out)⟩, ⟨(by repeat (first | (with_reducible first | exact HB.out | apply below_alloc | apply pw_below_drewN | apply below_drew1) | exact HB.out))⟩⟩))
                    · have dki : decide ((k : Int) ≤ (i : Int)) = false := decide_eq_false (by omega)
                      have HE := Aside0.mk (show cv bs = convS l0 l1 i l1.length by rw [HS.out, convS_high l0 l1 i k l1.length (by omega) hk2])
                      go_wp2_with (first | ((with_reducible refine gate_builtin (b := .append) (xs := #[.tmp 66, .tmp 68]) rfl ?_); (try (refine gate_guard (by rfl) ?_; dsimp only)); at_builtin; refine Kd.R_append Kf (w0 := w) w.heap.size rfl (.tmp 66) (.tmp 68) 22 23 (.float .f64 0) 8 rfl Try.underlying22 finfo rfl (by decide) (by omega) u5 (convG l0 l1 i) (convS l0 l1 i l1.length) [_] (fun _ => True) (fun _ => False) rfl rfl ?aP (fun _ hk => hk.elim) ?aF ?aO ?aB ?aS ?aL ?_; (case aP => exact ⟨_, rfl, (by exact HE.out)⟩); (case aB => exact (by repeat (first | (with_reducible first | exact HB.out | apply below_alloc | apply pw_below_drewN | apply below_drew1) | exact HB.out))); (case aF => exact (fun _ _ => trivial)); (case aO => exact (by (with_reducible repeat (first | apply Kd.R_alloc | apply Kd.R_drewN | apply Kd.R_drew)); exact HO.out)); (case aS => exact (below_size (by repeat (first | (with_reducible first | exact HB.out | apply below_alloc | apply pw_below_drewN | apply below_drew1) | exact HB.out)))); (case aL => (rw [convG_len]; omega)); intro va_ wa_ hoa_ hba_ hg_ hat_; clear hg_ hat_; have n0_ := Aside0.mk hba_; have n1_ := Aside0.mk hoa_; clear HB HO; have HB := n0_; have HO := n1_; clear n0_ n1_ hoa_ hba_))
                      rw [← convG_succ] at HO
                      go_roundg (N - (i + 1))
                      case measure => have := HI.out; omega
                      case rel => exact ⟨i + 1, ⟨by omega, by omega⟩, by go_num, HO, HB⟩
                  · have dk : decide ((k : Int) < (l1.length : Int)) = false := decide_eq_false (by omega)
                    have hkk : k = l1.length := by omega
                    have HE := Aside0.mk (show cv bs = convS l0 l1 i l1.length by rw [HS.out, hkk])
                    clear hkk
                    go_wp2_with (first | ((with_reducible refine gate_builtin (b := .append) (xs := #[.tmp 66, .tmp 68]) rfl ?_); (try (refine gate_guard (by rfl) ?_; dsimp only)); at_builtin; refine Kd.R_append Kf (w0 := w) w.heap.size rfl (.tmp 66) (.tmp 68) 22 23 (.float .f64 0) 8 rfl Try.underlying22 finfo rfl (by decide) (by omega) u5 (convG l0 l1 i) (convS l0 l1 i l1.length) [_] (fun _ => True) (fun _ => False) rfl rfl ?aP (fun _ hk => hk.elim) ?aF ?aO ?aB ?aS ?aL ?_; (case aP => exact ⟨_, rfl, (by exact HE.out)⟩); (case aB => exact (by repeat (first | (with_reducible first | exact HB.out | apply below_alloc | apply pw_below_drewN | apply below_drew1) | exact HB.out))); (case aF => exact (fun _ _ => trivial)); (case aO => exact (by (with_reducible repeat (first | apply Kd.R_alloc | apply Kd.R_drewN | apply Kd.R_drew)); exact HO.out)); (case aS => exact (below_size (by repeat (first | (with_reducible first | exact HB.out | apply below_alloc | apply pw_below_drewN | apply below_drew1) | exact HB.out)))); (case aL => (rw [convG_len]; omega)); intro va_ wa_ hoa_ hba_ hg_ hat_; clear hg_ hat_; have n0_ := Aside0.mk hba_; have n1_ := Aside0.mk hoa_; clear HB HO; have HB := n0_; have HO := n1_; clear n0_ n1_ hoa_ hba_))
                    rw [← convG_succ] at HO
                    go_roundg (N - (i + 1))
                    case measure => have := HI.out; omega
                    case rel => exact ⟨i + 1, ⟨by omega, by omega⟩, by go_num, HO, HB⟩
              · go_wp2
                go_loopg [7, 8] l1.length (fun gg v7 v8 w' => ∃ (k b : Nat), Aside0 (k0 ≤ k ∧ k ≤ l1.length ∧ k ≤ i + 1 ∧ l1.length - k ≤ gg) ∧ v8 = .int .i64 (k : Int) ∧ v7 = .float .f64 b ∧ Aside0 (cv b = convS l0 l1 i k) ∧ Aside0 (Kd.R Kf 23 w' w.heap.size (fun _ => True) u5 (convG l0 l1 i)) ∧ Aside0 (Below w.heap.size w w'))
                case atStart => exact ⟨k0, 0, ⟨Nat.le_refl _, by omega, by omega, by omega⟩, by first | rfl | (congr 1; omega), rfl, ⟨hc0.symm⟩, ⟨(by (with_reducible repeat (first | apply Kd.R_alloc | apply Kd.R_drewN | apply Kd.R_drew)); exact HO.out)⟩, ⟨(by repeat (first | (with_reducible first | exact HB.out | apply below_alloc | apply pw_below_drewN | apply below_drew1) | exact HB.out))⟩⟩
                case round =>
                  clear HB HO
                  obtain ⟨k, bs, HK, rfl, rfl, HS, HO, HB⟩ := hrel
                  have hk1 : k0 ≤ k := HK.out.1
                  have hk2 : k ≤ l1.length := HK.out.2.1
                  have hk3 : k ≤ i + 1 := HK.out.2.2.1
                  by_cases hk : k < l1.length
                  · have dk : decide ((k : Int) < (l1.length : Int)) = true := decide_eq_true (by omega)
                    by_cases hik : k ≤ i
                    · have dki : decide ((k : Int) ≤ (i : Int)) = true := decide_eq_true (by omega)
                      have hil : i - k < l0.length := by omega
                      obtain ⟨ad, b, e, hx, hb⟩ := at_f HR1.out (k : Int) (by omega) (by omega)
                      cases e
                      replace hx := (HB.out.cell (World.block_lt_of_cell? w _ hx)).trans hx
                      obtain ⟨ad2, b2, e2, hx2, hb2⟩ := at_f HR0.out ((i : Int) - (k : Int)) (by omega) (by omega)
                      cases e2
                      replace hx2 := (HB.out.cell (World.block_lt_of_cell? w _ hx2)).trans hx2
                      simp only [Int.toNat_natCast] at hx
                      rw [show ((i : Int) - (k : Int)).toNat = i - k by omega] at hx2
                      have p0 : (0 ≤ (k : Int)) = True := eq_true (by omega)
                      have q0 : ((k : Int) < (l1.length : Int)) = True := eq_true (by omega)
                      have p1 : (0 ≤ (i : Int) - (k : Int)) = True := eq_true (by omega)
                      have q1 : ((i : Int) - (k : Int) < (l0.length : Int)) = True := eq_true (by omega)
                      have HV := Aside0.mk hb
                      have HV2 := Aside0.mk (show cv b2 = rf l0 ((i - k : Nat) : Int) by rw [hb2]; congr 1; omega)
                      have HSU := Aside0.mk (show convS l0 l1 i (k + 1) = fadd (convS l0 l1 i k) (fmul (rf l1 k) (rf l0 ((i - k : Nat) : Int))) by rw [convS, if_pos ⟨hik, hil⟩])
                      clear hb hb2
                      go_wp2
                      go_region
                      all_goals (go_wp2; go_roundg (l1.length - (k + 1)); (case measure => (have := HK.out; omega)); (case rel => exact ⟨k + 1, _, ⟨by omega, by omega, by omega, by omega⟩, by go_num, rfl, ⟨by rw [HSU.out, ← HV.out, ← HV2.out, ← HS.out]; simp only [cv_bits]⟩, ⟨(by (with_reducible repeat (first | apply Kd.R_alloc | apply Kd.R_drewN | apply Kd.R_drew)); exact HO.out)⟩, ⟨(by repeat (first | (with_reducible first | exact HB.out | apply below_alloc | apply pw_below_drewN | apply below_drew1) | exact HB.out))⟩⟩))
                    · have dki : decide ((k : Int) ≤ (i : Int)) = false := decide_eq_false (by omega)
                      have HE := Aside0.mk (show cv bs = convS l0 l1 i l1.length by rw [HS.out, convS_high l0 l1 i k l1.length (by omega) hk2])
                      go_wp2_with (first | ((with_reducible refine gate_builtin (b := .append) (xs := #[.tmp 66, .tmp 68]) rfl ?_); (try (refine gate_guard (by rfl) ?_; dsimp only)); at_builtin; refine Kd.R_append Kf (w0 := w) w.heap.size rfl (.tmp 66) (.tmp 68) 22 23 (.float .f64 0) 8 rfl Try.underlying22 finfo rfl (by decide) (by omega) u5 (convG l0 l1 i) (convS l0 l1 i l1.length) [_] (fun _ => True) (fun _ => False) rfl rfl ?aP (fun _ hk => hk.elim) ?aF ?aO ?aB ?aS ?aL ?_; (case aP => exact ⟨_, rfl, (by exact HE.out)⟩); (case aB => exact (by repeat (first | (with_reducible first | exact HB.out | apply below_alloc | apply pw_below_drewN | apply below_drew1) | exact HB.out))); (case aF => exact (fun _ _ => trivial)); (case aO => exact (by (with_reducible repeat (first | apply Kd.R_alloc | apply Kd.R_drewN | apply Kd.R_drew)); exact HO.out)); (case aS => exact (below_size (by repeat (first | (with_reducible first | exact HB.out | apply below_alloc | apply pw_below_drewN | apply below_drew1) | exact HB.out)))); (case aL => (rw [convG_len]; omega)); intro va_ wa_ hoa_ hba_ hg_ hat_; clear hg_ hat_; have n0_ := Aside0.mk hba_; have n1_ := Aside0.mk hoa_; clear HB HO; have HB := n0_; have HO := n1_; clear n0_ n1_ hoa_ hba_))
                      rw [← convG_succ] at HO
                      go_roundg (N - (i + 1))
                      case measure => have := HI.out; omega
                      case rel => exact ⟨i + 1, ⟨by omega, by omega⟩, by go_num, HO, HB⟩
                  · have dk : decide ((k : Int) < (l1.length : Int)) = false := decide_eq_false (by omega)
                    have hkk : k = l1.length := by omega
                    have HE := Aside0.mk (show cv bs = convS l0 l1 i l1.length by rw [HS.out, hkk])
                    clear hkk
                    go_wp2_with (first | ((with_reducible refine gate_builtin (b := .append) (xs := #[.tmp 66, .tmp 68]) rfl ?_); (try (refine gate_guard (by rfl) ?_; dsimp only)); at_builtin; refine Kd.R_append Kf (w0 := w) w.heap.size rfl (.tmp 66) (.tmp 68) 22 23 (.float .f64 0) 8 rfl Try.underlying22 finfo rfl (by decide) (by omega) u5 (convG l0 l1 i) (convS l0 l1 i l1.length) [_] (fun _ => True) (fun _ => False) rfl rfl ?aP (fun _ hk => hk.elim) ?aF ?aO ?aB ?aS ?aL ?_; (case aP => exact ⟨_, rfl, (by exact HE.out)⟩); (case aB => exact (by repeat (first | (with_reducible first | exact HB.out | apply below_alloc | apply pw_below_drewN | apply below_drew1) | exact HB.out))); (case aF => exact (fun _ _ => trivial)); (case aO => exact (by (with_reducible repeat (first | apply Kd.R_alloc | apply Kd.R_drewN | apply Kd.R_drew)); exact HO.out)); (case aS => exact (below_size (by repeat (first | (with_reducible first | exact HB.out | apply below_alloc | apply pw_below_drewN | apply below_drew1) | exact HB.out)))); (case aL => (rw [convG_len]; omega)); intro va_ wa_ hoa_ hba_ hg_ hat_; clear hg_ hat_; have n0_ := Aside0.mk hba_; have n1_ := Aside0.mk hoa_; clear HB HO; have HB := n0_; have HO := n1_; clear n0_ n1_ hoa_ hba_))
                    rw [← convG_succ] at HO
                    go_roundg (N - (i + 1))
                    case measure => have := HI.out; omega
                    case rel => exact ⟨i + 1, ⟨by omega, by omega⟩, by go_num, HO, HB⟩
            · have di : decide ((i : Int) < (l0.length : Int) + (l1.length : Int) - 1) = false := decide_eq_false (by omega)
              have hii : i = N := by omega
              subst hii
              go_wp2
              go_ret
              exact ⟨_, rfl, HO.out, HB.out⟩
  · rw [if_neg hb] at h
    cases h

end Go.Proofs.Ytofiabjphjpglaa.Fl
