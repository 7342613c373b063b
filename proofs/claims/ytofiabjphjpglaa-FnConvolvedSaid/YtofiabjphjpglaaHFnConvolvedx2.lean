-- Laid by myprint.py, a program of this repo, out of the kit's printer and this repo's own texts (wip/hand).
import Derived.Test.YtofiabjphjpglaaHFnConvolvedx0
import Derived.Test.YtofiabjphjpglaaHFnConvolvedx1
namespace Go.Proofs.Ytofiabjphjpglaa.HFnConvolved
open Go.RowKit Go.Proofs.YtofiabjphjpglaaW.PrintWords Go.Proofs.YtofiabjphjpglaaW.PrintLast Go.Proofs.YtofiabjphjpglaaW.PrintMore Go.Proofs.Ytofiabjphjpglaa.Fl
attribute [local go_sem] max2_int min2_int max_two min_two max_three min_three max_four min_four   -- for this text's walks alone
set_option linter.unusedVariables false
set_option linter.unusedSimpArgs false

/-! ### laws_FnConvolved: function 10 -/
theorem conv_like (b : Nat) : opF .add zero (opF .mul one (cv b)) = opF .add (cv b) (some 0) := by
  have e1 : one = some 4607182418800017408 := cv_one
  have e0 : zero = some 0 := cv_zero
  rw [e1, e0]
  by_cases hb : isN b = true
  · have : cv b = none := by unfold cv; rw [if_pos hb]
    rw [this]; rfl
  · have hb' : isN b = false := by simpa using hb
    have hc : cv b = some b := by unfold cv; rw [hb']; rfl
    rw [hc]
    have h1 : opF .mul (some 4607182418800017408) (some b) = some (b % 18446744073709551616) := (opF_mul_comm _ _).trans (FA.mul_one_r b hb')
    rw [h1]
    refine (opF_add_comm _ _).trans ?_
    show Ieee.double.add (b % 18446744073709551616) 0 = Ieee.double.add b 0
    unfold Ieee.Format.add
    rw [FA.read_mod]
theorem zero_mul_fin {x : Fl} (h : opF .sub x x ≠ none) : opF .add zero (opF .mul zero x) = some 0 := by
  have e0 : zero = some 0 := cv_zero
  rw [e0]
  cases x with
  | none => exact absurd rfl h
  | some b =>
    obtain ⟨z, hz⟩ := Option.ne_none_iff_exists'.1 h
    obtain ⟨s, hs⟩ := FA.mul_zero_r b (FA.sub_self_fin b z hz)
    have h1 : opF .mul (some 0) (some b) = some (Ieee.double.word s 0) := (opF_mul_comm _ _).trans hs
    rw [h1]
    cases s <;> decide +kernel
theorem conv_eq {b1 b : Nat} (hb : cv b1 = opF .add (cv b) (some 0)) (hn : isN b = false) : FloatKind.f64.format.order b1 b = some .eq := by
  have hc : cv b = some b := by unfold cv; rw [hn]; rfl
  rw [hc] at hb
  obtain ⟨z, hz, ho⟩ := FA.add_zero_r b hn
  have h1 : cv b1 = some z := hb.trans hz
  obtain ⟨rfl, _⟩ := cv_some h1
  exact ho
theorem sub_nn {b : Nat} (h : opF .sub (cv b) (cv b) ≠ none) : isN b = false := by
  cases hb : isN b with
  | false => rfl
  | true => exact absurd (by unfold cv; rw [hb]; rfl) h
theorem conv1 (xs : List Fl) (h : 1 ≤ xs.length ∧ xs.length ≤ 100) : (convF xs [one]).length = xs.length ∧ ∀ i : Nat, i < xs.length → rf (convF xs [one]) i = opF .add zero (opF .mul one (rf xs i)) := by
  have e : convF xs [one] = convG xs [one] xs.length := by unfold convF; rw [if_neg (by simp only [List.length_cons, List.length_nil]; omega)]; simp
  rw [e]
  refine ⟨convG_len _ _ _, fun i hi => ?_⟩
  simp [convG, rf, List.getD_eq_getElem?_getD, List.getElem?_map, List.getElem?_range hi, convS, hi]
theorem conv2 (xs : List Fl) (h : 1 ≤ xs.length ∧ xs.length ≤ 100) : (convF xs [zero, one]).length = xs.length + 1 ∧ ∀ i : Nat, i < xs.length → rf (convF xs [zero, one]) ((i : Int) + 1) = opF .add (if i + 1 < xs.length then opF .add zero (opF .mul zero (rf xs ((i + 1 : Nat) : Int))) else zero) (opF .mul one (rf xs i)) := by
  have e : convF xs [zero, one] = convG xs [zero, one] (xs.length + 1) := by unfold convF; rw [if_neg (by simp only [List.length_cons, List.length_nil]; omega)]; simp
  rw [e]
  refine ⟨convG_len _ _ _, fun i hi => ?_⟩
  have e1 : ((i : Int) + 1).toNat = i + 1 := by omega
  unfold rf
  rw [e1]
  have hs : convS xs [zero, one] (i + 1) 2 = opF .add (if i + 1 < xs.length then opF .add zero (opF .mul zero (rf xs ((i + 1 : Nat) : Int))) else zero) (opF .mul one (rf xs i)) := by
    simp [convS, rf, hi]
  simp only [convG, List.getD_eq_getElem?_getD, List.getElem?_map, List.getElem?_range (show i + 1 < xs.length + 1 by omega), Option.map_some, Option.getD_some]
  exact hs.trans (by simp [rf, List.getD_eq_getElem?_getD])
theorem conv_f (xs ys : List Fl) (h1 : xs.length ≤ 4097) (h2 : ys.length ≤ 4097) : impl_Convolve.f xs ys = some (convF xs ys) := if_pos ⟨by omega, by omega⟩
theorem conv_sf (xs ys : List Fl) (h1 : xs.length ≤ 4097) (h2 : ys.length ≤ 4097) : spec_Convolve.f xs ys = some (convF xs ys) := if_pos ⟨by omega, by omega⟩
theorem conv_calls_n (AX : Option Addr) (cX : Nat) (xs : List Fl) (AZ : Option Addr) (cZ : Nat) (ys : List Fl) (n : Nat) (hn : ys.length = n) (r : List Fl) (w : World) (hr0 : Kd.C Kf w AX xs.length xs) (hc0 : xs.length ≤ cX) (hr1 : Kd.C Kf w AZ ys.length ys) (hc1 : ys.length ≤ cZ) (h : impl_Convolve.f xs ys = some r) :
    Calls Try.prog 20 #[.slice AX xs.length cX, .slice AZ n cZ] w fun e w' => ∃ v0_ : Value, e = .returned v0_ ∧ Kd.R Kf 23 w' w.heap.size (fun _ => True) v0_ r ∧ Below w.heap.size w w' := by
  subst hn
  exact impl_Convolve.calls AX cX xs AZ cZ ys r w hr0 hc0 hr1 hc1 h
theorem ways3 (n : Nat) : (((n : Int) == 0) = true) ∨ ((((n : Int) == 0) = false) ∧ decide ((n : Int) > 100) = true) ∨ ((((n : Int) == 0) = false) ∧ decide ((n : Int) > 100) = false ∧ Aside0 (1 ≤ n ∧ n ≤ 100)) := by
  by_cases h0 : n = 0
  · exact .inl (by simp [h0])
  · by_cases h1 : 100 < n
    · exact .inr (.inl ⟨by rw [beq_eq_false_iff_ne]; omega, decide_eq_true (by omega)⟩)
    · exact .inr (.inr ⟨by rw [beq_eq_false_iff_ne]; omega, decide_eq_false (by omega), ⟨by omega, by omega⟩⟩)
def laws_FnConvolved.f (l0 : List Int) : Option Bool := some true
set_option maxHeartbeats 4000000 in
set_option maxRecDepth 100000 in
theorem laws_FnConvolved.calls (A0 : Option Addr) (c0 : Nat) (l0 : List Int) (r : Bool) (w : World) (hr0 : Kd.C (Kd.int .u8) w A0 l0.length l0) (hc0 : l0.length ≤ c0) (h : laws_FnConvolved.f l0 = some r) :
    Calls Try.prog 10 #[.slice A0 l0.length c0] w fun e w' => e = .returned (.bool r) ∧ Below w.heap.size w w' := by
  obtain rfl := Option.some.inj h
  clear h
  have HR0 := Aside0.mk hr0
  have HC0 := Aside0.mk hc0
  clear hr0 hc0
  have HB := Aside0.mk (Below.refl w.heap.size w)
  by_cases hl : l0.length ≤ 4096
  · have d0 : decide ((l0.length : Int) > 4096) = false := decide_eq_false (by omega)
    have HL := Aside0.mk hl
    clear hl
    go_enter Try.func10, Try.ntmps10
    go_wp2_with (first | (go_at_call 30; (with_reducible refine (laws_big.calls A0 c0 l0 (decide ((l0.length : Int) > 4096)) _ HR0.out HC0.out rfl).mono ?_); rintro e wk_ ⟨rfl, ⟨nd_, rfl⟩⟩) | (go_at_call 33; (with_reducible refine (spec_DrawConvolve.calls A0 c0 l0 _ ?s1 HC0.out HL.out).mono ?_); (case s1 => exact Kd.C_below HR0.out (by repeat (first | exact Below.refl _ _ | apply below_alloc | apply pw_below_drewN | apply below_drew1))); rintro e wk_ ⟨AX, AY, cX, cY, xs, ys, rfl, ⟨hcx_, hx_, hlx_⟩, ⟨hcy_, hy_, hly_⟩, hb_⟩; have HX := Aside0.mk hx_; have HY := Aside0.mk hy_; have HLX := Aside0.mk hcx_; have HLY := Aside0.mk hcy_; have HMX := Aside0.mk hx_.2.1; have HX7 := Aside0.mk hlx_; have HY7 := Aside0.mk hly_; have n1_ := Aside0.mk (below_step (by repeat (first | (with_reducible first | exact HB.out | apply below_alloc | apply pw_below_drewN | apply below_drew1) | exact HB.out)) hb_); clear HB; have HB := n1_; clear n1_ hx_ hy_ hcx_ hcy_ hlx_ hly_ hb_; obtain e0_ | ⟨e0_, e1_⟩ | ⟨e0_, e1_, HN⟩ := ways3 xs.length) | (go_at_call 20; (with_reducible refine (impl_Convolve.calls AX cX xs AY cY ys (convF xs ys) _ ?s1 ?t1 ?s2 ?t2 (conv_f xs ys HX7.out HY7.out)).mono ?_); (case s1 => exact Kd.C_below HX.out (by repeat (first | exact Below.refl _ _ | apply below_alloc | apply pw_below_drewN | apply below_drew1))); (case s2 => exact Kd.C_below HY.out (by repeat (first | exact Below.refl _ _ | apply below_alloc | apply pw_below_drewN | apply below_drew1))); (case t1 => exact HLX.out); (case t2 => exact HLY.out); rintro e wk_ ⟨vk_, rfl, ho_, hb_⟩; obtain ⟨AP, cAP, rfl, hlAP, hC_⟩ := Kd.R_reads ho_; have HAP := Aside0.mk hC_; have n1_ := Aside0.mk (below_step (by repeat (first | (with_reducible first | exact HB.out | apply below_alloc | apply pw_below_drewN | apply below_drew1) | exact HB.out)) hb_); clear HB; have HB := n1_; clear n1_ ho_ hC_ hlAP; have n3_ := Aside0.mk (Kd.C_below (Kd.C_below HX.out (by repeat (first | exact Below.refl _ _ | apply below_alloc | apply pw_below_drewN | apply below_drew1))) hb_); clear HX; have HX := n3_; clear n3_; have n3_ := Aside0.mk (Kd.C_below (Kd.C_below HY.out (by repeat (first | exact Below.refl _ _ | apply below_alloc | apply pw_below_drewN | apply below_drew1))) hb_); clear HY; have HY := n3_; clear n3_; clear hb_) | (go_at_call 19; (with_reducible refine (spec_Convolve.calls AX cX xs AY cY ys (convF xs ys) _ ?s1 ?t1 ?s2 ?t2 (conv_sf xs ys HX7.out HY7.out)).mono ?_); (case s1 => exact Kd.C_below HX.out (by repeat (first | exact Below.refl _ _ | apply below_alloc | apply pw_below_drewN | apply below_drew1))); (case s2 => exact Kd.C_below HY.out (by repeat (first | exact Below.refl _ _ | apply below_alloc | apply pw_below_drewN | apply below_drew1))); (case t1 => exact HLX.out); (case t2 => exact HLY.out); rintro e wk_ ⟨vk_, rfl, ho_, hb_⟩; obtain ⟨AQ, cAQ, rfl, hlAQ, hC_⟩ := Kd.R_reads ho_; have HAQ := Aside0.mk hC_; have n1_ := Aside0.mk (below_step (by repeat (first | (with_reducible first | exact HB.out | apply below_alloc | apply pw_below_drewN | apply below_drew1) | exact HB.out)) hb_); clear HB; have HB := n1_; clear n1_ ho_ hC_ hlAQ; have n3_ := Aside0.mk (Kd.C_below (Kd.C_below HX.out (by repeat (first | exact Below.refl _ _ | apply below_alloc | apply pw_below_drewN | apply below_drew1))) hb_); clear HX; have HX := n3_; clear n3_; have n3_ := Aside0.mk (Kd.C_below (Kd.C_below HY.out (by repeat (first | exact Below.refl _ _ | apply below_alloc | apply pw_below_drewN | apply below_drew1))) hb_); clear HY; have HY := n3_; clear n3_; clear hb_) | ((with_reducible refine gate_dst (N := 36) rfl ?_); (try (refine gate_guard (by rfl) ?_; dsimp only)); refine Kd.R_lit Kf _ 23 ?hg (N := 36) ?hd (xs := [cv 4607182418800017408]) (inner := [.float .f64 4607182418800017408]) (ok := fun _ => True) (okp := fun _ => True) ?hr ?hp (fun _ hk => hk) trivial (Below.refl _ _) (Nat.le_refl _) (by simp) ?_; (case hd => rfl); (case hg => rfl); (case hr => first | (go_simp; done) | (go_simp; rfl)); (case hp => exact lit_f [4607182418800017408]); intro vl_ wl_ hol_ hb_ hg_ hnew_; clear hg_ hnew_; obtain ⟨AZ, cZ, eZ_, hlZ_, hCZ_⟩ := Kd.R_reads hol_; subst eZ_; have HAZ := Aside0.mk hCZ_; have HLZ := Aside0.mk hlZ_; have n1_ := Aside0.mk (below_step (by repeat (first | (with_reducible first | exact HB.out | apply below_alloc | apply pw_below_drewN | apply below_drew1) | exact HB.out)) hb_); clear HB; have HB := n1_; clear n1_ hol_ hCZ_ hlZ_; have n3_ := Aside0.mk (Kd.C_below (Kd.C_below HX.out (by repeat (first | exact Below.refl _ _ | apply below_alloc | apply pw_below_drewN | apply below_drew1))) hb_); clear HX; have HX := n3_; clear n3_; clear hb_) | (go_at_call 20; (with_reducible refine (conv_calls_n AX cX xs AZ cZ [cv 4607182418800017408] 1 (by simp) (convF xs [cv 4607182418800017408]) _ ?s1 ?t1 ?s2 ?t2 (conv_f xs [cv 4607182418800017408] HX7.out (by simp))).mono ?_); (case s1 => exact Kd.C_below HX.out (by repeat (first | exact Below.refl _ _ | apply below_alloc | apply pw_below_drewN | apply below_drew1))); (case s2 => exact Kd.C_below HAZ.out (by repeat (first | exact Below.refl _ _ | apply below_alloc | apply pw_below_drewN | apply below_drew1))); (case t1 => exact HLX.out); (case t2 => exact HLZ.out); rintro e wk_ ⟨vk_, rfl, ho_, hb_⟩; obtain ⟨AM, cAM, rfl, hlAM, hC_⟩ := Kd.R_reads ho_; have HAM := Aside0.mk hC_; have n1_ := Aside0.mk (below_step (by repeat (first | (with_reducible first | exact HB.out | apply below_alloc | apply pw_below_drewN | apply below_drew1) | exact HB.out)) hb_); clear HB; have HB := n1_; clear n1_ ho_ hC_ hlAM; have n3_ := Aside0.mk (Kd.C_below (Kd.C_below HX.out (by repeat (first | exact Below.refl _ _ | apply below_alloc | apply pw_below_drewN | apply below_drew1))) hb_); clear HX; have HX := n3_; clear n3_; clear hb_; have hL1_ : (convF xs [cv 4607182418800017408]).length = xs.length := (conv1 xs HN.out).1) | ((with_reducible refine gate_dst (N := 39) rfl ?_); (try (refine gate_guard (by rfl) ?_; dsimp only)); refine Kd.R_lit Kf _ 23 ?hg (N := 39) ?hd (xs := [cv 0, cv 4607182418800017408]) (inner := [.float .f64 0, .float .f64 4607182418800017408]) (ok := fun _ => True) (okp := fun _ => True) ?hr ?hp (fun _ hk => hk) trivial (Below.refl _ _) (Nat.le_refl _) (by simp) ?_; (case hd => rfl); (case hg => rfl); (case hr => first | (go_simp; done) | (go_simp; rfl)); (case hp => exact lit_f [0, 4607182418800017408]); intro vl_ wl_ hol_ hb_ hg_ hnew_; clear hg_ hnew_; obtain ⟨AV, cV, eZ_, hlZ_, hCZ_⟩ := Kd.R_reads hol_; subst eZ_; have HAV := Aside0.mk hCZ_; have HLV := Aside0.mk hlZ_; have n1_ := Aside0.mk (below_step (by repeat (first | (with_reducible first | exact HB.out | apply below_alloc | apply pw_below_drewN | apply below_drew1) | exact HB.out)) hb_); clear HB; have HB := n1_; clear n1_ hol_ hCZ_ hlZ_; have n3_ := Aside0.mk (Kd.C_below (Kd.C_below HX.out (by repeat (first | exact Below.refl _ _ | apply below_alloc | apply pw_below_drewN | apply below_drew1))) hb_); clear HX; have HX := n3_; clear n3_; have n3_ := Aside0.mk (Kd.C_below (Kd.C_below HAM.out (by repeat (first | exact Below.refl _ _ | apply below_alloc | apply pw_below_drewN | apply below_drew1))) hb_); clear HAM; have HAM := n3_; clear n3_; clear hb_) | (go_at_call 20; (with_reducible refine (conv_calls_n AX cX xs AV cV [cv 0, cv 4607182418800017408] 2 (by simp) (convF xs [cv 0, cv 4607182418800017408]) _ ?s1 ?t1 ?s2 ?t2 (conv_f xs [cv 0, cv 4607182418800017408] HX7.out (by simp))).mono ?_); (case s1 => exact Kd.C_below HX.out (by repeat (first | exact Below.refl _ _ | apply below_alloc | apply pw_below_drewN | apply below_drew1))); (case s2 => exact Kd.C_below HAV.out (by repeat (first | exact Below.refl _ _ | apply below_alloc | apply pw_below_drewN | apply below_drew1))); (case t1 => exact HLX.out); (case t2 => exact HLV.out); rintro e wk_ ⟨vk_, rfl, ho_, hb_⟩; obtain ⟨AN, cAN, rfl, hlAN, hC_⟩ := Kd.R_reads ho_; have HAN := Aside0.mk hC_; have n1_ := Aside0.mk (below_step (by repeat (first | (with_reducible first | exact HB.out | apply below_alloc | apply pw_below_drewN | apply below_drew1) | exact HB.out)) hb_); clear HB; have HB := n1_; clear n1_ ho_ hC_ hlAN; have n3_ := Aside0.mk (Kd.C_below (Kd.C_below HX.out (by repeat (first | exact Below.refl _ _ | apply below_alloc | apply pw_below_drewN | apply below_drew1))) hb_); clear HX; have HX := n3_; clear n3_; have n3_ := Aside0.mk (Kd.C_below (Kd.C_below HAM.out (by repeat (first | exact Below.refl _ _ | apply below_alloc | apply pw_below_drewN | apply below_drew1))) hb_); clear HAM; have HAM := n3_; clear n3_; clear hb_; have hL2_ : (convF xs [cv 0, cv 4607182418800017408]).length = xs.length + 1 := (conv2 xs HN.out).1; have hwn_ : wrap64 ((xs.length : Int) + 1) = (xs.length : Int) + 1 := by (have := HN.out; unfold wrap64; omega)))
    · go_ret
      exact ⟨rfl, (by repeat (first | (with_reducible first | exact HB.out | apply below_alloc | apply pw_below_drewN | apply below_drew1) | exact HB.out))⟩
    · go_ret
      exact ⟨rfl, (by repeat (first | (with_reducible first | exact HB.out | apply below_alloc | apply pw_below_drewN | apply below_drew1) | exact HB.out))⟩
    · have HG1 := Aside0.mk (conv1 xs HN.out).2
      have HG2 := Aside0.mk (conv2 xs HN.out).2
      unfold one at HG1 HG2
      unfold zero at HG2
      have HE1 := Aside0.mk hL1_
      have HE2 := Aside0.mk hL2_
      clear hL1_ hL2_ hwn_
      generalize convF xs [cv 4607182418800017408] = m at HG1 HE1 HAM ⊢
      generalize convF xs [cv 0, cv 4607182418800017408] = o at HG2 HE2 HAN ⊢
      go_loopg [7, 8] xs.length (fun gg v7 v8 w' => ∃ (i : Nat) (B : Bool), Aside0 (i ≤ xs.length ∧ xs.length - i ≤ gg) ∧ v7 = .bool B ∧ v8 = .int .i64 (i : Int) ∧ Aside0 (B = true → ∀ j : Nat, j < i → opF .sub (rf xs j) (rf xs j) ≠ none) ∧ Aside0 (Below w.heap.size w w') ∧ Aside0 (Kf.C w' AX xs.length xs) ∧ Aside0 (Kf.C w' AM m.length m) ∧ Aside0 (Kf.C w' AN o.length o))
      case atStart => exact ⟨0, true, ⟨Nat.zero_le _, Nat.le_refl _⟩, rfl, rfl, ⟨fun _ j hj => absurd hj (Nat.not_lt_zero _)⟩, HB, HX, HAM, HAN⟩
      case round =>
        clear HB HX HAM HAN HY HAQ HAP
        obtain ⟨i, B, HK, rfl, rfl, HW, HB, HX, HAM, HAN⟩ := hrel
        have HM2 : xs.length ≤ 9223372036854775807 := HMX.out
        by_cases hlt : i < xs.length
        · have hltb : decide ((i : Int) < (xs.length : Int)) = true := decide_eq_true (by omega)
          have p3 : (0 ≤ (i : Int)) = True := eq_true (by omega)
          have q5 : ((i : Int) < (xs.length : Int)) = True := eq_true (by omega)
          have q1 : ((i : Int) < (m.length : Int)) = True := eq_true (by have := HE1.out; omega)
          obtain ⟨ad1, b1, e1, hx1, hb1⟩ := at_f HAM.out (i : Int) (by omega) (by have := HE1.out; omega)
          obtain ⟨ad5, b5, e5, hx5, hb5⟩ := at_f HX.out (i : Int) (by omega) (by omega)
          cases e1
          cases e5
          have HB5 := Aside0.mk hb5
          have hc1 : cv b1 = opF .add (cv b5) (some 0) := by
            rw [hb1, HG1.out i hlt, ← hb5]
            exact conv_like b5
          have hz0 : ∀ w, cv (Fl.bits .add w b5 0) = opF .add (cv b5) (some 0) := fun w => by rw [cv_bits, cv_zero]
          have hlk : ∀ w, Like b1 (Fl.bits .add w b5 0) := fun w => Like.of_cv (hc1.trans (hz0 w).symm)
          clear hb1 hb5 hc1 hz0
          simp only [Int.toNat_natCast] at hx1 hx5
          by_cases hn : isN b1 = true
          · have z1 : ∀ w, (FloatKind.f64.format.order b1 (Fl.bits .add w b5 0) != some Ordering.eq) = true := fun w => by rw [ord_none (by unfold cv; rw [if_pos hn])]; rfl
            have z2 : (FloatKind.f64.format.order b1 b1 == some Ordering.eq) = false := by rw [ord_none (by unfold cv; rw [if_pos hn])]; rfl
            have z3 : ∀ w w', (FloatKind.f64.format.order (Fl.bits .add w b5 0) (Fl.bits .add w' b5 0) == some Ordering.eq) = false := fun w w' => by rw [ord_none (by unfold cv; rw [← (hlk w).1, hn]; rfl)]; rfl
            clear hlk hn
            go_wp2
            refine wp_region_held_drew (S := (fun w' => w'.cell? (ad1.add i) = some (.float .f64 b1))) (by kernel_rfl) ?hS_u4 (fun hS0 => ?hr_u4)
            case hS_u4 => go_keep
            refine wpAnyH_take (i := 0) (oi := { dst := some 65, op := Go.Op.move (Go.Operand.tmp 5), type := 22, pos := "laws.go:1049", after := #[], guard := none }) (v := ?vv_u4_0) rfl (by kernel_rfl) (by kernel_rfl) (by kernel_rfl) (fun _ _ _ h => h) (Or.inl ⟨by rfl, ?hy_u4_0⟩) (by assumption) ?rest_u4_0
            case hy_u4_0 => (intro w hSw; (try dsimp only at hSw); first | (go_simp; done) | (go_simp; with_reducible rfl))
            try simp only [Act.put, List.setIfInBounds_toArray, List.set_cons_zero, List.set_cons_succ]
            refine wpAnyH_take (i := 1) (oi := { dst := some 66, op := Go.Op.move (Go.Operand.tmp 8), type := 3, pos := "laws.go:1049", after := #[], guard := none }) (v := ?vv_u4_1) rfl (by kernel_rfl) (by kernel_rfl) (by kernel_rfl) (fun _ _ _ h => h) (Or.inl ⟨by rfl, ?hy_u4_1⟩) (by assumption) ?rest_u4_1
            case hy_u4_1 => (intro w hSw; (try dsimp only at hSw); first | (go_simp; done) | (go_simp; with_reducible rfl))
            try simp only [Act.put, List.setIfInBounds_toArray, List.set_cons_zero, List.set_cons_succ]
            refine wpAnyH_take (i := 2) (oi := { dst := some 67, op := Go.Op.indexAddr 22 (Go.Operand.tmp 65) (Go.Operand.tmp 66), type := 0, pos := "laws.go:1049", after := #[{ on := 0, ground := Go.Ground.data }, { on := 1, ground := Go.Ground.data }], guard := none }) (v := ?vv_u4_2) rfl (by kernel_rfl) (by kernel_rfl) (by kernel_rfl) (fun _ _ _ h => h) (Or.inl ⟨by rfl, ?hy_u4_2⟩) (by assumption) ?rest_u4_2
            case hy_u4_2 => (intro w hSw; (try dsimp only at hSw); first | (go_simp; done) | (go_simp; with_reducible rfl))
            try simp only [Act.put, List.setIfInBounds_toArray, List.set_cons_zero, List.set_cons_succ]
            refine wpAnyH_take (i := 3) (oi := { dst := some 68, op := Go.Op.load 23 (Go.Operand.tmp 67), type := 23, pos := "laws.go:1049", after := #[{ on := 2, ground := Go.Ground.data }], guard := none }) (v := ?vv_u4_3) rfl (by kernel_rfl) (by kernel_rfl) (by kernel_rfl) (fun _ _ _ h => h) (Or.inl ⟨by rfl, ?hy_u4_3⟩) (by assumption) ?rest_u4_3
            case hy_u4_3 => (intro w hSw; (try dsimp only at hSw); first | (go_simp; done) | (go_simp; with_reducible rfl))
            try simp only [Act.put, List.setIfInBounds_toArray, List.set_cons_zero, List.set_cons_succ]
            refine wpAnyH_take (i := 4) (oi := { dst := some 69, op := Go.Op.move (Go.Operand.tmp 9), type := 23, pos := "laws.go:1049", after := #[], guard := none }) (v := ?vv_u4_4) rfl (by kernel_rfl) (by kernel_rfl) (by kernel_rfl) (fun _ _ _ h => h) (Or.inl ⟨by rfl, ?hy_u4_4⟩) (by assumption) ?rest_u4_4
            case hy_u4_4 => (intro w hSw; (try dsimp only at hSw); first | (go_simp; done) | (go_simp; with_reducible rfl))
            try simp only [Act.put, List.setIfInBounds_toArray, List.set_cons_zero, List.set_cons_succ]
            refine wpAnyH_take (i := 5) (oi := { dst := some 70, op := Go.Op.binOp Go.BinOp.neq 23 (Go.Operand.tmp 68) (Go.Operand.tmp 69) 23, type := 4, pos := "laws.go:1049", after := #[{ on := 3, ground := Go.Ground.data }, { on := 4, ground := Go.Ground.data }], guard := none }) (v := .bool true) rfl (by kernel_rfl) (by kernel_rfl) (by kernel_rfl) (fun _ _ _ h => h) (Or.inl ⟨by rfl, ?hy_u4_5⟩) (by assumption) ?rest_u4_5
            case hy_u4_5 => (intro w hSw; (try dsimp only at hSw); first | (go_simp; done) | (go_simp; with_reducible rfl))
            try simp only [Act.put, List.setIfInBounds_toArray, List.set_cons_zero, List.set_cons_succ]
            refine wpAnyH_take (i := 6) (oi := { dst := some 71, op := Go.Op.move (Go.Operand.tmp 70), type := 4, pos := "laws.go:1049", after := #[{ on := 5, ground := Go.Ground.data }], guard := none }) (v := .bool true) rfl (by kernel_rfl) (by kernel_rfl) (by kernel_rfl) (fun _ _ _ h => h) (Or.inl ⟨by rfl, ?hy_u4_6⟩) (by assumption) ?rest_u4_6
            case hy_u4_6 => (intro w hSw; (try dsimp only at hSw); first | (go_simp; done) | (go_simp; with_reducible rfl))
            try simp only [Act.put, List.setIfInBounds_toArray, List.set_cons_zero, List.set_cons_succ]
            refine wpAnyH_take (i := 7) (oi := { dst := some 72, op := Go.Op.move (Go.Operand.tmp 5), type := 22, pos := "laws.go:1049", after := #[{ on := 6, ground := Go.Ground.guard }], guard := some (6, true) }) (v := ?vv_u4_7) rfl (by kernel_rfl) (by kernel_rfl) (by kernel_rfl) (fun _ _ _ h => h) (Or.inl ⟨by rfl, ?hy_u4_7⟩) (by assumption) ?rest_u4_7
            case hy_u4_7 => (intro w hSw; (try dsimp only at hSw); first | (go_simp; done) | (go_simp; with_reducible rfl))
            try simp only [Act.put, List.setIfInBounds_toArray, List.set_cons_zero, List.set_cons_succ]
            refine wpAnyH_take (i := 8) (oi := { dst := some 73, op := Go.Op.move (Go.Operand.tmp 8), type := 3, pos := "laws.go:1049", after := #[{ on := 6, ground := Go.Ground.guard }], guard := some (6, true) }) (v := ?vv_u4_8) rfl (by kernel_rfl) (by kernel_rfl) (by kernel_rfl) (fun _ _ _ h => h) (Or.inl ⟨by rfl, ?hy_u4_8⟩) (by assumption) ?rest_u4_8
            case hy_u4_8 => (intro w hSw; (try dsimp only at hSw); first | (go_simp; done) | (go_simp; with_reducible rfl))
            try simp only [Act.put, List.setIfInBounds_toArray, List.set_cons_zero, List.set_cons_succ]
            refine wpAnyH_take (i := 9) (oi := { dst := some 74, op := Go.Op.indexAddr 22 (Go.Operand.tmp 72) (Go.Operand.tmp 73), type := 0, pos := "laws.go:1049", after := #[{ on := 7, ground := Go.Ground.data }, { on := 8, ground := Go.Ground.data }, { on := 6, ground := Go.Ground.guard }], guard := some (6, true) }) (v := ?vv_u4_9) rfl (by kernel_rfl) (by kernel_rfl) (by kernel_rfl) (fun _ _ _ h => h) (Or.inl ⟨by rfl, ?hy_u4_9⟩) (by assumption) ?rest_u4_9
            case hy_u4_9 => (intro w hSw; (try dsimp only at hSw); first | (go_simp; done) | (go_simp; with_reducible rfl))
            try simp only [Act.put, List.setIfInBounds_toArray, List.set_cons_zero, List.set_cons_succ]
            refine wpAnyH_take (i := 10) (oi := { dst := some 75, op := Go.Op.load 23 (Go.Operand.tmp 74), type := 23, pos := "laws.go:1049", after := #[{ on := 9, ground := Go.Ground.data }, { on := 6, ground := Go.Ground.guard }], guard := some (6, true) }) (v := ?vv_u4_10) rfl (by kernel_rfl) (by kernel_rfl) (by kernel_rfl) (fun _ _ _ h => h) (Or.inl ⟨by rfl, ?hy_u4_10⟩) (by assumption) ?rest_u4_10
            case hy_u4_10 => (intro w hSw; (try dsimp only at hSw); first | (go_simp; done) | (go_simp; with_reducible rfl))
            try simp only [Act.put, List.setIfInBounds_toArray, List.set_cons_zero, List.set_cons_succ]
            refine wpAnyH_take (i := 11) (oi := { dst := some 76, op := Go.Op.move (Go.Operand.tmp 5), type := 22, pos := "laws.go:1049", after := #[{ on := 6, ground := Go.Ground.guard }], guard := some (6, true) }) (v := ?vv_u4_11) rfl (by kernel_rfl) (by kernel_rfl) (by kernel_rfl) (fun _ _ _ h => h) (Or.inl ⟨by rfl, ?hy_u4_11⟩) (by assumption) ?rest_u4_11
            case hy_u4_11 => (intro w hSw; (try dsimp only at hSw); first | (go_simp; done) | (go_simp; with_reducible rfl))
            try simp only [Act.put, List.setIfInBounds_toArray, List.set_cons_zero, List.set_cons_succ]
            refine wpAnyH_take (i := 12) (oi := { dst := some 77, op := Go.Op.move (Go.Operand.tmp 8), type := 3, pos := "laws.go:1049", after := #[{ on := 6, ground := Go.Ground.guard }], guard := some (6, true) }) (v := ?vv_u4_12) rfl (by kernel_rfl) (by kernel_rfl) (by kernel_rfl) (fun _ _ _ h => h) (Or.inl ⟨by rfl, ?hy_u4_12⟩) (by assumption) ?rest_u4_12
            case hy_u4_12 => (intro w hSw; (try dsimp only at hSw); first | (go_simp; done) | (go_simp; with_reducible rfl))
            try simp only [Act.put, List.setIfInBounds_toArray, List.set_cons_zero, List.set_cons_succ]
            refine wpAnyH_take (i := 13) (oi := { dst := some 78, op := Go.Op.indexAddr 22 (Go.Operand.tmp 76) (Go.Operand.tmp 77), type := 0, pos := "laws.go:1049", after := #[{ on := 11, ground := Go.Ground.data }, { on := 12, ground := Go.Ground.data }, { on := 6, ground := Go.Ground.guard }], guard := some (6, true) }) (v := ?vv_u4_13) rfl (by kernel_rfl) (by kernel_rfl) (by kernel_rfl) (fun _ _ _ h => h) (Or.inl ⟨by rfl, ?hy_u4_13⟩) (by assumption) ?rest_u4_13
            case hy_u4_13 => (intro w hSw; (try dsimp only at hSw); first | (go_simp; done) | (go_simp; with_reducible rfl))
            try simp only [Act.put, List.setIfInBounds_toArray, List.set_cons_zero, List.set_cons_succ]
            refine wpAnyH_take (i := 14) (oi := { dst := some 79, op := Go.Op.load 23 (Go.Operand.tmp 78), type := 23, pos := "laws.go:1049", after := #[{ on := 13, ground := Go.Ground.data }, { on := 6, ground := Go.Ground.guard }], guard := some (6, true) }) (v := ?vv_u4_14) rfl (by kernel_rfl) (by kernel_rfl) (by kernel_rfl) (fun _ _ _ h => h) (Or.inl ⟨by rfl, ?hy_u4_14⟩) (by assumption) ?rest_u4_14
            case hy_u4_14 => (intro w hSw; (try dsimp only at hSw); first | (go_simp; done) | (go_simp; with_reducible rfl))
            try simp only [Act.put, List.setIfInBounds_toArray, List.set_cons_zero, List.set_cons_succ]
            refine wpAnyH_take (i := 15) (oi := { dst := some 80, op := Go.Op.binOp Go.BinOp.eql 23 (Go.Operand.tmp 75) (Go.Operand.tmp 79) 23, type := 4, pos := "laws.go:1049", after := #[{ on := 10, ground := Go.Ground.data }, { on := 14, ground := Go.Ground.data }, { on := 6, ground := Go.Ground.guard }], guard := some (6, true) }) (v := .bool false) rfl (by kernel_rfl) (by kernel_rfl) (by kernel_rfl) (fun _ _ _ h => h) (Or.inl ⟨by rfl, ?hy_u4_15⟩) (by assumption) ?rest_u4_15
            case hy_u4_15 => (intro w hSw; (try dsimp only at hSw); first | (go_simp; done) | (go_simp; with_reducible rfl))
            try simp only [Act.put, List.setIfInBounds_toArray, List.set_cons_zero, List.set_cons_succ]
            refine wpAnyH_take (i := 16) (oi := { dst := some 81, op := Go.Op.move (Go.Operand.tmp 80), type := 4, pos := "laws.go:1049", after := #[{ on := 15, ground := Go.Ground.data }, { on := 6, ground := Go.Ground.chain }, { on := 6, ground := Go.Ground.guard }], guard := some (6, true) }) (v := .bool false) rfl (by kernel_rfl) (by kernel_rfl) (by kernel_rfl) (fun _ _ _ h => h) (Or.inl ⟨by rfl, ?hy_u4_16⟩) (by assumption) ?rest_u4_16
            case hy_u4_16 => (intro w hSw; (try dsimp only at hSw); first | (go_simp; done) | (go_simp; with_reducible rfl))
            try simp only [Act.put, List.setIfInBounds_toArray, List.set_cons_zero, List.set_cons_succ]
            refine wpAnyH_take (i := 17) (oi := { dst := some 82, op := Go.Op.move (Go.Operand.tmp 9), type := 23, pos := "laws.go:1049", after := #[{ on := 16, ground := Go.Ground.guard }], guard := some (16, false) }) (v := ?vv_u4_17) rfl (by kernel_rfl) (by kernel_rfl) (by kernel_rfl) (fun _ _ _ h => h) (Or.inl ⟨by rfl, ?hy_u4_17⟩) (by assumption) ?rest_u4_17
            case hy_u4_17 => (intro w hSw; (try dsimp only at hSw); first | (go_simp; done) | (go_simp; with_reducible rfl))
            try simp only [Act.put, List.setIfInBounds_toArray, List.set_cons_zero, List.set_cons_succ]
            refine wpAnyH_take (i := 18) (oi := { dst := some 83, op := Go.Op.move (Go.Operand.tmp 9), type := 23, pos := "laws.go:1049", after := #[{ on := 16, ground := Go.Ground.guard }], guard := some (16, false) }) (v := ?vv_u4_18) rfl (by kernel_rfl) (by kernel_rfl) (by kernel_rfl) (fun _ _ _ h => h) (Or.inl ⟨by rfl, ?hy_u4_18⟩) (by assumption) ?rest_u4_18
            case hy_u4_18 => (intro w hSw; (try dsimp only at hSw); first | (go_simp; done) | (go_simp; with_reducible rfl))
            try simp only [Act.put, List.setIfInBounds_toArray, List.set_cons_zero, List.set_cons_succ]
            refine wpAnyH_take (i := 19) (oi := { dst := some 84, op := Go.Op.binOp Go.BinOp.eql 23 (Go.Operand.tmp 82) (Go.Operand.tmp 83) 23, type := 4, pos := "laws.go:1049", after := #[{ on := 17, ground := Go.Ground.data }, { on := 18, ground := Go.Ground.data }, { on := 16, ground := Go.Ground.guard }], guard := some (16, false) }) (v := .bool false) rfl (by kernel_rfl) (by kernel_rfl) (by kernel_rfl) (fun _ _ _ h => h) (Or.inl ⟨by rfl, ?hy_u4_19⟩) (by assumption) ?rest_u4_19
            case hy_u4_19 => (intro w hSw; (try dsimp only at hSw); first | (go_simp; done) | (go_simp; with_reducible rfl))
            try simp only [Act.put, List.setIfInBounds_toArray, List.set_cons_zero, List.set_cons_succ]
            refine wpAnyH_take (i := 20) (oi := { dst := some 85, op := Go.Op.pick (Go.Operand.tmp 81) (Go.Operand.const (Go.Value.bool true)) (Go.Operand.tmp 84), type := 4, pos := "laws.go:1049", after := #[{ on := 16, ground := Go.Ground.data }, { on := 19, ground := Go.Ground.data }, { on := 6, ground := Go.Ground.guard }], guard := some (6, true) }) (v := .bool false) rfl (by kernel_rfl) (by kernel_rfl) (by kernel_rfl) (fun _ _ _ h => h) (Or.inl ⟨by rfl, ?hy_u4_20⟩) (by assumption) ?rest_u4_20
            case hy_u4_20 => (intro w hSw; (try dsimp only at hSw); first | (go_simp; done) | (go_simp; with_reducible rfl))
            try simp only [Act.put, List.setIfInBounds_toArray, List.set_cons_zero, List.set_cons_succ]
            refine wpAnyH_take (i := 21) (oi := { dst := some 86, op := Go.Op.pick (Go.Operand.tmp 71) (Go.Operand.tmp 85) (Go.Operand.const (Go.Value.bool false)), type := 4, pos := "laws.go:1049", after := #[{ on := 6, ground := Go.Ground.data }, { on := 20, ground := Go.Ground.data }], guard := none }) (v := .bool false) rfl (by kernel_rfl) (by kernel_rfl) (by kernel_rfl) (fun _ _ _ h => h) (Or.inl ⟨by rfl, ?hy_u4_21⟩) (by assumption) ?rest_u4_21
            case hy_u4_21 => (intro w hSw; (try dsimp only at hSw); first | (go_simp; done) | (go_simp; with_reducible rfl))
            try simp only [Act.put, List.setIfInBounds_toArray, List.set_cons_zero, List.set_cons_succ]
            refine wpAnyH_done (by kernel_rfl) ?_ _
            all_goals go_wp2
            cases B
            · refine wp_region_held_drew (S := (fun w' => w'.cell? (ad5.add i) = some (.float .f64 b5))) (by kernel_rfl) ?hS_u7 (fun hS0 => ?hr_u7)
              case hS_u7 => go_keep
              refine wpAnyH_take (i := 0) (oi := { dst := some 87, op := Go.Op.move (Go.Operand.tmp 7), type := 4, pos := "laws.go:1052", after := #[], guard := none }) (v := ?vv_u7_0) rfl (by kernel_rfl) (by kernel_rfl) (by kernel_rfl) (fun _ _ _ h => h) (Or.inl ⟨by rfl, ?hy_u7_0⟩) (by assumption) ?rest_u7_0
              case hy_u7_0 => (intro w hSw; (try dsimp only at hSw); first | (go_simp; done) | (go_simp; with_reducible rfl))
              try simp only [Act.put, List.setIfInBounds_toArray, List.set_cons_zero, List.set_cons_succ]
              refine wpAnyH_take (i := 1) (oi := { dst := some 88, op := Go.Op.move (Go.Operand.tmp 87), type := 4, pos := "laws.go:1052", after := #[{ on := 0, ground := Go.Ground.data }], guard := none }) (v := ?vv_u7_1) rfl (by kernel_rfl) (by kernel_rfl) (by kernel_rfl) (fun _ _ _ h => h) (Or.inl ⟨by rfl, ?hy_u7_1⟩) (by assumption) ?rest_u7_1
              case hy_u7_1 => (intro w hSw; (try dsimp only at hSw); first | (go_simp; done) | (go_simp; with_reducible rfl))
              try simp only [Act.put, List.setIfInBounds_toArray, List.set_cons_zero, List.set_cons_succ]
              refine wpAnyH_take (i := 2) (oi := { dst := some 89, op := Go.Op.move (Go.Operand.tmp 3), type := 22, pos := "laws.go:1052", after := #[{ on := 1, ground := Go.Ground.guard }], guard := some (1, true) }) (v := undef) rfl (by kernel_rfl) (by kernel_rfl) (by kernel_rfl) (fun _ _ _ h => h) (Or.inr ⟨by rfl, rfl⟩) (by assumption) ?_
              try simp only [Act.put, List.setIfInBounds_toArray, List.set_cons_zero, List.set_cons_succ]
              refine wpAnyH_take (i := 3) (oi := { dst := some 90, op := Go.Op.move (Go.Operand.tmp 8), type := 3, pos := "laws.go:1052", after := #[{ on := 1, ground := Go.Ground.guard }], guard := some (1, true) }) (v := undef) rfl (by kernel_rfl) (by kernel_rfl) (by kernel_rfl) (fun _ _ _ h => h) (Or.inr ⟨by rfl, rfl⟩) (by assumption) ?_
              try simp only [Act.put, List.setIfInBounds_toArray, List.set_cons_zero, List.set_cons_succ]
              refine wpAnyH_take (i := 4) (oi := { dst := some 91, op := Go.Op.indexAddr 22 (Go.Operand.tmp 89) (Go.Operand.tmp 90), type := 0, pos := "laws.go:1052", after := #[{ on := 2, ground := Go.Ground.data }, { on := 3, ground := Go.Ground.data }, { on := 1, ground := Go.Ground.guard }], guard := some (1, true) }) (v := undef) rfl (by kernel_rfl) (by kernel_rfl) (by kernel_rfl) (fun _ _ _ h => h) (Or.inr ⟨by rfl, rfl⟩) (by assumption) ?_
              try simp only [Act.put, List.setIfInBounds_toArray, List.set_cons_zero, List.set_cons_succ]
              refine wpAnyH_take (i := 5) (oi := { dst := some 92, op := Go.Op.load 23 (Go.Operand.tmp 91), type := 23, pos := "laws.go:1052", after := #[{ on := 4, ground := Go.Ground.data }, { on := 1, ground := Go.Ground.guard }], guard := some (1, true) }) (v := undef) rfl (by kernel_rfl) (by kernel_rfl) (by kernel_rfl) (fun _ _ _ h => h) (Or.inr ⟨by rfl, rfl⟩) (by assumption) ?_
              try simp only [Act.put, List.setIfInBounds_toArray, List.set_cons_zero, List.set_cons_succ]
              refine wpAnyH_take (i := 6) (oi := { dst := some 93, op := Go.Op.move (Go.Operand.tmp 3), type := 22, pos := "laws.go:1052", after := #[{ on := 1, ground := Go.Ground.guard }], guard := some (1, true) }) (v := undef) rfl (by kernel_rfl) (by kernel_rfl) (by kernel_rfl) (fun _ _ _ h => h) (Or.inr ⟨by rfl, rfl⟩) (by assumption) ?_
              try simp only [Act.put, List.setIfInBounds_toArray, List.set_cons_zero, List.set_cons_succ]
              refine wpAnyH_take (i := 7) (oi := { dst := some 94, op := Go.Op.move (Go.Operand.tmp 8), type := 3, pos := "laws.go:1052", after := #[{ on := 1, ground := Go.Ground.guard }], guard := some (1, true) }) (v := undef) rfl (by kernel_rfl) (by kernel_rfl) (by kernel_rfl) (fun _ _ _ h => h) (Or.inr ⟨by rfl, rfl⟩) (by assumption) ?_
              try simp only [Act.put, List.setIfInBounds_toArray, List.set_cons_zero, List.set_cons_succ]
              refine wpAnyH_take (i := 8) (oi := { dst := some 95, op := Go.Op.indexAddr 22 (Go.Operand.tmp 93) (Go.Operand.tmp 94), type := 0, pos := "laws.go:1052", after := #[{ on := 6, ground := Go.Ground.data }, { on := 7, ground := Go.Ground.data }, { on := 1, ground := Go.Ground.guard }], guard := some (1, true) }) (v := undef) rfl (by kernel_rfl) (by kernel_rfl) (by kernel_rfl) (fun _ _ _ h => h) (Or.inr ⟨by rfl, rfl⟩) (by assumption) ?_
              try simp only [Act.put, List.setIfInBounds_toArray, List.set_cons_zero, List.set_cons_succ]
              refine wpAnyH_take (i := 9) (oi := { dst := some 96, op := Go.Op.load 23 (Go.Operand.tmp 95), type := 23, pos := "laws.go:1052", after := #[{ on := 8, ground := Go.Ground.data }, { on := 1, ground := Go.Ground.guard }], guard := some (1, true) }) (v := undef) rfl (by kernel_rfl) (by kernel_rfl) (by kernel_rfl) (fun _ _ _ h => h) (Or.inr ⟨by rfl, rfl⟩) (by assumption) ?_
              try simp only [Act.put, List.setIfInBounds_toArray, List.set_cons_zero, List.set_cons_succ]
              refine wpAnyH_take (i := 10) (oi := { dst := some 97, op := Go.Op.binOp Go.BinOp.sub 23 (Go.Operand.tmp 92) (Go.Operand.tmp 96) 23, type := 23, pos := "laws.go:1052", after := #[{ on := 5, ground := Go.Ground.data }, { on := 9, ground := Go.Ground.data }, { on := 1, ground := Go.Ground.guard }], guard := some (1, true) }) (v := undef) rfl (by kernel_rfl) (by kernel_rfl) (by kernel_rfl) (fun _ _ _ h => h) (Or.inr ⟨by rfl, rfl⟩) (by assumption) ?_
              try simp only [Act.put, List.setIfInBounds_toArray, List.set_cons_zero, List.set_cons_succ]
              refine wpAnyH_take (i := 11) (oi := { dst := some 98, op := Go.Op.binOp Go.BinOp.eql 23 (Go.Operand.tmp 97) (Go.Operand.const (Go.Value.float Go.FloatKind.f64 0)) 23, type := 4, pos := "laws.go:1052", after := #[{ on := 10, ground := Go.Ground.data }, { on := 1, ground := Go.Ground.guard }], guard := some (1, true) }) (v := undef) rfl (by kernel_rfl) (by kernel_rfl) (by kernel_rfl) (fun _ _ _ h => h) (Or.inr ⟨by rfl, rfl⟩) (by assumption) ?_
              try simp only [Act.put, List.setIfInBounds_toArray, List.set_cons_zero, List.set_cons_succ]
              refine wpAnyH_take (i := 12) (oi := { dst := some 99, op := Go.Op.pick (Go.Operand.tmp 88) (Go.Operand.tmp 98) (Go.Operand.const (Go.Value.bool false)), type := 4, pos := "laws.go:1052", after := #[{ on := 1, ground := Go.Ground.data }, { on := 11, ground := Go.Ground.data }], guard := none }) (v := .bool false) rfl (by kernel_rfl) (by kernel_rfl) (by kernel_rfl) (fun _ _ _ h => h) (Or.inl ⟨by rfl, ?hy_u7_12⟩) (by assumption) ?rest_u7_12
              case hy_u7_12 => (intro w hSw; (try dsimp only at hSw); first | (go_simp; done) | (go_simp; with_reducible rfl))
              try simp only [Act.put, List.setIfInBounds_toArray, List.set_cons_zero, List.set_cons_succ]
              refine wpAnyH_take (i := 13) (oi := { dst := some 7, op := Go.Op.assign (Go.Operand.tmp 99), type := 4, pos := "laws.go:1052", after := #[{ on := 12, ground := Go.Ground.data }, { on := 1, ground := Go.Ground.chain }, { on := 0, ground := Go.Ground.phase }, { on := 1, ground := Go.Ground.phase }, { on := 2, ground := Go.Ground.phase }, { on := 3, ground := Go.Ground.phase }, { on := 4, ground := Go.Ground.phase }, { on := 5, ground := Go.Ground.phase }, { on := 6, ground := Go.Ground.phase }, { on := 7, ground := Go.Ground.phase }, { on := 8, ground := Go.Ground.phase }, { on := 9, ground := Go.Ground.phase }, { on := 10, ground := Go.Ground.phase }, { on := 11, ground := Go.Ground.phase }, { on := 12, ground := Go.Ground.phase }], guard := none }) (v := ?vv_u7_13) rfl (by kernel_rfl) (by kernel_rfl) (by kernel_rfl) (fun _ _ _ h => h) (Or.inl ⟨by rfl, ?hy_u7_13⟩) (by assumption) ?rest_u7_13
              case hy_u7_13 => (intro w hSw; (try dsimp only at hSw); first | (go_simp; done) | (go_simp; with_reducible rfl))
              try simp only [Act.put, List.setIfInBounds_toArray, List.set_cons_zero, List.set_cons_succ]
              refine wpAnyH_done (by kernel_rfl) ?_ _
              all_goals go_wp2
              all_goals (go_roundg (xs.length - (i + 1)); (case measure => (have := HK.out; omega)); (case rel => exact ⟨i + 1, false, ⟨by omega, by omega⟩, by first | rfl | simp, by go_num, ⟨fun h => by cases h⟩, ⟨(by repeat (first | (with_reducible first | exact HB.out | apply below_alloc | apply pw_below_drewN | apply below_drew1) | exact HB.out))⟩, ⟨(Kd.C_below HX.out (by repeat (first | exact Below.refl _ _ | apply below_alloc | apply pw_below_drewN | apply below_drew1)))⟩, ⟨(Kd.C_below HAM.out (by repeat (first | exact Below.refl _ _ | apply below_alloc | apply pw_below_drewN | apply below_drew1)))⟩, ⟨(Kd.C_below HAN.out (by repeat (first | exact Below.refl _ _ | apply below_alloc | apply pw_below_drewN | apply below_drew1)))⟩⟩))
            · by_cases hz : opF .sub (cv b5) (cv b5) = none
              · have y1 : ∀ w, (FloatKind.f64.format.order (Fl.bits .sub w b5 b5) 0 == some Ordering.eq) = false := fun w => by rw [ord_none (by rw [cv_bits]; exact hz)]; rfl
                clear hz
                refine wp_region_held_drew (S := (fun w' => w'.cell? (ad5.add i) = some (.float .f64 b5))) (by kernel_rfl) ?hS_u8 (fun hS0 => ?hr_u8)
                case hS_u8 => go_keep
                refine wpAnyH_take (i := 0) (oi := { dst := some 87, op := Go.Op.move (Go.Operand.tmp 7), type := 4, pos := "laws.go:1052", after := #[], guard := none }) (v := ?vv_u8_0) rfl (by kernel_rfl) (by kernel_rfl) (by kernel_rfl) (fun _ _ _ h => h) (Or.inl ⟨by rfl, ?hy_u8_0⟩) (by assumption) ?rest_u8_0
                case hy_u8_0 => (intro w hSw; (try dsimp only at hSw); first | (go_simp; done) | (go_simp; with_reducible rfl))
                try simp only [Act.put, List.setIfInBounds_toArray, List.set_cons_zero, List.set_cons_succ]
                refine wpAnyH_take (i := 1) (oi := { dst := some 88, op := Go.Op.move (Go.Operand.tmp 87), type := 4, pos := "laws.go:1052", after := #[{ on := 0, ground := Go.Ground.data }], guard := none }) (v := ?vv_u8_1) rfl (by kernel_rfl) (by kernel_rfl) (by kernel_rfl) (fun _ _ _ h => h) (Or.inl ⟨by rfl, ?hy_u8_1⟩) (by assumption) ?rest_u8_1
                case hy_u8_1 => (intro w hSw; (try dsimp only at hSw); first | (go_simp; done) | (go_simp; with_reducible rfl))
                try simp only [Act.put, List.setIfInBounds_toArray, List.set_cons_zero, List.set_cons_succ]
                refine wpAnyH_take (i := 2) (oi := { dst := some 89, op := Go.Op.move (Go.Operand.tmp 3), type := 22, pos := "laws.go:1052", after := #[{ on := 1, ground := Go.Ground.guard }], guard := some (1, true) }) (v := ?vv_u8_2) rfl (by kernel_rfl) (by kernel_rfl) (by kernel_rfl) (fun _ _ _ h => h) (Or.inl ⟨by rfl, ?hy_u8_2⟩) (by assumption) ?rest_u8_2
                case hy_u8_2 => (intro w hSw; (try dsimp only at hSw); first | (go_simp; done) | (go_simp; with_reducible rfl))
                try simp only [Act.put, List.setIfInBounds_toArray, List.set_cons_zero, List.set_cons_succ]
                refine wpAnyH_take (i := 3) (oi := { dst := some 90, op := Go.Op.move (Go.Operand.tmp 8), type := 3, pos := "laws.go:1052", after := #[{ on := 1, ground := Go.Ground.guard }], guard := some (1, true) }) (v := ?vv_u8_3) rfl (by kernel_rfl) (by kernel_rfl) (by kernel_rfl) (fun _ _ _ h => h) (Or.inl ⟨by rfl, ?hy_u8_3⟩) (by assumption) ?rest_u8_3
                case hy_u8_3 => (intro w hSw; (try dsimp only at hSw); first | (go_simp; done) | (go_simp; with_reducible rfl))
                try simp only [Act.put, List.setIfInBounds_toArray, List.set_cons_zero, List.set_cons_succ]
                refine wpAnyH_take (i := 4) (oi := { dst := some 91, op := Go.Op.indexAddr 22 (Go.Operand.tmp 89) (Go.Operand.tmp 90), type := 0, pos := "laws.go:1052", after := #[{ on := 2, ground := Go.Ground.data }, { on := 3, ground := Go.Ground.data }, { on := 1, ground := Go.Ground.guard }], guard := some (1, true) }) (v := ?vv_u8_4) rfl (by kernel_rfl) (by kernel_rfl) (by kernel_rfl) (fun _ _ _ h => h) (Or.inl ⟨by rfl, ?hy_u8_4⟩) (by assumption) ?rest_u8_4
                case hy_u8_4 => (intro w hSw; (try dsimp only at hSw); first | (go_simp; done) | (go_simp; with_reducible rfl))
                try simp only [Act.put, List.setIfInBounds_toArray, List.set_cons_zero, List.set_cons_succ]
                refine wpAnyH_take (i := 5) (oi := { dst := some 92, op := Go.Op.load 23 (Go.Operand.tmp 91), type := 23, pos := "laws.go:1052", after := #[{ on := 4, ground := Go.Ground.data }, { on := 1, ground := Go.Ground.guard }], guard := some (1, true) }) (v := ?vv_u8_5) rfl (by kernel_rfl) (by kernel_rfl) (by kernel_rfl) (fun _ _ _ h => h) (Or.inl ⟨by rfl, ?hy_u8_5⟩) (by assumption) ?rest_u8_5
                case hy_u8_5 => (intro w hSw; (try dsimp only at hSw); first | (go_simp; done) | (go_simp; with_reducible rfl))
                try simp only [Act.put, List.setIfInBounds_toArray, List.set_cons_zero, List.set_cons_succ]
                refine wpAnyH_take (i := 6) (oi := { dst := some 93, op := Go.Op.move (Go.Operand.tmp 3), type := 22, pos := "laws.go:1052", after := #[{ on := 1, ground := Go.Ground.guard }], guard := some (1, true) }) (v := ?vv_u8_6) rfl (by kernel_rfl) (by kernel_rfl) (by kernel_rfl) (fun _ _ _ h => h) (Or.inl ⟨by rfl, ?hy_u8_6⟩) (by assumption) ?rest_u8_6
                case hy_u8_6 => (intro w hSw; (try dsimp only at hSw); first | (go_simp; done) | (go_simp; with_reducible rfl))
                try simp only [Act.put, List.setIfInBounds_toArray, List.set_cons_zero, List.set_cons_succ]
                refine wpAnyH_take (i := 7) (oi := { dst := some 94, op := Go.Op.move (Go.Operand.tmp 8), type := 3, pos := "laws.go:1052", after := #[{ on := 1, ground := Go.Ground.guard }], guard := some (1, true) }) (v := ?vv_u8_7) rfl (by kernel_rfl) (by kernel_rfl) (by kernel_rfl) (fun _ _ _ h => h) (Or.inl ⟨by rfl, ?hy_u8_7⟩) (by assumption) ?rest_u8_7
                case hy_u8_7 => (intro w hSw; (try dsimp only at hSw); first | (go_simp; done) | (go_simp; with_reducible rfl))
                try simp only [Act.put, List.setIfInBounds_toArray, List.set_cons_zero, List.set_cons_succ]
                refine wpAnyH_take (i := 8) (oi := { dst := some 95, op := Go.Op.indexAddr 22 (Go.Operand.tmp 93) (Go.Operand.tmp 94), type := 0, pos := "laws.go:1052", after := #[{ on := 6, ground := Go.Ground.data }, { on := 7, ground := Go.Ground.data }, { on := 1, ground := Go.Ground.guard }], guard := some (1, true) }) (v := ?vv_u8_8) rfl (by kernel_rfl) (by kernel_rfl) (by kernel_rfl) (fun _ _ _ h => h) (Or.inl ⟨by rfl, ?hy_u8_8⟩) (by assumption) ?rest_u8_8
                case hy_u8_8 => (intro w hSw; (try dsimp only at hSw); first | (go_simp; done) | (go_simp; with_reducible rfl))
                try simp only [Act.put, List.setIfInBounds_toArray, List.set_cons_zero, List.set_cons_succ]
                refine wpAnyH_take (i := 9) (oi := { dst := some 96, op := Go.Op.load 23 (Go.Operand.tmp 95), type := 23, pos := "laws.go:1052", after := #[{ on := 8, ground := Go.Ground.data }, { on := 1, ground := Go.Ground.guard }], guard := some (1, true) }) (v := ?vv_u8_9) rfl (by kernel_rfl) (by kernel_rfl) (by kernel_rfl) (fun _ _ _ h => h) (Or.inl ⟨by rfl, ?hy_u8_9⟩) (by assumption) ?rest_u8_9
                case hy_u8_9 => (intro w hSw; (try dsimp only at hSw); first | (go_simp; done) | (go_simp; with_reducible rfl))
                try simp only [Act.put, List.setIfInBounds_toArray, List.set_cons_zero, List.set_cons_succ]
                refine wpAnyH_ready (rs := [10]) (by kernel_rfl) (by simp) ?_
                refine AllReadyH.cons (o := { dst := some 97, op := Go.Op.binOp Go.BinOp.sub 23 (Go.Operand.tmp 92) (Go.Operand.tmp 96) 23, type := 23, pos := "laws.go:1052", after := #[{ on := 5, ground := Go.Ground.data }, { on := 9, ground := Go.Ground.data }, { on := 1, ground := Go.Ground.guard }], guard := some (1, true) }) rfl (fun K hK => ?_) AllReadyH.nil
                go_simp
                skip
                refine hK.out _ _ ?hs_u8_10 (fun hHeld => ?hr_u8_10)
                case hs_u8_10 => go_keep
                clear hK K
                try simp only [Act.put, List.setIfInBounds_toArray, List.set_cons_zero, List.set_cons_succ]
                refine wpAnyH_take (i := 11) (oi := { dst := some 98, op := Go.Op.binOp Go.BinOp.eql 23 (Go.Operand.tmp 97) (Go.Operand.const (Go.Value.float Go.FloatKind.f64 0)) 23, type := 4, pos := "laws.go:1052", after := #[{ on := 10, ground := Go.Ground.data }, { on := 1, ground := Go.Ground.guard }], guard := some (1, true) }) (v := .bool false) rfl (by kernel_rfl) (by kernel_rfl) (by kernel_rfl) (fun _ _ _ h => h) (Or.inl ⟨by rfl, ?hy_u8_11⟩) (by assumption) ?rest_u8_11
                case hy_u8_11 => (intro w hSw; (try dsimp only at hSw); first | (go_simp; done) | (go_simp; with_reducible rfl))
                try simp only [Act.put, List.setIfInBounds_toArray, List.set_cons_zero, List.set_cons_succ]
                refine wpAnyH_take (i := 12) (oi := { dst := some 99, op := Go.Op.pick (Go.Operand.tmp 88) (Go.Operand.tmp 98) (Go.Operand.const (Go.Value.bool false)), type := 4, pos := "laws.go:1052", after := #[{ on := 1, ground := Go.Ground.data }, { on := 11, ground := Go.Ground.data }], guard := none }) (v := .bool false) rfl (by kernel_rfl) (by kernel_rfl) (by kernel_rfl) (fun _ _ _ h => h) (Or.inl ⟨by rfl, ?hy_u8_12⟩) (by assumption) ?rest_u8_12
                case hy_u8_12 => (intro w hSw; (try dsimp only at hSw); first | (go_simp; done) | (go_simp; with_reducible rfl))
                try simp only [Act.put, List.setIfInBounds_toArray, List.set_cons_zero, List.set_cons_succ]
                refine wpAnyH_take (i := 13) (oi := { dst := some 7, op := Go.Op.assign (Go.Operand.tmp 99), type := 4, pos := "laws.go:1052", after := #[{ on := 12, ground := Go.Ground.data }, { on := 1, ground := Go.Ground.chain }, { on := 0, ground := Go.Ground.phase }, { on := 1, ground := Go.Ground.phase }, { on := 2, ground := Go.Ground.phase }, { on := 3, ground := Go.Ground.phase }, { on := 4, ground := Go.Ground.phase }, { on := 5, ground := Go.Ground.phase }, { on := 6, ground := Go.Ground.phase }, { on := 7, ground := Go.Ground.phase }, { on := 8, ground := Go.Ground.phase }, { on := 9, ground := Go.Ground.phase }, { on := 10, ground := Go.Ground.phase }, { on := 11, ground := Go.Ground.phase }, { on := 12, ground := Go.Ground.phase }], guard := none }) (v := ?vv_u8_13) rfl (by kernel_rfl) (by kernel_rfl) (by kernel_rfl) (fun _ _ _ h => h) (Or.inl ⟨by rfl, ?hy_u8_13⟩) (by assumption) ?rest_u8_13
                case hy_u8_13 => (intro w hSw; (try dsimp only at hSw); first | (go_simp; done) | (go_simp; with_reducible rfl))
                try simp only [Act.put, List.setIfInBounds_toArray, List.set_cons_zero, List.set_cons_succ]
                refine wpAnyH_done (by kernel_rfl) ?_ _
                all_goals go_wp2
                all_goals (go_roundg (xs.length - (i + 1)); (case measure => (have := HK.out; omega)); (case rel => exact ⟨i + 1, false, ⟨by omega, by omega⟩, by first | rfl | simp, by go_num, ⟨fun h => by cases h⟩, ⟨(by repeat (first | (with_reducible first | exact HB.out | apply below_alloc | apply pw_below_drewN | apply below_drew1) | exact HB.out))⟩, ⟨(Kd.C_below HX.out (by repeat (first | exact Below.refl _ _ | apply below_alloc | apply pw_below_drewN | apply below_drew1)))⟩, ⟨(Kd.C_below HAM.out (by repeat (first | exact Below.refl _ _ | apply below_alloc | apply pw_below_drewN | apply below_drew1)))⟩, ⟨(Kd.C_below HAN.out (by repeat (first | exact Below.refl _ _ | apply below_alloc | apply pw_below_drewN | apply below_drew1)))⟩⟩))
              · obtain ⟨z, hz1⟩ := Option.ne_none_iff_exists'.1 hz
                have y1 : ∀ w, (FloatKind.f64.format.order (Fl.bits .sub w b5 b5) 0 == some Ordering.eq) = (FloatKind.f64.format.order z 0 == some Ordering.eq) := fun w => by rw [(cv_some ((cv_bits .sub w b5 b5).trans hz1)).1]
                have HZ := Aside0.mk hz
                clear hz hz1
                refine wp_region_held_drew (S := (fun w' => w'.cell? (ad5.add i) = some (.float .f64 b5))) (by kernel_rfl) ?hS_u9 (fun hS0 => ?hr_u9)
                case hS_u9 => go_keep
                refine wpAnyH_take (i := 0) (oi := { dst := some 87, op := Go.Op.move (Go.Operand.tmp 7), type := 4, pos := "laws.go:1052", after := #[], guard := none }) (v := ?vv_u9_0) rfl (by kernel_rfl) (by kernel_rfl) (by kernel_rfl) (fun _ _ _ h => h) (Or.inl ⟨by rfl, ?hy_u9_0⟩) (by assumption) ?rest_u9_0
                case hy_u9_0 => (intro w hSw; (try dsimp only at hSw); first | (go_simp; done) | (go_simp; with_reducible rfl))
                try simp only [Act.put, List.setIfInBounds_toArray, List.set_cons_zero, List.set_cons_succ]
                refine wpAnyH_take (i := 1) (oi := { dst := some 88, op := Go.Op.move (Go.Operand.tmp 87), type := 4, pos := "laws.go:1052", after := #[{ on := 0, ground := Go.Ground.data }], guard := none }) (v := ?vv_u9_1) rfl (by kernel_rfl) (by kernel_rfl) (by kernel_rfl) (fun _ _ _ h => h) (Or.inl ⟨by rfl, ?hy_u9_1⟩) (by assumption) ?rest_u9_1
                case hy_u9_1 => (intro w hSw; (try dsimp only at hSw); first | (go_simp; done) | (go_simp; with_reducible rfl))
                try simp only [Act.put, List.setIfInBounds_toArray, List.set_cons_zero, List.set_cons_succ]
                refine wpAnyH_take (i := 2) (oi := { dst := some 89, op := Go.Op.move (Go.Operand.tmp 3), type := 22, pos := "laws.go:1052", after := #[{ on := 1, ground := Go.Ground.guard }], guard := some (1, true) }) (v := ?vv_u9_2) rfl (by kernel_rfl) (by kernel_rfl) (by kernel_rfl) (fun _ _ _ h => h) (Or.inl ⟨by rfl, ?hy_u9_2⟩) (by assumption) ?rest_u9_2
                case hy_u9_2 => (intro w hSw; (try dsimp only at hSw); first | (go_simp; done) | (go_simp; with_reducible rfl))
                try simp only [Act.put, List.setIfInBounds_toArray, List.set_cons_zero, List.set_cons_succ]
                refine wpAnyH_take (i := 3) (oi := { dst := some 90, op := Go.Op.move (Go.Operand.tmp 8), type := 3, pos := "laws.go:1052", after := #[{ on := 1, ground := Go.Ground.guard }], guard := some (1, true) }) (v := ?vv_u9_3) rfl (by kernel_rfl) (by kernel_rfl) (by kernel_rfl) (fun _ _ _ h => h) (Or.inl ⟨by rfl, ?hy_u9_3⟩) (by assumption) ?rest_u9_3
                case hy_u9_3 => (intro w hSw; (try dsimp only at hSw); first | (go_simp; done) | (go_simp; with_reducible rfl))
                try simp only [Act.put, List.setIfInBounds_toArray, List.set_cons_zero, List.set_cons_succ]
                refine wpAnyH_take (i := 4) (oi := { dst := some 91, op := Go.Op.indexAddr 22 (Go.Operand.tmp 89) (Go.Operand.tmp 90), type := 0, pos := "laws.go:1052", after := #[{ on := 2, ground := Go.Ground.data }, { on := 3, ground := Go.Ground.data }, { on := 1, ground := Go.Ground.guard }], guard := some (1, true) }) (v := ?vv_u9_4) rfl (by kernel_rfl) (by kernel_rfl) (by kernel_rfl) (fun _ _ _ h => h) (Or.inl ⟨by rfl, ?hy_u9_4⟩) (by assumption) ?rest_u9_4
                case hy_u9_4 => (intro w hSw; (try dsimp only at hSw); first | (go_simp; done) | (go_simp; with_reducible rfl))
                try simp only [Act.put, List.setIfInBounds_toArray, List.set_cons_zero, List.set_cons_succ]
                refine wpAnyH_take (i := 5) (oi := { dst := some 92, op := Go.Op.load 23 (Go.Operand.tmp 91), type := 23, pos := "laws.go:1052", after := #[{ on := 4, ground := Go.Ground.data }, { on := 1, ground := Go.Ground.guard }], guard := some (1, true) }) (v := ?vv_u9_5) rfl (by kernel_rfl) (by kernel_rfl) (by kernel_rfl) (fun _ _ _ h => h) (Or.inl ⟨by rfl, ?hy_u9_5⟩) (by assumption) ?rest_u9_5
                case hy_u9_5 => (intro w hSw; (try dsimp only at hSw); first | (go_simp; done) | (go_simp; with_reducible rfl))
                try simp only [Act.put, List.setIfInBounds_toArray, List.set_cons_zero, List.set_cons_succ]
                refine wpAnyH_take (i := 6) (oi := { dst := some 93, op := Go.Op.move (Go.Operand.tmp 3), type := 22, pos := "laws.go:1052", after := #[{ on := 1, ground := Go.Ground.guard }], guard := some (1, true) }) (v := ?vv_u9_6) rfl (by kernel_rfl) (by kernel_rfl) (by kernel_rfl) (fun _ _ _ h => h) (Or.inl ⟨by rfl, ?hy_u9_6⟩) (by assumption) ?rest_u9_6
                case hy_u9_6 => (intro w hSw; (try dsimp only at hSw); first | (go_simp; done) | (go_simp; with_reducible rfl))
                try simp only [Act.put, List.setIfInBounds_toArray, List.set_cons_zero, List.set_cons_succ]
                refine wpAnyH_take (i := 7) (oi := { dst := some 94, op := Go.Op.move (Go.Operand.tmp 8), type := 3, pos := "laws.go:1052", after := #[{ on := 1, ground := Go.Ground.guard }], guard := some (1, true) }) (v := ?vv_u9_7) rfl (by kernel_rfl) (by kernel_rfl) (by kernel_rfl) (fun _ _ _ h => h) (Or.inl ⟨by rfl, ?hy_u9_7⟩) (by assumption) ?rest_u9_7
                case hy_u9_7 => (intro w hSw; (try dsimp only at hSw); first | (go_simp; done) | (go_simp; with_reducible rfl))
                try simp only [Act.put, List.setIfInBounds_toArray, List.set_cons_zero, List.set_cons_succ]
                refine wpAnyH_take (i := 8) (oi := { dst := some 95, op := Go.Op.indexAddr 22 (Go.Operand.tmp 93) (Go.Operand.tmp 94), type := 0, pos := "laws.go:1052", after := #[{ on := 6, ground := Go.Ground.data }, { on := 7, ground := Go.Ground.data }, { on := 1, ground := Go.Ground.guard }], guard := some (1, true) }) (v := ?vv_u9_8) rfl (by kernel_rfl) (by kernel_rfl) (by kernel_rfl) (fun _ _ _ h => h) (Or.inl ⟨by rfl, ?hy_u9_8⟩) (by assumption) ?rest_u9_8
                case hy_u9_8 => (intro w hSw; (try dsimp only at hSw); first | (go_simp; done) | (go_simp; with_reducible rfl))
                try simp only [Act.put, List.setIfInBounds_toArray, List.set_cons_zero, List.set_cons_succ]
                refine wpAnyH_take (i := 9) (oi := { dst := some 96, op := Go.Op.load 23 (Go.Operand.tmp 95), type := 23, pos := "laws.go:1052", after := #[{ on := 8, ground := Go.Ground.data }, { on := 1, ground := Go.Ground.guard }], guard := some (1, true) }) (v := ?vv_u9_9) rfl (by kernel_rfl) (by kernel_rfl) (by kernel_rfl) (fun _ _ _ h => h) (Or.inl ⟨by rfl, ?hy_u9_9⟩) (by assumption) ?rest_u9_9
                case hy_u9_9 => (intro w hSw; (try dsimp only at hSw); first | (go_simp; done) | (go_simp; with_reducible rfl))
                try simp only [Act.put, List.setIfInBounds_toArray, List.set_cons_zero, List.set_cons_succ]
                refine wpAnyH_ready (rs := [10]) (by kernel_rfl) (by simp) ?_
                refine AllReadyH.cons (o := { dst := some 97, op := Go.Op.binOp Go.BinOp.sub 23 (Go.Operand.tmp 92) (Go.Operand.tmp 96) 23, type := 23, pos := "laws.go:1052", after := #[{ on := 5, ground := Go.Ground.data }, { on := 9, ground := Go.Ground.data }, { on := 1, ground := Go.Ground.guard }], guard := some (1, true) }) rfl (fun K hK => ?_) AllReadyH.nil
                go_simp
                skip
                refine hK.out _ _ ?hs_u9_10 (fun hHeld => ?hr_u9_10)
                case hs_u9_10 => go_keep
                clear hK K
                try simp only [Act.put, List.setIfInBounds_toArray, List.set_cons_zero, List.set_cons_succ]
                refine wpAnyH_take (i := 11) (oi := { dst := some 98, op := Go.Op.binOp Go.BinOp.eql 23 (Go.Operand.tmp 97) (Go.Operand.const (Go.Value.float Go.FloatKind.f64 0)) 23, type := 4, pos := "laws.go:1052", after := #[{ on := 10, ground := Go.Ground.data }, { on := 1, ground := Go.Ground.guard }], guard := some (1, true) }) (v := .bool (FloatKind.f64.format.order z 0 == some Ordering.eq)) rfl (by kernel_rfl) (by kernel_rfl) (by kernel_rfl) (fun _ _ _ h => h) (Or.inl ⟨by rfl, ?hy_u9_11⟩) (by assumption) ?rest_u9_11
                case hy_u9_11 => (intro w hSw; (try dsimp only at hSw); first | (go_simp; done) | (go_simp; with_reducible rfl))
                try simp only [Act.put, List.setIfInBounds_toArray, List.set_cons_zero, List.set_cons_succ]
                refine wpAnyH_take (i := 12) (oi := { dst := some 99, op := Go.Op.pick (Go.Operand.tmp 88) (Go.Operand.tmp 98) (Go.Operand.const (Go.Value.bool false)), type := 4, pos := "laws.go:1052", after := #[{ on := 1, ground := Go.Ground.data }, { on := 11, ground := Go.Ground.data }], guard := none }) (v := .bool (FloatKind.f64.format.order z 0 == some Ordering.eq)) rfl (by kernel_rfl) (by kernel_rfl) (by kernel_rfl) (fun _ _ _ h => h) (Or.inl ⟨by rfl, ?hy_u9_12⟩) (by assumption) ?rest_u9_12
                case hy_u9_12 => (intro w hSw; (try dsimp only at hSw); first | (go_simp; done) | (go_simp; with_reducible rfl))
                try simp only [Act.put, List.setIfInBounds_toArray, List.set_cons_zero, List.set_cons_succ]
                refine wpAnyH_take (i := 13) (oi := { dst := some 7, op := Go.Op.assign (Go.Operand.tmp 99), type := 4, pos := "laws.go:1052", after := #[{ on := 12, ground := Go.Ground.data }, { on := 1, ground := Go.Ground.chain }, { on := 0, ground := Go.Ground.phase }, { on := 1, ground := Go.Ground.phase }, { on := 2, ground := Go.Ground.phase }, { on := 3, ground := Go.Ground.phase }, { on := 4, ground := Go.Ground.phase }, { on := 5, ground := Go.Ground.phase }, { on := 6, ground := Go.Ground.phase }, { on := 7, ground := Go.Ground.phase }, { on := 8, ground := Go.Ground.phase }, { on := 9, ground := Go.Ground.phase }, { on := 10, ground := Go.Ground.phase }, { on := 11, ground := Go.Ground.phase }, { on := 12, ground := Go.Ground.phase }], guard := none }) (v := ?vv_u9_13) rfl (by kernel_rfl) (by kernel_rfl) (by kernel_rfl) (fun _ _ _ h => h) (Or.inl ⟨by rfl, ?hy_u9_13⟩) (by assumption) ?rest_u9_13
                case hy_u9_13 => (intro w hSw; (try dsimp only at hSw); first | (go_simp; done) | (go_simp; with_reducible rfl))
                try simp only [Act.put, List.setIfInBounds_toArray, List.set_cons_zero, List.set_cons_succ]
                refine wpAnyH_done (by kernel_rfl) ?_ _
                all_goals go_wp2
                all_goals (go_roundg (xs.length - (i + 1)); (case measure => (have := HK.out; omega)); (case rel => exact ⟨i + 1, _, ⟨by omega, by omega⟩, by first | rfl | simp, by go_num, ⟨fun _ j hj => by (rcases Nat.lt_or_ge j i with h | h; exact HW.out (by simp) j h; obtain rfl : j = i := (by omega); rw [← HB5.out]; exact HZ.out)⟩, ⟨(by repeat (first | (with_reducible first | exact HB.out | apply below_alloc | apply pw_below_drewN | apply below_drew1) | exact HB.out))⟩, ⟨(Kd.C_below HX.out (by repeat (first | exact Below.refl _ _ | apply below_alloc | apply pw_below_drewN | apply below_drew1)))⟩, ⟨(Kd.C_below HAM.out (by repeat (first | exact Below.refl _ _ | apply below_alloc | apply pw_below_drewN | apply below_drew1)))⟩, ⟨(Kd.C_below HAN.out (by repeat (first | exact Below.refl _ _ | apply below_alloc | apply pw_below_drewN | apply below_drew1)))⟩⟩))
          · have hn1 : isN b1 = false := by simpa using hn
            have z1 : ∀ w, (FloatKind.f64.format.order b1 (Fl.bits .add w b5 0) != some Ordering.eq) = false := fun w => by rw [ord_like (hlk w) hn1]; rfl
            clear hlk hn hn1
            go_wp2
            refine wp_region_held_drew (S := (fun w' => w'.cell? (ad1.add i) = some (.float .f64 b1))) (by kernel_rfl) ?hS_u5 (fun hS0 => ?hr_u5)
            case hS_u5 => go_keep
            refine wpAnyH_take (i := 0) (oi := { dst := some 65, op := Go.Op.move (Go.Operand.tmp 5), type := 22, pos := "laws.go:1049", after := #[], guard := none }) (v := ?vv_u5_0) rfl (by kernel_rfl) (by kernel_rfl) (by kernel_rfl) (fun _ _ _ h => h) (Or.inl ⟨by rfl, ?hy_u5_0⟩) (by assumption) ?rest_u5_0
            case hy_u5_0 => (intro w hSw; (try dsimp only at hSw); first | (go_simp; done) | (go_simp; with_reducible rfl))
            try simp only [Act.put, List.setIfInBounds_toArray, List.set_cons_zero, List.set_cons_succ]
            refine wpAnyH_take (i := 1) (oi := { dst := some 66, op := Go.Op.move (Go.Operand.tmp 8), type := 3, pos := "laws.go:1049", after := #[], guard := none }) (v := ?vv_u5_1) rfl (by kernel_rfl) (by kernel_rfl) (by kernel_rfl) (fun _ _ _ h => h) (Or.inl ⟨by rfl, ?hy_u5_1⟩) (by assumption) ?rest_u5_1
            case hy_u5_1 => (intro w hSw; (try dsimp only at hSw); first | (go_simp; done) | (go_simp; with_reducible rfl))
            try simp only [Act.put, List.setIfInBounds_toArray, List.set_cons_zero, List.set_cons_succ]
            refine wpAnyH_take (i := 2) (oi := { dst := some 67, op := Go.Op.indexAddr 22 (Go.Operand.tmp 65) (Go.Operand.tmp 66), type := 0, pos := "laws.go:1049", after := #[{ on := 0, ground := Go.Ground.data }, { on := 1, ground := Go.Ground.data }], guard := none }) (v := ?vv_u5_2) rfl (by kernel_rfl) (by kernel_rfl) (by kernel_rfl) (fun _ _ _ h => h) (Or.inl ⟨by rfl, ?hy_u5_2⟩) (by assumption) ?rest_u5_2
            case hy_u5_2 => (intro w hSw; (try dsimp only at hSw); first | (go_simp; done) | (go_simp; with_reducible rfl))
            try simp only [Act.put, List.setIfInBounds_toArray, List.set_cons_zero, List.set_cons_succ]
            refine wpAnyH_take (i := 3) (oi := { dst := some 68, op := Go.Op.load 23 (Go.Operand.tmp 67), type := 23, pos := "laws.go:1049", after := #[{ on := 2, ground := Go.Ground.data }], guard := none }) (v := ?vv_u5_3) rfl (by kernel_rfl) (by kernel_rfl) (by kernel_rfl) (fun _ _ _ h => h) (Or.inl ⟨by rfl, ?hy_u5_3⟩) (by assumption) ?rest_u5_3
            case hy_u5_3 => (intro w hSw; (try dsimp only at hSw); first | (go_simp; done) | (go_simp; with_reducible rfl))
            try simp only [Act.put, List.setIfInBounds_toArray, List.set_cons_zero, List.set_cons_succ]
            refine wpAnyH_take (i := 4) (oi := { dst := some 69, op := Go.Op.move (Go.Operand.tmp 9), type := 23, pos := "laws.go:1049", after := #[], guard := none }) (v := ?vv_u5_4) rfl (by kernel_rfl) (by kernel_rfl) (by kernel_rfl) (fun _ _ _ h => h) (Or.inl ⟨by rfl, ?hy_u5_4⟩) (by assumption) ?rest_u5_4
            case hy_u5_4 => (intro w hSw; (try dsimp only at hSw); first | (go_simp; done) | (go_simp; with_reducible rfl))
            try simp only [Act.put, List.setIfInBounds_toArray, List.set_cons_zero, List.set_cons_succ]
            refine wpAnyH_take (i := 5) (oi := { dst := some 70, op := Go.Op.binOp Go.BinOp.neq 23 (Go.Operand.tmp 68) (Go.Operand.tmp 69) 23, type := 4, pos := "laws.go:1049", after := #[{ on := 3, ground := Go.Ground.data }, { on := 4, ground := Go.Ground.data }], guard := none }) (v := .bool false) rfl (by kernel_rfl) (by kernel_rfl) (by kernel_rfl) (fun _ _ _ h => h) (Or.inl ⟨by rfl, ?hy_u5_5⟩) (by assumption) ?rest_u5_5
            case hy_u5_5 => (intro w hSw; (try dsimp only at hSw); first | (go_simp; done) | (go_simp; with_reducible rfl))
            try simp only [Act.put, List.setIfInBounds_toArray, List.set_cons_zero, List.set_cons_succ]
            refine wpAnyH_take (i := 6) (oi := { dst := some 71, op := Go.Op.move (Go.Operand.tmp 70), type := 4, pos := "laws.go:1049", after := #[{ on := 5, ground := Go.Ground.data }], guard := none }) (v := .bool false) rfl (by kernel_rfl) (by kernel_rfl) (by kernel_rfl) (fun _ _ _ h => h) (Or.inl ⟨by rfl, ?hy_u5_6⟩) (by assumption) ?rest_u5_6
            case hy_u5_6 => (intro w hSw; (try dsimp only at hSw); first | (go_simp; done) | (go_simp; with_reducible rfl))
            try simp only [Act.put, List.setIfInBounds_toArray, List.set_cons_zero, List.set_cons_succ]
            refine wpAnyH_take (i := 7) (oi := { dst := some 72, op := Go.Op.move (Go.Operand.tmp 5), type := 22, pos := "laws.go:1049", after := #[{ on := 6, ground := Go.Ground.guard }], guard := some (6, true) }) (v := undef) rfl (by kernel_rfl) (by kernel_rfl) (by kernel_rfl) (fun _ _ _ h => h) (Or.inr ⟨by rfl, rfl⟩) (by assumption) ?_
            try simp only [Act.put, List.setIfInBounds_toArray, List.set_cons_zero, List.set_cons_succ]
            refine wpAnyH_take (i := 8) (oi := { dst := some 73, op := Go.Op.move (Go.Operand.tmp 8), type := 3, pos := "laws.go:1049", after := #[{ on := 6, ground := Go.Ground.guard }], guard := some (6, true) }) (v := undef) rfl (by kernel_rfl) (by kernel_rfl) (by kernel_rfl) (fun _ _ _ h => h) (Or.inr ⟨by rfl, rfl⟩) (by assumption) ?_
            try simp only [Act.put, List.setIfInBounds_toArray, List.set_cons_zero, List.set_cons_succ]
            refine wpAnyH_take (i := 9) (oi := { dst := some 74, op := Go.Op.indexAddr 22 (Go.Operand.tmp 72) (Go.Operand.tmp 73), type := 0, pos := "laws.go:1049", after := #[{ on := 7, ground := Go.Ground.data }, { on := 8, ground := Go.Ground.data }, { on := 6, ground := Go.Ground.guard }], guard := some (6, true) }) (v := undef) rfl (by kernel_rfl) (by kernel_rfl) (by kernel_rfl) (fun _ _ _ h => h) (Or.inr ⟨by rfl, rfl⟩) (by assumption) ?_
            try simp only [Act.put, List.setIfInBounds_toArray, List.set_cons_zero, List.set_cons_succ]
            refine wpAnyH_take (i := 10) (oi := { dst := some 75, op := Go.Op.load 23 (Go.Operand.tmp 74), type := 23, pos := "laws.go:1049", after := #[{ on := 9, ground := Go.Ground.data }, { on := 6, ground := Go.Ground.guard }], guard := some (6, true) }) (v := undef) rfl (by kernel_rfl) (by kernel_rfl) (by kernel_rfl) (fun _ _ _ h => h) (Or.inr ⟨by rfl, rfl⟩) (by assumption) ?_
            try simp only [Act.put, List.setIfInBounds_toArray, List.set_cons_zero, List.set_cons_succ]
            refine wpAnyH_take (i := 11) (oi := { dst := some 76, op := Go.Op.move (Go.Operand.tmp 5), type := 22, pos := "laws.go:1049", after := #[{ on := 6, ground := Go.Ground.guard }], guard := some (6, true) }) (v := undef) rfl (by kernel_rfl) (by kernel_rfl) (by kernel_rfl) (fun _ _ _ h => h) (Or.inr ⟨by rfl, rfl⟩) (by assumption) ?_
            try simp only [Act.put, List.setIfInBounds_toArray, List.set_cons_zero, List.set_cons_succ]
            refine wpAnyH_take (i := 12) (oi := { dst := some 77, op := Go.Op.move (Go.Operand.tmp 8), type := 3, pos := "laws.go:1049", after := #[{ on := 6, ground := Go.Ground.guard }], guard := some (6, true) }) (v := undef) rfl (by kernel_rfl) (by kernel_rfl) (by kernel_rfl) (fun _ _ _ h => h) (Or.inr ⟨by rfl, rfl⟩) (by assumption) ?_
            try simp only [Act.put, List.setIfInBounds_toArray, List.set_cons_zero, List.set_cons_succ]
            refine wpAnyH_take (i := 13) (oi := { dst := some 78, op := Go.Op.indexAddr 22 (Go.Operand.tmp 76) (Go.Operand.tmp 77), type := 0, pos := "laws.go:1049", after := #[{ on := 11, ground := Go.Ground.data }, { on := 12, ground := Go.Ground.data }, { on := 6, ground := Go.Ground.guard }], guard := some (6, true) }) (v := undef) rfl (by kernel_rfl) (by kernel_rfl) (by kernel_rfl) (fun _ _ _ h => h) (Or.inr ⟨by rfl, rfl⟩) (by assumption) ?_
            try simp only [Act.put, List.setIfInBounds_toArray, List.set_cons_zero, List.set_cons_succ]
            refine wpAnyH_take (i := 14) (oi := { dst := some 79, op := Go.Op.load 23 (Go.Operand.tmp 78), type := 23, pos := "laws.go:1049", after := #[{ on := 13, ground := Go.Ground.data }, { on := 6, ground := Go.Ground.guard }], guard := some (6, true) }) (v := undef) rfl (by kernel_rfl) (by kernel_rfl) (by kernel_rfl) (fun _ _ _ h => h) (Or.inr ⟨by rfl, rfl⟩) (by assumption) ?_
            try simp only [Act.put, List.setIfInBounds_toArray, List.set_cons_zero, List.set_cons_succ]
            refine wpAnyH_take (i := 15) (oi := { dst := some 80, op := Go.Op.binOp Go.BinOp.eql 23 (Go.Operand.tmp 75) (Go.Operand.tmp 79) 23, type := 4, pos := "laws.go:1049", after := #[{ on := 10, ground := Go.Ground.data }, { on := 14, ground := Go.Ground.data }, { on := 6, ground := Go.Ground.guard }], guard := some (6, true) }) (v := undef) rfl (by kernel_rfl) (by kernel_rfl) (by kernel_rfl) (fun _ _ _ h => h) (Or.inr ⟨by rfl, rfl⟩) (by assumption) ?_
            try simp only [Act.put, List.setIfInBounds_toArray, List.set_cons_zero, List.set_cons_succ]
            refine wpAnyH_take (i := 16) (oi := { dst := some 81, op := Go.Op.move (Go.Operand.tmp 80), type := 4, pos := "laws.go:1049", after := #[{ on := 15, ground := Go.Ground.data }, { on := 6, ground := Go.Ground.chain }, { on := 6, ground := Go.Ground.guard }], guard := some (6, true) }) (v := undef) rfl (by kernel_rfl) (by kernel_rfl) (by kernel_rfl) (fun _ _ _ h => h) (Or.inr ⟨by rfl, rfl⟩) (by assumption) ?_
            try simp only [Act.put, List.setIfInBounds_toArray, List.set_cons_zero, List.set_cons_succ]
            refine wpAnyH_take (i := 17) (oi := { dst := some 82, op := Go.Op.move (Go.Operand.tmp 9), type := 23, pos := "laws.go:1049", after := #[{ on := 16, ground := Go.Ground.guard }], guard := some (16, false) }) (v := undef) rfl (by kernel_rfl) (by kernel_rfl) (by kernel_rfl) (fun _ _ _ h => h) (Or.inr ⟨by rfl, rfl⟩) (by assumption) ?_
            try simp only [Act.put, List.setIfInBounds_toArray, List.set_cons_zero, List.set_cons_succ]
            refine wpAnyH_take (i := 18) (oi := { dst := some 83, op := Go.Op.move (Go.Operand.tmp 9), type := 23, pos := "laws.go:1049", after := #[{ on := 16, ground := Go.Ground.guard }], guard := some (16, false) }) (v := undef) rfl (by kernel_rfl) (by kernel_rfl) (by kernel_rfl) (fun _ _ _ h => h) (Or.inr ⟨by rfl, rfl⟩) (by assumption) ?_
            try simp only [Act.put, List.setIfInBounds_toArray, List.set_cons_zero, List.set_cons_succ]
            refine wpAnyH_take (i := 19) (oi := { dst := some 84, op := Go.Op.binOp Go.BinOp.eql 23 (Go.Operand.tmp 82) (Go.Operand.tmp 83) 23, type := 4, pos := "laws.go:1049", after := #[{ on := 17, ground := Go.Ground.data }, { on := 18, ground := Go.Ground.data }, { on := 16, ground := Go.Ground.guard }], guard := some (16, false) }) (v := undef) rfl (by kernel_rfl) (by kernel_rfl) (by kernel_rfl) (fun _ _ _ h => h) (Or.inr ⟨by rfl, rfl⟩) (by assumption) ?_
            try simp only [Act.put, List.setIfInBounds_toArray, List.set_cons_zero, List.set_cons_succ]
            refine wpAnyH_take (i := 20) (oi := { dst := some 85, op := Go.Op.pick (Go.Operand.tmp 81) (Go.Operand.const (Go.Value.bool true)) (Go.Operand.tmp 84), type := 4, pos := "laws.go:1049", after := #[{ on := 16, ground := Go.Ground.data }, { on := 19, ground := Go.Ground.data }, { on := 6, ground := Go.Ground.guard }], guard := some (6, true) }) (v := undef) rfl (by kernel_rfl) (by kernel_rfl) (by kernel_rfl) (fun _ _ _ h => h) (Or.inr ⟨by rfl, rfl⟩) (by assumption) ?_
            try simp only [Act.put, List.setIfInBounds_toArray, List.set_cons_zero, List.set_cons_succ]
            refine wpAnyH_take (i := 21) (oi := { dst := some 86, op := Go.Op.pick (Go.Operand.tmp 71) (Go.Operand.tmp 85) (Go.Operand.const (Go.Value.bool false)), type := 4, pos := "laws.go:1049", after := #[{ on := 6, ground := Go.Ground.data }, { on := 20, ground := Go.Ground.data }], guard := none }) (v := .bool false) rfl (by kernel_rfl) (by kernel_rfl) (by kernel_rfl) (fun _ _ _ h => h) (Or.inl ⟨by rfl, ?hy_u5_21⟩) (by assumption) ?rest_u5_21
            case hy_u5_21 => (intro w hSw; (try dsimp only at hSw); first | (go_simp; done) | (go_simp; with_reducible rfl))
            try simp only [Act.put, List.setIfInBounds_toArray, List.set_cons_zero, List.set_cons_succ]
            refine wpAnyH_done (by kernel_rfl) ?_ _
            all_goals go_wp2
            cases B
            · refine wp_region_held_drew (S := (fun w' => w'.cell? (ad5.add i) = some (.float .f64 b5))) (by kernel_rfl) ?hS_u10 (fun hS0 => ?hr_u10)
              case hS_u10 => go_keep
              refine wpAnyH_take (i := 0) (oi := { dst := some 87, op := Go.Op.move (Go.Operand.tmp 7), type := 4, pos := "laws.go:1052", after := #[], guard := none }) (v := ?vv_u10_0) rfl (by kernel_rfl) (by kernel_rfl) (by kernel_rfl) (fun _ _ _ h => h) (Or.inl ⟨by rfl, ?hy_u10_0⟩) (by assumption) ?rest_u10_0
              case hy_u10_0 => (intro w hSw; (try dsimp only at hSw); first | (go_simp; done) | (go_simp; with_reducible rfl))
              try simp only [Act.put, List.setIfInBounds_toArray, List.set_cons_zero, List.set_cons_succ]
              refine wpAnyH_take (i := 1) (oi := { dst := some 88, op := Go.Op.move (Go.Operand.tmp 87), type := 4, pos := "laws.go:1052", after := #[{ on := 0, ground := Go.Ground.data }], guard := none }) (v := ?vv_u10_1) rfl (by kernel_rfl) (by kernel_rfl) (by kernel_rfl) (fun _ _ _ h => h) (Or.inl ⟨by rfl, ?hy_u10_1⟩) (by assumption) ?rest_u10_1
              case hy_u10_1 => (intro w hSw; (try dsimp only at hSw); first | (go_simp; done) | (go_simp; with_reducible rfl))
              try simp only [Act.put, List.setIfInBounds_toArray, List.set_cons_zero, List.set_cons_succ]
              refine wpAnyH_take (i := 2) (oi := { dst := some 89, op := Go.Op.move (Go.Operand.tmp 3), type := 22, pos := "laws.go:1052", after := #[{ on := 1, ground := Go.Ground.guard }], guard := some (1, true) }) (v := undef) rfl (by kernel_rfl) (by kernel_rfl) (by kernel_rfl) (fun _ _ _ h => h) (Or.inr ⟨by rfl, rfl⟩) (by assumption) ?_
              try simp only [Act.put, List.setIfInBounds_toArray, List.set_cons_zero, List.set_cons_succ]
              refine wpAnyH_take (i := 3) (oi := { dst := some 90, op := Go.Op.move (Go.Operand.tmp 8), type := 3, pos := "laws.go:1052", after := #[{ on := 1, ground := Go.Ground.guard }], guard := some (1, true) }) (v := undef) rfl (by kernel_rfl) (by kernel_rfl) (by kernel_rfl) (fun _ _ _ h => h) (Or.inr ⟨by rfl, rfl⟩) (by assumption) ?_
              try simp only [Act.put, List.setIfInBounds_toArray, List.set_cons_zero, List.set_cons_succ]
              refine wpAnyH_take (i := 4) (oi := { dst := some 91, op := Go.Op.indexAddr 22 (Go.Operand.tmp 89) (Go.Operand.tmp 90), type := 0, pos := "laws.go:1052", after := #[{ on := 2, ground := Go.Ground.data }, { on := 3, ground := Go.Ground.data }, { on := 1, ground := Go.Ground.guard }], guard := some (1, true) }) (v := undef) rfl (by kernel_rfl) (by kernel_rfl) (by kernel_rfl) (fun _ _ _ h => h) (Or.inr ⟨by rfl, rfl⟩) (by assumption) ?_
              try simp only [Act.put, List.setIfInBounds_toArray, List.set_cons_zero, List.set_cons_succ]
              refine wpAnyH_take (i := 5) (oi := { dst := some 92, op := Go.Op.load 23 (Go.Operand.tmp 91), type := 23, pos := "laws.go:1052", after := #[{ on := 4, ground := Go.Ground.data }, { on := 1, ground := Go.Ground.guard }], guard := some (1, true) }) (v := undef) rfl (by kernel_rfl) (by kernel_rfl) (by kernel_rfl) (fun _ _ _ h => h) (Or.inr ⟨by rfl, rfl⟩) (by assumption) ?_
              try simp only [Act.put, List.setIfInBounds_toArray, List.set_cons_zero, List.set_cons_succ]
              refine wpAnyH_take (i := 6) (oi := { dst := some 93, op := Go.Op.move (Go.Operand.tmp 3), type := 22, pos := "laws.go:1052", after := #[{ on := 1, ground := Go.Ground.guard }], guard := some (1, true) }) (v := undef) rfl (by kernel_rfl) (by kernel_rfl) (by kernel_rfl) (fun _ _ _ h => h) (Or.inr ⟨by rfl, rfl⟩) (by assumption) ?_
              try simp only [Act.put, List.setIfInBounds_toArray, List.set_cons_zero, List.set_cons_succ]
              refine wpAnyH_take (i := 7) (oi := { dst := some 94, op := Go.Op.move (Go.Operand.tmp 8), type := 3, pos := "laws.go:1052", after := #[{ on := 1, ground := Go.Ground.guard }], guard := some (1, true) }) (v := undef) rfl (by kernel_rfl) (by kernel_rfl) (by kernel_rfl) (fun _ _ _ h => h) (Or.inr ⟨by rfl, rfl⟩) (by assumption) ?_
              try simp only [Act.put, List.setIfInBounds_toArray, List.set_cons_zero, List.set_cons_succ]
              refine wpAnyH_take (i := 8) (oi := { dst := some 95, op := Go.Op.indexAddr 22 (Go.Operand.tmp 93) (Go.Operand.tmp 94), type := 0, pos := "laws.go:1052", after := #[{ on := 6, ground := Go.Ground.data }, { on := 7, ground := Go.Ground.data }, { on := 1, ground := Go.Ground.guard }], guard := some (1, true) }) (v := undef) rfl (by kernel_rfl) (by kernel_rfl) (by kernel_rfl) (fun _ _ _ h => h) (Or.inr ⟨by rfl, rfl⟩) (by assumption) ?_
              try simp only [Act.put, List.setIfInBounds_toArray, List.set_cons_zero, List.set_cons_succ]
              refine wpAnyH_take (i := 9) (oi := { dst := some 96, op := Go.Op.load 23 (Go.Operand.tmp 95), type := 23, pos := "laws.go:1052", after := #[{ on := 8, ground := Go.Ground.data }, { on := 1, ground := Go.Ground.guard }], guard := some (1, true) }) (v := undef) rfl (by kernel_rfl) (by kernel_rfl) (by kernel_rfl) (fun _ _ _ h => h) (Or.inr ⟨by rfl, rfl⟩) (by assumption) ?_
              try simp only [Act.put, List.setIfInBounds_toArray, List.set_cons_zero, List.set_cons_succ]
              refine wpAnyH_take (i := 10) (oi := { dst := some 97, op := Go.Op.binOp Go.BinOp.sub 23 (Go.Operand.tmp 92) (Go.Operand.tmp 96) 23, type := 23, pos := "laws.go:1052", after := #[{ on := 5, ground := Go.Ground.data }, { on := 9, ground := Go.Ground.data }, { on := 1, ground := Go.Ground.guard }], guard := some (1, true) }) (v := undef) rfl (by kernel_rfl) (by kernel_rfl) (by kernel_rfl) (fun _ _ _ h => h) (Or.inr ⟨by rfl, rfl⟩) (by assumption) ?_
              try simp only [Act.put, List.setIfInBounds_toArray, List.set_cons_zero, List.set_cons_succ]
              refine wpAnyH_take (i := 11) (oi := { dst := some 98, op := Go.Op.binOp Go.BinOp.eql 23 (Go.Operand.tmp 97) (Go.Operand.const (Go.Value.float Go.FloatKind.f64 0)) 23, type := 4, pos := "laws.go:1052", after := #[{ on := 10, ground := Go.Ground.data }, { on := 1, ground := Go.Ground.guard }], guard := some (1, true) }) (v := undef) rfl (by kernel_rfl) (by kernel_rfl) (by kernel_rfl) (fun _ _ _ h => h) (Or.inr ⟨by rfl, rfl⟩) (by assumption) ?_
              try simp only [Act.put, List.setIfInBounds_toArray, List.set_cons_zero, List.set_cons_succ]
              refine wpAnyH_take (i := 12) (oi := { dst := some 99, op := Go.Op.pick (Go.Operand.tmp 88) (Go.Operand.tmp 98) (Go.Operand.const (Go.Value.bool false)), type := 4, pos := "laws.go:1052", after := #[{ on := 1, ground := Go.Ground.data }, { on := 11, ground := Go.Ground.data }], guard := none }) (v := .bool false) rfl (by kernel_rfl) (by kernel_rfl) (by kernel_rfl) (fun _ _ _ h => h) (Or.inl ⟨by rfl, ?hy_u10_12⟩) (by assumption) ?rest_u10_12
              case hy_u10_12 => (intro w hSw; (try dsimp only at hSw); first | (go_simp; done) | (go_simp; with_reducible rfl))
              try simp only [Act.put, List.setIfInBounds_toArray, List.set_cons_zero, List.set_cons_succ]
              refine wpAnyH_take (i := 13) (oi := { dst := some 7, op := Go.Op.assign (Go.Operand.tmp 99), type := 4, pos := "laws.go:1052", after := #[{ on := 12, ground := Go.Ground.data }, { on := 1, ground := Go.Ground.chain }, { on := 0, ground := Go.Ground.phase }, { on := 1, ground := Go.Ground.phase }, { on := 2, ground := Go.Ground.phase }, { on := 3, ground := Go.Ground.phase }, { on := 4, ground := Go.Ground.phase }, { on := 5, ground := Go.Ground.phase }, { on := 6, ground := Go.Ground.phase }, { on := 7, ground := Go.Ground.phase }, { on := 8, ground := Go.Ground.phase }, { on := 9, ground := Go.Ground.phase }, { on := 10, ground := Go.Ground.phase }, { on := 11, ground := Go.Ground.phase }, { on := 12, ground := Go.Ground.phase }], guard := none }) (v := ?vv_u10_13) rfl (by kernel_rfl) (by kernel_rfl) (by kernel_rfl) (fun _ _ _ h => h) (Or.inl ⟨by rfl, ?hy_u10_13⟩) (by assumption) ?rest_u10_13
              case hy_u10_13 => (intro w hSw; (try dsimp only at hSw); first | (go_simp; done) | (go_simp; with_reducible rfl))
              try simp only [Act.put, List.setIfInBounds_toArray, List.set_cons_zero, List.set_cons_succ]
              refine wpAnyH_done (by kernel_rfl) ?_ _
              all_goals go_wp2
              all_goals (go_roundg (xs.length - (i + 1)); (case measure => (have := HK.out; omega)); (case rel => exact ⟨i + 1, false, ⟨by omega, by omega⟩, by first | rfl | simp, by go_num, ⟨fun h => by cases h⟩, ⟨(by repeat (first | (with_reducible first | exact HB.out | apply below_alloc | apply pw_below_drewN | apply below_drew1) | exact HB.out))⟩, ⟨(Kd.C_below HX.out (by repeat (first | exact Below.refl _ _ | apply below_alloc | apply pw_below_drewN | apply below_drew1)))⟩, ⟨(Kd.C_below HAM.out (by repeat (first | exact Below.refl _ _ | apply below_alloc | apply pw_below_drewN | apply below_drew1)))⟩, ⟨(Kd.C_below HAN.out (by repeat (first | exact Below.refl _ _ | apply below_alloc | apply pw_below_drewN | apply below_drew1)))⟩⟩))
            · by_cases hz : opF .sub (cv b5) (cv b5) = none
              · have y1 : ∀ w, (FloatKind.f64.format.order (Fl.bits .sub w b5 b5) 0 == some Ordering.eq) = false := fun w => by rw [ord_none (by rw [cv_bits]; exact hz)]; rfl
                clear hz
                refine wp_region_held_drew (S := (fun w' => w'.cell? (ad5.add i) = some (.float .f64 b5))) (by kernel_rfl) ?hS_u11 (fun hS0 => ?hr_u11)
                case hS_u11 => go_keep
                refine wpAnyH_take (i := 0) (oi := { dst := some 87, op := Go.Op.move (Go.Operand.tmp 7), type := 4, pos := "laws.go:1052", after := #[], guard := none }) (v := ?vv_u11_0) rfl (by kernel_rfl) (by kernel_rfl) (by kernel_rfl) (fun _ _ _ h => h) (Or.inl ⟨by rfl, ?hy_u11_0⟩) (by assumption) ?rest_u11_0
                case hy_u11_0 => (intro w hSw; (try dsimp only at hSw); first | (go_simp; done) | (go_simp; with_reducible rfl))
                try simp only [Act.put, List.setIfInBounds_toArray, List.set_cons_zero, List.set_cons_succ]
                refine wpAnyH_take (i := 1) (oi := { dst := some 88, op := Go.Op.move (Go.Operand.tmp 87), type := 4, pos := "laws.go:1052", after := #[{ on := 0, ground := Go.Ground.data }], guard := none }) (v := ?vv_u11_1) rfl (by kernel_rfl) (by kernel_rfl) (by kernel_rfl) (fun _ _ _ h => h) (Or.inl ⟨by rfl, ?hy_u11_1⟩) (by assumption) ?rest_u11_1
                case hy_u11_1 => (intro w hSw; (try dsimp only at hSw); first | (go_simp; done) | (go_simp; with_reducible rfl))
                try simp only [Act.put, List.setIfInBounds_toArray, List.set_cons_zero, List.set_cons_succ]
                refine wpAnyH_take (i := 2) (oi := { dst := some 89, op := Go.Op.move (Go.Operand.tmp 3), type := 22, pos := "laws.go:1052", after := #[{ on := 1, ground := Go.Ground.guard }], guard := some (1, true) }) (v := ?vv_u11_2) rfl (by kernel_rfl) (by kernel_rfl) (by kernel_rfl) (fun _ _ _ h => h) (Or.inl ⟨by rfl, ?hy_u11_2⟩) (by assumption) ?rest_u11_2
                case hy_u11_2 => (intro w hSw; (try dsimp only at hSw); first | (go_simp; done) | (go_simp; with_reducible rfl))
                try simp only [Act.put, List.setIfInBounds_toArray, List.set_cons_zero, List.set_cons_succ]
                refine wpAnyH_take (i := 3) (oi := { dst := some 90, op := Go.Op.move (Go.Operand.tmp 8), type := 3, pos := "laws.go:1052", after := #[{ on := 1, ground := Go.Ground.guard }], guard := some (1, true) }) (v := ?vv_u11_3) rfl (by kernel_rfl) (by kernel_rfl) (by kernel_rfl) (fun _ _ _ h => h) (Or.inl ⟨by rfl, ?hy_u11_3⟩) (by assumption) ?rest_u11_3
                case hy_u11_3 => (intro w hSw; (try dsimp only at hSw); first | (go_simp; done) | (go_simp; with_reducible rfl))
                try simp only [Act.put, List.setIfInBounds_toArray, List.set_cons_zero, List.set_cons_succ]
                refine wpAnyH_take (i := 4) (oi := { dst := some 91, op := Go.Op.indexAddr 22 (Go.Operand.tmp 89) (Go.Operand.tmp 90), type := 0, pos := "laws.go:1052", after := #[{ on := 2, ground := Go.Ground.data }, { on := 3, ground := Go.Ground.data }, { on := 1, ground := Go.Ground.guard }], guard := some (1, true) }) (v := ?vv_u11_4) rfl (by kernel_rfl) (by kernel_rfl) (by kernel_rfl) (fun _ _ _ h => h) (Or.inl ⟨by rfl, ?hy_u11_4⟩) (by assumption) ?rest_u11_4
                case hy_u11_4 => (intro w hSw; (try dsimp only at hSw); first | (go_simp; done) | (go_simp; with_reducible rfl))
                try simp only [Act.put, List.setIfInBounds_toArray, List.set_cons_zero, List.set_cons_succ]
                refine wpAnyH_take (i := 5) (oi := { dst := some 92, op := Go.Op.load 23 (Go.Operand.tmp 91), type := 23, pos := "laws.go:1052", after := #[{ on := 4, ground := Go.Ground.data }, { on := 1, ground := Go.Ground.guard }], guard := some (1, true) }) (v := ?vv_u11_5) rfl (by kernel_rfl) (by kernel_rfl) (by kernel_rfl) (fun _ _ _ h => h) (Or.inl ⟨by rfl, ?hy_u11_5⟩) (by assumption) ?rest_u11_5
                case hy_u11_5 => (intro w hSw; (try dsimp only at hSw); first | (go_simp; done) | (go_simp; with_reducible rfl))
                try simp only [Act.put, List.setIfInBounds_toArray, List.set_cons_zero, List.set_cons_succ]
                refine wpAnyH_take (i := 6) (oi := { dst := some 93, op := Go.Op.move (Go.Operand.tmp 3), type := 22, pos := "laws.go:1052", after := #[{ on := 1, ground := Go.Ground.guard }], guard := some (1, true) }) (v := ?vv_u11_6) rfl (by kernel_rfl) (by kernel_rfl) (by kernel_rfl) (fun _ _ _ h => h) (Or.inl ⟨by rfl, ?hy_u11_6⟩) (by assumption) ?rest_u11_6
                case hy_u11_6 => (intro w hSw; (try dsimp only at hSw); first | (go_simp; done) | (go_simp; with_reducible rfl))
                try simp only [Act.put, List.setIfInBounds_toArray, List.set_cons_zero, List.set_cons_succ]
                refine wpAnyH_take (i := 7) (oi := { dst := some 94, op := Go.Op.move (Go.Operand.tmp 8), type := 3, pos := "laws.go:1052", after := #[{ on := 1, ground := Go.Ground.guard }], guard := some (1, true) }) (v := ?vv_u11_7) rfl (by kernel_rfl) (by kernel_rfl) (by kernel_rfl) (fun _ _ _ h => h) (Or.inl ⟨by rfl, ?hy_u11_7⟩) (by assumption) ?rest_u11_7
                case hy_u11_7 => (intro w hSw; (try dsimp only at hSw); first | (go_simp; done) | (go_simp; with_reducible rfl))
                try simp only [Act.put, List.setIfInBounds_toArray, List.set_cons_zero, List.set_cons_succ]
                refine wpAnyH_take (i := 8) (oi := { dst := some 95, op := Go.Op.indexAddr 22 (Go.Operand.tmp 93) (Go.Operand.tmp 94), type := 0, pos := "laws.go:1052", after := #[{ on := 6, ground := Go.Ground.data }, { on := 7, ground := Go.Ground.data }, { on := 1, ground := Go.Ground.guard }], guard := some (1, true) }) (v := ?vv_u11_8) rfl (by kernel_rfl) (by kernel_rfl) (by kernel_rfl) (fun _ _ _ h => h) (Or.inl ⟨by rfl, ?hy_u11_8⟩) (by assumption) ?rest_u11_8
                case hy_u11_8 => (intro w hSw; (try dsimp only at hSw); first | (go_simp; done) | (go_simp; with_reducible rfl))
                try simp only [Act.put, List.setIfInBounds_toArray, List.set_cons_zero, List.set_cons_succ]
                refine wpAnyH_take (i := 9) (oi := { dst := some 96, op := Go.Op.load 23 (Go.Operand.tmp 95), type := 23, pos := "laws.go:1052", after := #[{ on := 8, ground := Go.Ground.data }, { on := 1, ground := Go.Ground.guard }], guard := some (1, true) }) (v := ?vv_u11_9) rfl (by kernel_rfl) (by kernel_rfl) (by kernel_rfl) (fun _ _ _ h => h) (Or.inl ⟨by rfl, ?hy_u11_9⟩) (by assumption) ?rest_u11_9
                case hy_u11_9 => (intro w hSw; (try dsimp only at hSw); first | (go_simp; done) | (go_simp; with_reducible rfl))
                try simp only [Act.put, List.setIfInBounds_toArray, List.set_cons_zero, List.set_cons_succ]
                refine wpAnyH_ready (rs := [10]) (by kernel_rfl) (by simp) ?_
                refine AllReadyH.cons (o := { dst := some 97, op := Go.Op.binOp Go.BinOp.sub 23 (Go.Operand.tmp 92) (Go.Operand.tmp 96) 23, type := 23, pos := "laws.go:1052", after := #[{ on := 5, ground := Go.Ground.data }, { on := 9, ground := Go.Ground.data }, { on := 1, ground := Go.Ground.guard }], guard := some (1, true) }) rfl (fun K hK => ?_) AllReadyH.nil
                go_simp
                skip
                refine hK.out _ _ ?hs_u11_10 (fun hHeld => ?hr_u11_10)
                case hs_u11_10 => go_keep
                clear hK K
                try simp only [Act.put, List.setIfInBounds_toArray, List.set_cons_zero, List.set_cons_succ]
                refine wpAnyH_take (i := 11) (oi := { dst := some 98, op := Go.Op.binOp Go.BinOp.eql 23 (Go.Operand.tmp 97) (Go.Operand.const (Go.Value.float Go.FloatKind.f64 0)) 23, type := 4, pos := "laws.go:1052", after := #[{ on := 10, ground := Go.Ground.data }, { on := 1, ground := Go.Ground.guard }], guard := some (1, true) }) (v := .bool false) rfl (by kernel_rfl) (by kernel_rfl) (by kernel_rfl) (fun _ _ _ h => h) (Or.inl ⟨by rfl, ?hy_u11_11⟩) (by assumption) ?rest_u11_11
                case hy_u11_11 => (intro w hSw; (try dsimp only at hSw); first | (go_simp; done) | (go_simp; with_reducible rfl))
                try simp only [Act.put, List.setIfInBounds_toArray, List.set_cons_zero, List.set_cons_succ]
                refine wpAnyH_take (i := 12) (oi := { dst := some 99, op := Go.Op.pick (Go.Operand.tmp 88) (Go.Operand.tmp 98) (Go.Operand.const (Go.Value.bool false)), type := 4, pos := "laws.go:1052", after := #[{ on := 1, ground := Go.Ground.data }, { on := 11, ground := Go.Ground.data }], guard := none }) (v := .bool false) rfl (by kernel_rfl) (by kernel_rfl) (by kernel_rfl) (fun _ _ _ h => h) (Or.inl ⟨by rfl, ?hy_u11_12⟩) (by assumption) ?rest_u11_12
                case hy_u11_12 => (intro w hSw; (try dsimp only at hSw); first | (go_simp; done) | (go_simp; with_reducible rfl))
                try simp only [Act.put, List.setIfInBounds_toArray, List.set_cons_zero, List.set_cons_succ]
                refine wpAnyH_take (i := 13) (oi := { dst := some 7, op := Go.Op.assign (Go.Operand.tmp 99), type := 4, pos := "laws.go:1052", after := #[{ on := 12, ground := Go.Ground.data }, { on := 1, ground := Go.Ground.chain }, { on := 0, ground := Go.Ground.phase }, { on := 1, ground := Go.Ground.phase }, { on := 2, ground := Go.Ground.phase }, { on := 3, ground := Go.Ground.phase }, { on := 4, ground := Go.Ground.phase }, { on := 5, ground := Go.Ground.phase }, { on := 6, ground := Go.Ground.phase }, { on := 7, ground := Go.Ground.phase }, { on := 8, ground := Go.Ground.phase }, { on := 9, ground := Go.Ground.phase }, { on := 10, ground := Go.Ground.phase }, { on := 11, ground := Go.Ground.phase }, { on := 12, ground := Go.Ground.phase }], guard := none }) (v := ?vv_u11_13) rfl (by kernel_rfl) (by kernel_rfl) (by kernel_rfl) (fun _ _ _ h => h) (Or.inl ⟨by rfl, ?hy_u11_13⟩) (by assumption) ?rest_u11_13
                case hy_u11_13 => (intro w hSw; (try dsimp only at hSw); first | (go_simp; done) | (go_simp; with_reducible rfl))
                try simp only [Act.put, List.setIfInBounds_toArray, List.set_cons_zero, List.set_cons_succ]
                refine wpAnyH_done (by kernel_rfl) ?_ _
                all_goals go_wp2
                all_goals (go_roundg (xs.length - (i + 1)); (case measure => (have := HK.out; omega)); (case rel => exact ⟨i + 1, false, ⟨by omega, by omega⟩, by first | rfl | simp, by go_num, ⟨fun h => by cases h⟩, ⟨(by repeat (first | (with_reducible first | exact HB.out | apply below_alloc | apply pw_below_drewN | apply below_drew1) | exact HB.out))⟩, ⟨(Kd.C_below HX.out (by repeat (first | exact Below.refl _ _ | apply below_alloc | apply pw_below_drewN | apply below_drew1)))⟩, ⟨(Kd.C_below HAM.out (by repeat (first | exact Below.refl _ _ | apply below_alloc | apply pw_below_drewN | apply below_drew1)))⟩, ⟨(Kd.C_below HAN.out (by repeat (first | exact Below.refl _ _ | apply below_alloc | apply pw_below_drewN | apply below_drew1)))⟩⟩))
              · obtain ⟨z, hz1⟩ := Option.ne_none_iff_exists'.1 hz
                have y1 : ∀ w, (FloatKind.f64.format.order (Fl.bits .sub w b5 b5) 0 == some Ordering.eq) = (FloatKind.f64.format.order z 0 == some Ordering.eq) := fun w => by rw [(cv_some ((cv_bits .sub w b5 b5).trans hz1)).1]
                have HZ := Aside0.mk hz
                clear hz hz1
                refine wp_region_held_drew (S := (fun w' => w'.cell? (ad5.add i) = some (.float .f64 b5))) (by kernel_rfl) ?hS_u12 (fun hS0 => ?hr_u12)
                case hS_u12 => go_keep
                refine wpAnyH_take (i := 0) (oi := { dst := some 87, op := Go.Op.move (Go.Operand.tmp 7), type := 4, pos := "laws.go:1052", after := #[], guard := none }) (v := ?vv_u12_0) rfl (by kernel_rfl) (by kernel_rfl) (by kernel_rfl) (fun _ _ _ h => h) (Or.inl ⟨by rfl, ?hy_u12_0⟩) (by assumption) ?rest_u12_0
                case hy_u12_0 => (intro w hSw; (try dsimp only at hSw); first | (go_simp; done) | (go_simp; with_reducible rfl))
                try simp only [Act.put, List.setIfInBounds_toArray, List.set_cons_zero, List.set_cons_succ]
                refine wpAnyH_take (i := 1) (oi := { dst := some 88, op := Go.Op.move (Go.Operand.tmp 87), type := 4, pos := "laws.go:1052", after := #[{ on := 0, ground := Go.Ground.data }], guard := none }) (v := ?vv_u12_1) rfl (by kernel_rfl) (by kernel_rfl) (by kernel_rfl) (fun _ _ _ h => h) (Or.inl ⟨by rfl, ?hy_u12_1⟩) (by assumption) ?rest_u12_1
                case hy_u12_1 => (intro w hSw; (try dsimp only at hSw); first | (go_simp; done) | (go_simp; with_reducible rfl))
                try simp only [Act.put, List.setIfInBounds_toArray, List.set_cons_zero, List.set_cons_succ]
                refine wpAnyH_take (i := 2) (oi := { dst := some 89, op := Go.Op.move (Go.Operand.tmp 3), type := 22, pos := "laws.go:1052", after := #[{ on := 1, ground := Go.Ground.guard }], guard := some (1, true) }) (v := ?vv_u12_2) rfl (by kernel_rfl) (by kernel_rfl) (by kernel_rfl) (fun _ _ _ h => h) (Or.inl ⟨by rfl, ?hy_u12_2⟩) (by assumption) ?rest_u12_2
                case hy_u12_2 => (intro w hSw; (try dsimp only at hSw); first | (go_simp; done) | (go_simp; with_reducible rfl))
                try simp only [Act.put, List.setIfInBounds_toArray, List.set_cons_zero, List.set_cons_succ]
                refine wpAnyH_take (i := 3) (oi := { dst := some 90, op := Go.Op.move (Go.Operand.tmp 8), type := 3, pos := "laws.go:1052", after := #[{ on := 1, ground := Go.Ground.guard }], guard := some (1, true) }) (v := ?vv_u12_3) rfl (by kernel_rfl) (by kernel_rfl) (by kernel_rfl) (fun _ _ _ h => h) (Or.inl ⟨by rfl, ?hy_u12_3⟩) (by assumption) ?rest_u12_3
                case hy_u12_3 => (intro w hSw; (try dsimp only at hSw); first | (go_simp; done) | (go_simp; with_reducible rfl))
                try simp only [Act.put, List.setIfInBounds_toArray, List.set_cons_zero, List.set_cons_succ]
                refine wpAnyH_take (i := 4) (oi := { dst := some 91, op := Go.Op.indexAddr 22 (Go.Operand.tmp 89) (Go.Operand.tmp 90), type := 0, pos := "laws.go:1052", after := #[{ on := 2, ground := Go.Ground.data }, { on := 3, ground := Go.Ground.data }, { on := 1, ground := Go.Ground.guard }], guard := some (1, true) }) (v := ?vv_u12_4) rfl (by kernel_rfl) (by kernel_rfl) (by kernel_rfl) (fun _ _ _ h => h) (Or.inl ⟨by rfl, ?hy_u12_4⟩) (by assumption) ?rest_u12_4
                case hy_u12_4 => (intro w hSw; (try dsimp only at hSw); first | (go_simp; done) | (go_simp; with_reducible rfl))
                try simp only [Act.put, List.setIfInBounds_toArray, List.set_cons_zero, List.set_cons_succ]
                refine wpAnyH_take (i := 5) (oi := { dst := some 92, op := Go.Op.load 23 (Go.Operand.tmp 91), type := 23, pos := "laws.go:1052", after := #[{ on := 4, ground := Go.Ground.data }, { on := 1, ground := Go.Ground.guard }], guard := some (1, true) }) (v := ?vv_u12_5) rfl (by kernel_rfl) (by kernel_rfl) (by kernel_rfl) (fun _ _ _ h => h) (Or.inl ⟨by rfl, ?hy_u12_5⟩) (by assumption) ?rest_u12_5
                case hy_u12_5 => (intro w hSw; (try dsimp only at hSw); first | (go_simp; done) | (go_simp; with_reducible rfl))
                try simp only [Act.put, List.setIfInBounds_toArray, List.set_cons_zero, List.set_cons_succ]
                refine wpAnyH_take (i := 6) (oi := { dst := some 93, op := Go.Op.move (Go.Operand.tmp 3), type := 22, pos := "laws.go:1052", after := #[{ on := 1, ground := Go.Ground.guard }], guard := some (1, true) }) (v := ?vv_u12_6) rfl (by kernel_rfl) (by kernel_rfl) (by kernel_rfl) (fun _ _ _ h => h) (Or.inl ⟨by rfl, ?hy_u12_6⟩) (by assumption) ?rest_u12_6
                case hy_u12_6 => (intro w hSw; (try dsimp only at hSw); first | (go_simp; done) | (go_simp; with_reducible rfl))
                try simp only [Act.put, List.setIfInBounds_toArray, List.set_cons_zero, List.set_cons_succ]
                refine wpAnyH_take (i := 7) (oi := { dst := some 94, op := Go.Op.move (Go.Operand.tmp 8), type := 3, pos := "laws.go:1052", after := #[{ on := 1, ground := Go.Ground.guard }], guard := some (1, true) }) (v := ?vv_u12_7) rfl (by kernel_rfl) (by kernel_rfl) (by kernel_rfl) (fun _ _ _ h => h) (Or.inl ⟨by rfl, ?hy_u12_7⟩) (by assumption) ?rest_u12_7
                case hy_u12_7 => (intro w hSw; (try dsimp only at hSw); first | (go_simp; done) | (go_simp; with_reducible rfl))
                try simp only [Act.put, List.setIfInBounds_toArray, List.set_cons_zero, List.set_cons_succ]
                refine wpAnyH_take (i := 8) (oi := { dst := some 95, op := Go.Op.indexAddr 22 (Go.Operand.tmp 93) (Go.Operand.tmp 94), type := 0, pos := "laws.go:1052", after := #[{ on := 6, ground := Go.Ground.data }, { on := 7, ground := Go.Ground.data }, { on := 1, ground := Go.Ground.guard }], guard := some (1, true) }) (v := ?vv_u12_8) rfl (by kernel_rfl) (by kernel_rfl) (by kernel_rfl) (fun _ _ _ h => h) (Or.inl ⟨by rfl, ?hy_u12_8⟩) (by assumption) ?rest_u12_8
                case hy_u12_8 => (intro w hSw; (try dsimp only at hSw); first | (go_simp; done) | (go_simp; with_reducible rfl))
                try simp only [Act.put, List.setIfInBounds_toArray, List.set_cons_zero, List.set_cons_succ]
                refine wpAnyH_take (i := 9) (oi := { dst := some 96, op := Go.Op.load 23 (Go.Operand.tmp 95), type := 23, pos := "laws.go:1052", after := #[{ on := 8, ground := Go.Ground.data }, { on := 1, ground := Go.Ground.guard }], guard := some (1, true) }) (v := ?vv_u12_9) rfl (by kernel_rfl) (by kernel_rfl) (by kernel_rfl) (fun _ _ _ h => h) (Or.inl ⟨by rfl, ?hy_u12_9⟩) (by assumption) ?rest_u12_9
                case hy_u12_9 => (intro w hSw; (try dsimp only at hSw); first | (go_simp; done) | (go_simp; with_reducible rfl))
                try simp only [Act.put, List.setIfInBounds_toArray, List.set_cons_zero, List.set_cons_succ]
                refine wpAnyH_ready (rs := [10]) (by kernel_rfl) (by simp) ?_
                refine AllReadyH.cons (o := { dst := some 97, op := Go.Op.binOp Go.BinOp.sub 23 (Go.Operand.tmp 92) (Go.Operand.tmp 96) 23, type := 23, pos := "laws.go:1052", after := #[{ on := 5, ground := Go.Ground.data }, { on := 9, ground := Go.Ground.data }, { on := 1, ground := Go.Ground.guard }], guard := some (1, true) }) rfl (fun K hK => ?_) AllReadyH.nil
                go_simp
                skip
                refine hK.out _ _ ?hs_u12_10 (fun hHeld => ?hr_u12_10)
                case hs_u12_10 => go_keep
                clear hK K
                try simp only [Act.put, List.setIfInBounds_toArray, List.set_cons_zero, List.set_cons_succ]
                refine wpAnyH_take (i := 11) (oi := { dst := some 98, op := Go.Op.binOp Go.BinOp.eql 23 (Go.Operand.tmp 97) (Go.Operand.const (Go.Value.float Go.FloatKind.f64 0)) 23, type := 4, pos := "laws.go:1052", after := #[{ on := 10, ground := Go.Ground.data }, { on := 1, ground := Go.Ground.guard }], guard := some (1, true) }) (v := .bool (FloatKind.f64.format.order z 0 == some Ordering.eq)) rfl (by kernel_rfl) (by kernel_rfl) (by kernel_rfl) (fun _ _ _ h => h) (Or.inl ⟨by rfl, ?hy_u12_11⟩) (by assumption) ?rest_u12_11
                case hy_u12_11 => (intro w hSw; (try dsimp only at hSw); first | (go_simp; done) | (go_simp; with_reducible rfl))
                try simp only [Act.put, List.setIfInBounds_toArray, List.set_cons_zero, List.set_cons_succ]
                refine wpAnyH_take (i := 12) (oi := { dst := some 99, op := Go.Op.pick (Go.Operand.tmp 88) (Go.Operand.tmp 98) (Go.Operand.const (Go.Value.bool false)), type := 4, pos := "laws.go:1052", after := #[{ on := 1, ground := Go.Ground.data }, { on := 11, ground := Go.Ground.data }], guard := none }) (v := .bool (FloatKind.f64.format.order z 0 == some Ordering.eq)) rfl (by kernel_rfl) (by kernel_rfl) (by kernel_rfl) (fun _ _ _ h => h) (Or.inl ⟨by rfl, ?hy_u12_12⟩) (by assumption) ?rest_u12_12
                case hy_u12_12 => (intro w hSw; (try dsimp only at hSw); first | (go_simp; done) | (go_simp; with_reducible rfl))
                try simp only [Act.put, List.setIfInBounds_toArray, List.set_cons_zero, List.set_cons_succ]
                refine wpAnyH_take (i := 13) (oi := { dst := some 7, op := Go.Op.assign (Go.Operand.tmp 99), type := 4, pos := "laws.go:1052", after := #[{ on := 12, ground := Go.Ground.data }, { on := 1, ground := Go.Ground.chain }, { on := 0, ground := Go.Ground.phase }, { on := 1, ground := Go.Ground.phase }, { on := 2, ground := Go.Ground.phase }, { on := 3, ground := Go.Ground.phase }, { on := 4, ground := Go.Ground.phase }, { on := 5, ground := Go.Ground.phase }, { on := 6, ground := Go.Ground.phase }, { on := 7, ground := Go.Ground.phase }, { on := 8, ground := Go.Ground.phase }, { on := 9, ground := Go.Ground.phase }, { on := 10, ground := Go.Ground.phase }, { on := 11, ground := Go.Ground.phase }, { on := 12, ground := Go.Ground.phase }], guard := none }) (v := ?vv_u12_13) rfl (by kernel_rfl) (by kernel_rfl) (by kernel_rfl) (fun _ _ _ h => h) (Or.inl ⟨by rfl, ?hy_u12_13⟩) (by assumption) ?rest_u12_13
                case hy_u12_13 => (intro w hSw; (try dsimp only at hSw); first | (go_simp; done) | (go_simp; with_reducible rfl))
                try simp only [Act.put, List.setIfInBounds_toArray, List.set_cons_zero, List.set_cons_succ]
                refine wpAnyH_done (by kernel_rfl) ?_ _
                all_goals go_wp2
                all_goals (go_roundg (xs.length - (i + 1)); (case measure => (have := HK.out; omega)); (case rel => exact ⟨i + 1, _, ⟨by omega, by omega⟩, by first | rfl | simp, by go_num, ⟨fun _ j hj => by (rcases Nat.lt_or_ge j i with h | h; exact HW.out (by simp) j h; obtain rfl : j = i := (by omega); rw [← HB5.out]; exact HZ.out)⟩, ⟨(by repeat (first | (with_reducible first | exact HB.out | apply below_alloc | apply pw_below_drewN | apply below_drew1) | exact HB.out))⟩, ⟨(Kd.C_below HX.out (by repeat (first | exact Below.refl _ _ | apply below_alloc | apply pw_below_drewN | apply below_drew1)))⟩, ⟨(Kd.C_below HAM.out (by repeat (first | exact Below.refl _ _ | apply below_alloc | apply pw_below_drewN | apply below_drew1)))⟩, ⟨(Kd.C_below HAN.out (by repeat (first | exact Below.refl _ _ | apply below_alloc | apply pw_below_drewN | apply below_drew1)))⟩⟩))
        · have hltb : decide ((i : Int) < (xs.length : Int)) = false := decide_eq_false (by omega)
          have hin : i = xs.length := by have := HK.out; omega
          subst hin
          go_wp2
          go_loopg [10] xs.length (fun gg v10 w' => ∃ i : Nat, Aside0 (i ≤ xs.length ∧ xs.length - i ≤ gg) ∧ v10 = .int .i64 (i : Int) ∧ Aside0 (Below w.heap.size w w') ∧ Aside0 (Kf.C w' AX xs.length xs) ∧ Aside0 (Kf.C w' AN o.length o))
          case atStart => exact ⟨0, ⟨Nat.zero_le _, Nat.le_refl _⟩, rfl, HB, HX, HAN⟩
          case round =>
            clear HB HX HAM HAN hltb hlt HK
            obtain ⟨i, HK, rfl, HB, HX, HAN⟩ := hrel
            by_cases hlt : i < xs.length
            · have hltb : decide ((i : Int) < (xs.length : Int)) = true := decide_eq_true (by omega)
              cases B
              · go_wp2
                go_ret
                exact ⟨rfl, (by repeat (first | (with_reducible first | exact HB.out | apply below_alloc | apply pw_below_drewN | apply below_drew1) | exact HB.out))⟩
              · have p3 : (0 ≤ (i : Int)) = True := eq_true (by omega)
                have p4 : (0 ≤ (i : Int) + 1) = True := eq_true (by omega)
                have hw1 : wrap64 ((i : Int) + 1) = (i : Int) + 1 := by unfold wrap64; omega
                have hw2 : IntKind.i64.wrap ((i : Int) + 1) = (i : Int) + 1 := by rw [IntKind.wrap_i64]; omega
                have q1 : ((i : Int) + 1 < (o.length : Int)) = True := eq_true (by have := HE2.out; omega)
                have q5 : ((i : Int) < (xs.length : Int)) = True := eq_true (by omega)
                obtain ⟨ad1, b1, e1, hx1, hb1⟩ := at_f HAN.out ((i : Int) + 1) (by omega) (by have := HE2.out; omega)
                obtain ⟨ad5, b5, e5, hx5, hb5⟩ := at_f HX.out (i : Int) (by omega) (by omega)
                cases e1
                cases e5
                have hf := HW.out (by simp)
                have hs0 : (if i + 1 < xs.length then opF .add (cv 0) (opF .mul (cv 0) (rf xs ((i + 1 : Nat) : Int))) else cv 0) = cv 0 := by
                  split
                  · rename_i h; exact (zero_mul_fin (hf (i + 1) h)).trans cv_zero.symm
                  · rfl
                have hc1 : cv b1 = opF .add (cv b5) (some 0) := by
                  rw [hb1, HG2.out i hlt, hs0, ← hb5]
                  exact conv_like b5
                have hn1 : isN b5 = false := sub_nn (by rw [hb5]; exact hf i hlt)
                have z1 : (FloatKind.f64.format.order b1 b5 != some Ordering.eq) = false := by rw [conv_eq hc1 hn1]; rfl
                have e1 : ((i : Int) + 1).toNat = i + 1 := by omega
                clear hf hs0 hc1 hn1 hb1 hb5
                have hx2 := hx1
                rw [e1] at hx2
                have hx3 : wr.cell? ⟨ad1.block, ad1.off + (i + 1), none⟩ = some (.float .f64 b1) := by
                  have e2 : ad1.add (i + 1) = ⟨ad1.block, ad1.off + (i + 1), none⟩ := if_neg (Nat.succ_ne_zero i)
                  rw [← e2]
                  exact hx2
                simp only [Int.toNat_natCast] at hx5
                go_wp2
                refine wp_region_held_drew (S := (fun w' => (w'.cell? (ad1.add ((i : Int) + 1).toNat) = some (.float .f64 b1) ∧ w'.cell? (ad1.add (i + 1)) = some (.float .f64 b1) ∧ w'.cell? ⟨ad1.block, ad1.off + (i + 1), none⟩ = some (.float .f64 b1)) ∧ w'.cell? (ad5.add i) = some (.float .f64 b5))) (by kernel_rfl) ?hS_u6 (fun hS0 => ?hr_u6)
                case hS_u6 => go_keep
                refine wpAnyH_take (i := 0) (oi := { dst := some 109, op := Go.Op.move (Go.Operand.tmp 6), type := 22, pos := "laws.go:1055", after := #[], guard := none }) (v := ?vv_u6_0) rfl (by kernel_rfl) (by kernel_rfl) (by kernel_rfl) (fun _ _ _ h => h) (Or.inl ⟨by rfl, ?hy_u6_0⟩) (by assumption) ?rest_u6_0
                case hy_u6_0 => (intro w hSw; (try dsimp only at hSw); first | (go_simp; done) | (go_simp; with_reducible rfl))
                try simp only [Act.put, List.setIfInBounds_toArray, List.set_cons_zero, List.set_cons_succ]
                refine wpAnyH_take (i := 1) (oi := { dst := some 110, op := Go.Op.move (Go.Operand.tmp 10), type := 3, pos := "laws.go:1055", after := #[], guard := none }) (v := ?vv_u6_1) rfl (by kernel_rfl) (by kernel_rfl) (by kernel_rfl) (fun _ _ _ h => h) (Or.inl ⟨by rfl, ?hy_u6_1⟩) (by assumption) ?rest_u6_1
                case hy_u6_1 => (intro w hSw; (try dsimp only at hSw); first | (go_simp; done) | (go_simp; with_reducible rfl))
                try simp only [Act.put, List.setIfInBounds_toArray, List.set_cons_zero, List.set_cons_succ]
                refine wpAnyH_take (i := 2) (oi := { dst := some 111, op := Go.Op.binOp Go.BinOp.add 3 (Go.Operand.tmp 110) (Go.Operand.const (Go.Value.int Go.IntKind.i64 1)) 3, type := 3, pos := "laws.go:1055", after := #[{ on := 1, ground := Go.Ground.data }], guard := none }) (v := ?vv_u6_2) rfl (by kernel_rfl) (by kernel_rfl) (by kernel_rfl) (fun _ _ _ h => h) (Or.inl ⟨by rfl, ?hy_u6_2⟩) (by assumption) ?rest_u6_2
                case hy_u6_2 => (intro w hSw; (try dsimp only at hSw); first | (go_simp; done) | (go_simp; with_reducible rfl))
                try simp only [Act.put, List.setIfInBounds_toArray, List.set_cons_zero, List.set_cons_succ]
                refine wpAnyH_take (i := 3) (oi := { dst := some 112, op := Go.Op.indexAddr 22 (Go.Operand.tmp 109) (Go.Operand.tmp 111), type := 0, pos := "laws.go:1055", after := #[{ on := 0, ground := Go.Ground.data }, { on := 2, ground := Go.Ground.data }], guard := none }) (v := ?vv_u6_3) rfl (by kernel_rfl) (by kernel_rfl) (by kernel_rfl) (fun _ _ _ h => h) (Or.inl ⟨by rfl, ?hy_u6_3⟩) (by assumption) ?rest_u6_3
                case hy_u6_3 => (intro w hSw; (try dsimp only at hSw); first | (go_simp; done) | (go_simp; with_reducible rfl))
                try simp only [Act.put, List.setIfInBounds_toArray, List.set_cons_zero, List.set_cons_succ]
                refine wpAnyH_take (i := 4) (oi := { dst := some 113, op := Go.Op.load 23 (Go.Operand.tmp 112), type := 23, pos := "laws.go:1055", after := #[{ on := 3, ground := Go.Ground.data }], guard := none }) (v := ?vv_u6_4) rfl (by kernel_rfl) (by kernel_rfl) (by kernel_rfl) (fun _ _ _ h => h) (Or.inl ⟨by rfl, ?hy_u6_4⟩) (by assumption) ?rest_u6_4
                case hy_u6_4 => (intro w hSw; (try dsimp only at hSw); first | (go_simp; done) | (go_simp; with_reducible rfl))
                try simp only [Act.put, List.setIfInBounds_toArray, List.set_cons_zero, List.set_cons_succ]
                refine wpAnyH_take (i := 5) (oi := { dst := some 114, op := Go.Op.move (Go.Operand.tmp 3), type := 22, pos := "laws.go:1055", after := #[], guard := none }) (v := ?vv_u6_5) rfl (by kernel_rfl) (by kernel_rfl) (by kernel_rfl) (fun _ _ _ h => h) (Or.inl ⟨by rfl, ?hy_u6_5⟩) (by assumption) ?rest_u6_5
                case hy_u6_5 => (intro w hSw; (try dsimp only at hSw); first | (go_simp; done) | (go_simp; with_reducible rfl))
                try simp only [Act.put, List.setIfInBounds_toArray, List.set_cons_zero, List.set_cons_succ]
                refine wpAnyH_take (i := 6) (oi := { dst := some 115, op := Go.Op.move (Go.Operand.tmp 10), type := 3, pos := "laws.go:1055", after := #[], guard := none }) (v := ?vv_u6_6) rfl (by kernel_rfl) (by kernel_rfl) (by kernel_rfl) (fun _ _ _ h => h) (Or.inl ⟨by rfl, ?hy_u6_6⟩) (by assumption) ?rest_u6_6
                case hy_u6_6 => (intro w hSw; (try dsimp only at hSw); first | (go_simp; done) | (go_simp; with_reducible rfl))
                try simp only [Act.put, List.setIfInBounds_toArray, List.set_cons_zero, List.set_cons_succ]
                refine wpAnyH_take (i := 7) (oi := { dst := some 116, op := Go.Op.indexAddr 22 (Go.Operand.tmp 114) (Go.Operand.tmp 115), type := 0, pos := "laws.go:1055", after := #[{ on := 5, ground := Go.Ground.data }, { on := 6, ground := Go.Ground.data }], guard := none }) (v := ?vv_u6_7) rfl (by kernel_rfl) (by kernel_rfl) (by kernel_rfl) (fun _ _ _ h => h) (Or.inl ⟨by rfl, ?hy_u6_7⟩) (by assumption) ?rest_u6_7
                case hy_u6_7 => (intro w hSw; (try dsimp only at hSw); first | (go_simp; done) | (go_simp; with_reducible rfl))
                try simp only [Act.put, List.setIfInBounds_toArray, List.set_cons_zero, List.set_cons_succ]
                refine wpAnyH_take (i := 8) (oi := { dst := some 117, op := Go.Op.load 23 (Go.Operand.tmp 116), type := 23, pos := "laws.go:1055", after := #[{ on := 7, ground := Go.Ground.data }], guard := none }) (v := ?vv_u6_8) rfl (by kernel_rfl) (by kernel_rfl) (by kernel_rfl) (fun _ _ _ h => h) (Or.inl ⟨by rfl, ?hy_u6_8⟩) (by assumption) ?rest_u6_8
                case hy_u6_8 => (intro w hSw; (try dsimp only at hSw); first | (go_simp; done) | (go_simp; with_reducible rfl))
                try simp only [Act.put, List.setIfInBounds_toArray, List.set_cons_zero, List.set_cons_succ]
                refine wpAnyH_take (i := 9) (oi := { dst := some 118, op := Go.Op.binOp Go.BinOp.neq 23 (Go.Operand.tmp 113) (Go.Operand.tmp 117) 23, type := 4, pos := "laws.go:1055", after := #[{ on := 4, ground := Go.Ground.data }, { on := 8, ground := Go.Ground.data }], guard := none }) (v := .bool false) rfl (by kernel_rfl) (by kernel_rfl) (by kernel_rfl) (fun _ _ _ h => h) (Or.inl ⟨by rfl, ?hy_u6_9⟩) (by assumption) ?rest_u6_9
                case hy_u6_9 => (intro w hSw; (try dsimp only at hSw); first | (go_simp; done) | (go_simp; with_reducible rfl))
                try simp only [Act.put, List.setIfInBounds_toArray, List.set_cons_zero, List.set_cons_succ]
                refine wpAnyH_done (by kernel_rfl) ?_ _
                all_goals go_wp2
                all_goals (go_roundg (xs.length - (i + 1)); (case measure => (have := HK.out; omega)); (case rel => exact ⟨i + 1, ⟨by omega, by omega⟩, by go_num, ⟨(by repeat (first | (with_reducible first | exact HB.out | apply below_alloc | apply pw_below_drewN | apply below_drew1) | exact HB.out))⟩, ⟨(Kd.C_below HX.out (by repeat (first | exact Below.refl _ _ | apply below_alloc | apply pw_below_drewN | apply below_drew1)))⟩, ⟨(Kd.C_below HAN.out (by repeat (first | exact Below.refl _ _ | apply below_alloc | apply pw_below_drewN | apply below_drew1)))⟩⟩))
            · have hltb : decide ((i : Int) < (xs.length : Int)) = false := decide_eq_false (by omega)
              go_wp2
              go_ret
              exact ⟨rfl, (by repeat (first | (with_reducible first | exact HB.out | apply below_alloc | apply pw_below_drewN | apply below_drew1) | exact HB.out))⟩
  · have d0 : decide ((l0.length : Int) > 4096) = true := decide_eq_true (by omega)
    go_enter Try.func10, Try.ntmps10
    go_wp2_with (first | (go_at_call 30; (with_reducible refine (laws_big.calls A0 c0 l0 (decide ((l0.length : Int) > 4096)) _ HR0.out HC0.out rfl).mono ?_); rintro e wk_ ⟨rfl, ⟨nd_, rfl⟩⟩))
    go_ret
    exact ⟨rfl, (by repeat (first | (with_reducible first | exact HB.out | apply below_alloc | apply pw_below_drewN | apply below_drew1) | exact HB.out))⟩


end Go.Proofs.Ytofiabjphjpglaa.HFnConvolved
