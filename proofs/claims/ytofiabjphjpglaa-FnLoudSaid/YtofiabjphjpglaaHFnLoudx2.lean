-- Laid by myprint.py, a program of this repo, out of the kit's printer and this repo's own texts (wip/hand).
import Derived.Test.YtofiabjphjpglaaHFnLoudx0
import Derived.Test.YtofiabjphjpglaaHFnLoudx1
namespace Go.Proofs.Ytofiabjphjpglaa.HFnLoud
open Go.RowKit Go.Proofs.YtofiabjphjpglaaW.PrintWords Go.Proofs.YtofiabjphjpglaaW.PrintLast Go.Proofs.YtofiabjphjpglaaW.PrintMore Go.Proofs.Ytofiabjphjpglaa.Fl
attribute [local go_sem] max2_int min2_int max_two min_two max_three min_three max_four min_four   -- for this text's walks alone
set_option linter.unusedVariables false
set_option linter.unusedSimpArgs false

/-! ### laws_FnLoud: function 12 -/
open Go.Proofs.Ytofiabjphjpglaa.PB
def loudX (n : Nat) : Nat := floatOfInt .f64 (n : Int)
def loudS (n : Nat) : List Fl := [cv (loudX n), cv (Op.negFloat .f64 (loudX n)), cv (loudX n), cv (Op.negFloat .f64 (loudX n)), cv 4617315517961601024]
/-- What the law asks of the number n: its square is a double; the two means are it; and so on. -/
def loudOk (n : Nat) : Bool :=
  match opF .mul (cv (loudX n)) (cv (loudX n)) with
  | none => false
  | some p => (sqF (loudS n) 2 == [some p, some p]) && (loudF [some p, some p] (cv 0) (cv 4602678819172646912) == some p) && (loudF [some p, some p] (some p) (cv 4602678819172646912) == some 0) && (loudF [some p, some p] (cv 0) (cv 4607182418800017408) == some 0)
theorem loud_c0 : (List.range 40).all (fun n => loudOk (1 + n)) = true := by decide +kernel
theorem loud_c1 : (List.range 40).all (fun n => loudOk (41 + n)) = true := by decide +kernel
theorem loud_c2 : (List.range 40).all (fun n => loudOk (81 + n)) = true := by decide +kernel
theorem loud_c3 : (List.range 40).all (fun n => loudOk (121 + n)) = true := by decide +kernel
theorem loud_c4 : (List.range 40).all (fun n => loudOk (161 + n)) = true := by decide +kernel
theorem loud_c5 : (List.range 40).all (fun n => loudOk (201 + n)) = true := by decide +kernel
theorem loud_c6 : (List.range 40).all (fun n => loudOk (241 + n)) = true := by decide +kernel
theorem loud_c7 : (List.range 40).all (fun n => loudOk (281 + n)) = true := by decide +kernel
theorem loud_c8 : (List.range 40).all (fun n => loudOk (321 + n)) = true := by decide +kernel
theorem loud_c9 : (List.range 40).all (fun n => loudOk (361 + n)) = true := by decide +kernel
theorem loud_c10 : (List.range 40).all (fun n => loudOk (401 + n)) = true := by decide +kernel
theorem loud_c11 : (List.range 40).all (fun n => loudOk (441 + n)) = true := by decide +kernel
theorem loud_c12 : (List.range 40).all (fun n => loudOk (481 + n)) = true := by decide +kernel
theorem loud_c13 : (List.range 40).all (fun n => loudOk (521 + n)) = true := by decide +kernel
theorem loud_c14 : (List.range 40).all (fun n => loudOk (561 + n)) = true := by decide +kernel
theorem loud_c15 : (List.range 40).all (fun n => loudOk (601 + n)) = true := by decide +kernel
theorem loud_c16 : (List.range 40).all (fun n => loudOk (641 + n)) = true := by decide +kernel
theorem loud_c17 : (List.range 40).all (fun n => loudOk (681 + n)) = true := by decide +kernel
theorem loud_c18 : (List.range 40).all (fun n => loudOk (721 + n)) = true := by decide +kernel
theorem loud_c19 : (List.range 40).all (fun n => loudOk (761 + n)) = true := by decide +kernel
theorem loud_c20 : (List.range 40).all (fun n => loudOk (801 + n)) = true := by decide +kernel
theorem loud_c21 : (List.range 40).all (fun n => loudOk (841 + n)) = true := by decide +kernel
theorem loud_c22 : (List.range 40).all (fun n => loudOk (881 + n)) = true := by decide +kernel
theorem loud_c23 : (List.range 40).all (fun n => loudOk (921 + n)) = true := by decide +kernel
theorem loud_c24 : (List.range 40).all (fun n => loudOk (961 + n)) = true := by decide +kernel
theorem loud_at {a n : Nat} (h : (List.range 40).all (fun n => loudOk (a + n)) = true) (h1 : a ≤ n) (h2 : n < a + 40) : loudOk n = true := by
  have := List.all_eq_true.1 h (n - a) (List.mem_range.2 (by omega))
  rwa [show a + (n - a) = n by omega] at this
theorem loud_all (n : Nat) (h1 : 1 ≤ n) (h2 : n ≤ 1000) : loudOk n = true := by
  by_cases q0 : n < 41
  · exact loud_at loud_c0 (by omega) (by omega)
  by_cases q1 : n < 81
  · exact loud_at loud_c1 (by omega) (by omega)
  by_cases q2 : n < 121
  · exact loud_at loud_c2 (by omega) (by omega)
  by_cases q3 : n < 161
  · exact loud_at loud_c3 (by omega) (by omega)
  by_cases q4 : n < 201
  · exact loud_at loud_c4 (by omega) (by omega)
  by_cases q5 : n < 241
  · exact loud_at loud_c5 (by omega) (by omega)
  by_cases q6 : n < 281
  · exact loud_at loud_c6 (by omega) (by omega)
  by_cases q7 : n < 321
  · exact loud_at loud_c7 (by omega) (by omega)
  by_cases q8 : n < 361
  · exact loud_at loud_c8 (by omega) (by omega)
  by_cases q9 : n < 401
  · exact loud_at loud_c9 (by omega) (by omega)
  by_cases q10 : n < 441
  · exact loud_at loud_c10 (by omega) (by omega)
  by_cases q11 : n < 481
  · exact loud_at loud_c11 (by omega) (by omega)
  by_cases q12 : n < 521
  · exact loud_at loud_c12 (by omega) (by omega)
  by_cases q13 : n < 561
  · exact loud_at loud_c13 (by omega) (by omega)
  by_cases q14 : n < 601
  · exact loud_at loud_c14 (by omega) (by omega)
  by_cases q15 : n < 641
  · exact loud_at loud_c15 (by omega) (by omega)
  by_cases q16 : n < 681
  · exact loud_at loud_c16 (by omega) (by omega)
  by_cases q17 : n < 721
  · exact loud_at loud_c17 (by omega) (by omega)
  by_cases q18 : n < 761
  · exact loud_at loud_c18 (by omega) (by omega)
  by_cases q19 : n < 801
  · exact loud_at loud_c19 (by omega) (by omega)
  by_cases q20 : n < 841
  · exact loud_at loud_c20 (by omega) (by omega)
  by_cases q21 : n < 881
  · exact loud_at loud_c21 (by omega) (by omega)
  by_cases q22 : n < 921
  · exact loud_at loud_c22 (by omega) (by omega)
  by_cases q23 : n < 961
  · exact loud_at loud_c23 (by omega) (by omega)
  by_cases q24 : n < 1001
  · exact loud_at loud_c24 (by omega) (by omega)
  · omega
theorem loud_facts (n : Nat) (h1 : 1 ≤ n) (h2 : n ≤ 1000) : ∃ p : Nat, opF .mul (cv (loudX n)) (cv (loudX n)) = some p ∧ sqF (loudS n) 2 = [some p, some p] ∧ loudF [some p, some p] (cv 0) (cv 4602678819172646912) = some p ∧ loudF [some p, some p] (some p) (cv 4602678819172646912) = some 0 ∧ loudF [some p, some p] (cv 0) (cv 4607182418800017408) = some 0 := by
  have h := loud_all n h1 h2
  unfold loudOk at h
  split at h
  · cases h
  · rename_i p hp
    simp only [Bool.and_eq_true, beq_iff_eq] at h
    exact ⟨p, hp, h.1.1.1, h.1.1.2, h.1.2, h.2⟩
theorem pick_ev (l0 : List Int) (hb : ∀ y ∈ l0, 0 ≤ y ∧ y ≤ 255) (hl : l0.length ≤ 4096) : EvP (fun k => laws_pick.f k l0 1000) (fun r => 0 ≤ r ∧ r ≤ 999) := by
  have key : ∀ d i (x : Int), i + d = l0.length → 0 ≤ x → x ≤ 1000003 → EvP (fun k => laws_pick.l0 k l0 1000 x (i : Int)) (fun r => 0 ≤ r ∧ r ≤ 999) := by
    intro d
    induction d with
    | zero =>
      intro i x hi hx1 hx2
      refine evp_succ ?_
      have h1 : ¬ (i : Int) < (l0.length : Int) := by omega
      have h2 : ¬ (1000 : Int) = 0 := by omega
      simp only [laws_pick.l0, h1, h2, if_false]
      have e : Int.tmod x 1000 = x % 1000 := Int.tmod_eq_emod_of_nonneg hx1
      exact evp_now (by rw [e]; omega)
    | succ d ih =>
      intro i x hi hx1 hx2
      refine evp_succ ?_
      have h1 : (i : Int) < (l0.length : Int) := by omega
      have h2 : (0 : Int) ≤ (i : Int) := by omega
      have h4 := w64s (n := i) (by omega)
      simp only [laws_pick.l0, h1, h2, h4, if_true]
      have hr : 0 ≤ rd l0 (i : Int) ∧ rd l0 (i : Int) ≤ 255 := by
        have hlt : i < l0.length := by omega
        have e : rd l0 (i : Int) = l0[i] := by simp [rd, List.getD_eq_getElem?_getD, List.getElem?_eq_getElem hlt]
        rw [e]
        exact hb _ (List.getElem_mem hlt)
      have e1 : wrap64 (x * 43) = x * 43 := w64 (by omega) (by omega)
      have e2 : wrap64 (rd l0 (i : Int)) = rd l0 (i : Int) := w64 (by omega) (by omega)
      have e3 : wrap64 (x * 43 + rd l0 (i : Int)) = x * 43 + rd l0 (i : Int) := w64 (by omega) (by omega)
      rw [e1, e2, e3]
      have e4 : Int.tmod (x * 43 + rd l0 (i : Int)) 1000003 = (x * 43 + rd l0 (i : Int)) % 1000003 := Int.tmod_eq_emod_of_nonneg (by omega)
      rw [e4]
      exact ih (i + 1) _ (by omega) (by omega) (by omega)
  exact key l0.length 0 _ (by omega) (by omega) (by omega)
theorem sq_f (ys : List Fl) (a1 : Int) (r : List Fl) (h : sqF ys a1 = r) : impl_Squares.f ys a1 = some r := congrArg some h
theorem sq_calls_n (AZ : Option Addr) (cZ : Nat) (ys : List Fl) (m : Nat) (hn : ys.length = m) (a1 : Int) (r : List Fl) (w : World) (hr0 : Kd.C Kf w AZ ys.length ys) (hc0 : ys.length ≤ cZ) (h : impl_Squares.f ys a1 = some r) :
    Calls Try.prog 22 #[.slice AZ m cZ, .int .i64 a1] w fun e w' => ∃ v0_ : Value, e = .returned v0_ ∧ Kd.R Kf 23 w' w.heap.size (fun _ => True) v0_ r ∧ Below w.heap.size w w' := by
  subst hn
  exact impl_Squares.calls AZ cZ ys a1 r w hr0 hc0 h
theorem loud_calls_n (AZ : Option Addr) (cZ : Nat) (ys : List Fl) (m : Nat) (hn : ys.length = m) (a1 a2 : Nat) (r : Fl) (w : World) (hr0 : Kd.C Kf w AZ ys.length ys) (hc0 : ys.length ≤ cZ) (h : impl_Loud.f ys a1 a2 = some r) :
    Calls Try.prog 28 #[.slice AZ m cZ, .float .f64 a1, .float .f64 a2] w fun e w' => ∃ b_ : Nat, e = .returned (.float .f64 b_) ∧ cv b_ = r ∧ Below w.heap.size w w' := by
  subst hn
  exact impl_Loud.calls AZ cZ ys a1 a2 r w hr0 hc0 h
theorem loud_f (ys : List Fl) (a1 a2 : Nat) (r : Fl) (h : ys.length ≤ 4097) (hr : loudF ys (cv a1) (cv a2) = r) : impl_Loud.f ys a1 a2 = some r := by
  unfold impl_Loud.f
  rw [if_pos (by omega), hr]
theorem loud_sf (ys : List Fl) (a1 a2 : Nat) (h : ys.length ≤ 4097) : spec_Loud.f ys a1 a2 = some (loudF ys (cv a1) (cv a2)) := if_pos (by omega)
def laws_FnLoud.f (l0 : List Int) : Option Bool := if ∀ y ∈ l0, 0 ≤ y ∧ y ≤ 255 then some true else none
set_option maxHeartbeats 4000000 in
set_option maxRecDepth 100000 in
theorem laws_FnLoud.calls (A0 : Option Addr) (c0 : Nat) (l0 : List Int) (r : Bool) (w : World) (hr0 : Kd.C (Kd.int .u8) w A0 l0.length l0) (hc0 : l0.length ≤ c0) (h : laws_FnLoud.f l0 = some r) :
    Calls Try.prog 12 #[.slice A0 l0.length c0] w fun e w' => e = .returned (.bool r) ∧ Below w.heap.size w w' := by
  unfold laws_FnLoud.f at h
  by_cases hby : ∀ y ∈ l0, 0 ≤ y ∧ y ≤ 255
  · rw [if_pos hby] at h
    obtain rfl := Option.some.inj h
    clear h
    have HR0 := Aside0.mk hr0
    have HC0 := Aside0.mk hc0
    clear hr0 hc0
    have HB := Aside0.mk (Below.refl w.heap.size w)
    by_cases hl : l0.length ≤ 4096
    · have d0 : decide ((l0.length : Int) > 4096) = false := decide_eq_false (by omega)
      obtain ⟨pr, ⟨kp, hkp⟩, hp0, hp1⟩ := pick_ev l0 hby hl
      have HPK := Aside0.mk (hkp kp (Nat.le_refl _))
      obtain ⟨n, hn⟩ : ∃ n : Nat, 1 + pr = (n : Int) := ⟨(1 + pr).toNat, by omega⟩
      have hw : wrap64 (1 + pr) = (n : Int) := by rw [← hn]; unfold wrap64; omega
      obtain ⟨p, hp, hs, hq1, hq2, hq3⟩ := loud_facts n (by omega) (by omega)
      unfold loudS loudX at hs
      unfold loudX at hp
      have hm : ∀ w, Fl.bits .mul w (floatOfInt .f64 (n : Int)) (floatOfInt .f64 (n : Int)) = p := fun w => (cv_some ((cv_bits .mul w (floatOfInt .f64 (n : Int)) (floatOfInt .f64 (n : Int))).trans hp)).1
      have hcp : cv p = some p := by
        have e := (cv_bits .mul w (floatOfInt .f64 (n : Int)) (floatOfInt .f64 (n : Int))).trans hp
        rw [hm w] at e
        exact e
      have hpp : (FloatKind.f64.format.order p p == some Ordering.eq) = true := by
        rw [order_cv, hcp, ordF_self (cv_some hcp).2]; rfl
      have h00 : (FloatKind.f64.format.order 0 0 == some Ordering.eq) = true := by decide
      replace hq2 : loudF [some p, some p] (cv p) (cv 4602678819172646912) = some 0 := by rw [hcp]; exact hq2
      have HS := Aside0.mk hs
      have HQ1 := Aside0.mk hq1
      have HQ2 := Aside0.mk hq2
      have HQ3 := Aside0.mk hq3
      have HCP := Aside0.mk hcp
      have HL := Aside0.mk hl
      clear hl hby hkp hp0 hp1 hn hp hs hq1 hq2 hq3 hcp
      go_enter Try.func12, Try.ntmps12
      go_wp2_with (first | (go_at_call 30; (with_reducible refine (laws_big.calls A0 c0 l0 (decide ((l0.length : Int) > 4096)) _ HR0.out HC0.out rfl).mono ?_); rintro e wk_ ⟨rfl, ⟨nd_, rfl⟩⟩) | (go_at_call 35; (with_reducible refine (spec_DrawLoud.calls A0 c0 l0 _ ?s1 HC0.out HL.out).mono ?_); (case s1 => exact Kd.C_below HR0.out (by repeat (first | exact Below.refl _ _ | apply below_alloc | apply pw_below_drewN | apply below_drew1))); rintro e wk_ ⟨AX, cX, xs, x1, x2, rfl, ⟨hcx_, hx_, hlx_⟩, hb_⟩; have HX := Aside0.mk hx_; have HLX := Aside0.mk hcx_; have HX7 := Aside0.mk hlx_; have n0_ := Aside0.mk (Kd.C_below (Kd.C_below HR0.out (by repeat (first | exact Below.refl _ _ | apply below_alloc | apply pw_below_drewN | apply below_drew1))) hb_); clear HR0; have HR0 := n0_; have n1_ := Aside0.mk (below_step (by repeat (first | (with_reducible first | exact HB.out | apply below_alloc | apply pw_below_drewN | apply below_drew1) | exact HB.out)) hb_); clear HB; have HB := n1_; clear n0_ n1_ hx_ hcx_ hlx_ hb_) | (go_at_call 28; (with_reducible refine (impl_Loud.calls AX cX xs x1 x2 _ _ ?s1 HLX.out (loud_f xs x1 x2 _ HX7.out rfl)).mono ?_); (case s1 => exact Kd.C_below HX.out (by repeat (first | exact Below.refl _ _ | apply below_alloc | apply pw_below_drewN | apply below_drew1))); rintro e wk_ ⟨bq_, rfl, hv_, hb_⟩; have n1_ := Aside0.mk (below_step (by repeat (first | (with_reducible first | exact HB.out | apply below_alloc | apply pw_below_drewN | apply below_drew1) | exact HB.out)) hb_); clear HB; have HB := n1_; clear n1_; have n3_ := Aside0.mk (Kd.C_below (Kd.C_below HX.out (by repeat (first | exact Below.refl _ _ | apply below_alloc | apply pw_below_drewN | apply below_drew1))) hb_); clear HX; have HX := n3_; clear n3_; have n3_ := Aside0.mk (Kd.C_below (Kd.C_below HR0.out (by repeat (first | exact Below.refl _ _ | apply below_alloc | apply pw_below_drewN | apply below_drew1))) hb_); clear HR0; have HR0 := n3_; clear n3_; clear hb_; obtain ⟨bi, hbi_⟩ : ∃ bi, bi = bq_ := ⟨_, rfl⟩; subst hbi_; have Hbi := Aside0.mk hv_; clear hv_) | (go_at_call 27; (with_reducible refine (spec_Loud.calls AX cX xs x1 x2 _ _ ?s1 HLX.out (loud_sf xs x1 x2 HX7.out)).mono ?_); (case s1 => exact Kd.C_below HX.out (by repeat (first | exact Below.refl _ _ | apply below_alloc | apply pw_below_drewN | apply below_drew1))); rintro e wk_ ⟨bq_, rfl, hv_, hb_⟩; have n1_ := Aside0.mk (below_step (by repeat (first | (with_reducible first | exact HB.out | apply below_alloc | apply pw_below_drewN | apply below_drew1) | exact HB.out)) hb_); clear HB; have HB := n1_; clear n1_; have n3_ := Aside0.mk (Kd.C_below (Kd.C_below HX.out (by repeat (first | exact Below.refl _ _ | apply below_alloc | apply pw_below_drewN | apply below_drew1))) hb_); clear HX; have HX := n3_; clear n3_; have n3_ := Aside0.mk (Kd.C_below (Kd.C_below HR0.out (by repeat (first | exact Below.refl _ _ | apply below_alloc | apply pw_below_drewN | apply below_drew1))) hb_); clear HR0; have HR0 := n3_; clear n3_; clear hb_; have HLK := Aside0.mk (Like.of_cv (Hbi.out.trans hv_.symm)); clear hv_) | (go_at_call 32; (with_reducible refine (laws_likeFloat.calls _ _ _ HLK.out).mono ?_); rintro e wk_ ⟨rfl, ⟨nd_, rfl⟩⟩) | (go_at_call 36; (with_reducible refine (laws_pick.calls kp A0 c0 l0 1000 pr _ ?s1 HC0.out HPK.out).mono ?_); (case s1 => exact Kd.C_below HR0.out (by repeat (first | exact Below.refl _ _ | apply below_alloc | apply pw_below_drewN | apply below_drew1))); rintro e wk_ ⟨rfl, ⟨nd_, rfl⟩⟩) | ((with_reducible refine gate_dst (N := 38) rfl ?_); (try (refine gate_guard (by rfl) ?_; dsimp only)); refine Kd.R_lit Kf _ 23 ?hg (N := 38) ?hd (xs := [cv (floatOfInt .f64 (n : Int)), cv (Op.negFloat .f64 (floatOfInt .f64 (n : Int))), cv (floatOfInt .f64 (n : Int)), cv (Op.negFloat .f64 (floatOfInt .f64 (n : Int))), cv 4617315517961601024]) (inner := [.float .f64 (floatOfInt .f64 (n : Int)), .float .f64 (Op.negFloat .f64 (floatOfInt .f64 (n : Int))), .float .f64 (floatOfInt .f64 (n : Int)), .float .f64 (Op.negFloat .f64 (floatOfInt .f64 (n : Int))), .float .f64 4617315517961601024]) (ok := fun _ => True) (okp := fun _ => True) ?hr ?hp (fun _ hk => hk) trivial (Below.refl _ _) (Nat.le_refl _) (by simp) ?_; (case hd => rfl); (case hg => rfl); (case hr => first | (go_simp; done) | (go_simp; rfl)); (case hp => exact lit_f [(floatOfInt .f64 (n : Int)), (Op.negFloat .f64 (floatOfInt .f64 (n : Int))), (floatOfInt .f64 (n : Int)), (Op.negFloat .f64 (floatOfInt .f64 (n : Int))), 4617315517961601024]); intro vl_ wl_ hol_ hb_ hg_ hnew_; clear hg_ hnew_; obtain ⟨AZ, cZ, eZ_, hlZ_, hCZ_⟩ := Kd.R_reads hol_; subst eZ_; have HAZ := Aside0.mk hCZ_; have HLZ := Aside0.mk hlZ_; have n1_ := Aside0.mk (below_step (by repeat (first | (with_reducible first | exact HB.out | apply below_alloc | apply pw_below_drewN | apply below_drew1) | exact HB.out)) hb_); clear HB; have HB := n1_; clear n1_ hol_ hCZ_ hlZ_; have n3_ := Aside0.mk (Kd.C_below (Kd.C_below HR0.out (by repeat (first | exact Below.refl _ _ | apply below_alloc | apply pw_below_drewN | apply below_drew1))) hb_); clear HR0; have HR0 := n3_; clear n3_; clear hb_) | (go_at_call 22; (with_reducible refine (sq_calls_n AZ cZ [cv (floatOfInt .f64 (n : Int)), cv (Op.negFloat .f64 (floatOfInt .f64 (n : Int))), cv (floatOfInt .f64 (n : Int)), cv (Op.negFloat .f64 (floatOfInt .f64 (n : Int))), cv 4617315517961601024] 5 (by simp) 2 [some p, some p] _ ?s1 HLZ.out (sq_f _ _ _ HS.out)).mono ?_); (case s1 => exact Kd.C_below HAZ.out (by repeat (first | exact Below.refl _ _ | apply below_alloc | apply pw_below_drewN | apply below_drew1))); rintro e wk_ ⟨vk_, rfl, ho_, hb_⟩; obtain ⟨AS, cS, rfl, hlS, hC_⟩ := Kd.R_reads ho_; have HLS := Aside0.mk hlS; obtain ⟨adS, b0_, e0_, hx0_, hb0_⟩ := at_f hC_ 0 (by omega) (by simp); obtain ⟨adT, b1_, e1_, hx1_, hb1_⟩ := at_f hC_ 1 (by omega) (by simp); cases e0_; cases e1_; have e2_ := (cv_some (hb0_.trans (show rf [some p, some p] 0 = some p from rfl))).1; have e3_ := (cv_some (hb1_.trans (show rf [some p, some p] 1 = some p from rfl))).1; have e4_ := e2_.symm; have e5_ := e3_.symm; clear hb0_ hb1_ e2_ e3_; rw [← e4_] at hx0_; rw [← e5_] at hx1_; have HAS := Aside0.mk hC_; have n1_ := Aside0.mk (below_step (by repeat (first | (with_reducible first | exact HB.out | apply below_alloc | apply pw_below_drewN | apply below_drew1) | exact HB.out)) hb_); clear HB; have HB := n1_; clear n1_ ho_ hC_ hlS hb_ e4_ e5_; have hx2_ : wk_.cell? ⟨adS.block, adS.off + 1, none⟩ = some (.float .f64 p) := hx1_; have hx3_ : wk_.cell? (adS.add 1) = some (.float .f64 p) := hx1_; have hx4_ : wk_.cell? adS = some (.float .f64 p) := hx0_) | (go_at_call 28; (with_reducible refine (loud_calls_n (some adS) cS [some p, some p] 2 (by simp) 0 4602678819172646912 _ _ ?s1 HLS.out (loud_f [some p, some p] 0 4602678819172646912 (some p) (by simp) HQ1.out)).mono ?_); (case s1 => exact Kd.C_below HAS.out (by repeat (first | exact Below.refl _ _ | apply below_alloc | apply pw_below_drewN | apply below_drew1))); rintro e wk_ ⟨bq_, rfl, hv_, hb_⟩; have n1_ := Aside0.mk (below_step (by repeat (first | (with_reducible first | exact HB.out | apply below_alloc | apply pw_below_drewN | apply below_drew1) | exact HB.out)) hb_); clear HB; have HB := n1_; clear n1_; have n3_ := Aside0.mk (Kd.C_below (Kd.C_below HAS.out (by repeat (first | exact Below.refl _ _ | apply below_alloc | apply pw_below_drewN | apply below_drew1))) hb_); clear HAS; have HAS := n3_; clear n3_; clear hb_; have hq_ := (cv_some hv_).1.symm; subst hq_; clear hv_) | (go_at_call 28; (with_reducible refine (loud_calls_n (some adS) cS [some p, some p] 2 (by simp) p 4602678819172646912 _ _ ?s1 HLS.out (loud_f [some p, some p] p 4602678819172646912 (some 0) (by simp) HQ2.out)).mono ?_); (case s1 => exact Kd.C_below HAS.out (by repeat (first | exact Below.refl _ _ | apply below_alloc | apply pw_below_drewN | apply below_drew1))); rintro e wk_ ⟨bq_, rfl, hv_, hb_⟩; have n1_ := Aside0.mk (below_step (by repeat (first | (with_reducible first | exact HB.out | apply below_alloc | apply pw_below_drewN | apply below_drew1) | exact HB.out)) hb_); clear HB; have HB := n1_; clear n1_; have n3_ := Aside0.mk (Kd.C_below (Kd.C_below HAS.out (by repeat (first | exact Below.refl _ _ | apply below_alloc | apply pw_below_drewN | apply below_drew1))) hb_); clear HAS; have HAS := n3_; clear n3_; clear hb_; have hq_ := (cv_some hv_).1; subst hq_; clear hv_) | (go_at_call 28; (with_reducible refine (loud_calls_n (some adS) cS [some p, some p] 2 (by simp) 0 4607182418800017408 _ _ ?s1 HLS.out (loud_f [some p, some p] 0 4607182418800017408 (some 0) (by simp) HQ3.out)).mono ?_); (case s1 => exact Kd.C_below HAS.out (by repeat (first | exact Below.refl _ _ | apply below_alloc | apply pw_below_drewN | apply below_drew1))); rintro e wk_ ⟨bq_, rfl, hv_, hb_⟩; have n1_ := Aside0.mk (below_step (by repeat (first | (with_reducible first | exact HB.out | apply below_alloc | apply pw_below_drewN | apply below_drew1) | exact HB.out)) hb_); clear HB; have HB := n1_; clear n1_; have n3_ := Aside0.mk (Kd.C_below (Kd.C_below HAS.out (by repeat (first | exact Below.refl _ _ | apply below_alloc | apply pw_below_drewN | apply below_drew1))) hb_); clear HAS; have HAS := n3_; clear n3_; clear hb_; have hq_ := (cv_some hv_).1; subst hq_; clear hv_))
      go_ret
      exact ⟨by first | rfl | simp [hpp, h00], (by repeat (first | (with_reducible first | exact HB.out | apply below_alloc | apply pw_below_drewN | apply below_drew1) | exact HB.out))⟩
    · have d0 : decide ((l0.length : Int) > 4096) = true := decide_eq_true (by omega)
      clear hby
      go_enter Try.func12, Try.ntmps12
      go_wp2_with (first | (go_at_call 30; (with_reducible refine (laws_big.calls A0 c0 l0 (decide ((l0.length : Int) > 4096)) _ HR0.out HC0.out rfl).mono ?_); rintro e wk_ ⟨rfl, ⟨nd_, rfl⟩⟩))
      go_ret
      exact ⟨rfl, (by repeat (first | (with_reducible first | exact HB.out | apply below_alloc | apply pw_below_drewN | apply below_drew1) | exact HB.out))⟩
  · rw [if_neg hby] at h
    cases h


end Go.Proofs.Ytofiabjphjpglaa.HFnLoud
