-- Laid by myprint.py, a program of this repo, out of the kit's printer and this repo's own texts (wip/hand).
import Derived.Test.YtofiabjphjpglaaHFnPansx0
import Derived.Test.YtofiabjphjpglaaHFnPansx1
namespace Go.Proofs.Ytofiabjphjpglaa.HFnPans
open Go.RowKit Go.Proofs.YtofiabjphjpglaaW.PrintWords Go.Proofs.YtofiabjphjpglaaW.PrintLast Go.Proofs.YtofiabjphjpglaaW.PrintMore Go.Proofs.Ytofiabjphjpglaa.Fl
attribute [local go_sem] max2_int min2_int max_two min_two max_three min_three max_four min_four   -- for this text's walks alone
set_option linter.unusedVariables false
set_option linter.unusedSimpArgs false

/-! ### laws_FnPans: function 9 -/
theorem panG_get (xs : List Fl) (a : Fl) (n i : Nat) (h : i < n) : rf (panG xs a n) (2 * (i : Int)) = fmul (rf xs i) (fsub one a) ∧ rf (panG xs a n) (2 * (i : Int) + 1) = fmul (rf xs i) a := by
  have e1 : (2 * (i : Int)).toNat = 2 * i := by omega
  have e2 : (2 * (i : Int) + 1).toNat = 2 * i + 1 := by omega
  induction n with
  | zero => omega
  | succ n ih =>
    rw [panG_succ]
    have hl := panG_len xs a n
    unfold rf at ih ⊢
    rw [e1, e2] at ih ⊢
    by_cases hi : i < n
    · simp only [List.getD_eq_getElem?_getD] at ih ⊢
      rw [List.getElem?_append_left (by omega), List.getElem?_append_left (by omega)]
      exact ih hi
    · obtain rfl : i = n := by omega
      simp only [List.getD_eq_getElem?_getD]
      rw [List.getElem?_append_right (by omega), List.getElem?_append_right (by omega), hl]
      simp
theorem panF_len (xs : List Fl) (a : Fl) : (panF xs a).length = if xs.length ≤ 2048 then 2 * xs.length else 0 := by
  unfold panF
  split
  · exact panG_len _ _ _
  · rfl
theorem panF_half (xs : List Fl) : xs.length ≤ 2048 → ∀ i : Nat, i < xs.length → rf (panF xs (cv 4602678819172646912)) (2 * (i : Int)) = fmul (rf xs i) (cv 4602678819172646912) ∧ rf (panF xs (cv 4602678819172646912)) (2 * (i : Int) + 1) = fmul (rf xs i) (cv 4602678819172646912) := fun hs i hi => by
  have h := panG_get xs (cv 4602678819172646912) xs.length i hi
  have e : fsub one (cv 4602678819172646912) = cv 4602678819172646912 := half_other
  rw [e] at h
  unfold panF
  rw [if_pos hs]
  exact h
theorem panF_one (xs : List Fl) : xs.length ≤ 2048 → ∀ i : Nat, i < xs.length → rf (panF xs (cv 4607182418800017408)) (2 * (i : Int)) = fmul (rf xs i) (some 0) ∧ rf (panF xs (cv 4607182418800017408)) (2 * (i : Int) + 1) = fmul (rf xs i) one := fun hs i hi => by
  have h := panG_get xs (cv 4607182418800017408) xs.length i hi
  have e : fsub one (cv 4607182418800017408) = some 0 := one_other
  rw [e] at h
  unfold panF
  rw [if_pos hs]
  exact h
def laws_FnPans.f (l0 : List Int) : Option Bool := some true
set_option maxHeartbeats 4000000 in
set_option maxRecDepth 100000 in
theorem laws_FnPans.calls (A0 : Option Addr) (c0 : Nat) (l0 : List Int) (r : Bool) (w : World) (hr0 : Kd.C (Kd.int .u8) w A0 l0.length l0) (hc0 : l0.length ≤ c0) (h : laws_FnPans.f l0 = some r) :
    Calls Try.prog 9 #[.slice A0 l0.length c0] w fun e w' => e = .returned (.bool r) ∧ Below w.heap.size w w' := by
  obtain rfl := Option.some.inj h
  clear h
  have HR0 := Aside0.mk hr0
  have HC0 := Aside0.mk hc0
  clear hr0 hc0
  have HB := Aside0.mk (Below.refl w.heap.size w)
  by_cases hl : l0.length ≤ 4096
  · have d0 : decide ((l0.length : Int) > 4096) = false := decide_eq_false (by omega)
    have HL := Aside0.mk hl
    clear hl
    go_enter Try.func9, Try.ntmps9
    go_wp2_with (first | (go_at_call 30; (with_reducible refine (laws_big.calls A0 c0 l0 (decide ((l0.length : Int) > 4096)) _ HR0.out HC0.out rfl).mono ?_); rintro e wk_ ⟨rfl, ⟨nd_, rfl⟩⟩) | (go_at_call 31; (with_reducible refine (spec_DrawPan.calls A0 c0 l0 _ ?s1 HC0.out HL.out).mono ?_); (case s1 => exact Kd.C_below HR0.out (by repeat (first | exact Below.refl _ _ | apply below_alloc | apply pw_below_drewN | apply below_drew1))); rintro e wk_ ⟨vk_, xs_, at_, rfl, ho_, hb_⟩; obtain ⟨AX, cX, rfl, hlX, hC_⟩ := Kd.R_reads ho_; have HLX := Aside0.mk hlX; have HX := Aside0.mk hC_; have HMX := Aside0.mk hC_.2.1; have n1_ := Aside0.mk (below_step (by repeat (first | (with_reducible first | exact HB.out | apply below_alloc | apply pw_below_drewN | apply below_drew1) | exact HB.out)) hb_); clear HB; have HB := n1_; clear n1_ ho_ hC_ hb_ hlX) | (go_at_call 15; (with_reducible refine (impl_Pan.calls AX cX xs_ at_ (panF xs_ (cv at_)) _ ?s1 HLX.out rfl).mono ?_); (case s1 => exact Kd.C_below HX.out (by repeat (first | exact Below.refl _ _ | apply below_alloc | apply pw_below_drewN | apply below_drew1))); rintro e wk_ ⟨vk_, rfl, ho_, hb_⟩; obtain ⟨AP, cAP, rfl, hlAP, hC_⟩ := Kd.R_reads ho_; have HAP := Aside0.mk hC_; have n1_ := Aside0.mk (below_step (by repeat (first | (with_reducible first | exact HB.out | apply below_alloc | apply pw_below_drewN | apply below_drew1) | exact HB.out)) hb_); clear HB; have HB := n1_; clear n1_ ho_ hC_; have n3_ := Aside0.mk (Kd.C_below (Kd.C_below HX.out (by repeat (first | exact Below.refl _ _ | apply below_alloc | apply pw_below_drewN | apply below_drew1))) hb_); clear HX; have HX := n3_; clear n3_; clear hb_) | (go_at_call 13; (with_reducible refine (spec_Pan.calls AX cX xs_ at_ (panF xs_ (cv at_)) _ ?s1 HLX.out rfl).mono ?_); (case s1 => exact Kd.C_below HX.out (by repeat (first | exact Below.refl _ _ | apply below_alloc | apply pw_below_drewN | apply below_drew1))); rintro e wk_ ⟨vk_, rfl, ho_, hb_⟩; obtain ⟨AQ, cAQ, rfl, hlAQ, hC_⟩ := Kd.R_reads ho_; have HAQ := Aside0.mk hC_; have n1_ := Aside0.mk (below_step (by repeat (first | (with_reducible first | exact HB.out | apply below_alloc | apply pw_below_drewN | apply below_drew1) | exact HB.out)) hb_); clear HB; have HB := n1_; clear n1_ ho_ hC_; have n3_ := Aside0.mk (Kd.C_below (Kd.C_below HX.out (by repeat (first | exact Below.refl _ _ | apply below_alloc | apply pw_below_drewN | apply below_drew1))) hb_); clear HX; have HX := n3_; clear n3_; clear hb_) | (go_at_call 15; (with_reducible refine (impl_Pan.calls AX cX xs_ 4602678819172646912 (panF xs_ (cv 4602678819172646912)) _ ?s1 HLX.out rfl).mono ?_); (case s1 => exact Kd.C_below HX.out (by repeat (first | exact Below.refl _ _ | apply below_alloc | apply pw_below_drewN | apply below_drew1))); rintro e wk_ ⟨vk_, rfl, ho_, hb_⟩; obtain ⟨AM, cAM, rfl, hlAM, hC_⟩ := Kd.R_reads ho_; have HAM := Aside0.mk hC_; have n1_ := Aside0.mk (below_step (by repeat (first | (with_reducible first | exact HB.out | apply below_alloc | apply pw_below_drewN | apply below_drew1) | exact HB.out)) hb_); clear HB; have HB := n1_; clear n1_ ho_ hC_; have n3_ := Aside0.mk (Kd.C_below (Kd.C_below HX.out (by repeat (first | exact Below.refl _ _ | apply below_alloc | apply pw_below_drewN | apply below_drew1))) hb_); clear HX; have HX := n3_; clear n3_; clear hb_) | (go_at_call 15; (with_reducible refine (impl_Pan.calls AX cX xs_ 4607182418800017408 (panF xs_ (cv 4607182418800017408)) _ ?s1 HLX.out rfl).mono ?_); (case s1 => exact Kd.C_below HX.out (by repeat (first | exact Below.refl _ _ | apply below_alloc | apply pw_below_drewN | apply below_drew1))); rintro e wk_ ⟨vk_, rfl, ho_, hb_⟩; obtain ⟨AE, cAE, rfl, hlAE, hC_⟩ := Kd.R_reads ho_; have HAE := Aside0.mk hC_; have n1_ := Aside0.mk (below_step (by repeat (first | (with_reducible first | exact HB.out | apply below_alloc | apply pw_below_drewN | apply below_drew1) | exact HB.out)) hb_); clear HB; have HB := n1_; clear n1_ ho_ hC_; have n3_ := Aside0.mk (Kd.C_below (Kd.C_below HX.out (by repeat (first | exact Below.refl _ _ | apply below_alloc | apply pw_below_drewN | apply below_drew1))) hb_); clear HX; have HX := n3_; clear n3_; have n3_ := Aside0.mk (Kd.C_below (Kd.C_below HAM.out (by repeat (first | exact Below.refl _ _ | apply below_alloc | apply pw_below_drewN | apply below_drew1))) hb_); clear HAM; have HAM := n3_; clear n3_; clear hb_))
    have hmL : (panF xs_ (cv 4602678819172646912)).length = if xs_.length ≤ 2048 then 2 * xs_.length else 0 := panF_len _ _
    have heL : (panF xs_ (cv 4607182418800017408)).length = if xs_.length ≤ 2048 then 2 * xs_.length else 0 := panF_len _ _
    have hM := panF_half xs_
    have hE := panF_one xs_
    generalize panF xs_ (cv 4602678819172646912) = m at hmL hM HAM hlAM ⊢
    generalize panF xs_ (cv 4607182418800017408) = e at heL hE HAE hlAE ⊢
    have HmL := Aside0.mk hmL
    have HeL := Aside0.mk heL
    have HhM := Aside0.mk hM
    have HhE := Aside0.mk hE
    clear hmL heL hM hE hlAM hlAE hlAP hlAQ HAP HAQ
    go_loopg [8] xs_.length (fun gg v8 w' => ∃ i : Nat, Aside0 (i ≤ xs_.length ∧ xs_.length - i ≤ gg) ∧ v8 = .int .i64 (i : Int) ∧ Aside0 (Below w.heap.size w w') ∧ Aside0 (Kf.C w' AX xs_.length xs_) ∧ Aside0 (Kf.C w' AM m.length m) ∧ Aside0 (Kf.C w' AE e.length e))
    case atStart => exact ⟨0, ⟨Nat.zero_le _, Nat.le_refl _⟩, rfl, HB, HX, HAM, HAE⟩
    case round =>
      clear HB HX HAM HAE
      obtain ⟨i, HK, rfl, HB, HX, HAM, HAE⟩ := hrel
      have HM2 : xs_.length ≤ 9223372036854775807 := HMX.out
      by_cases hlt : i < xs_.length
      · have hltb : decide ((i : Int) < (xs_.length : Int)) = true := decide_eq_true (by omega)
        by_cases hs : xs_.length ≤ 2048
        · have hmL := HmL.out
          have heL := HeL.out
          rw [if_pos hs] at hmL heL
          have hgt : (0 < m.length) = True := eq_true (by omega)
          obtain ⟨ad1, b1, e1, hx1, hb1⟩ := at_f HAM.out (2 * (i : Int)) (by omega) (by omega)
          obtain ⟨ad2, b2, e2, hx2, hb2⟩ := at_f HAM.out (2 * (i : Int) + 1) (by omega) (by omega)
          cases e1
          cases e2
          obtain ⟨ad3, b3, e3, hx3, hb3⟩ := at_f HAE.out (2 * (i : Int)) (by omega) (by omega)
          obtain ⟨ad4, b4, e4, hx4, hb4⟩ := at_f HAE.out (2 * (i : Int) + 1) (by omega) (by omega)
          cases e3
          cases e4
          obtain ⟨ad5, b5, e5, hx5, hb5⟩ := at_f HX.out (i : Int) (by omega) (by omega)
          cases e5
          rw [(HhM.out hs i hlt).1] at hb1
          rw [(HhM.out hs i hlt).2] at hb2
          rw [(HhE.out hs i hlt).1, ← hb5] at hb3
          rw [(HhE.out hs i hlt).2, ← hb5] at hb4
          have HL1 := Aside0.mk (Like.of_cv (hb1.trans hb2.symm))
          have HL2 := Aside0.mk (like_mul_one hb4)
          have hz := zero_or hb3
          clear hb1 hb2 hb3 hb4
          have hw1 : wrap64 (2 * (i : Int)) = 2 * (i : Int) := by unfold wrap64; omega
          have hw2 : wrap64 (2 * (i : Int) + 1) = 2 * (i : Int) + 1 := by unfold wrap64; omega
          have hw3 : IntKind.i64.wrap (2 * (i : Int)) = 2 * (i : Int) := by rw [IntKind.wrap_i64]; omega
          have hw4 : IntKind.i64.wrap (2 * (i : Int) + 1) = 2 * (i : Int) + 1 := by rw [IntKind.wrap_i64]; omega
          have p1 : (0 ≤ 2 * (i : Int)) = True := eq_true (by omega)
          have p2 : (0 ≤ 2 * (i : Int) + 1) = True := eq_true (by omega)
          have p3 : (0 ≤ (i : Int)) = True := eq_true (by omega)
          have q1 : (2 * (i : Int) < (m.length : Int)) = True := eq_true (by omega)
          have q2 : (2 * (i : Int) + 1 < (m.length : Int)) = True := eq_true (by omega)
          have q3 : (2 * (i : Int) < (e.length : Int)) = True := eq_true (by omega)
          have q4 : (2 * (i : Int) + 1 < (e.length : Int)) = True := eq_true (by omega)
          have q5 : ((i : Int) < (xs_.length : Int)) = True := eq_true (by omega)
          simp only [Int.toNat_natCast] at hx5
          clear hmL heL
          rcases hz with hz | ⟨hz, hz2⟩
          · have z1 : (FloatKind.f64.format.order b3 0 != some Ordering.eq) = false := by rw [hz]; rfl
            clear hb5
            go_wp2
            refine wp_region_held_drew (S := (fun w' => w'.cell? (ad1.add (2 * (i : Int)).toNat) = some (.float .f64 b1) ∧ w'.cell? (ad1.add (2 * (i : Int) + 1).toNat) = some (.float .f64 b2) ∧ w'.cell? (ad3.add (2 * (i : Int)).toNat) = some (.float .f64 b3) ∧ w'.cell? (ad3.add (2 * (i : Int) + 1).toNat) = some (.float .f64 b4) ∧ w'.cell? (ad5.add i) = some (.float .f64 b5))) (by kernel_rfl) ?hS_ (fun hS0 => ?hr_)
            case hS_ => go_keep
            refine wpAnyH_take (i := 0) (oi := { dst := some 41, op := Go.Op.move (Go.Operand.tmp 6), type := 22, pos := "laws.go:1090", after := #[], guard := none }) (v := ?vv0_) rfl (by kernel_rfl) (by kernel_rfl) (by kernel_rfl) (fun _ _ _ h => h) (Or.inl ⟨by rfl, ?hy0_⟩) (by assumption) ?rest0_
            case hy0_ => (intro w hSw; (try dsimp only at hSw); first | (go_simp; done) | (go_simp; with_reducible rfl))
            try simp only [Act.put, List.setIfInBounds_toArray, List.set_cons_zero, List.set_cons_succ]
            refine wpAnyH_take (i := 1) (oi := { dst := some 42, op := Go.Op.move (Go.Operand.tmp 8), type := 3, pos := "laws.go:1090", after := #[], guard := none }) (v := ?vv1_) rfl (by kernel_rfl) (by kernel_rfl) (by kernel_rfl) (fun _ _ _ h => h) (Or.inl ⟨by rfl, ?hy1_⟩) (by assumption) ?rest1_
            case hy1_ => (intro w hSw; (try dsimp only at hSw); first | (go_simp; done) | (go_simp; with_reducible rfl))
            try simp only [Act.put, List.setIfInBounds_toArray, List.set_cons_zero, List.set_cons_succ]
            refine wpAnyH_take (i := 2) (oi := { dst := some 43, op := Go.Op.binOp Go.BinOp.mul 3 (Go.Operand.const (Go.Value.int Go.IntKind.i64 2)) (Go.Operand.tmp 42) 3, type := 3, pos := "laws.go:1090", after := #[{ on := 1, ground := Go.Ground.data }], guard := none }) (v := ?vv2_) rfl (by kernel_rfl) (by kernel_rfl) (by kernel_rfl) (fun _ _ _ h => h) (Or.inl ⟨by rfl, ?hy2_⟩) (by assumption) ?rest2_
            case hy2_ => (intro w hSw; (try dsimp only at hSw); first | (go_simp; done) | (go_simp; with_reducible rfl))
            try simp only [Act.put, List.setIfInBounds_toArray, List.set_cons_zero, List.set_cons_succ]
            refine wpAnyH_take (i := 3) (oi := { dst := some 44, op := Go.Op.indexAddr 22 (Go.Operand.tmp 41) (Go.Operand.tmp 43), type := 0, pos := "laws.go:1090", after := #[{ on := 0, ground := Go.Ground.data }, { on := 2, ground := Go.Ground.data }], guard := none }) (v := ?vv3_) rfl (by kernel_rfl) (by kernel_rfl) (by kernel_rfl) (fun _ _ _ h => h) (Or.inl ⟨by rfl, ?hy3_⟩) (by assumption) ?rest3_
            case hy3_ => (intro w hSw; (try dsimp only at hSw); first | (go_simp; done) | (go_simp; with_reducible rfl))
            try simp only [Act.put, List.setIfInBounds_toArray, List.set_cons_zero, List.set_cons_succ]
            refine wpAnyH_take (i := 4) (oi := { dst := some 45, op := Go.Op.load 23 (Go.Operand.tmp 44), type := 23, pos := "laws.go:1090", after := #[{ on := 3, ground := Go.Ground.data }], guard := none }) (v := ?vv4_) rfl (by kernel_rfl) (by kernel_rfl) (by kernel_rfl) (fun _ _ _ h => h) (Or.inl ⟨by rfl, ?hy4_⟩) (by assumption) ?rest4_
            case hy4_ => (intro w hSw; (try dsimp only at hSw); first | (go_simp; done) | (go_simp; with_reducible rfl))
            try simp only [Act.put, List.setIfInBounds_toArray, List.set_cons_zero, List.set_cons_succ]
            refine wpAnyH_take (i := 5) (oi := { dst := some 46, op := Go.Op.move (Go.Operand.tmp 6), type := 22, pos := "laws.go:1090", after := #[], guard := none }) (v := ?vv5_) rfl (by kernel_rfl) (by kernel_rfl) (by kernel_rfl) (fun _ _ _ h => h) (Or.inl ⟨by rfl, ?hy5_⟩) (by assumption) ?rest5_
            case hy5_ => (intro w hSw; (try dsimp only at hSw); first | (go_simp; done) | (go_simp; with_reducible rfl))
            try simp only [Act.put, List.setIfInBounds_toArray, List.set_cons_zero, List.set_cons_succ]
            refine wpAnyH_take (i := 6) (oi := { dst := some 47, op := Go.Op.move (Go.Operand.tmp 8), type := 3, pos := "laws.go:1090", after := #[], guard := none }) (v := ?vv6_) rfl (by kernel_rfl) (by kernel_rfl) (by kernel_rfl) (fun _ _ _ h => h) (Or.inl ⟨by rfl, ?hy6_⟩) (by assumption) ?rest6_
            case hy6_ => (intro w hSw; (try dsimp only at hSw); first | (go_simp; done) | (go_simp; with_reducible rfl))
            try simp only [Act.put, List.setIfInBounds_toArray, List.set_cons_zero, List.set_cons_succ]
            refine wpAnyH_take (i := 7) (oi := { dst := some 48, op := Go.Op.binOp Go.BinOp.mul 3 (Go.Operand.const (Go.Value.int Go.IntKind.i64 2)) (Go.Operand.tmp 47) 3, type := 3, pos := "laws.go:1090", after := #[{ on := 6, ground := Go.Ground.data }], guard := none }) (v := ?vv7_) rfl (by kernel_rfl) (by kernel_rfl) (by kernel_rfl) (fun _ _ _ h => h) (Or.inl ⟨by rfl, ?hy7_⟩) (by assumption) ?rest7_
            case hy7_ => (intro w hSw; (try dsimp only at hSw); first | (go_simp; done) | (go_simp; with_reducible rfl))
            try simp only [Act.put, List.setIfInBounds_toArray, List.set_cons_zero, List.set_cons_succ]
            refine wpAnyH_take (i := 8) (oi := { dst := some 49, op := Go.Op.binOp Go.BinOp.add 3 (Go.Operand.tmp 48) (Go.Operand.const (Go.Value.int Go.IntKind.i64 1)) 3, type := 3, pos := "laws.go:1090", after := #[{ on := 7, ground := Go.Ground.data }], guard := none }) (v := ?vv8_) rfl (by kernel_rfl) (by kernel_rfl) (by kernel_rfl) (fun _ _ _ h => h) (Or.inl ⟨by rfl, ?hy8_⟩) (by assumption) ?rest8_
            case hy8_ => (intro w hSw; (try dsimp only at hSw); first | (go_simp; done) | (go_simp; with_reducible rfl))
            try simp only [Act.put, List.setIfInBounds_toArray, List.set_cons_zero, List.set_cons_succ]
            refine wpAnyH_take (i := 9) (oi := { dst := some 50, op := Go.Op.indexAddr 22 (Go.Operand.tmp 46) (Go.Operand.tmp 49), type := 0, pos := "laws.go:1090", after := #[{ on := 5, ground := Go.Ground.data }, { on := 8, ground := Go.Ground.data }], guard := none }) (v := ?vv9_) rfl (by kernel_rfl) (by kernel_rfl) (by kernel_rfl) (fun _ _ _ h => h) (Or.inl ⟨by rfl, ?hy9_⟩) (by assumption) ?rest9_
            case hy9_ => (intro w hSw; (try dsimp only at hSw); first | (go_simp; done) | (go_simp; with_reducible rfl))
            try simp only [Act.put, List.setIfInBounds_toArray, List.set_cons_zero, List.set_cons_succ]
            refine wpAnyH_take (i := 10) (oi := { dst := some 51, op := Go.Op.load 23 (Go.Operand.tmp 50), type := 23, pos := "laws.go:1090", after := #[{ on := 9, ground := Go.Ground.data }], guard := none }) (v := ?vv10_) rfl (by kernel_rfl) (by kernel_rfl) (by kernel_rfl) (fun _ _ _ h => h) (Or.inl ⟨by rfl, ?hy10_⟩) (by assumption) ?rest10_
            case hy10_ => (intro w hSw; (try dsimp only at hSw); first | (go_simp; done) | (go_simp; with_reducible rfl))
            try simp only [Act.put, List.setIfInBounds_toArray, List.set_cons_zero, List.set_cons_succ]
            refine wpAnyH_ready (rs := [11]) (by kernel_rfl) (by simp) ?_
            refine AllReadyH.cons (o := { dst := some 52, op := Go.Op.call { callee := Go.Callee.value (Go.Operand.func 32), args := #[Go.Operand.tmp 45, Go.Operand.tmp 51], argTypes := #[23, 23] }, type := 4, pos := "laws.go:1090", after := #[{ on := 4, ground := Go.Ground.data }, { on := 10, ground := Go.Ground.data }], guard := none }) rfl (fun K hK => ?_) AllReadyH.nil
            go_simp
            (go_at_call 32; (with_reducible refine (laws_likeFloat.calls b1 b2 _ HL1.out).mono ?_); rintro e wk_ ⟨rfl, ⟨nd_, rfl⟩⟩)
            refine hK.out _ _ ?hs11_ (fun hHeld => ?hr11_)
            case hs11_ => go_keep
            clear hK K
            try simp only [Act.put, List.setIfInBounds_toArray, List.set_cons_zero, List.set_cons_succ]
            refine wpAnyH_take (i := 12) (oi := { dst := some 53, op := Go.Op.unOp Go.UnOp.not 4 (Go.Operand.tmp 52), type := 4, pos := "laws.go:1090", after := #[{ on := 11, ground := Go.Ground.data }], guard := none }) (v := ?vv12_) rfl (by kernel_rfl) (by kernel_rfl) (by kernel_rfl) (fun _ _ _ h => h) (Or.inl ⟨by rfl, ?hy12_⟩) (by assumption) ?rest12_
            case hy12_ => (intro w hSw; (try dsimp only at hSw); first | (go_simp; done) | (go_simp; with_reducible rfl))
            try simp only [Act.put, List.setIfInBounds_toArray, List.set_cons_zero, List.set_cons_succ]
            refine wpAnyH_take (i := 13) (oi := { dst := some 54, op := Go.Op.move (Go.Operand.tmp 53), type := 4, pos := "laws.go:1090", after := #[{ on := 12, ground := Go.Ground.data }, { on := 11, ground := Go.Ground.chain }], guard := none }) (v := ?vv13_) rfl (by kernel_rfl) (by kernel_rfl) (by kernel_rfl) (fun _ _ _ h => h) (Or.inl ⟨by rfl, ?hy13_⟩) (by assumption) ?rest13_
            case hy13_ => (intro w hSw; (try dsimp only at hSw); first | (go_simp; done) | (go_simp; with_reducible rfl))
            try simp only [Act.put, List.setIfInBounds_toArray, List.set_cons_zero, List.set_cons_succ]
            refine wpAnyH_take (i := 14) (oi := { dst := some 55, op := Go.Op.move (Go.Operand.tmp 7), type := 22, pos := "laws.go:1090", after := #[{ on := 13, ground := Go.Ground.guard }], guard := some (13, false) }) (v := ?vv14_) rfl (by kernel_rfl) (by kernel_rfl) (by kernel_rfl) (fun _ _ _ h => h) (Or.inl ⟨by rfl, ?hy14_⟩) (by assumption) ?rest14_
            case hy14_ => (intro w hSw; (try dsimp only at hSw); first | (go_simp; done) | (go_simp; with_reducible rfl))
            try simp only [Act.put, List.setIfInBounds_toArray, List.set_cons_zero, List.set_cons_succ]
            refine wpAnyH_take (i := 15) (oi := { dst := some 56, op := Go.Op.move (Go.Operand.tmp 8), type := 3, pos := "laws.go:1090", after := #[{ on := 13, ground := Go.Ground.guard }], guard := some (13, false) }) (v := ?vv15_) rfl (by kernel_rfl) (by kernel_rfl) (by kernel_rfl) (fun _ _ _ h => h) (Or.inl ⟨by rfl, ?hy15_⟩) (by assumption) ?rest15_
            case hy15_ => (intro w hSw; (try dsimp only at hSw); first | (go_simp; done) | (go_simp; with_reducible rfl))
            try simp only [Act.put, List.setIfInBounds_toArray, List.set_cons_zero, List.set_cons_succ]
            refine wpAnyH_take (i := 16) (oi := { dst := some 57, op := Go.Op.binOp Go.BinOp.mul 3 (Go.Operand.const (Go.Value.int Go.IntKind.i64 2)) (Go.Operand.tmp 56) 3, type := 3, pos := "laws.go:1090", after := #[{ on := 15, ground := Go.Ground.data }, { on := 13, ground := Go.Ground.guard }], guard := some (13, false) }) (v := ?vv16_) rfl (by kernel_rfl) (by kernel_rfl) (by kernel_rfl) (fun _ _ _ h => h) (Or.inl ⟨by rfl, ?hy16_⟩) (by assumption) ?rest16_
            case hy16_ => (intro w hSw; (try dsimp only at hSw); first | (go_simp; done) | (go_simp; with_reducible rfl))
            try simp only [Act.put, List.setIfInBounds_toArray, List.set_cons_zero, List.set_cons_succ]
            refine wpAnyH_take (i := 17) (oi := { dst := some 58, op := Go.Op.binOp Go.BinOp.add 3 (Go.Operand.tmp 57) (Go.Operand.const (Go.Value.int Go.IntKind.i64 1)) 3, type := 3, pos := "laws.go:1090", after := #[{ on := 16, ground := Go.Ground.data }, { on := 13, ground := Go.Ground.guard }], guard := some (13, false) }) (v := ?vv17_) rfl (by kernel_rfl) (by kernel_rfl) (by kernel_rfl) (fun _ _ _ h => h) (Or.inl ⟨by rfl, ?hy17_⟩) (by assumption) ?rest17_
            case hy17_ => (intro w hSw; (try dsimp only at hSw); first | (go_simp; done) | (go_simp; with_reducible rfl))
            try simp only [Act.put, List.setIfInBounds_toArray, List.set_cons_zero, List.set_cons_succ]
            refine wpAnyH_take (i := 18) (oi := { dst := some 59, op := Go.Op.indexAddr 22 (Go.Operand.tmp 55) (Go.Operand.tmp 58), type := 0, pos := "laws.go:1090", after := #[{ on := 14, ground := Go.Ground.data }, { on := 17, ground := Go.Ground.data }, { on := 13, ground := Go.Ground.guard }], guard := some (13, false) }) (v := ?vv18_) rfl (by kernel_rfl) (by kernel_rfl) (by kernel_rfl) (fun _ _ _ h => h) (Or.inl ⟨by rfl, ?hy18_⟩) (by assumption) ?rest18_
            case hy18_ => (intro w hSw; (try dsimp only at hSw); first | (go_simp; done) | (go_simp; with_reducible rfl))
            try simp only [Act.put, List.setIfInBounds_toArray, List.set_cons_zero, List.set_cons_succ]
            refine wpAnyH_take (i := 19) (oi := { dst := some 60, op := Go.Op.load 23 (Go.Operand.tmp 59), type := 23, pos := "laws.go:1090", after := #[{ on := 18, ground := Go.Ground.data }, { on := 13, ground := Go.Ground.guard }], guard := some (13, false) }) (v := ?vv19_) rfl (by kernel_rfl) (by kernel_rfl) (by kernel_rfl) (fun _ _ _ h => h) (Or.inl ⟨by rfl, ?hy19_⟩) (by assumption) ?rest19_
            case hy19_ => (intro w hSw; (try dsimp only at hSw); first | (go_simp; done) | (go_simp; with_reducible rfl))
            try simp only [Act.put, List.setIfInBounds_toArray, List.set_cons_zero, List.set_cons_succ]
            refine wpAnyH_take (i := 20) (oi := { dst := some 61, op := Go.Op.move (Go.Operand.tmp 3), type := 22, pos := "laws.go:1090", after := #[{ on := 13, ground := Go.Ground.guard }], guard := some (13, false) }) (v := ?vv20_) rfl (by kernel_rfl) (by kernel_rfl) (by kernel_rfl) (fun _ _ _ h => h) (Or.inl ⟨by rfl, ?hy20_⟩) (by assumption) ?rest20_
            case hy20_ => (intro w hSw; (try dsimp only at hSw); first | (go_simp; done) | (go_simp; with_reducible rfl))
            try simp only [Act.put, List.setIfInBounds_toArray, List.set_cons_zero, List.set_cons_succ]
            refine wpAnyH_take (i := 21) (oi := { dst := some 62, op := Go.Op.move (Go.Operand.tmp 8), type := 3, pos := "laws.go:1090", after := #[{ on := 13, ground := Go.Ground.guard }], guard := some (13, false) }) (v := ?vv21_) rfl (by kernel_rfl) (by kernel_rfl) (by kernel_rfl) (fun _ _ _ h => h) (Or.inl ⟨by rfl, ?hy21_⟩) (by assumption) ?rest21_
            case hy21_ => (intro w hSw; (try dsimp only at hSw); first | (go_simp; done) | (go_simp; with_reducible rfl))
            try simp only [Act.put, List.setIfInBounds_toArray, List.set_cons_zero, List.set_cons_succ]
            refine wpAnyH_take (i := 22) (oi := { dst := some 63, op := Go.Op.indexAddr 22 (Go.Operand.tmp 61) (Go.Operand.tmp 62), type := 0, pos := "laws.go:1090", after := #[{ on := 20, ground := Go.Ground.data }, { on := 21, ground := Go.Ground.data }, { on := 13, ground := Go.Ground.guard }], guard := some (13, false) }) (v := ?vv22_) rfl (by kernel_rfl) (by kernel_rfl) (by kernel_rfl) (fun _ _ _ h => h) (Or.inl ⟨by rfl, ?hy22_⟩) (by assumption) ?rest22_
            case hy22_ => (intro w hSw; (try dsimp only at hSw); first | (go_simp; done) | (go_simp; with_reducible rfl))
            try simp only [Act.put, List.setIfInBounds_toArray, List.set_cons_zero, List.set_cons_succ]
            refine wpAnyH_take (i := 23) (oi := { dst := some 64, op := Go.Op.load 23 (Go.Operand.tmp 63), type := 23, pos := "laws.go:1090", after := #[{ on := 22, ground := Go.Ground.data }, { on := 13, ground := Go.Ground.guard }], guard := some (13, false) }) (v := ?vv23_) rfl (by kernel_rfl) (by kernel_rfl) (by kernel_rfl) (fun _ _ _ h => h) (Or.inl ⟨by rfl, ?hy23_⟩) (by assumption) ?rest23_
            case hy23_ => (intro w hSw; (try dsimp only at hSw); first | (go_simp; done) | (go_simp; with_reducible rfl))
            try simp only [Act.put, List.setIfInBounds_toArray, List.set_cons_zero, List.set_cons_succ]
            refine wpAnyH_ready (rs := [24]) (by kernel_rfl) (by simp) ?_
            refine AllReadyH.cons (o := { dst := some 65, op := Go.Op.call { callee := Go.Callee.value (Go.Operand.func 32), args := #[Go.Operand.tmp 60, Go.Operand.tmp 64], argTypes := #[23, 23] }, type := 4, pos := "laws.go:1090", after := #[{ on := 19, ground := Go.Ground.data }, { on := 23, ground := Go.Ground.data }, { on := 13, ground := Go.Ground.chain }, { on := 13, ground := Go.Ground.guard }], guard := some (13, false) }) rfl (fun K hK => ?_) AllReadyH.nil
            go_simp
            (go_at_call 32; (with_reducible refine (laws_likeFloat.calls b4 b5 _ HL2.out).mono ?_); rintro e wk_ ⟨rfl, ⟨nd2_, rfl⟩⟩)
            refine hK.out _ _ ?hs24_ (fun hHeld => ?hr24_)
            case hs24_ => go_keep
            clear hK K
            try simp only [Act.put, List.setIfInBounds_toArray, List.set_cons_zero, List.set_cons_succ]
            refine wpAnyH_take (i := 25) (oi := { dst := some 66, op := Go.Op.unOp Go.UnOp.not 4 (Go.Operand.tmp 65), type := 4, pos := "laws.go:1090", after := #[{ on := 24, ground := Go.Ground.data }, { on := 13, ground := Go.Ground.guard }], guard := some (13, false) }) (v := ?vv25_) rfl (by kernel_rfl) (by kernel_rfl) (by kernel_rfl) (fun _ _ _ h => h) (Or.inl ⟨by rfl, ?hy25_⟩) (by assumption) ?rest25_
            case hy25_ => (intro w hSw; (try dsimp only at hSw); first | (go_simp; done) | (go_simp; with_reducible rfl))
            try simp only [Act.put, List.setIfInBounds_toArray, List.set_cons_zero, List.set_cons_succ]
            refine wpAnyH_take (i := 26) (oi := { dst := some 67, op := Go.Op.pick (Go.Operand.tmp 54) (Go.Operand.const (Go.Value.bool true)) (Go.Operand.tmp 66), type := 4, pos := "laws.go:1090", after := #[{ on := 13, ground := Go.Ground.data }, { on := 25, ground := Go.Ground.data }], guard := none }) (v := ?vv26_) rfl (by kernel_rfl) (by kernel_rfl) (by kernel_rfl) (fun _ _ _ h => h) (Or.inl ⟨by rfl, ?hy26_⟩) (by assumption) ?rest26_
            case hy26_ => (intro w hSw; (try dsimp only at hSw); first | (go_simp; done) | (go_simp; with_reducible rfl))
            try simp only [Act.put, List.setIfInBounds_toArray, List.set_cons_zero, List.set_cons_succ]
            refine wpAnyH_take (i := 27) (oi := { dst := some 68, op := Go.Op.move (Go.Operand.tmp 67), type := 4, pos := "laws.go:1090", after := #[{ on := 26, ground := Go.Ground.data }, { on := 24, ground := Go.Ground.chain }], guard := none }) (v := ?vv27_) rfl (by kernel_rfl) (by kernel_rfl) (by kernel_rfl) (fun _ _ _ h => h) (Or.inl ⟨by rfl, ?hy27_⟩) (by assumption) ?rest27_
            case hy27_ => (intro w hSw; (try dsimp only at hSw); first | (go_simp; done) | (go_simp; with_reducible rfl))
            try simp only [Act.put, List.setIfInBounds_toArray, List.set_cons_zero, List.set_cons_succ]
            refine wpAnyH_take (i := 28) (oi := { dst := some 69, op := Go.Op.move (Go.Operand.tmp 7), type := 22, pos := "laws.go:1090", after := #[{ on := 27, ground := Go.Ground.guard }], guard := some (27, false) }) (v := ?vv28_) rfl (by kernel_rfl) (by kernel_rfl) (by kernel_rfl) (fun _ _ _ h => h) (Or.inl ⟨by rfl, ?hy28_⟩) (by assumption) ?rest28_
            case hy28_ => (intro w hSw; (try dsimp only at hSw); first | (go_simp; done) | (go_simp; with_reducible rfl))
            try simp only [Act.put, List.setIfInBounds_toArray, List.set_cons_zero, List.set_cons_succ]
            refine wpAnyH_take (i := 29) (oi := { dst := some 70, op := Go.Op.move (Go.Operand.tmp 8), type := 3, pos := "laws.go:1090", after := #[{ on := 27, ground := Go.Ground.guard }], guard := some (27, false) }) (v := ?vv29_) rfl (by kernel_rfl) (by kernel_rfl) (by kernel_rfl) (fun _ _ _ h => h) (Or.inl ⟨by rfl, ?hy29_⟩) (by assumption) ?rest29_
            case hy29_ => (intro w hSw; (try dsimp only at hSw); first | (go_simp; done) | (go_simp; with_reducible rfl))
            try simp only [Act.put, List.setIfInBounds_toArray, List.set_cons_zero, List.set_cons_succ]
            refine wpAnyH_take (i := 30) (oi := { dst := some 71, op := Go.Op.binOp Go.BinOp.mul 3 (Go.Operand.const (Go.Value.int Go.IntKind.i64 2)) (Go.Operand.tmp 70) 3, type := 3, pos := "laws.go:1090", after := #[{ on := 29, ground := Go.Ground.data }, { on := 27, ground := Go.Ground.guard }], guard := some (27, false) }) (v := ?vv30_) rfl (by kernel_rfl) (by kernel_rfl) (by kernel_rfl) (fun _ _ _ h => h) (Or.inl ⟨by rfl, ?hy30_⟩) (by assumption) ?rest30_
            case hy30_ => (intro w hSw; (try dsimp only at hSw); first | (go_simp; done) | (go_simp; with_reducible rfl))
            try simp only [Act.put, List.setIfInBounds_toArray, List.set_cons_zero, List.set_cons_succ]
            refine wpAnyH_take (i := 31) (oi := { dst := some 72, op := Go.Op.indexAddr 22 (Go.Operand.tmp 69) (Go.Operand.tmp 71), type := 0, pos := "laws.go:1090", after := #[{ on := 28, ground := Go.Ground.data }, { on := 30, ground := Go.Ground.data }, { on := 27, ground := Go.Ground.guard }], guard := some (27, false) }) (v := ?vv31_) rfl (by kernel_rfl) (by kernel_rfl) (by kernel_rfl) (fun _ _ _ h => h) (Or.inl ⟨by rfl, ?hy31_⟩) (by assumption) ?rest31_
            case hy31_ => (intro w hSw; (try dsimp only at hSw); first | (go_simp; done) | (go_simp; with_reducible rfl))
            try simp only [Act.put, List.setIfInBounds_toArray, List.set_cons_zero, List.set_cons_succ]
            refine wpAnyH_take (i := 32) (oi := { dst := some 73, op := Go.Op.load 23 (Go.Operand.tmp 72), type := 23, pos := "laws.go:1090", after := #[{ on := 31, ground := Go.Ground.data }, { on := 27, ground := Go.Ground.guard }], guard := some (27, false) }) (v := ?vv32_) rfl (by kernel_rfl) (by kernel_rfl) (by kernel_rfl) (fun _ _ _ h => h) (Or.inl ⟨by rfl, ?hy32_⟩) (by assumption) ?rest32_
            case hy32_ => (intro w hSw; (try dsimp only at hSw); first | (go_simp; done) | (go_simp; with_reducible rfl))
            try simp only [Act.put, List.setIfInBounds_toArray, List.set_cons_zero, List.set_cons_succ]
            refine wpAnyH_take (i := 33) (oi := { dst := some 74, op := Go.Op.binOp Go.BinOp.neq 23 (Go.Operand.tmp 73) (Go.Operand.const (Go.Value.float Go.FloatKind.f64 0)) 23, type := 4, pos := "laws.go:1090", after := #[{ on := 32, ground := Go.Ground.data }, { on := 27, ground := Go.Ground.guard }], guard := some (27, false) }) (v := .bool false) rfl (by kernel_rfl) (by kernel_rfl) (by kernel_rfl) (fun _ _ _ h => h) (Or.inl ⟨by rfl, ?hy33_⟩) (by assumption) ?rest33_
            case hy33_ => (intro w hSw; (try dsimp only at hSw); first | (go_simp; done) | (go_simp; with_reducible rfl))
            try simp only [Act.put, List.setIfInBounds_toArray, List.set_cons_zero, List.set_cons_succ]
            refine wpAnyH_take (i := 34) (oi := { dst := some 75, op := Go.Op.move (Go.Operand.tmp 74), type := 4, pos := "laws.go:1090", after := #[{ on := 33, ground := Go.Ground.data }, { on := 27, ground := Go.Ground.chain }, { on := 27, ground := Go.Ground.guard }], guard := some (27, false) }) (v := .bool false) rfl (by kernel_rfl) (by kernel_rfl) (by kernel_rfl) (fun _ _ _ h => h) (Or.inl ⟨by rfl, ?hy34_⟩) (by assumption) ?rest34_
            case hy34_ => (intro w hSw; (try dsimp only at hSw); first | (go_simp; done) | (go_simp; with_reducible rfl))
            try simp only [Act.put, List.setIfInBounds_toArray, List.set_cons_zero, List.set_cons_succ]
            refine wpAnyH_take (i := 35) (oi := { dst := some 76, op := Go.Op.move (Go.Operand.tmp 3), type := 22, pos := "laws.go:1090", after := #[{ on := 34, ground := Go.Ground.guard }], guard := some (34, true) }) (v := undef) rfl (by kernel_rfl) (by kernel_rfl) (by kernel_rfl) (fun _ _ _ h => h) (Or.inr ⟨by rfl, rfl⟩) (by assumption) ?_
            try simp only [Act.put, List.setIfInBounds_toArray, List.set_cons_zero, List.set_cons_succ]
            refine wpAnyH_take (i := 36) (oi := { dst := some 77, op := Go.Op.move (Go.Operand.tmp 8), type := 3, pos := "laws.go:1090", after := #[{ on := 34, ground := Go.Ground.guard }], guard := some (34, true) }) (v := undef) rfl (by kernel_rfl) (by kernel_rfl) (by kernel_rfl) (fun _ _ _ h => h) (Or.inr ⟨by rfl, rfl⟩) (by assumption) ?_
            try simp only [Act.put, List.setIfInBounds_toArray, List.set_cons_zero, List.set_cons_succ]
            refine wpAnyH_take (i := 37) (oi := { dst := some 78, op := Go.Op.indexAddr 22 (Go.Operand.tmp 76) (Go.Operand.tmp 77), type := 0, pos := "laws.go:1090", after := #[{ on := 35, ground := Go.Ground.data }, { on := 36, ground := Go.Ground.data }, { on := 34, ground := Go.Ground.guard }], guard := some (34, true) }) (v := undef) rfl (by kernel_rfl) (by kernel_rfl) (by kernel_rfl) (fun _ _ _ h => h) (Or.inr ⟨by rfl, rfl⟩) (by assumption) ?_
            try simp only [Act.put, List.setIfInBounds_toArray, List.set_cons_zero, List.set_cons_succ]
            refine wpAnyH_take (i := 38) (oi := { dst := some 79, op := Go.Op.load 23 (Go.Operand.tmp 78), type := 23, pos := "laws.go:1090", after := #[{ on := 37, ground := Go.Ground.data }, { on := 34, ground := Go.Ground.guard }], guard := some (34, true) }) (v := undef) rfl (by kernel_rfl) (by kernel_rfl) (by kernel_rfl) (fun _ _ _ h => h) (Or.inr ⟨by rfl, rfl⟩) (by assumption) ?_
            try simp only [Act.put, List.setIfInBounds_toArray, List.set_cons_zero, List.set_cons_succ]
            refine wpAnyH_take (i := 39) (oi := { dst := some 80, op := Go.Op.move (Go.Operand.tmp 3), type := 22, pos := "laws.go:1090", after := #[{ on := 34, ground := Go.Ground.guard }], guard := some (34, true) }) (v := undef) rfl (by kernel_rfl) (by kernel_rfl) (by kernel_rfl) (fun _ _ _ h => h) (Or.inr ⟨by rfl, rfl⟩) (by assumption) ?_
            try simp only [Act.put, List.setIfInBounds_toArray, List.set_cons_zero, List.set_cons_succ]
            refine wpAnyH_take (i := 40) (oi := { dst := some 81, op := Go.Op.move (Go.Operand.tmp 8), type := 3, pos := "laws.go:1090", after := #[{ on := 34, ground := Go.Ground.guard }], guard := some (34, true) }) (v := undef) rfl (by kernel_rfl) (by kernel_rfl) (by kernel_rfl) (fun _ _ _ h => h) (Or.inr ⟨by rfl, rfl⟩) (by assumption) ?_
            try simp only [Act.put, List.setIfInBounds_toArray, List.set_cons_zero, List.set_cons_succ]
            refine wpAnyH_take (i := 41) (oi := { dst := some 82, op := Go.Op.indexAddr 22 (Go.Operand.tmp 80) (Go.Operand.tmp 81), type := 0, pos := "laws.go:1090", after := #[{ on := 39, ground := Go.Ground.data }, { on := 40, ground := Go.Ground.data }, { on := 34, ground := Go.Ground.guard }], guard := some (34, true) }) (v := undef) rfl (by kernel_rfl) (by kernel_rfl) (by kernel_rfl) (fun _ _ _ h => h) (Or.inr ⟨by rfl, rfl⟩) (by assumption) ?_
            try simp only [Act.put, List.setIfInBounds_toArray, List.set_cons_zero, List.set_cons_succ]
            refine wpAnyH_take (i := 42) (oi := { dst := some 83, op := Go.Op.load 23 (Go.Operand.tmp 82), type := 23, pos := "laws.go:1090", after := #[{ on := 41, ground := Go.Ground.data }, { on := 34, ground := Go.Ground.guard }], guard := some (34, true) }) (v := undef) rfl (by kernel_rfl) (by kernel_rfl) (by kernel_rfl) (fun _ _ _ h => h) (Or.inr ⟨by rfl, rfl⟩) (by assumption) ?_
            try simp only [Act.put, List.setIfInBounds_toArray, List.set_cons_zero, List.set_cons_succ]
            refine wpAnyH_take (i := 43) (oi := { dst := some 84, op := Go.Op.binOp Go.BinOp.sub 23 (Go.Operand.tmp 79) (Go.Operand.tmp 83) 23, type := 23, pos := "laws.go:1090", after := #[{ on := 38, ground := Go.Ground.data }, { on := 42, ground := Go.Ground.data }, { on := 34, ground := Go.Ground.guard }], guard := some (34, true) }) (v := undef) rfl (by kernel_rfl) (by kernel_rfl) (by kernel_rfl) (fun _ _ _ h => h) (Or.inr ⟨by rfl, rfl⟩) (by assumption) ?_
            try simp only [Act.put, List.setIfInBounds_toArray, List.set_cons_zero, List.set_cons_succ]
            refine wpAnyH_take (i := 44) (oi := { dst := some 85, op := Go.Op.binOp Go.BinOp.eql 23 (Go.Operand.tmp 84) (Go.Operand.const (Go.Value.float Go.FloatKind.f64 0)) 23, type := 4, pos := "laws.go:1090", after := #[{ on := 43, ground := Go.Ground.data }, { on := 34, ground := Go.Ground.guard }], guard := some (34, true) }) (v := undef) rfl (by kernel_rfl) (by kernel_rfl) (by kernel_rfl) (fun _ _ _ h => h) (Or.inr ⟨by rfl, rfl⟩) (by assumption) ?_
            try simp only [Act.put, List.setIfInBounds_toArray, List.set_cons_zero, List.set_cons_succ]
            refine wpAnyH_take (i := 45) (oi := { dst := some 86, op := Go.Op.pick (Go.Operand.tmp 75) (Go.Operand.tmp 85) (Go.Operand.const (Go.Value.bool false)), type := 4, pos := "laws.go:1090", after := #[{ on := 34, ground := Go.Ground.data }, { on := 44, ground := Go.Ground.data }, { on := 27, ground := Go.Ground.guard }], guard := some (27, false) }) (v := .bool false) rfl (by kernel_rfl) (by kernel_rfl) (by kernel_rfl) (fun _ _ _ h => h) (Or.inl ⟨by rfl, ?hy45_⟩) (by assumption) ?rest45_
            case hy45_ => (intro w hSw; (try dsimp only at hSw); first | (go_simp; done) | (go_simp; with_reducible rfl))
            try simp only [Act.put, List.setIfInBounds_toArray, List.set_cons_zero, List.set_cons_succ]
            refine wpAnyH_take (i := 46) (oi := { dst := some 87, op := Go.Op.pick (Go.Operand.tmp 68) (Go.Operand.const (Go.Value.bool true)) (Go.Operand.tmp 86), type := 4, pos := "laws.go:1090", after := #[{ on := 27, ground := Go.Ground.data }, { on := 45, ground := Go.Ground.data }], guard := none }) (v := .bool false) rfl (by kernel_rfl) (by kernel_rfl) (by kernel_rfl) (fun _ _ _ h => h) (Or.inl ⟨by rfl, ?hy46_⟩) (by assumption) ?rest46_
            case hy46_ => (intro w hSw; (try dsimp only at hSw); first | (go_simp; done) | (go_simp; with_reducible rfl))
            try simp only [Act.put, List.setIfInBounds_toArray, List.set_cons_zero, List.set_cons_succ]
            refine wpAnyH_done (by kernel_rfl) ?_ _
            all_goals go_wp2
            all_goals (go_roundg (xs_.length - (i + 1)); (case measure => (have := HK.out; omega)); (case rel => exact ⟨i + 1, ⟨by omega, by omega⟩, by go_num, ⟨(by repeat (first | (with_reducible first | exact HB.out | apply below_alloc | apply pw_below_drewN | apply below_drew1) | exact HB.out))⟩, ⟨(Kd.C_below HX.out (by repeat (first | exact Below.refl _ _ | apply below_alloc | apply pw_below_drewN | apply below_drew1)))⟩, ⟨(Kd.C_below HAM.out (by repeat (first | exact Below.refl _ _ | apply below_alloc | apply pw_below_drewN | apply below_drew1)))⟩, ⟨(Kd.C_below HAE.out (by repeat (first | exact Below.refl _ _ | apply below_alloc | apply pw_below_drewN | apply below_drew1)))⟩⟩))
          · have z1 : (FloatKind.f64.format.order b3 0 != some Ordering.eq) = true := bne_iff_ne.2 hz
            have z2 : ∀ w, (FloatKind.f64.format.order (Fl.bits .sub w b5 b5) 0 == some Ordering.eq) = false := fun w => by rw [ord_none (by rw [cv_bits]; exact hz2)]; rfl
            clear hz hz2 hb5
            go_wp2
            refine wp_region_held_drew (S := (fun w' => w'.cell? (ad1.add (2 * (i : Int)).toNat) = some (.float .f64 b1) ∧ w'.cell? (ad1.add (2 * (i : Int) + 1).toNat) = some (.float .f64 b2) ∧ w'.cell? (ad3.add (2 * (i : Int)).toNat) = some (.float .f64 b3) ∧ w'.cell? (ad3.add (2 * (i : Int) + 1).toNat) = some (.float .f64 b4) ∧ w'.cell? (ad5.add i) = some (.float .f64 b5))) (by kernel_rfl) ?hS_u1 (fun hS0 => ?hr_u1)
            case hS_u1 => go_keep
            refine wpAnyH_take (i := 0) (oi := { dst := some 41, op := Go.Op.move (Go.Operand.tmp 6), type := 22, pos := "laws.go:1090", after := #[], guard := none }) (v := ?vv_u1_0) rfl (by kernel_rfl) (by kernel_rfl) (by kernel_rfl) (fun _ _ _ h => h) (Or.inl ⟨by rfl, ?hy_u1_0⟩) (by assumption) ?rest_u1_0
            case hy_u1_0 => (intro w hSw; (try dsimp only at hSw); first | (go_simp; done) | (go_simp; with_reducible rfl))
            try simp only [Act.put, List.setIfInBounds_toArray, List.set_cons_zero, List.set_cons_succ]
            refine wpAnyH_take (i := 1) (oi := { dst := some 42, op := Go.Op.move (Go.Operand.tmp 8), type := 3, pos := "laws.go:1090", after := #[], guard := none }) (v := ?vv_u1_1) rfl (by kernel_rfl) (by kernel_rfl) (by kernel_rfl) (fun _ _ _ h => h) (Or.inl ⟨by rfl, ?hy_u1_1⟩) (by assumption) ?rest_u1_1
            case hy_u1_1 => (intro w hSw; (try dsimp only at hSw); first | (go_simp; done) | (go_simp; with_reducible rfl))
            try simp only [Act.put, List.setIfInBounds_toArray, List.set_cons_zero, List.set_cons_succ]
            refine wpAnyH_take (i := 2) (oi := { dst := some 43, op := Go.Op.binOp Go.BinOp.mul 3 (Go.Operand.const (Go.Value.int Go.IntKind.i64 2)) (Go.Operand.tmp 42) 3, type := 3, pos := "laws.go:1090", after := #[{ on := 1, ground := Go.Ground.data }], guard := none }) (v := ?vv_u1_2) rfl (by kernel_rfl) (by kernel_rfl) (by kernel_rfl) (fun _ _ _ h => h) (Or.inl ⟨by rfl, ?hy_u1_2⟩) (by assumption) ?rest_u1_2
            case hy_u1_2 => (intro w hSw; (try dsimp only at hSw); first | (go_simp; done) | (go_simp; with_reducible rfl))
            try simp only [Act.put, List.setIfInBounds_toArray, List.set_cons_zero, List.set_cons_succ]
            refine wpAnyH_take (i := 3) (oi := { dst := some 44, op := Go.Op.indexAddr 22 (Go.Operand.tmp 41) (Go.Operand.tmp 43), type := 0, pos := "laws.go:1090", after := #[{ on := 0, ground := Go.Ground.data }, { on := 2, ground := Go.Ground.data }], guard := none }) (v := ?vv_u1_3) rfl (by kernel_rfl) (by kernel_rfl) (by kernel_rfl) (fun _ _ _ h => h) (Or.inl ⟨by rfl, ?hy_u1_3⟩) (by assumption) ?rest_u1_3
            case hy_u1_3 => (intro w hSw; (try dsimp only at hSw); first | (go_simp; done) | (go_simp; with_reducible rfl))
            try simp only [Act.put, List.setIfInBounds_toArray, List.set_cons_zero, List.set_cons_succ]
            refine wpAnyH_take (i := 4) (oi := { dst := some 45, op := Go.Op.load 23 (Go.Operand.tmp 44), type := 23, pos := "laws.go:1090", after := #[{ on := 3, ground := Go.Ground.data }], guard := none }) (v := ?vv_u1_4) rfl (by kernel_rfl) (by kernel_rfl) (by kernel_rfl) (fun _ _ _ h => h) (Or.inl ⟨by rfl, ?hy_u1_4⟩) (by assumption) ?rest_u1_4
            case hy_u1_4 => (intro w hSw; (try dsimp only at hSw); first | (go_simp; done) | (go_simp; with_reducible rfl))
            try simp only [Act.put, List.setIfInBounds_toArray, List.set_cons_zero, List.set_cons_succ]
            refine wpAnyH_take (i := 5) (oi := { dst := some 46, op := Go.Op.move (Go.Operand.tmp 6), type := 22, pos := "laws.go:1090", after := #[], guard := none }) (v := ?vv_u1_5) rfl (by kernel_rfl) (by kernel_rfl) (by kernel_rfl) (fun _ _ _ h => h) (Or.inl ⟨by rfl, ?hy_u1_5⟩) (by assumption) ?rest_u1_5
            case hy_u1_5 => (intro w hSw; (try dsimp only at hSw); first | (go_simp; done) | (go_simp; with_reducible rfl))
            try simp only [Act.put, List.setIfInBounds_toArray, List.set_cons_zero, List.set_cons_succ]
            refine wpAnyH_take (i := 6) (oi := { dst := some 47, op := Go.Op.move (Go.Operand.tmp 8), type := 3, pos := "laws.go:1090", after := #[], guard := none }) (v := ?vv_u1_6) rfl (by kernel_rfl) (by kernel_rfl) (by kernel_rfl) (fun _ _ _ h => h) (Or.inl ⟨by rfl, ?hy_u1_6⟩) (by assumption) ?rest_u1_6
            case hy_u1_6 => (intro w hSw; (try dsimp only at hSw); first | (go_simp; done) | (go_simp; with_reducible rfl))
            try simp only [Act.put, List.setIfInBounds_toArray, List.set_cons_zero, List.set_cons_succ]
            refine wpAnyH_take (i := 7) (oi := { dst := some 48, op := Go.Op.binOp Go.BinOp.mul 3 (Go.Operand.const (Go.Value.int Go.IntKind.i64 2)) (Go.Operand.tmp 47) 3, type := 3, pos := "laws.go:1090", after := #[{ on := 6, ground := Go.Ground.data }], guard := none }) (v := ?vv_u1_7) rfl (by kernel_rfl) (by kernel_rfl) (by kernel_rfl) (fun _ _ _ h => h) (Or.inl ⟨by rfl, ?hy_u1_7⟩) (by assumption) ?rest_u1_7
            case hy_u1_7 => (intro w hSw; (try dsimp only at hSw); first | (go_simp; done) | (go_simp; with_reducible rfl))
            try simp only [Act.put, List.setIfInBounds_toArray, List.set_cons_zero, List.set_cons_succ]
            refine wpAnyH_take (i := 8) (oi := { dst := some 49, op := Go.Op.binOp Go.BinOp.add 3 (Go.Operand.tmp 48) (Go.Operand.const (Go.Value.int Go.IntKind.i64 1)) 3, type := 3, pos := "laws.go:1090", after := #[{ on := 7, ground := Go.Ground.data }], guard := none }) (v := ?vv_u1_8) rfl (by kernel_rfl) (by kernel_rfl) (by kernel_rfl) (fun _ _ _ h => h) (Or.inl ⟨by rfl, ?hy_u1_8⟩) (by assumption) ?rest_u1_8
            case hy_u1_8 => (intro w hSw; (try dsimp only at hSw); first | (go_simp; done) | (go_simp; with_reducible rfl))
            try simp only [Act.put, List.setIfInBounds_toArray, List.set_cons_zero, List.set_cons_succ]
            refine wpAnyH_take (i := 9) (oi := { dst := some 50, op := Go.Op.indexAddr 22 (Go.Operand.tmp 46) (Go.Operand.tmp 49), type := 0, pos := "laws.go:1090", after := #[{ on := 5, ground := Go.Ground.data }, { on := 8, ground := Go.Ground.data }], guard := none }) (v := ?vv_u1_9) rfl (by kernel_rfl) (by kernel_rfl) (by kernel_rfl) (fun _ _ _ h => h) (Or.inl ⟨by rfl, ?hy_u1_9⟩) (by assumption) ?rest_u1_9
            case hy_u1_9 => (intro w hSw; (try dsimp only at hSw); first | (go_simp; done) | (go_simp; with_reducible rfl))
            try simp only [Act.put, List.setIfInBounds_toArray, List.set_cons_zero, List.set_cons_succ]
            refine wpAnyH_take (i := 10) (oi := { dst := some 51, op := Go.Op.load 23 (Go.Operand.tmp 50), type := 23, pos := "laws.go:1090", after := #[{ on := 9, ground := Go.Ground.data }], guard := none }) (v := ?vv_u1_10) rfl (by kernel_rfl) (by kernel_rfl) (by kernel_rfl) (fun _ _ _ h => h) (Or.inl ⟨by rfl, ?hy_u1_10⟩) (by assumption) ?rest_u1_10
            case hy_u1_10 => (intro w hSw; (try dsimp only at hSw); first | (go_simp; done) | (go_simp; with_reducible rfl))
            try simp only [Act.put, List.setIfInBounds_toArray, List.set_cons_zero, List.set_cons_succ]
            refine wpAnyH_ready (rs := [11]) (by kernel_rfl) (by simp) ?_
            refine AllReadyH.cons (o := { dst := some 52, op := Go.Op.call { callee := Go.Callee.value (Go.Operand.func 32), args := #[Go.Operand.tmp 45, Go.Operand.tmp 51], argTypes := #[23, 23] }, type := 4, pos := "laws.go:1090", after := #[{ on := 4, ground := Go.Ground.data }, { on := 10, ground := Go.Ground.data }], guard := none }) rfl (fun K hK => ?_) AllReadyH.nil
            go_simp
            (go_at_call 32; (with_reducible refine (laws_likeFloat.calls b1 b2 _ HL1.out).mono ?_); rintro e wk_ ⟨rfl, ⟨nd_, rfl⟩⟩)
            refine hK.out _ _ ?hs_u1_11 (fun hHeld => ?hr_u1_11)
            case hs_u1_11 => go_keep
            clear hK K
            try simp only [Act.put, List.setIfInBounds_toArray, List.set_cons_zero, List.set_cons_succ]
            refine wpAnyH_take (i := 12) (oi := { dst := some 53, op := Go.Op.unOp Go.UnOp.not 4 (Go.Operand.tmp 52), type := 4, pos := "laws.go:1090", after := #[{ on := 11, ground := Go.Ground.data }], guard := none }) (v := ?vv_u1_12) rfl (by kernel_rfl) (by kernel_rfl) (by kernel_rfl) (fun _ _ _ h => h) (Or.inl ⟨by rfl, ?hy_u1_12⟩) (by assumption) ?rest_u1_12
            case hy_u1_12 => (intro w hSw; (try dsimp only at hSw); first | (go_simp; done) | (go_simp; with_reducible rfl))
            try simp only [Act.put, List.setIfInBounds_toArray, List.set_cons_zero, List.set_cons_succ]
            refine wpAnyH_take (i := 13) (oi := { dst := some 54, op := Go.Op.move (Go.Operand.tmp 53), type := 4, pos := "laws.go:1090", after := #[{ on := 12, ground := Go.Ground.data }, { on := 11, ground := Go.Ground.chain }], guard := none }) (v := ?vv_u1_13) rfl (by kernel_rfl) (by kernel_rfl) (by kernel_rfl) (fun _ _ _ h => h) (Or.inl ⟨by rfl, ?hy_u1_13⟩) (by assumption) ?rest_u1_13
            case hy_u1_13 => (intro w hSw; (try dsimp only at hSw); first | (go_simp; done) | (go_simp; with_reducible rfl))
            try simp only [Act.put, List.setIfInBounds_toArray, List.set_cons_zero, List.set_cons_succ]
            refine wpAnyH_take (i := 14) (oi := { dst := some 55, op := Go.Op.move (Go.Operand.tmp 7), type := 22, pos := "laws.go:1090", after := #[{ on := 13, ground := Go.Ground.guard }], guard := some (13, false) }) (v := ?vv_u1_14) rfl (by kernel_rfl) (by kernel_rfl) (by kernel_rfl) (fun _ _ _ h => h) (Or.inl ⟨by rfl, ?hy_u1_14⟩) (by assumption) ?rest_u1_14
            case hy_u1_14 => (intro w hSw; (try dsimp only at hSw); first | (go_simp; done) | (go_simp; with_reducible rfl))
            try simp only [Act.put, List.setIfInBounds_toArray, List.set_cons_zero, List.set_cons_succ]
            refine wpAnyH_take (i := 15) (oi := { dst := some 56, op := Go.Op.move (Go.Operand.tmp 8), type := 3, pos := "laws.go:1090", after := #[{ on := 13, ground := Go.Ground.guard }], guard := some (13, false) }) (v := ?vv_u1_15) rfl (by kernel_rfl) (by kernel_rfl) (by kernel_rfl) (fun _ _ _ h => h) (Or.inl ⟨by rfl, ?hy_u1_15⟩) (by assumption) ?rest_u1_15
            case hy_u1_15 => (intro w hSw; (try dsimp only at hSw); first | (go_simp; done) | (go_simp; with_reducible rfl))
            try simp only [Act.put, List.setIfInBounds_toArray, List.set_cons_zero, List.set_cons_succ]
            refine wpAnyH_take (i := 16) (oi := { dst := some 57, op := Go.Op.binOp Go.BinOp.mul 3 (Go.Operand.const (Go.Value.int Go.IntKind.i64 2)) (Go.Operand.tmp 56) 3, type := 3, pos := "laws.go:1090", after := #[{ on := 15, ground := Go.Ground.data }, { on := 13, ground := Go.Ground.guard }], guard := some (13, false) }) (v := ?vv_u1_16) rfl (by kernel_rfl) (by kernel_rfl) (by kernel_rfl) (fun _ _ _ h => h) (Or.inl ⟨by rfl, ?hy_u1_16⟩) (by assumption) ?rest_u1_16
            case hy_u1_16 => (intro w hSw; (try dsimp only at hSw); first | (go_simp; done) | (go_simp; with_reducible rfl))
            try simp only [Act.put, List.setIfInBounds_toArray, List.set_cons_zero, List.set_cons_succ]
            refine wpAnyH_take (i := 17) (oi := { dst := some 58, op := Go.Op.binOp Go.BinOp.add 3 (Go.Operand.tmp 57) (Go.Operand.const (Go.Value.int Go.IntKind.i64 1)) 3, type := 3, pos := "laws.go:1090", after := #[{ on := 16, ground := Go.Ground.data }, { on := 13, ground := Go.Ground.guard }], guard := some (13, false) }) (v := ?vv_u1_17) rfl (by kernel_rfl) (by kernel_rfl) (by kernel_rfl) (fun _ _ _ h => h) (Or.inl ⟨by rfl, ?hy_u1_17⟩) (by assumption) ?rest_u1_17
            case hy_u1_17 => (intro w hSw; (try dsimp only at hSw); first | (go_simp; done) | (go_simp; with_reducible rfl))
            try simp only [Act.put, List.setIfInBounds_toArray, List.set_cons_zero, List.set_cons_succ]
            refine wpAnyH_take (i := 18) (oi := { dst := some 59, op := Go.Op.indexAddr 22 (Go.Operand.tmp 55) (Go.Operand.tmp 58), type := 0, pos := "laws.go:1090", after := #[{ on := 14, ground := Go.Ground.data }, { on := 17, ground := Go.Ground.data }, { on := 13, ground := Go.Ground.guard }], guard := some (13, false) }) (v := ?vv_u1_18) rfl (by kernel_rfl) (by kernel_rfl) (by kernel_rfl) (fun _ _ _ h => h) (Or.inl ⟨by rfl, ?hy_u1_18⟩) (by assumption) ?rest_u1_18
            case hy_u1_18 => (intro w hSw; (try dsimp only at hSw); first | (go_simp; done) | (go_simp; with_reducible rfl))
            try simp only [Act.put, List.setIfInBounds_toArray, List.set_cons_zero, List.set_cons_succ]
            refine wpAnyH_take (i := 19) (oi := { dst := some 60, op := Go.Op.load 23 (Go.Operand.tmp 59), type := 23, pos := "laws.go:1090", after := #[{ on := 18, ground := Go.Ground.data }, { on := 13, ground := Go.Ground.guard }], guard := some (13, false) }) (v := ?vv_u1_19) rfl (by kernel_rfl) (by kernel_rfl) (by kernel_rfl) (fun _ _ _ h => h) (Or.inl ⟨by rfl, ?hy_u1_19⟩) (by assumption) ?rest_u1_19
            case hy_u1_19 => (intro w hSw; (try dsimp only at hSw); first | (go_simp; done) | (go_simp; with_reducible rfl))
            try simp only [Act.put, List.setIfInBounds_toArray, List.set_cons_zero, List.set_cons_succ]
            refine wpAnyH_take (i := 20) (oi := { dst := some 61, op := Go.Op.move (Go.Operand.tmp 3), type := 22, pos := "laws.go:1090", after := #[{ on := 13, ground := Go.Ground.guard }], guard := some (13, false) }) (v := ?vv_u1_20) rfl (by kernel_rfl) (by kernel_rfl) (by kernel_rfl) (fun _ _ _ h => h) (Or.inl ⟨by rfl, ?hy_u1_20⟩) (by assumption) ?rest_u1_20
            case hy_u1_20 => (intro w hSw; (try dsimp only at hSw); first | (go_simp; done) | (go_simp; with_reducible rfl))
            try simp only [Act.put, List.setIfInBounds_toArray, List.set_cons_zero, List.set_cons_succ]
            refine wpAnyH_take (i := 21) (oi := { dst := some 62, op := Go.Op.move (Go.Operand.tmp 8), type := 3, pos := "laws.go:1090", after := #[{ on := 13, ground := Go.Ground.guard }], guard := some (13, false) }) (v := ?vv_u1_21) rfl (by kernel_rfl) (by kernel_rfl) (by kernel_rfl) (fun _ _ _ h => h) (Or.inl ⟨by rfl, ?hy_u1_21⟩) (by assumption) ?rest_u1_21
            case hy_u1_21 => (intro w hSw; (try dsimp only at hSw); first | (go_simp; done) | (go_simp; with_reducible rfl))
            try simp only [Act.put, List.setIfInBounds_toArray, List.set_cons_zero, List.set_cons_succ]
            refine wpAnyH_take (i := 22) (oi := { dst := some 63, op := Go.Op.indexAddr 22 (Go.Operand.tmp 61) (Go.Operand.tmp 62), type := 0, pos := "laws.go:1090", after := #[{ on := 20, ground := Go.Ground.data }, { on := 21, ground := Go.Ground.data }, { on := 13, ground := Go.Ground.guard }], guard := some (13, false) }) (v := ?vv_u1_22) rfl (by kernel_rfl) (by kernel_rfl) (by kernel_rfl) (fun _ _ _ h => h) (Or.inl ⟨by rfl, ?hy_u1_22⟩) (by assumption) ?rest_u1_22
            case hy_u1_22 => (intro w hSw; (try dsimp only at hSw); first | (go_simp; done) | (go_simp; with_reducible rfl))
            try simp only [Act.put, List.setIfInBounds_toArray, List.set_cons_zero, List.set_cons_succ]
            refine wpAnyH_take (i := 23) (oi := { dst := some 64, op := Go.Op.load 23 (Go.Operand.tmp 63), type := 23, pos := "laws.go:1090", after := #[{ on := 22, ground := Go.Ground.data }, { on := 13, ground := Go.Ground.guard }], guard := some (13, false) }) (v := ?vv_u1_23) rfl (by kernel_rfl) (by kernel_rfl) (by kernel_rfl) (fun _ _ _ h => h) (Or.inl ⟨by rfl, ?hy_u1_23⟩) (by assumption) ?rest_u1_23
            case hy_u1_23 => (intro w hSw; (try dsimp only at hSw); first | (go_simp; done) | (go_simp; with_reducible rfl))
            try simp only [Act.put, List.setIfInBounds_toArray, List.set_cons_zero, List.set_cons_succ]
            refine wpAnyH_ready (rs := [24]) (by kernel_rfl) (by simp) ?_
            refine AllReadyH.cons (o := { dst := some 65, op := Go.Op.call { callee := Go.Callee.value (Go.Operand.func 32), args := #[Go.Operand.tmp 60, Go.Operand.tmp 64], argTypes := #[23, 23] }, type := 4, pos := "laws.go:1090", after := #[{ on := 19, ground := Go.Ground.data }, { on := 23, ground := Go.Ground.data }, { on := 13, ground := Go.Ground.chain }, { on := 13, ground := Go.Ground.guard }], guard := some (13, false) }) rfl (fun K hK => ?_) AllReadyH.nil
            go_simp
            (go_at_call 32; (with_reducible refine (laws_likeFloat.calls b4 b5 _ HL2.out).mono ?_); rintro e wk_ ⟨rfl, ⟨nd_, rfl⟩⟩)
            refine hK.out _ _ ?hs_u1_24 (fun hHeld => ?hr_u1_24)
            case hs_u1_24 => go_keep
            clear hK K
            try simp only [Act.put, List.setIfInBounds_toArray, List.set_cons_zero, List.set_cons_succ]
            refine wpAnyH_take (i := 25) (oi := { dst := some 66, op := Go.Op.unOp Go.UnOp.not 4 (Go.Operand.tmp 65), type := 4, pos := "laws.go:1090", after := #[{ on := 24, ground := Go.Ground.data }, { on := 13, ground := Go.Ground.guard }], guard := some (13, false) }) (v := ?vv_u1_25) rfl (by kernel_rfl) (by kernel_rfl) (by kernel_rfl) (fun _ _ _ h => h) (Or.inl ⟨by rfl, ?hy_u1_25⟩) (by assumption) ?rest_u1_25
            case hy_u1_25 => (intro w hSw; (try dsimp only at hSw); first | (go_simp; done) | (go_simp; with_reducible rfl))
            try simp only [Act.put, List.setIfInBounds_toArray, List.set_cons_zero, List.set_cons_succ]
            refine wpAnyH_take (i := 26) (oi := { dst := some 67, op := Go.Op.pick (Go.Operand.tmp 54) (Go.Operand.const (Go.Value.bool true)) (Go.Operand.tmp 66), type := 4, pos := "laws.go:1090", after := #[{ on := 13, ground := Go.Ground.data }, { on := 25, ground := Go.Ground.data }], guard := none }) (v := ?vv_u1_26) rfl (by kernel_rfl) (by kernel_rfl) (by kernel_rfl) (fun _ _ _ h => h) (Or.inl ⟨by rfl, ?hy_u1_26⟩) (by assumption) ?rest_u1_26
            case hy_u1_26 => (intro w hSw; (try dsimp only at hSw); first | (go_simp; done) | (go_simp; with_reducible rfl))
            try simp only [Act.put, List.setIfInBounds_toArray, List.set_cons_zero, List.set_cons_succ]
            refine wpAnyH_take (i := 27) (oi := { dst := some 68, op := Go.Op.move (Go.Operand.tmp 67), type := 4, pos := "laws.go:1090", after := #[{ on := 26, ground := Go.Ground.data }, { on := 24, ground := Go.Ground.chain }], guard := none }) (v := ?vv_u1_27) rfl (by kernel_rfl) (by kernel_rfl) (by kernel_rfl) (fun _ _ _ h => h) (Or.inl ⟨by rfl, ?hy_u1_27⟩) (by assumption) ?rest_u1_27
            case hy_u1_27 => (intro w hSw; (try dsimp only at hSw); first | (go_simp; done) | (go_simp; with_reducible rfl))
            try simp only [Act.put, List.setIfInBounds_toArray, List.set_cons_zero, List.set_cons_succ]
            refine wpAnyH_take (i := 28) (oi := { dst := some 69, op := Go.Op.move (Go.Operand.tmp 7), type := 22, pos := "laws.go:1090", after := #[{ on := 27, ground := Go.Ground.guard }], guard := some (27, false) }) (v := ?vv_u1_28) rfl (by kernel_rfl) (by kernel_rfl) (by kernel_rfl) (fun _ _ _ h => h) (Or.inl ⟨by rfl, ?hy_u1_28⟩) (by assumption) ?rest_u1_28
            case hy_u1_28 => (intro w hSw; (try dsimp only at hSw); first | (go_simp; done) | (go_simp; with_reducible rfl))
            try simp only [Act.put, List.setIfInBounds_toArray, List.set_cons_zero, List.set_cons_succ]
            refine wpAnyH_take (i := 29) (oi := { dst := some 70, op := Go.Op.move (Go.Operand.tmp 8), type := 3, pos := "laws.go:1090", after := #[{ on := 27, ground := Go.Ground.guard }], guard := some (27, false) }) (v := ?vv_u1_29) rfl (by kernel_rfl) (by kernel_rfl) (by kernel_rfl) (fun _ _ _ h => h) (Or.inl ⟨by rfl, ?hy_u1_29⟩) (by assumption) ?rest_u1_29
            case hy_u1_29 => (intro w hSw; (try dsimp only at hSw); first | (go_simp; done) | (go_simp; with_reducible rfl))
            try simp only [Act.put, List.setIfInBounds_toArray, List.set_cons_zero, List.set_cons_succ]
            refine wpAnyH_take (i := 30) (oi := { dst := some 71, op := Go.Op.binOp Go.BinOp.mul 3 (Go.Operand.const (Go.Value.int Go.IntKind.i64 2)) (Go.Operand.tmp 70) 3, type := 3, pos := "laws.go:1090", after := #[{ on := 29, ground := Go.Ground.data }, { on := 27, ground := Go.Ground.guard }], guard := some (27, false) }) (v := ?vv_u1_30) rfl (by kernel_rfl) (by kernel_rfl) (by kernel_rfl) (fun _ _ _ h => h) (Or.inl ⟨by rfl, ?hy_u1_30⟩) (by assumption) ?rest_u1_30
            case hy_u1_30 => (intro w hSw; (try dsimp only at hSw); first | (go_simp; done) | (go_simp; with_reducible rfl))
            try simp only [Act.put, List.setIfInBounds_toArray, List.set_cons_zero, List.set_cons_succ]
            refine wpAnyH_take (i := 31) (oi := { dst := some 72, op := Go.Op.indexAddr 22 (Go.Operand.tmp 69) (Go.Operand.tmp 71), type := 0, pos := "laws.go:1090", after := #[{ on := 28, ground := Go.Ground.data }, { on := 30, ground := Go.Ground.data }, { on := 27, ground := Go.Ground.guard }], guard := some (27, false) }) (v := ?vv_u1_31) rfl (by kernel_rfl) (by kernel_rfl) (by kernel_rfl) (fun _ _ _ h => h) (Or.inl ⟨by rfl, ?hy_u1_31⟩) (by assumption) ?rest_u1_31
            case hy_u1_31 => (intro w hSw; (try dsimp only at hSw); first | (go_simp; done) | (go_simp; with_reducible rfl))
            try simp only [Act.put, List.setIfInBounds_toArray, List.set_cons_zero, List.set_cons_succ]
            refine wpAnyH_take (i := 32) (oi := { dst := some 73, op := Go.Op.load 23 (Go.Operand.tmp 72), type := 23, pos := "laws.go:1090", after := #[{ on := 31, ground := Go.Ground.data }, { on := 27, ground := Go.Ground.guard }], guard := some (27, false) }) (v := ?vv_u1_32) rfl (by kernel_rfl) (by kernel_rfl) (by kernel_rfl) (fun _ _ _ h => h) (Or.inl ⟨by rfl, ?hy_u1_32⟩) (by assumption) ?rest_u1_32
            case hy_u1_32 => (intro w hSw; (try dsimp only at hSw); first | (go_simp; done) | (go_simp; with_reducible rfl))
            try simp only [Act.put, List.setIfInBounds_toArray, List.set_cons_zero, List.set_cons_succ]
            refine wpAnyH_take (i := 33) (oi := { dst := some 74, op := Go.Op.binOp Go.BinOp.neq 23 (Go.Operand.tmp 73) (Go.Operand.const (Go.Value.float Go.FloatKind.f64 0)) 23, type := 4, pos := "laws.go:1090", after := #[{ on := 32, ground := Go.Ground.data }, { on := 27, ground := Go.Ground.guard }], guard := some (27, false) }) (v := .bool true) rfl (by kernel_rfl) (by kernel_rfl) (by kernel_rfl) (fun _ _ _ h => h) (Or.inl ⟨by rfl, ?hy_u1_33⟩) (by assumption) ?rest_u1_33
            case hy_u1_33 => (intro w hSw; (try dsimp only at hSw); first | (go_simp; done) | (go_simp; with_reducible rfl))
            try simp only [Act.put, List.setIfInBounds_toArray, List.set_cons_zero, List.set_cons_succ]
            refine wpAnyH_take (i := 34) (oi := { dst := some 75, op := Go.Op.move (Go.Operand.tmp 74), type := 4, pos := "laws.go:1090", after := #[{ on := 33, ground := Go.Ground.data }, { on := 27, ground := Go.Ground.chain }, { on := 27, ground := Go.Ground.guard }], guard := some (27, false) }) (v := .bool true) rfl (by kernel_rfl) (by kernel_rfl) (by kernel_rfl) (fun _ _ _ h => h) (Or.inl ⟨by rfl, ?hy_u1_34⟩) (by assumption) ?rest_u1_34
            case hy_u1_34 => (intro w hSw; (try dsimp only at hSw); first | (go_simp; done) | (go_simp; with_reducible rfl))
            try simp only [Act.put, List.setIfInBounds_toArray, List.set_cons_zero, List.set_cons_succ]
            refine wpAnyH_take (i := 35) (oi := { dst := some 76, op := Go.Op.move (Go.Operand.tmp 3), type := 22, pos := "laws.go:1090", after := #[{ on := 34, ground := Go.Ground.guard }], guard := some (34, true) }) (v := ?vv_u1_35) rfl (by kernel_rfl) (by kernel_rfl) (by kernel_rfl) (fun _ _ _ h => h) (Or.inl ⟨by rfl, ?hy_u1_35⟩) (by assumption) ?rest_u1_35
            case hy_u1_35 => (intro w hSw; (try dsimp only at hSw); first | (go_simp; done) | (go_simp; with_reducible rfl))
            try simp only [Act.put, List.setIfInBounds_toArray, List.set_cons_zero, List.set_cons_succ]
            refine wpAnyH_take (i := 36) (oi := { dst := some 77, op := Go.Op.move (Go.Operand.tmp 8), type := 3, pos := "laws.go:1090", after := #[{ on := 34, ground := Go.Ground.guard }], guard := some (34, true) }) (v := ?vv_u1_36) rfl (by kernel_rfl) (by kernel_rfl) (by kernel_rfl) (fun _ _ _ h => h) (Or.inl ⟨by rfl, ?hy_u1_36⟩) (by assumption) ?rest_u1_36
            case hy_u1_36 => (intro w hSw; (try dsimp only at hSw); first | (go_simp; done) | (go_simp; with_reducible rfl))
            try simp only [Act.put, List.setIfInBounds_toArray, List.set_cons_zero, List.set_cons_succ]
            refine wpAnyH_take (i := 37) (oi := { dst := some 78, op := Go.Op.indexAddr 22 (Go.Operand.tmp 76) (Go.Operand.tmp 77), type := 0, pos := "laws.go:1090", after := #[{ on := 35, ground := Go.Ground.data }, { on := 36, ground := Go.Ground.data }, { on := 34, ground := Go.Ground.guard }], guard := some (34, true) }) (v := ?vv_u1_37) rfl (by kernel_rfl) (by kernel_rfl) (by kernel_rfl) (fun _ _ _ h => h) (Or.inl ⟨by rfl, ?hy_u1_37⟩) (by assumption) ?rest_u1_37
            case hy_u1_37 => (intro w hSw; (try dsimp only at hSw); first | (go_simp; done) | (go_simp; with_reducible rfl))
            try simp only [Act.put, List.setIfInBounds_toArray, List.set_cons_zero, List.set_cons_succ]
            refine wpAnyH_take (i := 38) (oi := { dst := some 79, op := Go.Op.load 23 (Go.Operand.tmp 78), type := 23, pos := "laws.go:1090", after := #[{ on := 37, ground := Go.Ground.data }, { on := 34, ground := Go.Ground.guard }], guard := some (34, true) }) (v := ?vv_u1_38) rfl (by kernel_rfl) (by kernel_rfl) (by kernel_rfl) (fun _ _ _ h => h) (Or.inl ⟨by rfl, ?hy_u1_38⟩) (by assumption) ?rest_u1_38
            case hy_u1_38 => (intro w hSw; (try dsimp only at hSw); first | (go_simp; done) | (go_simp; with_reducible rfl))
            try simp only [Act.put, List.setIfInBounds_toArray, List.set_cons_zero, List.set_cons_succ]
            refine wpAnyH_take (i := 39) (oi := { dst := some 80, op := Go.Op.move (Go.Operand.tmp 3), type := 22, pos := "laws.go:1090", after := #[{ on := 34, ground := Go.Ground.guard }], guard := some (34, true) }) (v := ?vv_u1_39) rfl (by kernel_rfl) (by kernel_rfl) (by kernel_rfl) (fun _ _ _ h => h) (Or.inl ⟨by rfl, ?hy_u1_39⟩) (by assumption) ?rest_u1_39
            case hy_u1_39 => (intro w hSw; (try dsimp only at hSw); first | (go_simp; done) | (go_simp; with_reducible rfl))
            try simp only [Act.put, List.setIfInBounds_toArray, List.set_cons_zero, List.set_cons_succ]
            refine wpAnyH_take (i := 40) (oi := { dst := some 81, op := Go.Op.move (Go.Operand.tmp 8), type := 3, pos := "laws.go:1090", after := #[{ on := 34, ground := Go.Ground.guard }], guard := some (34, true) }) (v := ?vv_u1_40) rfl (by kernel_rfl) (by kernel_rfl) (by kernel_rfl) (fun _ _ _ h => h) (Or.inl ⟨by rfl, ?hy_u1_40⟩) (by assumption) ?rest_u1_40
            case hy_u1_40 => (intro w hSw; (try dsimp only at hSw); first | (go_simp; done) | (go_simp; with_reducible rfl))
            try simp only [Act.put, List.setIfInBounds_toArray, List.set_cons_zero, List.set_cons_succ]
            refine wpAnyH_take (i := 41) (oi := { dst := some 82, op := Go.Op.indexAddr 22 (Go.Operand.tmp 80) (Go.Operand.tmp 81), type := 0, pos := "laws.go:1090", after := #[{ on := 39, ground := Go.Ground.data }, { on := 40, ground := Go.Ground.data }, { on := 34, ground := Go.Ground.guard }], guard := some (34, true) }) (v := ?vv_u1_41) rfl (by kernel_rfl) (by kernel_rfl) (by kernel_rfl) (fun _ _ _ h => h) (Or.inl ⟨by rfl, ?hy_u1_41⟩) (by assumption) ?rest_u1_41
            case hy_u1_41 => (intro w hSw; (try dsimp only at hSw); first | (go_simp; done) | (go_simp; with_reducible rfl))
            try simp only [Act.put, List.setIfInBounds_toArray, List.set_cons_zero, List.set_cons_succ]
            refine wpAnyH_take (i := 42) (oi := { dst := some 83, op := Go.Op.load 23 (Go.Operand.tmp 82), type := 23, pos := "laws.go:1090", after := #[{ on := 41, ground := Go.Ground.data }, { on := 34, ground := Go.Ground.guard }], guard := some (34, true) }) (v := ?vv_u1_42) rfl (by kernel_rfl) (by kernel_rfl) (by kernel_rfl) (fun _ _ _ h => h) (Or.inl ⟨by rfl, ?hy_u1_42⟩) (by assumption) ?rest_u1_42
            case hy_u1_42 => (intro w hSw; (try dsimp only at hSw); first | (go_simp; done) | (go_simp; with_reducible rfl))
            try simp only [Act.put, List.setIfInBounds_toArray, List.set_cons_zero, List.set_cons_succ]
            refine wpAnyH_ready (rs := [43]) (by kernel_rfl) (by simp) ?_
            refine AllReadyH.cons (o := { dst := some 84, op := Go.Op.binOp Go.BinOp.sub 23 (Go.Operand.tmp 79) (Go.Operand.tmp 83) 23, type := 23, pos := "laws.go:1090", after := #[{ on := 38, ground := Go.Ground.data }, { on := 42, ground := Go.Ground.data }, { on := 34, ground := Go.Ground.guard }], guard := some (34, true) }) rfl (fun K hK => ?_) AllReadyH.nil
            go_simp
            skip
            refine hK.out _ _ ?hs_u1_43 (fun hHeld => ?hr_u1_43)
            case hs_u1_43 => go_keep
            clear hK K
            try simp only [Act.put, List.setIfInBounds_toArray, List.set_cons_zero, List.set_cons_succ]
            refine wpAnyH_take (i := 44) (oi := { dst := some 85, op := Go.Op.binOp Go.BinOp.eql 23 (Go.Operand.tmp 84) (Go.Operand.const (Go.Value.float Go.FloatKind.f64 0)) 23, type := 4, pos := "laws.go:1090", after := #[{ on := 43, ground := Go.Ground.data }, { on := 34, ground := Go.Ground.guard }], guard := some (34, true) }) (v := .bool false) rfl (by kernel_rfl) (by kernel_rfl) (by kernel_rfl) (fun _ _ _ h => h) (Or.inl ⟨by rfl, ?hy_u1_44⟩) (by assumption) ?rest_u1_44
            case hy_u1_44 => (intro w hSw; (try dsimp only at hSw); first | (go_simp; done) | (go_simp; with_reducible rfl))
            try simp only [Act.put, List.setIfInBounds_toArray, List.set_cons_zero, List.set_cons_succ]
            refine wpAnyH_take (i := 45) (oi := { dst := some 86, op := Go.Op.pick (Go.Operand.tmp 75) (Go.Operand.tmp 85) (Go.Operand.const (Go.Value.bool false)), type := 4, pos := "laws.go:1090", after := #[{ on := 34, ground := Go.Ground.data }, { on := 44, ground := Go.Ground.data }, { on := 27, ground := Go.Ground.guard }], guard := some (27, false) }) (v := .bool false) rfl (by kernel_rfl) (by kernel_rfl) (by kernel_rfl) (fun _ _ _ h => h) (Or.inl ⟨by rfl, ?hy_u1_45⟩) (by assumption) ?rest_u1_45
            case hy_u1_45 => (intro w hSw; (try dsimp only at hSw); first | (go_simp; done) | (go_simp; with_reducible rfl))
            try simp only [Act.put, List.setIfInBounds_toArray, List.set_cons_zero, List.set_cons_succ]
            refine wpAnyH_take (i := 46) (oi := { dst := some 87, op := Go.Op.pick (Go.Operand.tmp 68) (Go.Operand.const (Go.Value.bool true)) (Go.Operand.tmp 86), type := 4, pos := "laws.go:1090", after := #[{ on := 27, ground := Go.Ground.data }, { on := 45, ground := Go.Ground.data }], guard := none }) (v := .bool false) rfl (by kernel_rfl) (by kernel_rfl) (by kernel_rfl) (fun _ _ _ h => h) (Or.inl ⟨by rfl, ?hy_u1_46⟩) (by assumption) ?rest_u1_46
            case hy_u1_46 => (intro w hSw; (try dsimp only at hSw); first | (go_simp; done) | (go_simp; with_reducible rfl))
            try simp only [Act.put, List.setIfInBounds_toArray, List.set_cons_zero, List.set_cons_succ]
            refine wpAnyH_done (by kernel_rfl) ?_ _
            all_goals go_wp2
            all_goals (go_roundg (xs_.length - (i + 1)); (case measure => (have := HK.out; omega)); (case rel => exact ⟨i + 1, ⟨by omega, by omega⟩, by go_num, ⟨(by repeat (first | (with_reducible first | exact HB.out | apply below_alloc | apply pw_below_drewN | apply below_drew1) | exact HB.out))⟩, ⟨(Kd.C_below HX.out (by repeat (first | exact Below.refl _ _ | apply below_alloc | apply pw_below_drewN | apply below_drew1)))⟩, ⟨(Kd.C_below HAM.out (by repeat (first | exact Below.refl _ _ | apply below_alloc | apply pw_below_drewN | apply below_drew1)))⟩, ⟨(Kd.C_below HAE.out (by repeat (first | exact Below.refl _ _ | apply below_alloc | apply pw_below_drewN | apply below_drew1)))⟩⟩))
        · have hmL := HmL.out
          rw [if_neg hs] at hmL
          have hgt : (0 < m.length) = False := eq_false (by omega)
          clear hmL
          go_wp2
          go_ret
          exact ⟨rfl, (by repeat (first | (with_reducible first | exact HB.out | apply below_alloc | apply pw_below_drewN | apply below_drew1) | exact HB.out))⟩
      · have hltb : decide ((i : Int) < (xs_.length : Int)) = false := decide_eq_false (by omega)
        go_wp2
        go_ret
        exact ⟨rfl, (by repeat (first | (with_reducible first | exact HB.out | apply below_alloc | apply pw_below_drewN | apply below_drew1) | exact HB.out))⟩
  · have d0 : decide ((l0.length : Int) > 4096) = true := decide_eq_true (by omega)
    go_enter Try.func9, Try.ntmps9
    go_wp2_with (first | (go_at_call 30; (with_reducible refine (laws_big.calls A0 c0 l0 (decide ((l0.length : Int) > 4096)) _ HR0.out HC0.out rfl).mono ?_); rintro e wk_ ⟨rfl, ⟨nd_, rfl⟩⟩))
    go_ret
    exact ⟨rfl, (by repeat (first | (with_reducible first | exact HB.out | apply below_alloc | apply pw_below_drewN | apply below_drew1) | exact HB.out))⟩


end Go.Proofs.Ytofiabjphjpglaa.HFnPans
