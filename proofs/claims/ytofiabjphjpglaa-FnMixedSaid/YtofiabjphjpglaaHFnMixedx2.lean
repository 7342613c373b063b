-- Laid by myprint.py, a program of this repo, out of the kit's printer and this repo's own texts (wip/hand).
import Derived.Test.YtofiabjphjpglaaHFnMixedx0
import Derived.Test.YtofiabjphjpglaaHFnMixedx1
namespace Go.Proofs.Ytofiabjphjpglaa.HFnMixed
open Go.RowKit Go.Proofs.YtofiabjphjpglaaW.PrintWords Go.Proofs.YtofiabjphjpglaaW.PrintLast Go.Proofs.YtofiabjphjpglaaW.PrintMore Go.Proofs.Ytofiabjphjpglaa.Fl
attribute [local go_sem] max2_int min2_int max_two min_two max_three min_three max_four min_four   -- for this text's walks alone
set_option linter.unusedVariables false
set_option linter.unusedSimpArgs false

/-! ### laws_FnMixed: function 11 -/
theorem mixF_comm (xs ys : List Fl) (g h : Fl) : mixF ys xs h g = mixF xs ys g h := by
  unfold mixF
  by_cases hl : xs.length ≤ 4096 ∧ ys.length ≤ 4096
  · rw [if_pos hl, if_pos hl.symm, Nat.max_comm]
    refine List.map_congr_left fun i hi => ?_
    have hm := List.mem_range.1 hi
    unfold mixE
    by_cases h1 : ys.length ≤ i
    · rw [if_pos h1, if_neg (by omega), if_pos h1]
    · by_cases h2 : xs.length ≤ i
      · rw [if_pos h2, if_neg h1, if_pos h2]
      · rw [if_neg h1, if_neg h2, if_neg h2, if_neg h1]
        exact opF_add_comm _ _
  · rw [if_neg hl, if_neg (fun h => hl h.symm)]
theorem mix_comm_f (xs ys : List Fl) (x1 x2 : Nat) : impl_Mix.f ys xs x2 x1 = some (mixF xs ys (cv x1) (cv x2)) := congrArg some (mixF_comm xs ys (cv x1) (cv x2))
theorem mixF_one (xs : List Fl) (h : Fl) : (xs.length ≤ 4096 → (mixF xs [] one h).length = xs.length ∧ ∀ i : Nat, i < xs.length → rf (mixF xs [] one h) i = fmul (rf xs i) one) ∧ (¬ xs.length ≤ 4096 → (mixF xs [] one h).length = 0) := by
  unfold mixF
  refine ⟨fun hl => ?_, fun hl => ?_⟩
  · rw [if_pos ⟨hl, by simp⟩]
    have e : max xs.length ([] : List Fl).length = xs.length := by simp
    rw [e, mixG_len]
    refine ⟨rfl, fun i hi => ?_⟩
    simp [mixG, rf, List.getD_eq_getElem?_getD, List.getElem?_map, List.getElem?_range hi, mixE]
  · rw [if_neg (fun h => hl h.1)]
    rfl
def laws_FnMixed.f (l0 : List Int) : Option Bool := some true
set_option maxHeartbeats 4000000 in
set_option maxRecDepth 100000 in
theorem laws_FnMixed.calls (A0 : Option Addr) (c0 : Nat) (l0 : List Int) (r : Bool) (w : World) (hr0 : Kd.C (Kd.int .u8) w A0 l0.length l0) (hc0 : l0.length ≤ c0) (h : laws_FnMixed.f l0 = some r) :
    Calls Try.prog 11 #[.slice A0 l0.length c0] w fun e w' => e = .returned (.bool r) ∧ Below w.heap.size w w' := by
  obtain rfl := Option.some.inj h
  clear h
  have HR0 := Aside0.mk hr0
  have HC0 := Aside0.mk hc0
  clear hr0 hc0
  have HB := Aside0.mk (Below.refl w.heap.size w)
  by_cases hl : l0.length ≤ 4096
  · have d0 : decide ((l0.length : Int) > 4096) = false := decide_eq_false (by omega)
    have HL := Aside0.mk hl
    clear hl
    go_enter Try.func11, Try.ntmps11
    go_wp2_with (first | (go_at_call 30; (with_reducible refine (laws_big.calls A0 c0 l0 (decide ((l0.length : Int) > 4096)) _ HR0.out HC0.out rfl).mono ?_); rintro e wk_ ⟨rfl, ⟨nd_, rfl⟩⟩) | (go_at_call 34; (with_reducible refine (spec_DrawMix.calls A0 c0 l0 _ ?s1 HC0.out HL.out).mono ?_); (case s1 => exact Kd.C_below HR0.out (by repeat (first | exact Below.refl _ _ | apply below_alloc | apply pw_below_drewN | apply below_drew1))); rintro e wk_ ⟨v1_, v2_, xs, ys, x1, x2, rfl, hoa_, hob_, hb_⟩; obtain ⟨AX, cX, rfl, hlX, hCX⟩ := Kd.R_reads hoa_; have HLX := Aside0.mk hlX; have HX := Aside0.mk hCX; have HMX := Aside0.mk hCX.2.1; clear hlX hCX; obtain ⟨AY, cY, rfl, hlY, hCY⟩ := Kd.R_reads hob_; have HLY := Aside0.mk hlY; have HY := Aside0.mk hCY; have HMY := Aside0.mk hCY.2.1; clear hlY hCY; have n1_ := Aside0.mk (below_step (by repeat (first | (with_reducible first | exact HB.out | apply below_alloc | apply pw_below_drewN | apply below_drew1) | exact HB.out)) hb_); clear HB; have HB := n1_; clear n1_ hoa_ hob_ hb_) | (go_at_call 26; (with_reducible refine (impl_Mix.calls AX cX xs AY cY ys x1 x2 (mixF xs ys (cv x1) (cv x2)) _ ?s1 ?t1 ?s2 ?t2 rfl).mono ?_); (case s1 => exact Kd.C_below HX.out (by repeat (first | exact Below.refl _ _ | apply below_alloc | apply pw_below_drewN | apply below_drew1))); (case s2 => exact Kd.C_below HY.out (by repeat (first | exact Below.refl _ _ | apply below_alloc | apply pw_below_drewN | apply below_drew1))); (case t1 => exact HLX.out); (case t2 => exact HLY.out); rintro e wk_ ⟨vk_, rfl, ho_, hb_⟩; obtain ⟨AM, cAM, rfl, hlAM, hC_⟩ := Kd.R_reads ho_; have HAM := Aside0.mk hC_; have n1_ := Aside0.mk (below_step (by repeat (first | (with_reducible first | exact HB.out | apply below_alloc | apply pw_below_drewN | apply below_drew1) | exact HB.out)) hb_); clear HB; have HB := n1_; clear n1_ ho_ hC_ hlAM; have n3_ := Aside0.mk (Kd.C_below (Kd.C_below HX.out (by repeat (first | exact Below.refl _ _ | apply below_alloc | apply pw_below_drewN | apply below_drew1))) hb_); clear HX; have HX := n3_; clear n3_; have n3_ := Aside0.mk (Kd.C_below (Kd.C_below HY.out (by repeat (first | exact Below.refl _ _ | apply below_alloc | apply pw_below_drewN | apply below_drew1))) hb_); clear HY; have HY := n3_; clear n3_; clear hb_) | (go_at_call 26; (with_reducible refine (impl_Mix.calls AY cY ys AX cX xs x2 x1 (mixF xs ys (cv x1) (cv x2)) _ ?s1 ?t1 ?s2 ?t2 (mix_comm_f xs ys x1 x2)).mono ?_); (case s1 => exact Kd.C_below HY.out (by repeat (first | exact Below.refl _ _ | apply below_alloc | apply pw_below_drewN | apply below_drew1))); (case s2 => exact Kd.C_below HX.out (by repeat (first | exact Below.refl _ _ | apply below_alloc | apply pw_below_drewN | apply below_drew1))); (case t1 => exact HLY.out); (case t2 => exact HLX.out); rintro e wk_ ⟨vk_, rfl, ho_, hb_⟩; obtain ⟨AN, cAN, rfl, hlAN, hC_⟩ := Kd.R_reads ho_; have HAN := Aside0.mk hC_; have n1_ := Aside0.mk (below_step (by repeat (first | (with_reducible first | exact HB.out | apply below_alloc | apply pw_below_drewN | apply below_drew1) | exact HB.out)) hb_); clear HB; have HB := n1_; clear n1_ ho_ hC_ hlAN; have n3_ := Aside0.mk (Kd.C_below (Kd.C_below HX.out (by repeat (first | exact Below.refl _ _ | apply below_alloc | apply pw_below_drewN | apply below_drew1))) hb_); clear HX; have HX := n3_; clear n3_; have n3_ := Aside0.mk (Kd.C_below (Kd.C_below HY.out (by repeat (first | exact Below.refl _ _ | apply below_alloc | apply pw_below_drewN | apply below_drew1))) hb_); clear HY; have HY := n3_; clear n3_; have n3_ := Aside0.mk (Kd.C_below (Kd.C_below HAM.out (by repeat (first | exact Below.refl _ _ | apply below_alloc | apply pw_below_drewN | apply below_drew1))) hb_); clear HAM; have HAM := n3_; clear n3_; clear hb_) | (go_at_call 25; (with_reducible refine (spec_Mix.calls AX cX xs AY cY ys x1 x2 (mixF xs ys (cv x1) (cv x2)) _ ?s1 ?t1 ?s2 ?t2 rfl).mono ?_); (case s1 => exact Kd.C_below HX.out (by repeat (first | exact Below.refl _ _ | apply below_alloc | apply pw_below_drewN | apply below_drew1))); (case s2 => exact Kd.C_below HY.out (by repeat (first | exact Below.refl _ _ | apply below_alloc | apply pw_below_drewN | apply below_drew1))); (case t1 => exact HLX.out); (case t2 => exact HLY.out); rintro e wk_ ⟨vk_, rfl, ho_, hb_⟩; obtain ⟨AQ, cAQ, rfl, hlAQ, hC_⟩ := Kd.R_reads ho_; have HAQ := Aside0.mk hC_; have n1_ := Aside0.mk (below_step (by repeat (first | (with_reducible first | exact HB.out | apply below_alloc | apply pw_below_drewN | apply below_drew1) | exact HB.out)) hb_); clear HB; have HB := n1_; clear n1_ ho_ hC_ hlAQ; have n3_ := Aside0.mk (Kd.C_below (Kd.C_below HX.out (by repeat (first | exact Below.refl _ _ | apply below_alloc | apply pw_below_drewN | apply below_drew1))) hb_); clear HX; have HX := n3_; clear n3_; have n3_ := Aside0.mk (Kd.C_below (Kd.C_below HY.out (by repeat (first | exact Below.refl _ _ | apply below_alloc | apply pw_below_drewN | apply below_drew1))) hb_); clear HY; have HY := n3_; clear n3_; have n3_ := Aside0.mk (Kd.C_below (Kd.C_below HAM.out (by repeat (first | exact Below.refl _ _ | apply below_alloc | apply pw_below_drewN | apply below_drew1))) hb_); clear HAM; have HAM := n3_; clear n3_; have n3_ := Aside0.mk (Kd.C_below (Kd.C_below HAN.out (by repeat (first | exact Below.refl _ _ | apply below_alloc | apply pw_below_drewN | apply below_drew1))) hb_); clear HAN; have HAN := n3_; clear n3_; clear hb_))
    generalize mixF xs ys (cv x1) (cv x2) = m at HAM HAN ⊢
    clear HAQ
    have HMM := Aside0.mk HAM.out.2.1
    go_loopg [9] m.length (fun gg v9 w' => ∃ i : Nat, Aside0 (i ≤ m.length ∧ m.length - i ≤ gg) ∧ v9 = .int .i64 (i : Int) ∧ Aside0 (Below w.heap.size w w') ∧ Aside0 (Kf.C w' AX xs.length xs) ∧ Aside0 (Kf.C w' AM m.length m) ∧ Aside0 (Kf.C w' AN m.length m))
    case atStart => exact ⟨0, ⟨Nat.zero_le _, Nat.le_refl _⟩, rfl, HB, HX, HAM, HAN⟩
    case round =>
      clear HB HX HAM HAN HY
      obtain ⟨i, HK, rfl, HB, HX, HAM, HAN⟩ := hrel
      have HM2 : m.length ≤ 9223372036854775807 := HMM.out
      have HM3 : xs.length ≤ 9223372036854775807 := HMX.out
      by_cases hlt : i < m.length
      · have hltb : decide ((i : Int) < (m.length : Int)) = true := decide_eq_true (by omega)
        have p3 : (0 ≤ (i : Int)) = True := eq_true (by omega)
        have q1 : ((i : Int) < (m.length : Int)) = True := eq_true (by omega)
        obtain ⟨ad1, b1, e1, hx1, hb1⟩ := at_f HAM.out (i : Int) (by omega) (by omega)
        obtain ⟨ad2, b2, e2, hx2, hb2⟩ := at_f HAN.out (i : Int) (by omega) (by omega)
        cases e1
        cases e2
        have hlk := Like.of_cv (hb1.trans hb2.symm)
        clear hb1 hb2
        simp only [Int.toNat_natCast] at hx1 hx2
        by_cases hn : isN b1 = true
        · have hn2 : isN b2 = true := hlk.1 ▸ hn
          have z1 : (FloatKind.f64.format.order b1 b2 != some Ordering.eq) = true := by rw [ord_none (by unfold cv; rw [if_pos hn])]; rfl
          have z2 : (FloatKind.f64.format.order b1 b1 == some Ordering.eq) = false := by rw [ord_none (by unfold cv; rw [if_pos hn])]; rfl
          have z3 : (FloatKind.f64.format.order b2 b2 == some Ordering.eq) = false := by rw [ord_none (by unfold cv; rw [if_pos hn2])]; rfl
          clear hlk hn hn2
          go_wp2
          refine wp_region_held_drew (S := (fun w' => w'.cell? (ad1.add i) = some (.float .f64 b1) ∧ w'.cell? (ad2.add i) = some (.float .f64 b2))) (by kernel_rfl) ?hS_u2 (fun hS0 => ?hr_u2)
          case hS_u2 => go_keep
          refine wpAnyH_take (i := 0) (oi := { dst := some 53, op := Go.Op.move (Go.Operand.tmp 7), type := 22, pos := "laws.go:1013", after := #[], guard := none }) (v := ?vv_u2_0) rfl (by kernel_rfl) (by kernel_rfl) (by kernel_rfl) (fun _ _ _ h => h) (Or.inl ⟨by rfl, ?hy_u2_0⟩) (by assumption) ?rest_u2_0
          case hy_u2_0 => (intro w hSw; (try dsimp only at hSw); first | (go_simp; done) | (go_simp; with_reducible rfl))
          try simp only [Act.put, List.setIfInBounds_toArray, List.set_cons_zero, List.set_cons_succ]
          refine wpAnyH_take (i := 1) (oi := { dst := some 54, op := Go.Op.move (Go.Operand.tmp 9), type := 3, pos := "laws.go:1013", after := #[], guard := none }) (v := ?vv_u2_1) rfl (by kernel_rfl) (by kernel_rfl) (by kernel_rfl) (fun _ _ _ h => h) (Or.inl ⟨by rfl, ?hy_u2_1⟩) (by assumption) ?rest_u2_1
          case hy_u2_1 => (intro w hSw; (try dsimp only at hSw); first | (go_simp; done) | (go_simp; with_reducible rfl))
          try simp only [Act.put, List.setIfInBounds_toArray, List.set_cons_zero, List.set_cons_succ]
          refine wpAnyH_take (i := 2) (oi := { dst := some 55, op := Go.Op.indexAddr 22 (Go.Operand.tmp 53) (Go.Operand.tmp 54), type := 0, pos := "laws.go:1013", after := #[{ on := 0, ground := Go.Ground.data }, { on := 1, ground := Go.Ground.data }], guard := none }) (v := ?vv_u2_2) rfl (by kernel_rfl) (by kernel_rfl) (by kernel_rfl) (fun _ _ _ h => h) (Or.inl ⟨by rfl, ?hy_u2_2⟩) (by assumption) ?rest_u2_2
          case hy_u2_2 => (intro w hSw; (try dsimp only at hSw); first | (go_simp; done) | (go_simp; with_reducible rfl))
          try simp only [Act.put, List.setIfInBounds_toArray, List.set_cons_zero, List.set_cons_succ]
          refine wpAnyH_take (i := 3) (oi := { dst := some 56, op := Go.Op.load 23 (Go.Operand.tmp 55), type := 23, pos := "laws.go:1013", after := #[{ on := 2, ground := Go.Ground.data }], guard := none }) (v := ?vv_u2_3) rfl (by kernel_rfl) (by kernel_rfl) (by kernel_rfl) (fun _ _ _ h => h) (Or.inl ⟨by rfl, ?hy_u2_3⟩) (by assumption) ?rest_u2_3
          case hy_u2_3 => (intro w hSw; (try dsimp only at hSw); first | (go_simp; done) | (go_simp; with_reducible rfl))
          try simp only [Act.put, List.setIfInBounds_toArray, List.set_cons_zero, List.set_cons_succ]
          refine wpAnyH_take (i := 4) (oi := { dst := some 57, op := Go.Op.move (Go.Operand.tmp 8), type := 22, pos := "laws.go:1013", after := #[], guard := none }) (v := ?vv_u2_4) rfl (by kernel_rfl) (by kernel_rfl) (by kernel_rfl) (fun _ _ _ h => h) (Or.inl ⟨by rfl, ?hy_u2_4⟩) (by assumption) ?rest_u2_4
          case hy_u2_4 => (intro w hSw; (try dsimp only at hSw); first | (go_simp; done) | (go_simp; with_reducible rfl))
          try simp only [Act.put, List.setIfInBounds_toArray, List.set_cons_zero, List.set_cons_succ]
          refine wpAnyH_take (i := 5) (oi := { dst := some 58, op := Go.Op.move (Go.Operand.tmp 9), type := 3, pos := "laws.go:1013", after := #[], guard := none }) (v := ?vv_u2_5) rfl (by kernel_rfl) (by kernel_rfl) (by kernel_rfl) (fun _ _ _ h => h) (Or.inl ⟨by rfl, ?hy_u2_5⟩) (by assumption) ?rest_u2_5
          case hy_u2_5 => (intro w hSw; (try dsimp only at hSw); first | (go_simp; done) | (go_simp; with_reducible rfl))
          try simp only [Act.put, List.setIfInBounds_toArray, List.set_cons_zero, List.set_cons_succ]
          refine wpAnyH_take (i := 6) (oi := { dst := some 59, op := Go.Op.indexAddr 22 (Go.Operand.tmp 57) (Go.Operand.tmp 58), type := 0, pos := "laws.go:1013", after := #[{ on := 4, ground := Go.Ground.data }, { on := 5, ground := Go.Ground.data }], guard := none }) (v := ?vv_u2_6) rfl (by kernel_rfl) (by kernel_rfl) (by kernel_rfl) (fun _ _ _ h => h) (Or.inl ⟨by rfl, ?hy_u2_6⟩) (by assumption) ?rest_u2_6
          case hy_u2_6 => (intro w hSw; (try dsimp only at hSw); first | (go_simp; done) | (go_simp; with_reducible rfl))
          try simp only [Act.put, List.setIfInBounds_toArray, List.set_cons_zero, List.set_cons_succ]
          refine wpAnyH_take (i := 7) (oi := { dst := some 60, op := Go.Op.load 23 (Go.Operand.tmp 59), type := 23, pos := "laws.go:1013", after := #[{ on := 6, ground := Go.Ground.data }], guard := none }) (v := ?vv_u2_7) rfl (by kernel_rfl) (by kernel_rfl) (by kernel_rfl) (fun _ _ _ h => h) (Or.inl ⟨by rfl, ?hy_u2_7⟩) (by assumption) ?rest_u2_7
          case hy_u2_7 => (intro w hSw; (try dsimp only at hSw); first | (go_simp; done) | (go_simp; with_reducible rfl))
          try simp only [Act.put, List.setIfInBounds_toArray, List.set_cons_zero, List.set_cons_succ]
          refine wpAnyH_take (i := 8) (oi := { dst := some 61, op := Go.Op.binOp Go.BinOp.neq 23 (Go.Operand.tmp 56) (Go.Operand.tmp 60) 23, type := 4, pos := "laws.go:1013", after := #[{ on := 3, ground := Go.Ground.data }, { on := 7, ground := Go.Ground.data }], guard := none }) (v := .bool true) rfl (by kernel_rfl) (by kernel_rfl) (by kernel_rfl) (fun _ _ _ h => h) (Or.inl ⟨by rfl, ?hy_u2_8⟩) (by assumption) ?rest_u2_8
          case hy_u2_8 => (intro w hSw; (try dsimp only at hSw); first | (go_simp; done) | (go_simp; with_reducible rfl))
          try simp only [Act.put, List.setIfInBounds_toArray, List.set_cons_zero, List.set_cons_succ]
          refine wpAnyH_take (i := 9) (oi := { dst := some 62, op := Go.Op.move (Go.Operand.tmp 61), type := 4, pos := "laws.go:1013", after := #[{ on := 8, ground := Go.Ground.data }], guard := none }) (v := .bool true) rfl (by kernel_rfl) (by kernel_rfl) (by kernel_rfl) (fun _ _ _ h => h) (Or.inl ⟨by rfl, ?hy_u2_9⟩) (by assumption) ?rest_u2_9
          case hy_u2_9 => (intro w hSw; (try dsimp only at hSw); first | (go_simp; done) | (go_simp; with_reducible rfl))
          try simp only [Act.put, List.setIfInBounds_toArray, List.set_cons_zero, List.set_cons_succ]
          refine wpAnyH_take (i := 10) (oi := { dst := some 63, op := Go.Op.move (Go.Operand.tmp 7), type := 22, pos := "laws.go:1013", after := #[{ on := 9, ground := Go.Ground.guard }], guard := some (9, true) }) (v := ?vv_u2_10) rfl (by kernel_rfl) (by kernel_rfl) (by kernel_rfl) (fun _ _ _ h => h) (Or.inl ⟨by rfl, ?hy_u2_10⟩) (by assumption) ?rest_u2_10
          case hy_u2_10 => (intro w hSw; (try dsimp only at hSw); first | (go_simp; done) | (go_simp; with_reducible rfl))
          try simp only [Act.put, List.setIfInBounds_toArray, List.set_cons_zero, List.set_cons_succ]
          refine wpAnyH_take (i := 11) (oi := { dst := some 64, op := Go.Op.move (Go.Operand.tmp 9), type := 3, pos := "laws.go:1013", after := #[{ on := 9, ground := Go.Ground.guard }], guard := some (9, true) }) (v := ?vv_u2_11) rfl (by kernel_rfl) (by kernel_rfl) (by kernel_rfl) (fun _ _ _ h => h) (Or.inl ⟨by rfl, ?hy_u2_11⟩) (by assumption) ?rest_u2_11
          case hy_u2_11 => (intro w hSw; (try dsimp only at hSw); first | (go_simp; done) | (go_simp; with_reducible rfl))
          try simp only [Act.put, List.setIfInBounds_toArray, List.set_cons_zero, List.set_cons_succ]
          refine wpAnyH_take (i := 12) (oi := { dst := some 65, op := Go.Op.indexAddr 22 (Go.Operand.tmp 63) (Go.Operand.tmp 64), type := 0, pos := "laws.go:1013", after := #[{ on := 10, ground := Go.Ground.data }, { on := 11, ground := Go.Ground.data }, { on := 9, ground := Go.Ground.guard }], guard := some (9, true) }) (v := ?vv_u2_12) rfl (by kernel_rfl) (by kernel_rfl) (by kernel_rfl) (fun _ _ _ h => h) (Or.inl ⟨by rfl, ?hy_u2_12⟩) (by assumption) ?rest_u2_12
          case hy_u2_12 => (intro w hSw; (try dsimp only at hSw); first | (go_simp; done) | (go_simp; with_reducible rfl))
          try simp only [Act.put, List.setIfInBounds_toArray, List.set_cons_zero, List.set_cons_succ]
          refine wpAnyH_take (i := 13) (oi := { dst := some 66, op := Go.Op.load 23 (Go.Operand.tmp 65), type := 23, pos := "laws.go:1013", after := #[{ on := 12, ground := Go.Ground.data }, { on := 9, ground := Go.Ground.guard }], guard := some (9, true) }) (v := ?vv_u2_13) rfl (by kernel_rfl) (by kernel_rfl) (by kernel_rfl) (fun _ _ _ h => h) (Or.inl ⟨by rfl, ?hy_u2_13⟩) (by assumption) ?rest_u2_13
          case hy_u2_13 => (intro w hSw; (try dsimp only at hSw); first | (go_simp; done) | (go_simp; with_reducible rfl))
          try simp only [Act.put, List.setIfInBounds_toArray, List.set_cons_zero, List.set_cons_succ]
          refine wpAnyH_take (i := 14) (oi := { dst := some 67, op := Go.Op.move (Go.Operand.tmp 7), type := 22, pos := "laws.go:1013", after := #[{ on := 9, ground := Go.Ground.guard }], guard := some (9, true) }) (v := ?vv_u2_14) rfl (by kernel_rfl) (by kernel_rfl) (by kernel_rfl) (fun _ _ _ h => h) (Or.inl ⟨by rfl, ?hy_u2_14⟩) (by assumption) ?rest_u2_14
          case hy_u2_14 => (intro w hSw; (try dsimp only at hSw); first | (go_simp; done) | (go_simp; with_reducible rfl))
          try simp only [Act.put, List.setIfInBounds_toArray, List.set_cons_zero, List.set_cons_succ]
          refine wpAnyH_take (i := 15) (oi := { dst := some 68, op := Go.Op.move (Go.Operand.tmp 9), type := 3, pos := "laws.go:1013", after := #[{ on := 9, ground := Go.Ground.guard }], guard := some (9, true) }) (v := ?vv_u2_15) rfl (by kernel_rfl) (by kernel_rfl) (by kernel_rfl) (fun _ _ _ h => h) (Or.inl ⟨by rfl, ?hy_u2_15⟩) (by assumption) ?rest_u2_15
          case hy_u2_15 => (intro w hSw; (try dsimp only at hSw); first | (go_simp; done) | (go_simp; with_reducible rfl))
          try simp only [Act.put, List.setIfInBounds_toArray, List.set_cons_zero, List.set_cons_succ]
          refine wpAnyH_take (i := 16) (oi := { dst := some 69, op := Go.Op.indexAddr 22 (Go.Operand.tmp 67) (Go.Operand.tmp 68), type := 0, pos := "laws.go:1013", after := #[{ on := 14, ground := Go.Ground.data }, { on := 15, ground := Go.Ground.data }, { on := 9, ground := Go.Ground.guard }], guard := some (9, true) }) (v := ?vv_u2_16) rfl (by kernel_rfl) (by kernel_rfl) (by kernel_rfl) (fun _ _ _ h => h) (Or.inl ⟨by rfl, ?hy_u2_16⟩) (by assumption) ?rest_u2_16
          case hy_u2_16 => (intro w hSw; (try dsimp only at hSw); first | (go_simp; done) | (go_simp; with_reducible rfl))
          try simp only [Act.put, List.setIfInBounds_toArray, List.set_cons_zero, List.set_cons_succ]
          refine wpAnyH_take (i := 17) (oi := { dst := some 70, op := Go.Op.load 23 (Go.Operand.tmp 69), type := 23, pos := "laws.go:1013", after := #[{ on := 16, ground := Go.Ground.data }, { on := 9, ground := Go.Ground.guard }], guard := some (9, true) }) (v := ?vv_u2_17) rfl (by kernel_rfl) (by kernel_rfl) (by kernel_rfl) (fun _ _ _ h => h) (Or.inl ⟨by rfl, ?hy_u2_17⟩) (by assumption) ?rest_u2_17
          case hy_u2_17 => (intro w hSw; (try dsimp only at hSw); first | (go_simp; done) | (go_simp; with_reducible rfl))
          try simp only [Act.put, List.setIfInBounds_toArray, List.set_cons_zero, List.set_cons_succ]
          refine wpAnyH_take (i := 18) (oi := { dst := some 71, op := Go.Op.binOp Go.BinOp.eql 23 (Go.Operand.tmp 66) (Go.Operand.tmp 70) 23, type := 4, pos := "laws.go:1013", after := #[{ on := 13, ground := Go.Ground.data }, { on := 17, ground := Go.Ground.data }, { on := 9, ground := Go.Ground.guard }], guard := some (9, true) }) (v := .bool false) rfl (by kernel_rfl) (by kernel_rfl) (by kernel_rfl) (fun _ _ _ h => h) (Or.inl ⟨by rfl, ?hy_u2_18⟩) (by assumption) ?rest_u2_18
          case hy_u2_18 => (intro w hSw; (try dsimp only at hSw); first | (go_simp; done) | (go_simp; with_reducible rfl))
          try simp only [Act.put, List.setIfInBounds_toArray, List.set_cons_zero, List.set_cons_succ]
          refine wpAnyH_take (i := 19) (oi := { dst := some 72, op := Go.Op.move (Go.Operand.tmp 71), type := 4, pos := "laws.go:1013", after := #[{ on := 18, ground := Go.Ground.data }, { on := 9, ground := Go.Ground.chain }, { on := 9, ground := Go.Ground.guard }], guard := some (9, true) }) (v := .bool false) rfl (by kernel_rfl) (by kernel_rfl) (by kernel_rfl) (fun _ _ _ h => h) (Or.inl ⟨by rfl, ?hy_u2_19⟩) (by assumption) ?rest_u2_19
          case hy_u2_19 => (intro w hSw; (try dsimp only at hSw); first | (go_simp; done) | (go_simp; with_reducible rfl))
          try simp only [Act.put, List.setIfInBounds_toArray, List.set_cons_zero, List.set_cons_succ]
          refine wpAnyH_take (i := 20) (oi := { dst := some 73, op := Go.Op.move (Go.Operand.tmp 8), type := 22, pos := "laws.go:1013", after := #[{ on := 19, ground := Go.Ground.guard }], guard := some (19, false) }) (v := ?vv_u2_20) rfl (by kernel_rfl) (by kernel_rfl) (by kernel_rfl) (fun _ _ _ h => h) (Or.inl ⟨by rfl, ?hy_u2_20⟩) (by assumption) ?rest_u2_20
          case hy_u2_20 => (intro w hSw; (try dsimp only at hSw); first | (go_simp; done) | (go_simp; with_reducible rfl))
          try simp only [Act.put, List.setIfInBounds_toArray, List.set_cons_zero, List.set_cons_succ]
          refine wpAnyH_take (i := 21) (oi := { dst := some 74, op := Go.Op.move (Go.Operand.tmp 9), type := 3, pos := "laws.go:1013", after := #[{ on := 19, ground := Go.Ground.guard }], guard := some (19, false) }) (v := ?vv_u2_21) rfl (by kernel_rfl) (by kernel_rfl) (by kernel_rfl) (fun _ _ _ h => h) (Or.inl ⟨by rfl, ?hy_u2_21⟩) (by assumption) ?rest_u2_21
          case hy_u2_21 => (intro w hSw; (try dsimp only at hSw); first | (go_simp; done) | (go_simp; with_reducible rfl))
          try simp only [Act.put, List.setIfInBounds_toArray, List.set_cons_zero, List.set_cons_succ]
          refine wpAnyH_take (i := 22) (oi := { dst := some 75, op := Go.Op.indexAddr 22 (Go.Operand.tmp 73) (Go.Operand.tmp 74), type := 0, pos := "laws.go:1013", after := #[{ on := 20, ground := Go.Ground.data }, { on := 21, ground := Go.Ground.data }, { on := 19, ground := Go.Ground.guard }], guard := some (19, false) }) (v := ?vv_u2_22) rfl (by kernel_rfl) (by kernel_rfl) (by kernel_rfl) (fun _ _ _ h => h) (Or.inl ⟨by rfl, ?hy_u2_22⟩) (by assumption) ?rest_u2_22
          case hy_u2_22 => (intro w hSw; (try dsimp only at hSw); first | (go_simp; done) | (go_simp; with_reducible rfl))
          try simp only [Act.put, List.setIfInBounds_toArray, List.set_cons_zero, List.set_cons_succ]
          refine wpAnyH_take (i := 23) (oi := { dst := some 76, op := Go.Op.load 23 (Go.Operand.tmp 75), type := 23, pos := "laws.go:1013", after := #[{ on := 22, ground := Go.Ground.data }, { on := 19, ground := Go.Ground.guard }], guard := some (19, false) }) (v := ?vv_u2_23) rfl (by kernel_rfl) (by kernel_rfl) (by kernel_rfl) (fun _ _ _ h => h) (Or.inl ⟨by rfl, ?hy_u2_23⟩) (by assumption) ?rest_u2_23
          case hy_u2_23 => (intro w hSw; (try dsimp only at hSw); first | (go_simp; done) | (go_simp; with_reducible rfl))
          try simp only [Act.put, List.setIfInBounds_toArray, List.set_cons_zero, List.set_cons_succ]
          refine wpAnyH_take (i := 24) (oi := { dst := some 77, op := Go.Op.move (Go.Operand.tmp 8), type := 22, pos := "laws.go:1013", after := #[{ on := 19, ground := Go.Ground.guard }], guard := some (19, false) }) (v := ?vv_u2_24) rfl (by kernel_rfl) (by kernel_rfl) (by kernel_rfl) (fun _ _ _ h => h) (Or.inl ⟨by rfl, ?hy_u2_24⟩) (by assumption) ?rest_u2_24
          case hy_u2_24 => (intro w hSw; (try dsimp only at hSw); first | (go_simp; done) | (go_simp; with_reducible rfl))
          try simp only [Act.put, List.setIfInBounds_toArray, List.set_cons_zero, List.set_cons_succ]
          refine wpAnyH_take (i := 25) (oi := { dst := some 78, op := Go.Op.move (Go.Operand.tmp 9), type := 3, pos := "laws.go:1013", after := #[{ on := 19, ground := Go.Ground.guard }], guard := some (19, false) }) (v := ?vv_u2_25) rfl (by kernel_rfl) (by kernel_rfl) (by kernel_rfl) (fun _ _ _ h => h) (Or.inl ⟨by rfl, ?hy_u2_25⟩) (by assumption) ?rest_u2_25
          case hy_u2_25 => (intro w hSw; (try dsimp only at hSw); first | (go_simp; done) | (go_simp; with_reducible rfl))
          try simp only [Act.put, List.setIfInBounds_toArray, List.set_cons_zero, List.set_cons_succ]
          refine wpAnyH_take (i := 26) (oi := { dst := some 79, op := Go.Op.indexAddr 22 (Go.Operand.tmp 77) (Go.Operand.tmp 78), type := 0, pos := "laws.go:1013", after := #[{ on := 24, ground := Go.Ground.data }, { on := 25, ground := Go.Ground.data }, { on := 19, ground := Go.Ground.guard }], guard := some (19, false) }) (v := ?vv_u2_26) rfl (by kernel_rfl) (by kernel_rfl) (by kernel_rfl) (fun _ _ _ h => h) (Or.inl ⟨by rfl, ?hy_u2_26⟩) (by assumption) ?rest_u2_26
          case hy_u2_26 => (intro w hSw; (try dsimp only at hSw); first | (go_simp; done) | (go_simp; with_reducible rfl))
          try simp only [Act.put, List.setIfInBounds_toArray, List.set_cons_zero, List.set_cons_succ]
          refine wpAnyH_take (i := 27) (oi := { dst := some 80, op := Go.Op.load 23 (Go.Operand.tmp 79), type := 23, pos := "laws.go:1013", after := #[{ on := 26, ground := Go.Ground.data }, { on := 19, ground := Go.Ground.guard }], guard := some (19, false) }) (v := ?vv_u2_27) rfl (by kernel_rfl) (by kernel_rfl) (by kernel_rfl) (fun _ _ _ h => h) (Or.inl ⟨by rfl, ?hy_u2_27⟩) (by assumption) ?rest_u2_27
          case hy_u2_27 => (intro w hSw; (try dsimp only at hSw); first | (go_simp; done) | (go_simp; with_reducible rfl))
          try simp only [Act.put, List.setIfInBounds_toArray, List.set_cons_zero, List.set_cons_succ]
          refine wpAnyH_take (i := 28) (oi := { dst := some 81, op := Go.Op.binOp Go.BinOp.eql 23 (Go.Operand.tmp 76) (Go.Operand.tmp 80) 23, type := 4, pos := "laws.go:1013", after := #[{ on := 23, ground := Go.Ground.data }, { on := 27, ground := Go.Ground.data }, { on := 19, ground := Go.Ground.guard }], guard := some (19, false) }) (v := .bool false) rfl (by kernel_rfl) (by kernel_rfl) (by kernel_rfl) (fun _ _ _ h => h) (Or.inl ⟨by rfl, ?hy_u2_28⟩) (by assumption) ?rest_u2_28
          case hy_u2_28 => (intro w hSw; (try dsimp only at hSw); first | (go_simp; done) | (go_simp; with_reducible rfl))
          try simp only [Act.put, List.setIfInBounds_toArray, List.set_cons_zero, List.set_cons_succ]
          refine wpAnyH_take (i := 29) (oi := { dst := some 82, op := Go.Op.pick (Go.Operand.tmp 72) (Go.Operand.const (Go.Value.bool true)) (Go.Operand.tmp 81), type := 4, pos := "laws.go:1013", after := #[{ on := 19, ground := Go.Ground.data }, { on := 28, ground := Go.Ground.data }, { on := 9, ground := Go.Ground.guard }], guard := some (9, true) }) (v := .bool false) rfl (by kernel_rfl) (by kernel_rfl) (by kernel_rfl) (fun _ _ _ h => h) (Or.inl ⟨by rfl, ?hy_u2_29⟩) (by assumption) ?rest_u2_29
          case hy_u2_29 => (intro w hSw; (try dsimp only at hSw); first | (go_simp; done) | (go_simp; with_reducible rfl))
          try simp only [Act.put, List.setIfInBounds_toArray, List.set_cons_zero, List.set_cons_succ]
          refine wpAnyH_take (i := 30) (oi := { dst := some 83, op := Go.Op.pick (Go.Operand.tmp 62) (Go.Operand.tmp 82) (Go.Operand.const (Go.Value.bool false)), type := 4, pos := "laws.go:1013", after := #[{ on := 9, ground := Go.Ground.data }, { on := 29, ground := Go.Ground.data }], guard := none }) (v := .bool false) rfl (by kernel_rfl) (by kernel_rfl) (by kernel_rfl) (fun _ _ _ h => h) (Or.inl ⟨by rfl, ?hy_u2_30⟩) (by assumption) ?rest_u2_30
          case hy_u2_30 => (intro w hSw; (try dsimp only at hSw); first | (go_simp; done) | (go_simp; with_reducible rfl))
          try simp only [Act.put, List.setIfInBounds_toArray, List.set_cons_zero, List.set_cons_succ]
          refine wpAnyH_done (by kernel_rfl) ?_ _
          all_goals go_wp2
          all_goals (go_roundg (m.length - (i + 1)); (case measure => (have := HK.out; omega)); (case rel => exact ⟨i + 1, ⟨by omega, by omega⟩, by go_num, ⟨(by repeat (first | (with_reducible first | exact HB.out | apply below_alloc | apply pw_below_drewN | apply below_drew1) | exact HB.out))⟩, ⟨(Kd.C_below HX.out (by repeat (first | exact Below.refl _ _ | apply below_alloc | apply pw_below_drewN | apply below_drew1)))⟩, ⟨(Kd.C_below HAM.out (by repeat (first | exact Below.refl _ _ | apply below_alloc | apply pw_below_drewN | apply below_drew1)))⟩, ⟨(Kd.C_below HAN.out (by repeat (first | exact Below.refl _ _ | apply below_alloc | apply pw_below_drewN | apply below_drew1)))⟩⟩))
        · have hn1 : isN b1 = false := by simpa using hn
          have z1 : (FloatKind.f64.format.order b1 b2 != some Ordering.eq) = false := by rw [ord_like hlk hn1]; rfl
          clear hlk hn hn1
          go_wp2
          refine wp_region_held_drew (S := (fun w' => w'.cell? (ad1.add i) = some (.float .f64 b1) ∧ w'.cell? (ad2.add i) = some (.float .f64 b2))) (by kernel_rfl) ?hS_u3 (fun hS0 => ?hr_u3)
          case hS_u3 => go_keep
          refine wpAnyH_take (i := 0) (oi := { dst := some 53, op := Go.Op.move (Go.Operand.tmp 7), type := 22, pos := "laws.go:1013", after := #[], guard := none }) (v := ?vv_u3_0) rfl (by kernel_rfl) (by kernel_rfl) (by kernel_rfl) (fun _ _ _ h => h) (Or.inl ⟨by rfl, ?hy_u3_0⟩) (by assumption) ?rest_u3_0
          case hy_u3_0 => (intro w hSw; (try dsimp only at hSw); first | (go_simp; done) | (go_simp; with_reducible rfl))
          try simp only [Act.put, List.setIfInBounds_toArray, List.set_cons_zero, List.set_cons_succ]
          refine wpAnyH_take (i := 1) (oi := { dst := some 54, op := Go.Op.move (Go.Operand.tmp 9), type := 3, pos := "laws.go:1013", after := #[], guard := none }) (v := ?vv_u3_1) rfl (by kernel_rfl) (by kernel_rfl) (by kernel_rfl) (fun _ _ _ h => h) (Or.inl ⟨by rfl, ?hy_u3_1⟩) (by assumption) ?rest_u3_1
          case hy_u3_1 => (intro w hSw; (try dsimp only at hSw); first | (go_simp; done) | (go_simp; with_reducible rfl))
          try simp only [Act.put, List.setIfInBounds_toArray, List.set_cons_zero, List.set_cons_succ]
          refine wpAnyH_take (i := 2) (oi := { dst := some 55, op := Go.Op.indexAddr 22 (Go.Operand.tmp 53) (Go.Operand.tmp 54), type := 0, pos := "laws.go:1013", after := #[{ on := 0, ground := Go.Ground.data }, { on := 1, ground := Go.Ground.data }], guard := none }) (v := ?vv_u3_2) rfl (by kernel_rfl) (by kernel_rfl) (by kernel_rfl) (fun _ _ _ h => h) (Or.inl ⟨by rfl, ?hy_u3_2⟩) (by assumption) ?rest_u3_2
          case hy_u3_2 => (intro w hSw; (try dsimp only at hSw); first | (go_simp; done) | (go_simp; with_reducible rfl))
          try simp only [Act.put, List.setIfInBounds_toArray, List.set_cons_zero, List.set_cons_succ]
          refine wpAnyH_take (i := 3) (oi := { dst := some 56, op := Go.Op.load 23 (Go.Operand.tmp 55), type := 23, pos := "laws.go:1013", after := #[{ on := 2, ground := Go.Ground.data }], guard := none }) (v := ?vv_u3_3) rfl (by kernel_rfl) (by kernel_rfl) (by kernel_rfl) (fun _ _ _ h => h) (Or.inl ⟨by rfl, ?hy_u3_3⟩) (by assumption) ?rest_u3_3
          case hy_u3_3 => (intro w hSw; (try dsimp only at hSw); first | (go_simp; done) | (go_simp; with_reducible rfl))
          try simp only [Act.put, List.setIfInBounds_toArray, List.set_cons_zero, List.set_cons_succ]
          refine wpAnyH_take (i := 4) (oi := { dst := some 57, op := Go.Op.move (Go.Operand.tmp 8), type := 22, pos := "laws.go:1013", after := #[], guard := none }) (v := ?vv_u3_4) rfl (by kernel_rfl) (by kernel_rfl) (by kernel_rfl) (fun _ _ _ h => h) (Or.inl ⟨by rfl, ?hy_u3_4⟩) (by assumption) ?rest_u3_4
          case hy_u3_4 => (intro w hSw; (try dsimp only at hSw); first | (go_simp; done) | (go_simp; with_reducible rfl))
          try simp only [Act.put, List.setIfInBounds_toArray, List.set_cons_zero, List.set_cons_succ]
          refine wpAnyH_take (i := 5) (oi := { dst := some 58, op := Go.Op.move (Go.Operand.tmp 9), type := 3, pos := "laws.go:1013", after := #[], guard := none }) (v := ?vv_u3_5) rfl (by kernel_rfl) (by kernel_rfl) (by kernel_rfl) (fun _ _ _ h => h) (Or.inl ⟨by rfl, ?hy_u3_5⟩) (by assumption) ?rest_u3_5
          case hy_u3_5 => (intro w hSw; (try dsimp only at hSw); first | (go_simp; done) | (go_simp; with_reducible rfl))
          try simp only [Act.put, List.setIfInBounds_toArray, List.set_cons_zero, List.set_cons_succ]
          refine wpAnyH_take (i := 6) (oi := { dst := some 59, op := Go.Op.indexAddr 22 (Go.Operand.tmp 57) (Go.Operand.tmp 58), type := 0, pos := "laws.go:1013", after := #[{ on := 4, ground := Go.Ground.data }, { on := 5, ground := Go.Ground.data }], guard := none }) (v := ?vv_u3_6) rfl (by kernel_rfl) (by kernel_rfl) (by kernel_rfl) (fun _ _ _ h => h) (Or.inl ⟨by rfl, ?hy_u3_6⟩) (by assumption) ?rest_u3_6
          case hy_u3_6 => (intro w hSw; (try dsimp only at hSw); first | (go_simp; done) | (go_simp; with_reducible rfl))
          try simp only [Act.put, List.setIfInBounds_toArray, List.set_cons_zero, List.set_cons_succ]
          refine wpAnyH_take (i := 7) (oi := { dst := some 60, op := Go.Op.load 23 (Go.Operand.tmp 59), type := 23, pos := "laws.go:1013", after := #[{ on := 6, ground := Go.Ground.data }], guard := none }) (v := ?vv_u3_7) rfl (by kernel_rfl) (by kernel_rfl) (by kernel_rfl) (fun _ _ _ h => h) (Or.inl ⟨by rfl, ?hy_u3_7⟩) (by assumption) ?rest_u3_7
          case hy_u3_7 => (intro w hSw; (try dsimp only at hSw); first | (go_simp; done) | (go_simp; with_reducible rfl))
          try simp only [Act.put, List.setIfInBounds_toArray, List.set_cons_zero, List.set_cons_succ]
          refine wpAnyH_take (i := 8) (oi := { dst := some 61, op := Go.Op.binOp Go.BinOp.neq 23 (Go.Operand.tmp 56) (Go.Operand.tmp 60) 23, type := 4, pos := "laws.go:1013", after := #[{ on := 3, ground := Go.Ground.data }, { on := 7, ground := Go.Ground.data }], guard := none }) (v := .bool false) rfl (by kernel_rfl) (by kernel_rfl) (by kernel_rfl) (fun _ _ _ h => h) (Or.inl ⟨by rfl, ?hy_u3_8⟩) (by assumption) ?rest_u3_8
          case hy_u3_8 => (intro w hSw; (try dsimp only at hSw); first | (go_simp; done) | (go_simp; with_reducible rfl))
          try simp only [Act.put, List.setIfInBounds_toArray, List.set_cons_zero, List.set_cons_succ]
          refine wpAnyH_take (i := 9) (oi := { dst := some 62, op := Go.Op.move (Go.Operand.tmp 61), type := 4, pos := "laws.go:1013", after := #[{ on := 8, ground := Go.Ground.data }], guard := none }) (v := .bool false) rfl (by kernel_rfl) (by kernel_rfl) (by kernel_rfl) (fun _ _ _ h => h) (Or.inl ⟨by rfl, ?hy_u3_9⟩) (by assumption) ?rest_u3_9
          case hy_u3_9 => (intro w hSw; (try dsimp only at hSw); first | (go_simp; done) | (go_simp; with_reducible rfl))
          try simp only [Act.put, List.setIfInBounds_toArray, List.set_cons_zero, List.set_cons_succ]
          refine wpAnyH_take (i := 10) (oi := { dst := some 63, op := Go.Op.move (Go.Operand.tmp 7), type := 22, pos := "laws.go:1013", after := #[{ on := 9, ground := Go.Ground.guard }], guard := some (9, true) }) (v := undef) rfl (by kernel_rfl) (by kernel_rfl) (by kernel_rfl) (fun _ _ _ h => h) (Or.inr ⟨by rfl, rfl⟩) (by assumption) ?_
          try simp only [Act.put, List.setIfInBounds_toArray, List.set_cons_zero, List.set_cons_succ]
          refine wpAnyH_take (i := 11) (oi := { dst := some 64, op := Go.Op.move (Go.Operand.tmp 9), type := 3, pos := "laws.go:1013", after := #[{ on := 9, ground := Go.Ground.guard }], guard := some (9, true) }) (v := undef) rfl (by kernel_rfl) (by kernel_rfl) (by kernel_rfl) (fun _ _ _ h => h) (Or.inr ⟨by rfl, rfl⟩) (by assumption) ?_
          try simp only [Act.put, List.setIfInBounds_toArray, List.set_cons_zero, List.set_cons_succ]
          refine wpAnyH_take (i := 12) (oi := { dst := some 65, op := Go.Op.indexAddr 22 (Go.Operand.tmp 63) (Go.Operand.tmp 64), type := 0, pos := "laws.go:1013", after := #[{ on := 10, ground := Go.Ground.data }, { on := 11, ground := Go.Ground.data }, { on := 9, ground := Go.Ground.guard }], guard := some (9, true) }) (v := undef) rfl (by kernel_rfl) (by kernel_rfl) (by kernel_rfl) (fun _ _ _ h => h) (Or.inr ⟨by rfl, rfl⟩) (by assumption) ?_
          try simp only [Act.put, List.setIfInBounds_toArray, List.set_cons_zero, List.set_cons_succ]
          refine wpAnyH_take (i := 13) (oi := { dst := some 66, op := Go.Op.load 23 (Go.Operand.tmp 65), type := 23, pos := "laws.go:1013", after := #[{ on := 12, ground := Go.Ground.data }, { on := 9, ground := Go.Ground.guard }], guard := some (9, true) }) (v := undef) rfl (by kernel_rfl) (by kernel_rfl) (by kernel_rfl) (fun _ _ _ h => h) (Or.inr ⟨by rfl, rfl⟩) (by assumption) ?_
          try simp only [Act.put, List.setIfInBounds_toArray, List.set_cons_zero, List.set_cons_succ]
          refine wpAnyH_take (i := 14) (oi := { dst := some 67, op := Go.Op.move (Go.Operand.tmp 7), type := 22, pos := "laws.go:1013", after := #[{ on := 9, ground := Go.Ground.guard }], guard := some (9, true) }) (v := undef) rfl (by kernel_rfl) (by kernel_rfl) (by kernel_rfl) (fun _ _ _ h => h) (Or.inr ⟨by rfl, rfl⟩) (by assumption) ?_
          try simp only [Act.put, List.setIfInBounds_toArray, List.set_cons_zero, List.set_cons_succ]
          refine wpAnyH_take (i := 15) (oi := { dst := some 68, op := Go.Op.move (Go.Operand.tmp 9), type := 3, pos := "laws.go:1013", after := #[{ on := 9, ground := Go.Ground.guard }], guard := some (9, true) }) (v := undef) rfl (by kernel_rfl) (by kernel_rfl) (by kernel_rfl) (fun _ _ _ h => h) (Or.inr ⟨by rfl, rfl⟩) (by assumption) ?_
          try simp only [Act.put, List.setIfInBounds_toArray, List.set_cons_zero, List.set_cons_succ]
          refine wpAnyH_take (i := 16) (oi := { dst := some 69, op := Go.Op.indexAddr 22 (Go.Operand.tmp 67) (Go.Operand.tmp 68), type := 0, pos := "laws.go:1013", after := #[{ on := 14, ground := Go.Ground.data }, { on := 15, ground := Go.Ground.data }, { on := 9, ground := Go.Ground.guard }], guard := some (9, true) }) (v := undef) rfl (by kernel_rfl) (by kernel_rfl) (by kernel_rfl) (fun _ _ _ h => h) (Or.inr ⟨by rfl, rfl⟩) (by assumption) ?_
          try simp only [Act.put, List.setIfInBounds_toArray, List.set_cons_zero, List.set_cons_succ]
          refine wpAnyH_take (i := 17) (oi := { dst := some 70, op := Go.Op.load 23 (Go.Operand.tmp 69), type := 23, pos := "laws.go:1013", after := #[{ on := 16, ground := Go.Ground.data }, { on := 9, ground := Go.Ground.guard }], guard := some (9, true) }) (v := undef) rfl (by kernel_rfl) (by kernel_rfl) (by kernel_rfl) (fun _ _ _ h => h) (Or.inr ⟨by rfl, rfl⟩) (by assumption) ?_
          try simp only [Act.put, List.setIfInBounds_toArray, List.set_cons_zero, List.set_cons_succ]
          refine wpAnyH_take (i := 18) (oi := { dst := some 71, op := Go.Op.binOp Go.BinOp.eql 23 (Go.Operand.tmp 66) (Go.Operand.tmp 70) 23, type := 4, pos := "laws.go:1013", after := #[{ on := 13, ground := Go.Ground.data }, { on := 17, ground := Go.Ground.data }, { on := 9, ground := Go.Ground.guard }], guard := some (9, true) }) (v := undef) rfl (by kernel_rfl) (by kernel_rfl) (by kernel_rfl) (fun _ _ _ h => h) (Or.inr ⟨by rfl, rfl⟩) (by assumption) ?_
          try simp only [Act.put, List.setIfInBounds_toArray, List.set_cons_zero, List.set_cons_succ]
          refine wpAnyH_take (i := 19) (oi := { dst := some 72, op := Go.Op.move (Go.Operand.tmp 71), type := 4, pos := "laws.go:1013", after := #[{ on := 18, ground := Go.Ground.data }, { on := 9, ground := Go.Ground.chain }, { on := 9, ground := Go.Ground.guard }], guard := some (9, true) }) (v := undef) rfl (by kernel_rfl) (by kernel_rfl) (by kernel_rfl) (fun _ _ _ h => h) (Or.inr ⟨by rfl, rfl⟩) (by assumption) ?_
          try simp only [Act.put, List.setIfInBounds_toArray, List.set_cons_zero, List.set_cons_succ]
          refine wpAnyH_take (i := 20) (oi := { dst := some 73, op := Go.Op.move (Go.Operand.tmp 8), type := 22, pos := "laws.go:1013", after := #[{ on := 19, ground := Go.Ground.guard }], guard := some (19, false) }) (v := undef) rfl (by kernel_rfl) (by kernel_rfl) (by kernel_rfl) (fun _ _ _ h => h) (Or.inr ⟨by rfl, rfl⟩) (by assumption) ?_
          try simp only [Act.put, List.setIfInBounds_toArray, List.set_cons_zero, List.set_cons_succ]
          refine wpAnyH_take (i := 21) (oi := { dst := some 74, op := Go.Op.move (Go.Operand.tmp 9), type := 3, pos := "laws.go:1013", after := #[{ on := 19, ground := Go.Ground.guard }], guard := some (19, false) }) (v := undef) rfl (by kernel_rfl) (by kernel_rfl) (by kernel_rfl) (fun _ _ _ h => h) (Or.inr ⟨by rfl, rfl⟩) (by assumption) ?_
          try simp only [Act.put, List.setIfInBounds_toArray, List.set_cons_zero, List.set_cons_succ]
          refine wpAnyH_take (i := 22) (oi := { dst := some 75, op := Go.Op.indexAddr 22 (Go.Operand.tmp 73) (Go.Operand.tmp 74), type := 0, pos := "laws.go:1013", after := #[{ on := 20, ground := Go.Ground.data }, { on := 21, ground := Go.Ground.data }, { on := 19, ground := Go.Ground.guard }], guard := some (19, false) }) (v := undef) rfl (by kernel_rfl) (by kernel_rfl) (by kernel_rfl) (fun _ _ _ h => h) (Or.inr ⟨by rfl, rfl⟩) (by assumption) ?_
          try simp only [Act.put, List.setIfInBounds_toArray, List.set_cons_zero, List.set_cons_succ]
          refine wpAnyH_take (i := 23) (oi := { dst := some 76, op := Go.Op.load 23 (Go.Operand.tmp 75), type := 23, pos := "laws.go:1013", after := #[{ on := 22, ground := Go.Ground.data }, { on := 19, ground := Go.Ground.guard }], guard := some (19, false) }) (v := undef) rfl (by kernel_rfl) (by kernel_rfl) (by kernel_rfl) (fun _ _ _ h => h) (Or.inr ⟨by rfl, rfl⟩) (by assumption) ?_
          try simp only [Act.put, List.setIfInBounds_toArray, List.set_cons_zero, List.set_cons_succ]
          refine wpAnyH_take (i := 24) (oi := { dst := some 77, op := Go.Op.move (Go.Operand.tmp 8), type := 22, pos := "laws.go:1013", after := #[{ on := 19, ground := Go.Ground.guard }], guard := some (19, false) }) (v := undef) rfl (by kernel_rfl) (by kernel_rfl) (by kernel_rfl) (fun _ _ _ h => h) (Or.inr ⟨by rfl, rfl⟩) (by assumption) ?_
          try simp only [Act.put, List.setIfInBounds_toArray, List.set_cons_zero, List.set_cons_succ]
          refine wpAnyH_take (i := 25) (oi := { dst := some 78, op := Go.Op.move (Go.Operand.tmp 9), type := 3, pos := "laws.go:1013", after := #[{ on := 19, ground := Go.Ground.guard }], guard := some (19, false) }) (v := undef) rfl (by kernel_rfl) (by kernel_rfl) (by kernel_rfl) (fun _ _ _ h => h) (Or.inr ⟨by rfl, rfl⟩) (by assumption) ?_
          try simp only [Act.put, List.setIfInBounds_toArray, List.set_cons_zero, List.set_cons_succ]
          refine wpAnyH_take (i := 26) (oi := { dst := some 79, op := Go.Op.indexAddr 22 (Go.Operand.tmp 77) (Go.Operand.tmp 78), type := 0, pos := "laws.go:1013", after := #[{ on := 24, ground := Go.Ground.data }, { on := 25, ground := Go.Ground.data }, { on := 19, ground := Go.Ground.guard }], guard := some (19, false) }) (v := undef) rfl (by kernel_rfl) (by kernel_rfl) (by kernel_rfl) (fun _ _ _ h => h) (Or.inr ⟨by rfl, rfl⟩) (by assumption) ?_
          try simp only [Act.put, List.setIfInBounds_toArray, List.set_cons_zero, List.set_cons_succ]
          refine wpAnyH_take (i := 27) (oi := { dst := some 80, op := Go.Op.load 23 (Go.Operand.tmp 79), type := 23, pos := "laws.go:1013", after := #[{ on := 26, ground := Go.Ground.data }, { on := 19, ground := Go.Ground.guard }], guard := some (19, false) }) (v := undef) rfl (by kernel_rfl) (by kernel_rfl) (by kernel_rfl) (fun _ _ _ h => h) (Or.inr ⟨by rfl, rfl⟩) (by assumption) ?_
          try simp only [Act.put, List.setIfInBounds_toArray, List.set_cons_zero, List.set_cons_succ]
          refine wpAnyH_take (i := 28) (oi := { dst := some 81, op := Go.Op.binOp Go.BinOp.eql 23 (Go.Operand.tmp 76) (Go.Operand.tmp 80) 23, type := 4, pos := "laws.go:1013", after := #[{ on := 23, ground := Go.Ground.data }, { on := 27, ground := Go.Ground.data }, { on := 19, ground := Go.Ground.guard }], guard := some (19, false) }) (v := undef) rfl (by kernel_rfl) (by kernel_rfl) (by kernel_rfl) (fun _ _ _ h => h) (Or.inr ⟨by rfl, rfl⟩) (by assumption) ?_
          try simp only [Act.put, List.setIfInBounds_toArray, List.set_cons_zero, List.set_cons_succ]
          refine wpAnyH_take (i := 29) (oi := { dst := some 82, op := Go.Op.pick (Go.Operand.tmp 72) (Go.Operand.const (Go.Value.bool true)) (Go.Operand.tmp 81), type := 4, pos := "laws.go:1013", after := #[{ on := 19, ground := Go.Ground.data }, { on := 28, ground := Go.Ground.data }, { on := 9, ground := Go.Ground.guard }], guard := some (9, true) }) (v := undef) rfl (by kernel_rfl) (by kernel_rfl) (by kernel_rfl) (fun _ _ _ h => h) (Or.inr ⟨by rfl, rfl⟩) (by assumption) ?_
          try simp only [Act.put, List.setIfInBounds_toArray, List.set_cons_zero, List.set_cons_succ]
          refine wpAnyH_take (i := 30) (oi := { dst := some 83, op := Go.Op.pick (Go.Operand.tmp 62) (Go.Operand.tmp 82) (Go.Operand.const (Go.Value.bool false)), type := 4, pos := "laws.go:1013", after := #[{ on := 9, ground := Go.Ground.data }, { on := 29, ground := Go.Ground.data }], guard := none }) (v := .bool false) rfl (by kernel_rfl) (by kernel_rfl) (by kernel_rfl) (fun _ _ _ h => h) (Or.inl ⟨by rfl, ?hy_u3_30⟩) (by assumption) ?rest_u3_30
          case hy_u3_30 => (intro w hSw; (try dsimp only at hSw); first | (go_simp; done) | (go_simp; with_reducible rfl))
          try simp only [Act.put, List.setIfInBounds_toArray, List.set_cons_zero, List.set_cons_succ]
          refine wpAnyH_done (by kernel_rfl) ?_ _
          all_goals go_wp2
          all_goals (go_roundg (m.length - (i + 1)); (case measure => (have := HK.out; omega)); (case rel => exact ⟨i + 1, ⟨by omega, by omega⟩, by go_num, ⟨(by repeat (first | (with_reducible first | exact HB.out | apply below_alloc | apply pw_below_drewN | apply below_drew1) | exact HB.out))⟩, ⟨(Kd.C_below HX.out (by repeat (first | exact Below.refl _ _ | apply below_alloc | apply pw_below_drewN | apply below_drew1)))⟩, ⟨(Kd.C_below HAM.out (by repeat (first | exact Below.refl _ _ | apply below_alloc | apply pw_below_drewN | apply below_drew1)))⟩, ⟨(Kd.C_below HAN.out (by repeat (first | exact Below.refl _ _ | apply below_alloc | apply pw_below_drewN | apply below_drew1)))⟩⟩))
      · have hltb : decide ((i : Int) < (m.length : Int)) = false := decide_eq_false (by omega)
        have hm1 := mixF_one xs (cv x2)
        by_cases hs : xs.length ≤ 4096
        · have c1 : decide ((xs.length : Int) > 4096) = false := decide_eq_false (by omega)
          obtain ⟨hol, hog⟩ := hm1.1 hs
          clear hm1
          have HOL := Aside0.mk hol
          have HOG := Aside0.mk hog
          clear hol hog
          go_wp2_with (first | ((with_reducible refine gate_dst (N := 85) rfl ?_); (try (refine gate_guard (by rfl) ?_; dsimp only)); refine Kd.R_lit Kf _ 23 ?hg (N := 85) ?hd (xs := ([] : List Fl)) (inner := []) (ok := fun _ => True) (okp := fun _ => True) ?hr ?hp (fun _ hk => hk) trivial (Below.refl _ _) (Nat.le_refl _) (by simp) ?_; (case hd => rfl); (case hg => rfl); (case hr => first | (go_simp; done) | (go_simp; rfl)); (case hp => exact (Reps.none _ _)); intro vl_ wl_ hol_ hb_ hg_ hnew_; clear hg_ hnew_; obtain ⟨AZ, cZ, eZ_, hlZ_, hCZ_⟩ := Kd.R_reads hol_; subst eZ_; have HAZ := Aside0.mk hCZ_; have HLZ := Aside0.mk hlZ_; have n1_ := Aside0.mk (below_step (by repeat (first | (with_reducible first | exact HB.out | apply below_alloc | apply pw_below_drewN | apply below_drew1) | exact HB.out)) hb_); clear HB; have HB := n1_; clear n1_ hol_ hCZ_ hlZ_; have n3_ := Aside0.mk (Kd.C_below (Kd.C_below HX.out (by repeat (first | exact Below.refl _ _ | apply below_alloc | apply pw_below_drewN | apply below_drew1))) hb_); clear HX; have HX := n3_; clear n3_; clear hb_) | (go_at_call 26; (refine (impl_Mix.calls AX cX xs AZ cZ [] 4607182418800017408 x2 (mixF xs [] (cv 4607182418800017408) (cv x2)) _ ?s1 ?t1 ?s2 ?t2 rfl).mono ?_); (case s1 => exact Kd.C_below HX.out (by repeat (first | exact Below.refl _ _ | apply below_alloc | apply pw_below_drewN | apply below_drew1))); (case s2 => exact Kd.C_below HAZ.out (by repeat (first | exact Below.refl _ _ | apply below_alloc | apply pw_below_drewN | apply below_drew1))); (case t1 => exact HLX.out); (case t2 => exact HLZ.out); rintro e wk_ ⟨vk_, rfl, ho_, hb_⟩; obtain ⟨AO, cAO, rfl, hlAO, hC_⟩ := Kd.R_reads ho_; have HAO := Aside0.mk hC_; have n1_ := Aside0.mk (below_step (by repeat (first | (with_reducible first | exact HB.out | apply below_alloc | apply pw_below_drewN | apply below_drew1) | exact HB.out)) hb_); clear HB; have HB := n1_; clear n1_ ho_ hC_ hlAO; have n3_ := Aside0.mk (Kd.C_below (Kd.C_below HX.out (by repeat (first | exact Below.refl _ _ | apply below_alloc | apply pw_below_drewN | apply below_drew1))) hb_); clear HX; have HX := n3_; clear n3_; clear hb_))
          unfold one at HOL HOG
          generalize mixF xs [] (cv 4607182418800017408) (cv x2) = o at HOL HOG HAO ⊢
          go_loopg [11] xs.length (fun gg v11 w' => ∃ i : Nat, Aside0 (i ≤ xs.length ∧ xs.length - i ≤ gg) ∧ v11 = .int .i64 (i : Int) ∧ Aside0 (Below w.heap.size w w') ∧ Aside0 (Kf.C w' AX xs.length xs) ∧ Aside0 (Kf.C w' AO o.length o))
          case atStart => exact ⟨0, ⟨Nat.zero_le _, Nat.le_refl _⟩, rfl, HB, HX, HAO⟩
          case round =>
            clear HB HX HAO HAM HAN hltb hlt HK
            obtain ⟨i, HK, rfl, HB, HX, HAO⟩ := hrel
            by_cases hlt : i < xs.length
            · have hltb : decide ((i : Int) < (xs.length : Int)) = true := decide_eq_true (by omega)
              have p3 : (0 ≤ (i : Int)) = True := eq_true (by omega)
              have q1 : ((i : Int) < (o.length : Int)) = True := eq_true (by have := HOL.out; omega)
              have q2 : ((i : Int) < (xs.length : Int)) = True := eq_true (by omega)
              obtain ⟨ad1, b1, e1, hx1, hb1⟩ := at_f HAO.out (i : Int) (by omega) (by have := HOL.out; omega)
              obtain ⟨ad2, b2, e2, hx2, hb2⟩ := at_f HX.out (i : Int) (by omega) (by omega)
              cases e1
              cases e2
              rw [HOG.out i hlt, ← hb2] at hb1
              have HLK := Aside0.mk (like_mul_one hb1)
              clear hb1 hb2
              simp only [Int.toNat_natCast] at hx1 hx2
              go_wp2
              go_region_held3 (fun w' => w'.cell? (ad1.add i) = some (.float .f64 b1) ∧ w'.cell? (ad2.add i) = some (.float .f64 b2)) (go_keep) ((go_at_call 32; (with_reducible refine (laws_likeFloat.calls b1 b2 _ HLK.out).mono ?_); rintro e wk_ ⟨rfl, ⟨nd_, rfl⟩⟩))
              all_goals go_wp2
              all_goals (go_roundg (xs.length - (i + 1)); (case measure => (have := HK.out; omega)); (case rel => exact ⟨i + 1, ⟨by omega, by omega⟩, by go_num, ⟨(by repeat (first | (with_reducible first | exact HB.out | apply below_alloc | apply pw_below_drewN | apply below_drew1) | exact HB.out))⟩, ⟨(Kd.C_below HX.out (by repeat (first | exact Below.refl _ _ | apply below_alloc | apply pw_below_drewN | apply below_drew1)))⟩, ⟨(Kd.C_below HAO.out (by repeat (first | exact Below.refl _ _ | apply below_alloc | apply pw_below_drewN | apply below_drew1)))⟩⟩))
            · have hltb : decide ((i : Int) < (xs.length : Int)) = false := decide_eq_false (by omega)
              have q1 : ((o.length : Int) == (xs.length : Int)) = true := by rw [HOL.out]; simp
              have q2 := HOL.out
              go_wp2
              go_ret
              exact ⟨by first | rfl | simp [q2] | simp [q1], (by repeat (first | (with_reducible first | exact HB.out | apply below_alloc | apply pw_below_drewN | apply below_drew1) | exact HB.out))⟩
        · have c1 : decide ((xs.length : Int) > 4096) = true := decide_eq_true (by omega)
          have hol := hm1.2 hs
          unfold one at hol
          have HOL := Aside0.mk hol
          clear hm1 hol
          go_wp2_with (first | ((with_reducible refine gate_dst (N := 85) rfl ?_); (try (refine gate_guard (by rfl) ?_; dsimp only)); refine Kd.R_lit Kf _ 23 ?hg (N := 85) ?hd (xs := ([] : List Fl)) (inner := []) (ok := fun _ => True) (okp := fun _ => True) ?hr ?hp (fun _ hk => hk) trivial (Below.refl _ _) (Nat.le_refl _) (by simp) ?_; (case hd => rfl); (case hg => rfl); (case hr => first | (go_simp; done) | (go_simp; rfl)); (case hp => exact (Reps.none _ _)); intro vl_ wl_ hol_ hb_ hg_ hnew_; clear hg_ hnew_; obtain ⟨AZ, cZ, eZ_, hlZ_, hCZ_⟩ := Kd.R_reads hol_; subst eZ_; have HAZ := Aside0.mk hCZ_; have HLZ := Aside0.mk hlZ_; have n1_ := Aside0.mk (below_step (by repeat (first | (with_reducible first | exact HB.out | apply below_alloc | apply pw_below_drewN | apply below_drew1) | exact HB.out)) hb_); clear HB; have HB := n1_; clear n1_ hol_ hCZ_ hlZ_; have n3_ := Aside0.mk (Kd.C_below (Kd.C_below HX.out (by repeat (first | exact Below.refl _ _ | apply below_alloc | apply pw_below_drewN | apply below_drew1))) hb_); clear HX; have HX := n3_; clear n3_; clear hb_) | (go_at_call 26; (refine (impl_Mix.calls AX cX xs AZ cZ [] 4607182418800017408 x2 (mixF xs [] (cv 4607182418800017408) (cv x2)) _ ?s1 ?t1 ?s2 ?t2 rfl).mono ?_); (case s1 => exact Kd.C_below HX.out (by repeat (first | exact Below.refl _ _ | apply below_alloc | apply pw_below_drewN | apply below_drew1))); (case s2 => exact Kd.C_below HAZ.out (by repeat (first | exact Below.refl _ _ | apply below_alloc | apply pw_below_drewN | apply below_drew1))); (case t1 => exact HLX.out); (case t2 => exact HLZ.out); rintro e wk_ ⟨vk_, rfl, ho_, hb_⟩; obtain ⟨AO, cAO, rfl, hlAO, hC_⟩ := Kd.R_reads ho_; have HAO := Aside0.mk hC_; have n1_ := Aside0.mk (below_step (by repeat (first | (with_reducible first | exact HB.out | apply below_alloc | apply pw_below_drewN | apply below_drew1) | exact HB.out)) hb_); clear HB; have HB := n1_; clear n1_ ho_ hC_ hlAO; have n3_ := Aside0.mk (Kd.C_below (Kd.C_below HX.out (by repeat (first | exact Below.refl _ _ | apply below_alloc | apply pw_below_drewN | apply below_drew1))) hb_); clear HX; have HX := n3_; clear n3_; clear hb_))
          go_ret
          exact ⟨by have := HOL.out; first | rfl | simp [this], (by repeat (first | (with_reducible first | exact HB.out | apply below_alloc | apply pw_below_drewN | apply below_drew1) | exact HB.out))⟩
  · have d0 : decide ((l0.length : Int) > 4096) = true := decide_eq_true (by omega)
    go_enter Try.func11, Try.ntmps11
    go_wp2_with (first | (go_at_call 30; (with_reducible refine (laws_big.calls A0 c0 l0 (decide ((l0.length : Int) > 4096)) _ HR0.out HC0.out rfl).mono ?_); rintro e wk_ ⟨rfl, ⟨nd_, rfl⟩⟩))
    go_ret
    exact ⟨rfl, (by repeat (first | (with_reducible first | exact HB.out | apply below_alloc | apply pw_below_drewN | apply below_drew1) | exact HB.out))⟩


end Go.Proofs.Ytofiabjphjpglaa.HFnMixed
