-- Laid by myprint.py, a program of this repo, out of the kit's printer and this repo's own texts (wip/hand).
import Derived.Test.YtofiabjphjpglaaHFnExactLoudx0
namespace Go.Proofs.Ytofiabjphjpglaa.HFnExactLoud
open Go.RowKit Go.Proofs.YtofiabjphjpglaaW.PrintWords Go.Proofs.YtofiabjphjpglaaW.PrintLast Go.Proofs.YtofiabjphjpglaaW.PrintMore Go.Proofs.Ytofiabjphjpglaa.Fl
attribute [local go_sem] max2_int min2_int max_two min_two max_three min_three max_four min_four   -- for this text's walks alone
set_option linter.unusedVariables false
set_option linter.unusedSimpArgs false

/-! ### laws_toFloat64S: function 14 -/


/-! ### laws_eqFloat64S: function 16 -/


/-! ### spec_Loud: function 27 -/


/-! ### impl_Loud: function 28 -/


/-! ### laws_sameFloat: function 29 -/


/-! ### laws_FnExactLoud: function 8 -/
def laws_FnExactLoud.f (l0 : List Fl) (a1 a2 : Nat) : Option Bool := some true
set_option maxHeartbeats 4000000 in
set_option maxRecDepth 100000 in
theorem laws_FnExactLoud.calls (A0 : Option Addr) (c0 : Nat) (l0 : List Fl) (a1 a2 : Nat) (r : Bool) (w : World) (hr0 : Kd.C Kf w A0 l0.length l0) (hc0 : l0.length ≤ c0) (h : laws_FnExactLoud.f l0 a1 a2 = some r) :
    Calls Try.prog 8 #[.slice A0 l0.length c0, .float .f64 a1, .float .f64 a2] w fun e w' => e = .returned (.bool r) ∧ Below w.heap.size w w' := by
  have HR0 := Aside0.mk hr0
  have HC0 := Aside0.mk hc0
  have HM0 := Aside0.mk hr0.2.1
  clear hr0 hc0
  have HB := Aside0.mk (Below.refl w.heap.size w)
  obtain rfl := Option.some.inj h
  clear h
  by_cases hl : l0.length ≤ 1048576
  · have d0 : decide ((l0.length : Int) > 1048576) = false := decide_eq_false (by omega)
    have HL := Aside0.mk hl
    have HT := Aside0.mk (show laws_toFloat64S.f l0 = some l0 by unfold laws_toFloat64S.f; rw [if_pos hl])
    clear hl
    go_enter Try.func8, Try.ntmps8
    go_wp2_with (first | (go_at_call 14; have hx_ := HX.out; clear hx_; (with_reducible refine (laws_toFloat64S.calls A0 c0 l0 l0 _ ?s1 HC0.out HT.out).mono ?_); (case s1 => exact Kd.C_below HR0.out (by repeat (first | (with_reducible first | exact HB.out | apply below_alloc | apply pw_below_drewN | apply below_drew1) | exact HB.out))); rintro e wk_ ⟨vk_, rfl, ho_, hb_⟩; obtain ⟨AK, cK, rfl, hcK, hCK⟩ := Kd.R_reads ho_; have HCK := Aside0.mk hCK; have HLK := Aside0.mk hcK; have n1_ := Aside0.mk (below_step (by repeat (first | (with_reducible first | exact HB.out | apply below_alloc | apply pw_below_drewN | apply below_drew1) | exact HB.out)) hb_); clear HB; have HB := n1_; clear n1_ ho_ hCK hcK; have HX2 := Aside0.mk (Kd.C_below (Kd.C_below HX.out (by repeat (first | exact Below.refl _ _ | apply pw_below_drewN | apply below_drew1))) hb_); clear HX; have HX := HX2; clear HX2; clear hb_) | (go_at_call 14; (with_reducible refine (laws_toFloat64S.calls A0 c0 l0 l0 _ ?s1 HC0.out HT.out).mono ?_); (case s1 => exact Kd.C_below HR0.out (by repeat (first | (with_reducible first | exact HB.out | apply below_alloc | apply pw_below_drewN | apply below_drew1) | exact HB.out))); rintro e wk_ ⟨vk_, rfl, ho_, hb_⟩; obtain ⟨AK, cK, rfl, hcK, hCK⟩ := Kd.R_reads ho_; have HCK := Aside0.mk hCK; have HLK := Aside0.mk hcK; have n1_ := Aside0.mk (below_step (by repeat (first | (with_reducible first | exact HB.out | apply below_alloc | apply pw_below_drewN | apply below_drew1) | exact HB.out)) hb_); clear HB; have HB := n1_; clear n1_ ho_ hCK hcK; skip; clear hb_) | (go_at_call 27; (with_reducible refine (spec_Loud.calls AK cK l0 a1 a2 (loudF l0 (cv a1) (cv a2)) _ ?s1 HLK.out ?s2).mono ?_); (case s1 => exact Kd.C_below HCK.out (by repeat (first | exact Below.refl _ _ | apply pw_below_drewN | apply below_drew1))); (case s2 => exact if_pos HL.out); rintro e wk_ ⟨bs, rfl, hv_, hb_⟩; have Hbs := Aside0.mk hv_; have n1_ := Aside0.mk (below_step (by repeat (first | (with_reducible first | exact HB.out | apply below_alloc | apply pw_below_drewN | apply below_drew1) | exact HB.out)) hb_); clear HB; have HB := n1_; clear n1_ hv_; skip; clear hb_) | (go_at_call 28; (with_reducible refine (impl_Loud.calls AK cK l0 a1 a2 (loudF l0 (cv a1) (cv a2)) _ ?s1 HLK.out ?s2).mono ?_); (case s1 => exact Kd.C_below HCK.out (by repeat (first | exact Below.refl _ _ | apply pw_below_drewN | apply below_drew1))); (case s2 => exact if_pos HL.out); rintro e wk_ ⟨bi, rfl, hv_, hb_⟩; have Hbi := Aside0.mk hv_; have n1_ := Aside0.mk (below_step (by repeat (first | (with_reducible first | exact HB.out | apply below_alloc | apply pw_below_drewN | apply below_drew1) | exact HB.out)) hb_); clear HB; have HB := n1_; clear n1_ hv_; have HX := Aside0.mk (Kd.C_below (Kd.C_below HCK.out (by repeat (first | exact Below.refl _ _ | apply pw_below_drewN | apply below_drew1))) hb_); have HLX := Aside0.mk HLK.out; obtain ⟨AX, hAX⟩ : ∃ AX, AX = AK := ⟨_, rfl⟩; obtain ⟨cX, hcX⟩ : ∃ cX, cX = cK := ⟨_, rfl⟩; subst hAX hcX; clear hb_) | (go_at_call 29; (with_reducible refine (laws_sameFloat.calls bi bs true _ ?s1).mono ?_); (case s1 => exact if_pos (Hbi.out.trans Hbs.out.symm)); rintro e wk_ ⟨rfl, hb_⟩; have HX2 := Aside0.mk (Kd.C_below (Kd.C_below HX.out (by repeat (first | exact Below.refl _ _ | apply pw_below_drewN | apply below_drew1))) hb_); clear HX; have HX := HX2; clear HX2; have n1_ := Aside0.mk (below_step (by repeat (first | (with_reducible first | exact HB.out | apply below_alloc | apply pw_below_drewN | apply below_drew1) | exact HB.out)) hb_); clear HB; have HB := n1_; clear n1_ hb_) | (go_at_call 16; (with_reducible refine (laws_eqFloat64S.calls _ _ l0 _ _ l0 true _ ?s1 ?s3 ?s2 HLK.out ?s4).mono ?_); (case s1 => exact Kd.C_below HX.out (by repeat (first | exact Below.refl _ _ | apply pw_below_drewN | apply below_drew1))); (case s3 => exact HLX.out); (case s2 => exact Kd.C_below HCK.out (by repeat (first | exact Below.refl _ _ | apply pw_below_drewN | apply below_drew1))); (case s4 => exact if_pos rfl); rintro e wk_ ⟨rfl, hb_⟩; have n1_ := Aside0.mk (below_step (by repeat (first | (with_reducible first | exact HB.out | apply below_alloc | apply pw_below_drewN | apply below_drew1) | exact HB.out)) hb_); clear HB; have HB := n1_; clear n1_ hb_))
    go_ret
    exact ⟨rfl, (by repeat (first | (with_reducible first | exact HB.out | apply below_alloc | apply pw_below_drewN | apply below_drew1) | exact HB.out))⟩
  · have d0 : decide ((l0.length : Int) > 1048576) = true := decide_eq_true (by omega)
    clear hl
    go_enter Try.func8, Try.ntmps8
    go_wp2
    go_ret
    exact ⟨rfl, HB.out⟩


end Go.Proofs.Ytofiabjphjpglaa.HFnExactLoud
