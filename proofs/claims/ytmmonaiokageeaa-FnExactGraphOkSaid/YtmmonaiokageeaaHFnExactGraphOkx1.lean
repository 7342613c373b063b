-- Laid by myprint.py, a program of this repo, out of the kit's printer and this repo's own texts (wip/hand).
import Derived.Test.YtmmonaiokageeaaHFnExactGraphOkx0
namespace Go.Proofs.Ytmmonaiokageeaa.HFnExactGraphOk
open Go.RowKit Go.Proofs.YtmmonaiokageeaaW.PrintWords Go.Proofs.YtmmonaiokageeaaW.PrintLast Go.Proofs.YtmmonaiokageeaaW.PrintMore Go.Proofs.Ytmmonaiokageeaa.Fl
attribute [local go_sem] max2_int min2_int max_two min_two max_three min_three max_four min_four   -- for this text's walks alone
set_option linter.unusedVariables false
set_option linter.unusedSimpArgs false

/-! ### laws_szNodeS: function 4 -/
def laws_szNodeS.f (l0 : List (S34)) (a1 : Int) : Option (Int) := if (wrap64 (a1 - (l0.length : Int))) < 0 then (some (-1)) else (some (wrap64 (a1 - (l0.length : Int))))
set_option maxHeartbeats 8000000 in
set_option maxRecDepth 100000 in
theorem laws_szNodeS.calls (A0 : Option Addr) (c0 : Nat) (l0 : List (S34)) (a1 : Int) (r : Int) (w : World) (hr0 : Kd.C k34 w A0 l0.length l0) (hc0 : l0.length ≤ c0) (h : laws_szNodeS.f l0 a1 = some r) :
    Calls Try.prog 4 #[.slice A0 l0.length c0, .int .i64 a1] w fun e w' => e = .returned (.int .i64 r) ∧ Drawn0 w w' := by
  have HR0 := Aside0.mk hr0
  have HC0 := Aside0.mk hc0
  clear hr0 hc0
  have H : (if (wrap64 (a1 - (l0.length : Int))) < 0 then (some (-1)) else (some (wrap64 (a1 - (l0.length : Int))))) = some r := h
  clear h
  by_cases c3 : (wrap64 (a1 - (l0.length : Int))) < 0
  · rw [if_pos c3] at H
    have c3b0 : decide ((wrap64 (a1 - (l0.length : Int))) < 0) = true := decide_eq_true c3
    clear c3
    obtain rfl := Option.some.inj H
    go_enter Try.func4, Try.ntmps4
    go_wp2
    go_ret
    exact ⟨by first | rfl | (simp; done) | (simp [*]; done), by repeat (first | exact Drawn0.refl _ | apply Drawn0.step)⟩
  · rw [if_neg c3] at H
    have c3b0 : decide ((wrap64 (a1 - (l0.length : Int))) < 0) = false := decide_eq_false c3
    clear c3
    obtain rfl := Option.some.inj H
    go_enter Try.func4, Try.ntmps4
    go_wp2
    go_ret
    exact ⟨by first | rfl | (simp; done) | (simp [*]; done), by repeat (first | exact Drawn0.refl _ | apply Drawn0.step)⟩

/-! ### spec_l10Node: function 9 -/
/-! ### a node: the rule, told plainly -/
def inB (x i : Int) : Bool := decide (0 ≤ x) && decide (x < i)
def nodeB (k x y : Int) (v : Nat) (i : Int) : Bool := if k = 1 then decide (x = 0) && (decide (y = 0) && decide (v = 0)) else if k = 2 ∨ k = 3 ∨ k = 5 then inB x i && decide (y = 0) else if k = 4 then inB x i && inB y i else if k = 6 ∨ k = 7 then inB x i && (decide (y = 0) && decide (v = 0)) else false
theorem quo0 (w : World) : Go.Proofs.Ytmmonaiokageeaa.Fl.bits .quo w 4607182418800017408 0 = 9218868437227405312 := rfl
theorem quo1 (w : World) : Go.Proofs.Ytmmonaiokageeaa.Fl.bits .quo w 4607182418800017408 9223372036854775808 = 18442240474082181120 := rfl
theorem cost0 : Go.Proofs.Ytmmonaiokageeaa.Fl.cost .quo 4607182418800017408 0 = 0 := rfl
theorem cost1 : Go.Proofs.Ytmmonaiokageeaa.Fl.cost .quo 4607182418800017408 9223372036854775808 = 0 := rfl
theorem inf_pos : (FloatKind.f64.format.order 9218868437227405312 0 == some Ordering.gt) = true := rfl
theorem inf_neg : (FloatKind.f64.format.order 18442240474082181120 0 == some Ordering.gt) = false := rfl
theorem nought0 : (FloatKind.f64.format.order 0 0 == some Ordering.eq) = true := rfl
theorem nought1 : (FloatKind.f64.format.order 9223372036854775808 0 == some Ordering.eq) = true := rfl
theorem number_nz (s : Bool) (m : Nat) (i : Int) (hm : m ≠ 0) : ((Ieee.Datum.number s m i).order (Ieee.double.read 0) == some Ordering.eq) = false := by
  have e : Ieee.double.read 0 = .number false 0 (-1074) := rfl
  rw [e]
  have key : ∀ a : Int, a ≠ 0 → (some (compare a 0) == some Ordering.eq) = false := by
    intro a ha
    by_cases h : a < 0
    · simp [compare, compareOfLessAndEq, h]
    · simp [compare, compareOfLessAndEq, h, ha]
  have z : ∀ k, Ieee.signed false 0 k = 0 := fun k => by simp [Ieee.signed]
  have nz : ∀ k, Ieee.signed s m k ≠ 0 := fun k => by
    have hk : 0 < m * 2 ^ k := Nat.mul_pos (Nat.pos_of_ne_zero hm) (Nat.two_pow_pos k)
    rw [← Nat.shiftLeft_eq] at hk
    unfold Ieee.signed
    cases s <;> simp only [Bool.false_eq_true, if_false, if_true] <;> omega
  simp only [Ieee.Datum.order, z]
  exact key _ (nz _)
theorem order_nought {v : Nat} (hv : v < 18446744073709551616) (h0 : v ≠ 0) (h1 : v ≠ 9223372036854775808) : (FloatKind.f64.format.order v 0 == some Ordering.eq) = false := by
  show ((Ieee.double.read v).order (Ieee.double.read 0) == some Ordering.eq) = false
  have hr : v % 9223372036854775808 ≠ 0 := by omega
  have e1 : Ieee.double.signWeight = 9223372036854775808 := rfl
  have e2 : Ieee.double.binade = 4503599627370496 := rfl
  have e3 : Ieee.double.infRung = 9218868437227405312 := rfl
  unfold Ieee.Format.read
  simp only [e1, e2, e3]
  generalize v % 9223372036854775808 = m at hr
  split
  · exact number_nz _ _ _ hr
  · split
    · exact number_nz _ _ _ (by omega)
    · split
      · cases (v / 9223372036854775808 % 2 == 1) <;> rfl
      · rfl
def spec_l10Node.f (a0_0 a0_1 a0_2 : Int) (a0_3 : Nat) (a1 : Int) : Option Bool := if a0_3 < 18446744073709551616 then some (nodeB a0_0 a0_1 a0_2 a0_3 a1) else none
set_option maxHeartbeats 8000000 in
set_option maxRecDepth 100000 in
theorem spec_l10Node.calls (a0_0 a0_1 a0_2 : Int) (a0_3 : Nat) (a1 : Int) (r : Bool) (w : World) (h : spec_l10Node.f a0_0 a0_1 a0_2 a0_3 a1 = some r) :
    Calls Try.prog 9 #[.agg #[.int .i64 a0_0, .int .i64 a0_1, .int .i64 a0_2, .float .f64 a0_3], .int .i64 a1] w fun e w' => e = .returned (.bool r) ∧ Below w.heap.size w w' := by
  have hu := Try.underlying32
  unfold spec_l10Node.f at h
  by_cases hv : a0_3 < 18446744073709551616
  · rw [if_pos hv] at h
    obtain rfl := Option.some.inj h
    clear h
    have HB := Aside0.mk (Below.refl w.heap.size w)
    have q0 := quo0
    have q1 := quo1
    have k0 := cost0
    have k1 := cost1
    have i0 := inf_pos
    have i1 := inf_neg
    have n0 := nought0
    have n1 := nought1
    have hz : a0_3 = 0 ∨ a0_3 = 9223372036854775808 ∨ (a0_3 ≠ 0 ∧ (FloatKind.f64.format.order a0_3 0 == some Ordering.eq) = false) := by
      by_cases h0 : a0_3 = 0
      · exact .inl h0
      · by_cases h1 : a0_3 = 9223372036854775808
        · exact .inr (.inl h1)
        · exact .inr (.inr ⟨h0, order_nought hv h0 h1⟩)
    clear hv
    rcases hz with rfl | rfl | ⟨hz0, hz⟩
    · go_enter Try.func9, Try.ntmps9
      go_wp2
      all_goals (go_ret; refine ⟨congrArg (fun b => Ending.returned (Value.bool b)) ?_, (by repeat (first | (with_reducible first | exact HB.out | apply below_alloc | apply pw_below_drewN | apply below_drew1) | exact HB.out))⟩; clear HB q0 q1 k0 k1 i0 i1 n0 n1)
      all_goals first | (simp_all [nodeB, inB]; done) | (simp_all [nodeB, inB]; omega) | (simp_all [nodeB, inB]; rfl) | (simp_all [nodeB, inB] <;> omega)
    · go_enter Try.func9, Try.ntmps9
      go_wp2
      all_goals (go_ret; refine ⟨congrArg (fun b => Ending.returned (Value.bool b)) ?_, (by repeat (first | (with_reducible first | exact HB.out | apply below_alloc | apply pw_below_drewN | apply below_drew1) | exact HB.out))⟩; clear HB q0 q1 k0 k1 i0 i1 n0 n1)
      all_goals first | (simp_all [nodeB, inB]; done) | (simp_all [nodeB, inB]; omega) | (simp_all [nodeB, inB]; rfl) | (simp_all [nodeB, inB] <;> omega)
    · go_enter Try.func9, Try.ntmps9
      go_wp2
      all_goals (go_ret; refine ⟨congrArg (fun b => Ending.returned (Value.bool b)) ?_, (by repeat (first | (with_reducible first | exact HB.out | apply below_alloc | apply pw_below_drewN | apply below_drew1) | exact HB.out))⟩; clear HB q0 q1 k0 k1 i0 i1 n0 n1)
      all_goals first | (simp_all [nodeB, inB]; done) | (simp_all [nodeB, inB]; omega) | (simp_all [nodeB, inB]; rfl) | (simp_all [nodeB, inB] <;> omega)
  · rw [if_neg hv] at h
    cases h


/-! ### spec_GraphOk: function 5 -/
mutual
def spec_GraphOk.j0 : Nat → List (S32) → Bool → Option (Bool)
  | 0, _, _ => none
  | k + 1, x0, x11 => if x11 = true then (some false) else (spec_GraphOk.l0 k x0 0)
def spec_GraphOk.l0 : Nat → List (S32) → Int → Option (Bool)
  | 0, _, _ => none
  | k + 1, x0, x3 => if x3 < (x0.length : Int) then (if 0 ≤ x3 then ((spec_l10Node.f ((rd_T32 x0 x3).f0) ((rd_T32 x0 x3).f1) ((rd_T32 x0 x3).f2) ((rd_T32 x0 x3).f3) x3).bind fun t102 => (if t102 = true then (spec_GraphOk.l0 k x0 (wrap64 (x3 + 1))) else (some false))) else (none)) else (some true)
end
def spec_GraphOk.f (k : Nat) (l0 : List (S32)) : Option (Bool) := if (l0.length : Int) < 1 then (spec_GraphOk.j0 k l0 true) else (spec_GraphOk.j0 k l0 (decide ((l0.length : Int) > 40)))
theorem spec_GraphOk.mono_l : ∀ k, (∀ y0 y1, LeO (spec_GraphOk.j0 k y0 y1) (spec_GraphOk.j0 (k + 1) y0 y1)) ∧ (∀ y0 y1, LeO (spec_GraphOk.l0 k y0 y1) (spec_GraphOk.l0 (k + 1) y0 y1))
  | 0 => ⟨fun _ _ r h => by simp [spec_GraphOk.j0] at h, fun _ _ r h => by simp [spec_GraphOk.l0] at h⟩
  | k + 1 => by
    obtain ⟨ih0, ih1⟩ := spec_GraphOk.mono_l k
    refine ⟨?_, ?_⟩
    · intro y0 y1
      unfold spec_GraphOk.j0
      repeat' first
      | (with_reducible exact ih0 _ _)
      | (with_reducible exact ih1 _ _)
      | (with_reducible exact LeO.refl _)
      | (with_reducible exact LeO.none _)
      | (with_reducible refine LeO.ite ?_ ?_)
      | (with_reducible refine LeO.bind ?_ (fun _ => ?_))
      | exact ih0 _ _
      | exact ih1 _ _
      | exact LeO.none _
      | refine LeO.ite ?_ ?_
      | refine LeO.bind ?_ (fun _ => ?_)
    · intro y0 y1
      unfold spec_GraphOk.l0
      repeat' first
      | (with_reducible exact ih0 _ _)
      | (with_reducible exact ih1 _ _)
      | (with_reducible exact LeO.refl _)
      | (with_reducible exact LeO.none _)
      | (with_reducible refine LeO.ite ?_ ?_)
      | (with_reducible refine LeO.bind ?_ (fun _ => ?_))
      | exact ih0 _ _
      | exact ih1 _ _
      | exact LeO.none _
      | refine LeO.ite ?_ ?_
      | refine LeO.bind ?_ (fun _ => ?_)
theorem spec_GraphOk.mono : ∀ a0 k, LeO (spec_GraphOk.f k a0) (spec_GraphOk.f (k + 1) a0) := by
  intro a0 k
  obtain ⟨ih0, ih1⟩ := spec_GraphOk.mono_l k
  unfold spec_GraphOk.f
  repeat' first
      | (with_reducible exact ih0 _ _)
      | (with_reducible exact ih1 _ _)
      | (with_reducible exact LeO.refl _)
      | (with_reducible exact LeO.none _)
      | (with_reducible refine LeO.ite ?_ ?_)
      | (with_reducible refine LeO.bind ?_ (fun _ => ?_))
      | exact ih0 _ _
      | exact ih1 _ _
      | exact LeO.none _
      | refine LeO.ite ?_ ?_
      | refine LeO.bind ?_ (fun _ => ?_)
set_option maxHeartbeats 8000000 in
set_option maxRecDepth 100000 in
theorem spec_GraphOk.calls (k : Nat) (A0 : Option Addr) (c0 : Nat) (l0 : List (S32)) (r : Bool) (w : World) (hr0 : Kd.C k32 w A0 l0.length l0) (hc0 : l0.length ≤ c0) (h : spec_GraphOk.f k l0 = some r) :
    Calls Try.prog 5 #[.slice A0 l0.length c0] w fun e w' => e = .returned (.bool r) ∧ Below w.heap.size w w' := by
  have hu32 := Try.underlying32
  have HR0 := Aside0.mk hr0
  have HC0 := Aside0.mk hc0
  clear hr0 hc0
  have HB := Aside0.mk (Below.refl w.heap.size w)
  have H : (if (l0.length : Int) < 1 then (spec_GraphOk.j0 k l0 true) else (spec_GraphOk.j0 k l0 (decide ((l0.length : Int) > 40)))) = some r := h
  clear h
  have HC2 := Aside0.mk H
  clear H
  go_enter Try.func5, Try.ntmps5
  go_upto_region 1 with (fail)
  go_cut [11] (fun v11 wc => ∃ (kq : Nat) (x11_1 : Bool), v11 = .bool x11_1 ∧ Aside0 (spec_GraphOk.j0 kq l0 x11_1 = some r) ∧ Aside0 (kq ≤ k) ∧ Aside0 (Below w.heap.size w wc))
  case first =>
    have H := HC2.out
    clear HC2
    by_cases c3 : (l0.length : Int) < 1
    · rw [if_pos c3] at H
      have c3b0 : decide ((l0.length : Int) < 1) = true := decide_eq_true c3
      have c3b1 : decide (l0.length < 1) = true := decide_eq_true (by omega)
      clear c3
      (first | rw [c3b0] | (simp only [i64_w, i32_w]; rw [c3b0]) | skip)
      have H' := Aside0.mk H
      clear H
      go_wp2
      go_meet
      case rel => exact ⟨_, (true), (by first | rfl | (simp; done) | (simp [*]; done)), H', ⟨by first | omega | exact Nat.le_refl _⟩, ⟨by repeat (first | (with_reducible first | exact HB.out | apply below_alloc | apply pw_below_drewN | apply below_drew1) | exact HB.out)⟩⟩
    · rw [if_neg c3] at H
      have c3b0 : decide ((l0.length : Int) < 1) = false := decide_eq_false c3
      have c3b1 : decide (l0.length < 1) = false := decide_eq_false (by omega)
      clear c3
      (first | rw [c3b0] | (simp only [i64_w, i32_w]; rw [c3b0]) | skip)
      have H' := Aside0.mk H
      clear H
      go_wp2
      go_meet
      case rel => exact ⟨_, (decide ((l0.length : Int) > 40)), (by first | rfl | (simp; done) | (simp [*]; done)), H', ⟨by first | omega | exact Nat.le_refl _⟩, ⟨by repeat (first | (with_reducible first | exact HB.out | apply below_alloc | apply pw_below_drewN | apply below_drew1) | exact HB.out)⟩⟩
  case rest =>
    clear HC2
    try clear p2
    try clear c3
    try clear c3b0
    try clear c3b1
    obtain ⟨kq, x11_1, rfl, HA, HJ1, HB⟩ := hcut
    cases kq with
    | zero => exact absurd HA.out (by simp [spec_GraphOk.j0])
    | succ kj1 =>
      have H := HA.out
      clear HA
      simp only [spec_GraphOk.j0] at H
      by_cases c4 : x11_1 = true
      · subst c4
        have H1 : (some false) = some r := by rw [if_pos rfl] at H; exact H
        clear H
        have H := H1
        clear H1
        obtain rfl := Option.some.inj H
        go_wp2
        go_ret
        exact ⟨by first | rfl | (simp [errW_none, errW_some] <;> rfl) | (simp [*, errW_none, errW_some] <;> rfl), by repeat (first | (with_reducible first | exact HB.out | apply below_alloc | apply pw_below_drewN | apply below_drew1) | exact HB.out)⟩
      · replace c4 := Bool.eq_false_iff.mpr c4
        subst c4
        have H1 : (spec_GraphOk.l0 kj1 l0 0) = some r := by rw [if_neg (show ¬ (false = true) by decide)] at H; exact H
        clear H
        have H := H1
        clear H1
        have H' := Aside0.mk H
        clear H
        go_wp2
        go_loopg [3] kj1 (fun kq v3 w' => ∃ (x3_2 : Int), v3 = .int .i64 x3_2 ∧ Aside0 (spec_GraphOk.l0 kq l0 x3_2 = some r) ∧ Aside0 (kq ≤ kj1) ∧ Aside0 (Below w.heap.size w w'))
        case atStart => exact ⟨(0), (by first | rfl | (simp; done) | (simp [*]; done)), H', ⟨Nat.le_refl _⟩, ⟨by repeat (first | (with_reducible first | exact HB.out | apply below_alloc | apply pw_below_drewN | apply below_drew1) | exact HB.out)⟩⟩
        case round =>
          clear H'
          try clear p2
          try clear c3
          try clear c3b0
          try clear c3b1
          try clear c4
          try clear p2
          obtain ⟨x3_2, rfl, HA, HK2, HB⟩ := hrel
          cases gk with
          | zero => exact absurd HA.out (by simp [spec_GraphOk.l0])
          | succ k2 =>
            have H := HA.out
            clear HA
            simp only [spec_GraphOk.l0] at H
            by_cases c5 : x3_2 < (l0.length : Int)
            · rw [if_pos c5] at H
              have c5b0 : decide (x3_2 < (l0.length : Int)) = true := decide_eq_true c5
              clear c5
              by_cases c6 : 0 ≤ x3_2
              · rw [if_pos c6] at H
                have c6b0 : decide (0 ≤ x3_2) = true := decide_eq_true c6
                clear c6
                replace H := Option.bind_eq_some_iff.mp H
                obtain ⟨t102, A70, H⟩ := H
                replace H : (if t102 = true then (spec_GraphOk.l0 k2 l0 (wrap64 (x3_2 + 1))) else (some false)) = some r := H
                have A7 := Aside0.mk A70
                clear A70
                by_cases c8 : t102 = true
                · subst c8
                  have H1 : (spec_GraphOk.l0 k2 l0 (wrap64 (x3_2 + 1))) = some r := by rw [if_pos rfl] at H; exact H
                  clear H
                  have H := H1
                  clear H1
                  have H' := Aside0.mk H
                  clear H
                  have p101 : 0 ≤ (x3_2 : Int) := of_decide_eq_true (by first | (with_reducible assumption) | assumption)
                  have q101 : x3_2 < (l0.length : Int) := of_decide_eq_true (by first | (with_reducible assumption) | assumption)
                  obtain ⟨ad101, e101, hx101_0, hx101_1, hx101_2, hx101_3⟩ := at_T32 HR0.out x3_2 p101 q101
                  cases e101
                  replace hx101_0 := (HB.out.cell (World.block_lt_of_cell? w _ hx101_0)).trans hx101_0
                  replace hx101_1 := (HB.out.cell (World.block_lt_of_cell? w _ hx101_1)).trans hx101_1
                  replace hx101_2 := (HB.out.cell (World.block_lt_of_cell? w _ hx101_2)).trans hx101_2
                  replace hx101_3 := (HB.out.cell (World.block_lt_of_cell? w _ hx101_3)).trans hx101_3
                  replace p101 := eq_true p101
                  replace q101 := eq_true q101
                  go_wp2_with (first | ((with_reducible refine gate_callee (f := 9) rfl ?_); refine goesL_ (some 23) rfl rfl Try.func9 (by kernel_rfl) rfl #[.agg #[.int .i64 ((rd_T32 l0 x3_2).f0), .int .i64 ((rd_T32 l0 x3_2).f1), .int .i64 ((rd_T32 l0 x3_2).f2), .float .f64 ((rd_T32 l0 x3_2).f3)], .int .i64 x3_2] rfl (by (try simp only [List.map_toArray, List.map_cons, List.map_nil]); first | done | rfl | (simp only [List.length_drop, List.length_take]; rfl)) ?_; (with_reducible refine (spec_l10Node.calls ((rd_T32 l0 x3_2).f0) ((rd_T32 l0 x3_2).f1) ((rd_T32 l0 x3_2).f2) ((rd_T32 l0 x3_2).f3) x3_2 true _ A7.out).mono ?_); rintro e w9 ⟨rfl, hb⟩; refine ⟨_, rfl, ?_⟩; have n0_ := Aside0.mk (below_step (by repeat (first | (with_reducible first | exact HB.out | apply below_alloc | apply pw_below_drewN | apply below_drew1) | exact HB.out)) hb); clear HB; have HB := n0_; clear n0_; (try clear hb); (try clear hb2); (try clear hk); (try clear hi)))
                  go_roundg k2
                  case measure => have := HJ1.out; have := HK2.out; omega
                  case rel => exact ⟨(wrap64 (x3_2 + 1)), (by first | rfl | (simp; done) | (simp [*]; done)), H', ⟨by have := HJ1.out; have := HK2.out; omega⟩, ⟨by repeat (first | (with_reducible first | exact HB.out | apply below_alloc | apply pw_below_drewN | apply below_drew1) | exact HB.out)⟩⟩
                · replace c8 := Bool.eq_false_iff.mpr c8
                  subst c8
                  have H1 : (some false) = some r := by rw [if_neg (show ¬ (false = true) by decide)] at H; exact H
                  clear H
                  have H := H1
                  clear H1
                  obtain rfl := Option.some.inj H
                  have p101 : 0 ≤ (x3_2 : Int) := of_decide_eq_true (by first | (with_reducible assumption) | assumption)
                  have q101 : x3_2 < (l0.length : Int) := of_decide_eq_true (by first | (with_reducible assumption) | assumption)
                  obtain ⟨ad101, e101, hx101_0, hx101_1, hx101_2, hx101_3⟩ := at_T32 HR0.out x3_2 p101 q101
                  cases e101
                  replace hx101_0 := (HB.out.cell (World.block_lt_of_cell? w _ hx101_0)).trans hx101_0
                  replace hx101_1 := (HB.out.cell (World.block_lt_of_cell? w _ hx101_1)).trans hx101_1
                  replace hx101_2 := (HB.out.cell (World.block_lt_of_cell? w _ hx101_2)).trans hx101_2
                  replace hx101_3 := (HB.out.cell (World.block_lt_of_cell? w _ hx101_3)).trans hx101_3
                  replace p101 := eq_true p101
                  replace q101 := eq_true q101
                  go_wp2_with (first | ((with_reducible refine gate_callee (f := 9) rfl ?_); refine goesL_ (some 23) rfl rfl Try.func9 (by kernel_rfl) rfl #[.agg #[.int .i64 ((rd_T32 l0 x3_2).f0), .int .i64 ((rd_T32 l0 x3_2).f1), .int .i64 ((rd_T32 l0 x3_2).f2), .float .f64 ((rd_T32 l0 x3_2).f3)], .int .i64 x3_2] rfl (by (try simp only [List.map_toArray, List.map_cons, List.map_nil]); first | done | rfl | (simp only [List.length_drop, List.length_take]; rfl)) ?_; (with_reducible refine (spec_l10Node.calls ((rd_T32 l0 x3_2).f0) ((rd_T32 l0 x3_2).f1) ((rd_T32 l0 x3_2).f2) ((rd_T32 l0 x3_2).f3) x3_2 false _ A7.out).mono ?_); rintro e w10 ⟨rfl, hb⟩; refine ⟨_, rfl, ?_⟩; have n0_ := Aside0.mk (below_step (by repeat (first | (with_reducible first | exact HB.out | apply below_alloc | apply pw_below_drewN | apply below_drew1) | exact HB.out)) hb); clear HB; have HB := n0_; clear n0_; (try clear hb); (try clear hb2); (try clear hk); (try clear hi)))
                  go_ret
                  exact ⟨by first | rfl | (simp [errW_none, errW_some] <;> rfl) | (simp [*, errW_none, errW_some] <;> rfl), by repeat (first | (with_reducible first | exact HB.out | apply below_alloc | apply pw_below_drewN | apply below_drew1) | exact HB.out)⟩
              · rw [if_neg c6] at H
                exact absurd H (by simp)
            · rw [if_neg c5] at H
              have c5b0 : decide (x3_2 < (l0.length : Int)) = false := decide_eq_false c5
              clear c5
              obtain rfl := Option.some.inj H
              go_wp2
              go_ret
              exact ⟨by first | rfl | (simp [errW_none, errW_some] <;> rfl) | (simp [*, errW_none, errW_some] <;> rfl), by repeat (first | (with_reducible first | exact HB.out | apply below_alloc | apply pw_below_drewN | apply below_drew1) | exact HB.out)⟩

/-! ### laws_toNode: function 10 -/
def laws_toNode.f (a0_0 : Int) (a0_1 : Int) (a0_2 : Int) (a0_3 : Nat) : Option (Int × Int × Int × Nat) := some (a0_0, a0_1, a0_2, a0_3)
set_option maxHeartbeats 8000000 in
set_option maxRecDepth 100000 in
theorem laws_toNode.calls (a0_0 : Int) (a0_1 : Int) (a0_2 : Int) (a0_3 : Nat) (r1 : Int) (r2 : Int) (r3 : Int) (r4 : Nat) (w : World) (h : laws_toNode.f a0_0 a0_1 a0_2 a0_3 = some (r1, r2, r3, r4)) :
    Calls Try.prog 10 #[.agg #[.int .i64 a0_0, .int .i64 a0_1, .int .i64 a0_2, .float .f64 a0_3]] w fun e w' => e = .returned (.agg #[.int .i64 r1, .int .i64 r2, .int .i64 r3, .float .f64 r4]) ∧ Below w.heap.size w w' := by
  have hu34 := Try.underlying34
  have hu32 := Try.underlying32
  have HB := Aside0.mk (Below.refl w.heap.size w)
  have H : (some (a0_0, a0_1, a0_2, a0_3)) = some (r1, r2, r3, r4) := h
  clear h
  simp only [Option.some.injEq, Prod.mk.injEq] at H
  obtain ⟨rfl, rfl, rfl, rfl⟩ := H
  go_enter Try.func10, Try.ntmps10
  go_wp2_with (first | ((with_reducible refine gate_dst (N := 1) rfl ?_); refine box_event ?hg (N := 1) ?hd (cs := #[.int .i64 a0_0, .int .i64 a0_1, .int .i64 a0_2, .float .f64 a0_3]) (t := 34) ?hr ?_; (case hd => rfl); (case hg => rfl); (case hr => first | (go_simp; done) | (go_simp; rfl)); intro gb103 hg w2 hbox hb; have n0_ := Aside0.mk (below_step (by repeat (first | (with_reducible first | exact HB.out | apply below_alloc | apply pw_below_drewN | apply below_drew1) | exact HB.out)) hb); have n1_ := Aside0.mk (hbox); have n2_ := Aside0.mk ((by rw [hg]; exact (below_size (by repeat (first | (with_reducible first | exact HB.out | apply below_alloc | apply pw_below_drewN | apply below_drew1) | exact HB.out))) : w.heap.size ≤ gb103)); have n3_ := Aside0.mk ((by rw [hg]; exact (below_size (by repeat (first | (with_reducible first | exact HB.out | apply below_alloc | apply pw_below_drewN | apply below_drew1) | exact HB.out))) : w.heap.size ≤ gb103)); clear HB; have HB := n0_; have BK103 := n1_; have GW103 := n2_; have GE103 := n3_; clear n0_ n1_ n2_ n3_; clear hb hbox hg) | ((with_reducible refine gate_dst (N := 2) rfl ?_); refine box_event ?hg (N := 2) ?hd (cs := #[.int .i64 0, .int .i64 0, .int .i64 0, .float .f64 0]) (t := 32) ?hr ?_; (case hd => rfl); (case hg => rfl); (case hr => first | (go_simp; done) | (go_simp; rfl)); intro gb104 hg w3 hbox hb; have n0_ := Aside0.mk (blk_below (g := gb103) (o := .cells #[.int .i64 a0_0, .int .i64 a0_1, .int .i64 a0_2, .float .f64 a0_3] 34 (0, 0)) (by (with_reducible repeat (first | refine blk_drewN ?_ _ | refine blk_drew ?_ | refine blk_alloc ?_ _)); exact BK103.out) hb); have n1_ := Aside0.mk (below_step (by repeat (first | (with_reducible first | exact HB.out | apply below_alloc | apply pw_below_drewN | apply below_drew1 | refine below_set ?_ GE103.out) | exact HB.out)) hb); have n2_ := Aside0.mk (hbox); have n3_ := Aside0.mk ((by rw [hg]; exact (below_size (by repeat (first | (with_reducible first | exact HB.out | apply below_alloc | apply pw_below_drewN | apply below_drew1 | refine below_set ?_ GE103.out) | exact HB.out))) : w.heap.size ≤ gb104)); have n4_ := Aside0.mk ((by rw [hg]; exact (below_size (by repeat (first | (with_reducible first | exact HB.out | apply below_alloc | apply pw_below_drewN | apply below_drew1 | refine below_set ?_ GE103.out) | exact HB.out))) : w.heap.size ≤ gb104)); have n5_ := Aside0.mk ((by rw [hg]; exact Nat.ne_of_lt (blk_lt (g := gb103) (o := .cells #[.int .i64 a0_0, .int .i64 a0_1, .int .i64 a0_2, .float .f64 a0_3] 34 (0, 0)) (by (with_reducible repeat (first | refine blk_drewN ?_ _ | refine blk_drew ?_ | refine blk_alloc ?_ _)); exact BK103.out)) : gb103 ≠ gb104)); have n6_ := Aside0.mk ((by rw [hg]; exact Nat.ne_of_gt (blk_lt (g := gb103) (o := .cells #[.int .i64 a0_0, .int .i64 a0_1, .int .i64 a0_2, .float .f64 a0_3] 34 (0, 0)) (by (with_reducible repeat (first | refine blk_drewN ?_ _ | refine blk_drew ?_ | refine blk_alloc ?_ _)); exact BK103.out)) : gb104 ≠ gb103)); clear BK103; clear HB; have BK103 := n0_; have HB := n1_; have BK104 := n2_; have GW104 := n3_; have GE104 := n4_; have NB103_104 := n5_; have NB104_103 := n6_; clear n0_ n1_ n2_ n3_ n4_ n5_ n6_; clear hb hbox hg) | ((with_reducible refine gate_dst (N := 3) rfl ?_); refine box_event ?hg (N := 3) ?hd (cs := #[.int .i64 0, .int .i64 0, .int .i64 0, .float .f64 0]) (t := 32) ?hr ?_; (case hd => rfl); (case hg => rfl); (case hr => first | (go_simp; done) | (go_simp; rfl)); intro gb105 hg w4 hbox hb; have n0_ := Aside0.mk (blk_below (g := gb103) (o := .cells #[.int .i64 a0_0, .int .i64 a0_1, .int .i64 a0_2, .float .f64 a0_3] 34 (0, 0)) (by (with_reducible repeat (first | refine blk_drewN ?_ _ | refine blk_drew ?_ | refine blk_alloc ?_ _)); exact BK103.out) hb); have n1_ := Aside0.mk (blk_below (g := gb104) (o := .cells #[.int .i64 0, .int .i64 0, .int .i64 0, .float .f64 0] 32 (0, 0)) (by (with_reducible repeat (first | refine blk_drewN ?_ _ | refine blk_drew ?_ | refine blk_alloc ?_ _)); exact BK104.out) hb); have n2_ := Aside0.mk (below_step (by repeat (first | (with_reducible first | exact HB.out | apply below_alloc | apply pw_below_drewN | apply below_drew1 | refine below_set ?_ GE103.out | refine below_set ?_ GE104.out) | exact HB.out)) hb); have n3_ := Aside0.mk (hbox); have n4_ := Aside0.mk ((by rw [hg]; exact (below_size (by repeat (first | (with_reducible first | exact HB.out | apply below_alloc | apply pw_below_drewN | apply below_drew1 | refine below_set ?_ GE103.out | refine below_set ?_ GE104.out) | exact HB.out))) : w.heap.size ≤ gb105)); have n5_ := Aside0.mk ((by rw [hg]; exact (below_size (by repeat (first | (with_reducible first | exact HB.out | apply below_alloc | apply pw_below_drewN | apply below_drew1 | refine below_set ?_ GE103.out | refine below_set ?_ GE104.out) | exact HB.out))) : w.heap.size ≤ gb105)); have n6_ := Aside0.mk ((by rw [hg]; exact Nat.ne_of_lt (blk_lt (g := gb103) (o := .cells #[.int .i64 a0_0, .int .i64 a0_1, .int .i64 a0_2, .float .f64 a0_3] 34 (0, 0)) (by (with_reducible repeat (first | refine blk_drewN ?_ _ | refine blk_drew ?_ | refine blk_alloc ?_ _)); exact BK103.out)) : gb103 ≠ gb105)); have n7_ := Aside0.mk ((by rw [hg]; exact Nat.ne_of_gt (blk_lt (g := gb103) (o := .cells #[.int .i64 a0_0, .int .i64 a0_1, .int .i64 a0_2, .float .f64 a0_3] 34 (0, 0)) (by (with_reducible repeat (first | refine blk_drewN ?_ _ | refine blk_drew ?_ | refine blk_alloc ?_ _)); exact BK103.out)) : gb105 ≠ gb103)); have n8_ := Aside0.mk ((by rw [hg]; exact Nat.ne_of_lt (blk_lt (g := gb104) (o := .cells #[.int .i64 0, .int .i64 0, .int .i64 0, .float .f64 0] 32 (0, 0)) (by (with_reducible repeat (first | refine blk_drewN ?_ _ | refine blk_drew ?_ | refine blk_alloc ?_ _)); exact BK104.out)) : gb104 ≠ gb105)); have n9_ := Aside0.mk ((by rw [hg]; exact Nat.ne_of_gt (blk_lt (g := gb104) (o := .cells #[.int .i64 0, .int .i64 0, .int .i64 0, .float .f64 0] 32 (0, 0)) (by (with_reducible repeat (first | refine blk_drewN ?_ _ | refine blk_drew ?_ | refine blk_alloc ?_ _)); exact BK104.out)) : gb105 ≠ gb104)); clear BK103; clear BK104; clear HB; have BK103 := n0_; have BK104 := n1_; have HB := n2_; have BK105 := n3_; have GW105 := n4_; have GE105 := n5_; have NB103_105 := n6_; have NB105_103 := n7_; have NB104_105 := n8_; have NB105_104 := n9_; clear n0_ n1_ n2_ n3_ n4_ n5_ n6_ n7_ n8_ n9_; clear hb hbox hg; have hnb5 := NB103_104.out; have hnc5 := NB104_103.out; have hnb6 := NB103_105.out; have hnc6 := NB105_103.out; have hcz7_0 : w4.cell? ⟨gb103, 0, none⟩ = some (.int .i64 a0_0) := (blk_cell BK103.out 0).trans rfl; have hcz7_1 : w4.cell? ⟨gb103, 1, none⟩ = some (.int .i64 a0_1) := (blk_cell BK103.out 1).trans rfl; have hcz7_2 : w4.cell? ⟨gb103, 2, none⟩ = some (.int .i64 a0_2) := (blk_cell BK103.out 2).trans rfl; have hcz7_3 : w4.cell? ⟨gb103, 3, none⟩ = some (.float .f64 a0_3) := (blk_cell BK103.out 3).trans rfl; have hfz7_0 := blk_frozen BK103.out 0; have hfz7_1 := blk_frozen BK103.out 1; have hfz7_2 := blk_frozen BK103.out 2; have hfz7_3 := blk_frozen BK103.out 3; have hnb8 := NB105_104.out; have hnc8 := NB104_105.out; have hcz9_0 : w4.cell? ⟨gb105, 0, none⟩ = some (.int .i64 0) := (blk_cell BK105.out 0).trans rfl; have hcz9_1 : w4.cell? ⟨gb105, 1, none⟩ = some (.int .i64 0) := (blk_cell BK105.out 1).trans rfl; have hcz9_2 : w4.cell? ⟨gb105, 2, none⟩ = some (.int .i64 0) := (blk_cell BK105.out 2).trans rfl; have hcz9_3 : w4.cell? ⟨gb105, 3, none⟩ = some (.float .f64 0) := (blk_cell BK105.out 3).trans rfl; have hfz9_0 := blk_frozen BK105.out 0; have hfz9_1 := blk_frozen BK105.out 1; have hfz9_2 := blk_frozen BK105.out 2; have hfz9_3 := blk_frozen BK105.out 3; have hcz10_0 : w4.cell? ⟨gb104, 0, none⟩ = some (.int .i64 0) := (blk_cell BK104.out 0).trans rfl; have hcz10_1 : w4.cell? ⟨gb104, 1, none⟩ = some (.int .i64 0) := (blk_cell BK104.out 1).trans rfl; have hcz10_2 : w4.cell? ⟨gb104, 2, none⟩ = some (.int .i64 0) := (blk_cell BK104.out 2).trans rfl; have hcz10_3 : w4.cell? ⟨gb104, 3, none⟩ = some (.float .f64 0) := (blk_cell BK104.out 3).trans rfl; have hfz10_0 := blk_frozen BK104.out 0; have hfz10_1 := blk_frozen BK104.out 1; have hfz10_2 := blk_frozen BK104.out 2; have hfz10_3 := blk_frozen BK104.out 3))
  refine bodyPost_ret (results_cell_row rfl _ _ gb104 32 #[.int .i64 a0_0, .int .i64 a0_1, .int .i64 a0_2, .float .f64 a0_3] (0, 0) _ rfl (by (with_reducible repeat (first | refine blk_drewN ?_ _ | refine blk_drew ?_ | refine blk_alloc ?_ _)); refine blk_put (cs := #[.int .i64 a0_0, .int .i64 a0_1, .int .i64 a0_2, .float .f64 0]) ?_ 3 _ rfl; (with_reducible repeat (first | refine blk_drewN ?_ _ | refine blk_drew ?_ | refine blk_alloc ?_ _)); refine blk_put (cs := #[.int .i64 a0_0, .int .i64 a0_1, .int .i64 0, .float .f64 0]) ?_ 2 _ rfl; (with_reducible repeat (first | refine blk_drewN ?_ _ | refine blk_drew ?_ | refine blk_alloc ?_ _)); refine blk_put (cs := #[.int .i64 a0_0, .int .i64 0, .int .i64 0, .float .f64 0]) ?_ 1 _ rfl; (with_reducible repeat (first | refine blk_drewN ?_ _ | refine blk_drew ?_ | refine blk_alloc ?_ _)); refine blk_put (cs := #[.int .i64 0, .int .i64 0, .int .i64 0, .float .f64 0]) ?_ 0 _ rfl; (with_reducible repeat (first | refine blk_drewN ?_ _ | refine blk_drew ?_ | refine blk_alloc ?_ _)); refine blk_far ?_ NB104_105.out _; (with_reducible repeat (first | refine blk_drewN ?_ _ | refine blk_drew ?_ | refine blk_alloc ?_ _)); refine blk_far ?_ NB104_105.out _; (with_reducible repeat (first | refine blk_drewN ?_ _ | refine blk_drew ?_ | refine blk_alloc ?_ _)); refine blk_far ?_ NB104_105.out _; (with_reducible repeat (first | refine blk_drewN ?_ _ | refine blk_drew ?_ | refine blk_alloc ?_ _)); refine blk_far ?_ NB104_105.out _; (with_reducible repeat (first | refine blk_drewN ?_ _ | refine blk_drew ?_ | refine blk_alloc ?_ _)); exact BK104.out) Try.underlying32 rfl (by kernel_rfl)) rfl ?_
  exact ⟨by first | rfl | (simp [errW_none, errW_some] <;> rfl) | (simp [*, errW_none, errW_some] <;> rfl), by repeat (first | (with_reducible first | exact HB.out | apply below_alloc | apply pw_below_drewN | apply below_drew1 | refine below_set ?_ GE103.out | refine below_set ?_ GE104.out | refine below_set ?_ GE105.out) | exact HB.out)⟩

/-! ### laws_toNodeS: function 6 -/
def laws_toNodeS.l0 : Nat → List (S34) → List (S32) → Int → Option ((List (S32)))
  | 0, _, _, _ => none
  | k + 1, x0, x3, x4 => if x4 < (x0.length : Int) then (if 0 ≤ x4 then ((laws_toNode.f ((rd_T34 x0 x4).f0) ((rd_T34 x0 x4).f1) ((rd_T34 x0 x4).f2) ((rd_T34 x0 x4).f3)).bind fun bt110 => (if x4 < (x3.length : Int) then (laws_toNodeS.l0 k x0 (x3.set (x4 : Int).toNat (⟨bt110.1, bt110.2.1, bt110.2.2.1, bt110.2.2.2⟩ : S32)) (wrap64 (x4 + 1))) else (none))) else (none)) else (some x3)
def laws_toNodeS.f (k : Nat) (l0 : List (S34)) : Option ((List (S32))) := if 0 ≤ (l0.length : Int) then (if ((l0.length : Int) : Int).toNat ≤ 8796093022208 then (laws_toNodeS.l0 k l0 (List.replicate ((l0.length : Int) : Int).toNat z32) 0) else (none)) else (none)
theorem laws_toNodeS.mono_l : ∀ k, (∀ y0 y1 y2, LeO (laws_toNodeS.l0 k y0 y1 y2) (laws_toNodeS.l0 (k + 1) y0 y1 y2))
  | 0 => fun _ _ _ r h => by simp [laws_toNodeS.l0] at h
  | k + 1 => by
    have ih0 := laws_toNodeS.mono_l k
    · intro y0 y1 y2
      unfold laws_toNodeS.l0
      repeat' first
      | (with_reducible exact ih0 _ _ _)
      | (with_reducible exact LeO.refl _)
      | (with_reducible exact LeO.none _)
      | (with_reducible refine LeO.ite ?_ ?_)
      | (with_reducible refine LeO.bind ?_ (fun _ => ?_))
      | exact ih0 _ _ _
      | exact LeO.none _
      | refine LeO.ite ?_ ?_
      | refine LeO.bind ?_ (fun _ => ?_)
theorem laws_toNodeS.mono : ∀ a0 k, LeO (laws_toNodeS.f k a0) (laws_toNodeS.f (k + 1) a0) := by
  intro a0 k
  have ih0 := laws_toNodeS.mono_l k
  unfold laws_toNodeS.f
  repeat' first
      | (with_reducible exact ih0 _ _ _)
      | (with_reducible exact LeO.refl _)
      | (with_reducible exact LeO.none _)
      | (with_reducible refine LeO.ite ?_ ?_)
      | (with_reducible refine LeO.bind ?_ (fun _ => ?_))
      | exact ih0 _ _ _
      | exact LeO.none _
      | refine LeO.ite ?_ ?_
      | refine LeO.bind ?_ (fun _ => ?_)
set_option maxHeartbeats 8000000 in
set_option maxRecDepth 100000 in
theorem laws_toNodeS.calls (k : Nat) (A0 : Option Addr) (c0 : Nat) (l0 : List (S34)) (r : List (S32)) (w : World) (hr0 : Kd.C k34 w A0 l0.length l0) (hc0 : l0.length ≤ c0) (h : laws_toNodeS.f k l0 = some r) :
    Calls Try.prog 6 #[.slice A0 l0.length c0] w fun e w' => ∃ v0_ : Value, e = .returned (v0_) ∧ Kd.R k32 32 w' w.heap.size (fun _ => True) v0_ r ∧ Below w.heap.size w w' := by
  have hu34 := Try.underlying34
  have hu32 := Try.underlying32
  have HR0 := Aside0.mk hr0
  have HC0 := Aside0.mk hc0
  clear hr0 hc0
  have HB := Aside0.mk (Below.refl w.heap.size w)
  have H : (if 0 ≤ (l0.length : Int) then (if ((l0.length : Int) : Int).toNat ≤ 8796093022208 then (laws_toNodeS.l0 k l0 (List.replicate ((l0.length : Int) : Int).toNat z32) 0) else (none)) else (none)) = some r := h
  clear h
  by_cases c2 : 0 ≤ (l0.length : Int)
  · rw [if_pos c2] at H
    have c2b0 := eq_true c2
    have c2b1 : decide (0 ≤ (l0.length : Int)) = true := decide_eq_true c2
    clear c2
    by_cases c3 : ((l0.length : Int) : Int).toNat ≤ 8796093022208
    · rw [if_pos c3] at H
      have c3b0 := eq_true c3
      have c3b1 : decide (((l0.length : Int) : Int).toNat ≤ 8796093022208) = true := decide_eq_true c3
      clear c3
      obtain ⟨y106, hy106⟩ : ∃ y_ : List (S32), y_ = (List.replicate ((l0.length : Int) : Int).toNat z32) := ⟨_, rfl⟩
      replace H : (laws_toNodeS.l0 k l0 y106 0) = some r := by first | (rw [hy106]; with_reducible exact H) | (have H2_ := (Option.bind_some _ _).symm.trans H; rw [hy106]; with_reducible exact H2_) | (have H2_ := (Option.bind_some _ _).symm.trans H; with_reducible exact H2_) | with_reducible exact H | (rw [hy106]; exact H) | exact H
      have Ny106 := Aside0.mk hy106
      clear hy106
      have H' := Aside0.mk H
      clear H
      go_enter Try.func6, Try.ntmps6
      go_wp2_with (first | ((with_reducible refine gate_dst (N := 7) rfl ?_); refine Kd.R_make k32 _ 32 rfl (N := 7) rfl 25 _ _ rfl (l0.length : Int) rfl rfl Try.underlying25 (.agg #[(.int .i64 0), (.int .i64 0), (.int .i64 0), (.float .f64 0)]) 32 info32 rfl (by decide) (by omega) z32 (ok := fun _ => True) (okp := fun _ => True) (k32_mkM _ _ _ z32 ) (fun _ hk => hk) trivial (of_decide_eq_true (by first | (with_reducible assumption) | assumption)) (Nat.le_trans (Nat.mul_le_mul_right _ (of_decide_eq_true (by first | (with_reducible assumption) | assumption) : (l0.length : Int).toNat ≤ 8796093022208)) (by omega)) (Below.refl _ _) (Nat.le_refl _) ?_; intro v107 w4 ho5 hb hg_ hnew_; clear hg_ hnew_; (first | rw [← Ny106.out] at ho5 | (simp only [Int.reduceToNat] at ho5; rw [← Ny106.out] at ho5)); have n0_ := Aside0.mk (Kd.R_lower ho5 (below_size (by repeat (first | (with_reducible first | exact HB.out | apply below_alloc | apply pw_below_drewN | apply below_drew1) | exact HB.out)))); have n1_ := Aside0.mk (below_step (by repeat (first | (with_reducible first | exact HB.out | apply below_alloc | apply pw_below_drewN | apply below_drew1) | exact HB.out)) hb); clear HB; have HO108 := n0_; have HB := n1_; clear n0_ n1_; clear hb ho5))
      go_loopg [4] k (fun kq v4 w' => ∃ (x3_1 : List (S32)) (x4_1 : Int), v4 = .int .i64 x4_1 ∧ Aside0 (laws_toNodeS.l0 kq l0 x3_1 x4_1 = some r) ∧ Aside0 (kq ≤ k) ∧ Aside0 (Kd.R k32 32 w' w.heap.size (fun _ => True) v107 x3_1) ∧ Aside0 (Below w.heap.size w w'))
      case atStart => exact ⟨(y106), (0), (by first | rfl | (simp; done) | (simp [*]; done)), H', ⟨Nat.le_refl _⟩, ⟨by (with_reducible repeat (first | apply Kd.R_alloc | apply Kd.R_drewN | apply Kd.R_drew)); exact HO108.out⟩, ⟨by repeat (first | (with_reducible first | exact HB.out | apply below_alloc | apply pw_below_drewN | apply below_drew1) | exact HB.out)⟩⟩
      case round =>
        clear H'
        try clear c2
        try clear c2b0
        try clear c2b1
        try clear p2
        try clear c3
        try clear c3b0
        try clear c3b1
        obtain ⟨x3_1, x4_1, rfl, HA, HK1, HO_3, HB⟩ := hrel
        cases gk with
        | zero => exact absurd HA.out (by simp [laws_toNodeS.l0])
        | succ k1 =>
          have H := HA.out
          clear HA
          simp only [laws_toNodeS.l0] at H
          by_cases c6 : x4_1 < (l0.length : Int)
          · rw [if_pos c6] at H
            have c6b0 : decide (x4_1 < (l0.length : Int)) = true := decide_eq_true c6
            clear c6
            by_cases c7 : 0 ≤ x4_1
            · rw [if_pos c7] at H
              have c7b0 : decide (0 ≤ x4_1) = true := decide_eq_true c7
              clear c7
              replace H := Option.bind_eq_some_iff.mp H
              obtain ⟨⟨t110, t111, t112, t113⟩, A80, H⟩ := H
              replace H : (if x4_1 < (x3_1.length : Int) then (laws_toNodeS.l0 k1 l0 (x3_1.set (x4_1 : Int).toNat (⟨t110, t111, t112, t113⟩ : S32)) (wrap64 (x4_1 + 1))) else (none)) = some r := H
              have A8 := Aside0.mk A80
              clear A80
              by_cases c9 : x4_1 < (x3_1.length : Int)
              · rw [if_pos c9] at H
                have c9b0 : decide (x4_1 < (x3_1.length : Int)) = true := decide_eq_true c9
                clear c9
                obtain ⟨y114, hy114⟩ : ∃ y_ : List (S32), y_ = (x3_1.set (x4_1 : Int).toNat (⟨t110, t111, t112, t113⟩ : S32)) := ⟨_, rfl⟩
                replace H : (laws_toNodeS.l0 k1 l0 y114 (wrap64 (x4_1 + 1))) = some r := by first | (rw [hy114]; with_reducible exact H) | (have H2_ := (Option.bind_some _ _).symm.trans H; rw [hy114]; with_reducible exact H2_) | (have H2_ := (Option.bind_some _ _).symm.trans H; with_reducible exact H2_) | with_reducible exact H | (rw [hy114]; exact H) | exact H
                have Ny114 := Aside0.mk hy114
                clear hy114
                have H' := Aside0.mk H
                clear H
                have p109 : 0 ≤ (x4_1 : Int) := of_decide_eq_true (by first | (with_reducible assumption) | assumption)
                have q109 : x4_1 < (l0.length : Int) := of_decide_eq_true (by first | (with_reducible assumption) | assumption)
                obtain ⟨ad109, e109, hx109_0, hx109_1, hx109_2, hx109_3⟩ := at_T34 HR0.out x4_1 p109 q109
                cases e109
                replace hx109_0 := (HB.out.cell (World.block_lt_of_cell? w _ hx109_0)).trans hx109_0
                replace hx109_1 := (HB.out.cell (World.block_lt_of_cell? w _ hx109_1)).trans hx109_1
                replace hx109_2 := (HB.out.cell (World.block_lt_of_cell? w _ hx109_2)).trans hx109_2
                replace hx109_3 := (HB.out.cell (World.block_lt_of_cell? w _ hx109_3)).trans hx109_3
                replace p109 := eq_true p109
                replace q109 := eq_true q109
                go_wp2_with (first | ((with_reducible refine gate_callee (f := 10) rfl ?_); refine goesL_ (some 20) rfl rfl Try.func10 (by kernel_rfl) rfl #[.agg #[.int .i64 ((rd_T34 l0 x4_1).f0), .int .i64 ((rd_T34 l0 x4_1).f1), .int .i64 ((rd_T34 l0 x4_1).f2), .float .f64 ((rd_T34 l0 x4_1).f3)]] rfl (by (try simp only [List.map_toArray, List.map_cons, List.map_nil]); first | done | rfl | (simp only [List.length_drop, List.length_take]; rfl)) ?_; (with_reducible refine (laws_toNode.calls ((rd_T34 l0 x4_1).f0) ((rd_T34 l0 x4_1).f1) ((rd_T34 l0 x4_1).f2) ((rd_T34 l0 x4_1).f3) t110 t111 t112 t113 _ A8.out).mono ?_); rintro e w11 ⟨rfl, hb⟩; refine ⟨_, rfl, ?_⟩; have n0_ := Aside0.mk (Kd.R_below (by (with_reducible repeat (first | apply Kd.R_alloc | apply Kd.R_drewN | apply Kd.R_drew)); exact HO_3.out) hb); have n1_ := Aside0.mk (below_step (by repeat (first | (with_reducible first | exact HB.out | apply below_alloc | apply pw_below_drewN | apply below_drew1) | exact HB.out)) hb); clear HO_3; clear HB; have HO_3 := n0_; have HB := n1_; clear n0_ n1_; (try clear hb); (try clear hb2); (try clear hk); (try clear hi); have p10 : 0 ≤ (x4_1 : Int) := of_decide_eq_true (by first | (with_reducible assumption) | assumption); have q10 : (x4_1 : Int) < ((x3_1.length : Int) : Int) := of_decide_eq_true (by first | (with_reducible assumption) | assumption); obtain ⟨go10, co10, eo10, gb10, gl10, cl10, HG10⟩ := Kd.R_form HO_3.out (by omega); (first | cases eo10 | (injection eo10 with ea_ en_ ec_; (first | subst ea_ | (injection ea_ with ea_; subst ea_)); subst ec_; clear en_)); have GB10 := Aside0.mk gb10; have GG10 := Aside0.mk HG10; clear gb10 gl10 HG10; obtain ⟨ce10, hcl10, hM10, hcc10, hfr10⟩ := Kd.R_elem HO_3.out z32 (x4_1 : Int) p10 q10; obtain rfl := k32_openM hM10; have hx10_0 : w11.cell? ⟨go10, (x4_1 : Int).toNat * 4, none⟩ = some (.int .i64 ((rd_T32 x3_1 x4_1).f0)) := hcc10 0 _ rfl; have hx10_1 : w11.cell? ⟨go10, (x4_1 : Int).toNat * 4 + 1, none⟩ = some (.int .i64 ((rd_T32 x3_1 x4_1).f1)) := hcc10 1 _ rfl; have hx10_2 : w11.cell? ⟨go10, (x4_1 : Int).toNat * 4 + 2, none⟩ = some (.int .i64 ((rd_T32 x3_1 x4_1).f2)) := hcc10 2 _ rfl; have hx10_3 : w11.cell? ⟨go10, (x4_1 : Int).toNat * 4 + 3, none⟩ = some (.float .f64 ((rd_T32 x3_1 x4_1).f3)) := hcc10 3 _ rfl; have hf10_0 : w11.frozen? ⟨go10, (x4_1 : Int).toNat * 4, none⟩ = false := hfr10 0; have hf10_1 : w11.frozen? ⟨go10, (x4_1 : Int).toNat * 4 + 1, none⟩ = false := hfr10 1; have hf10_2 : w11.frozen? ⟨go10, (x4_1 : Int).toNat * 4 + 2, none⟩ = false := hfr10 2; have hf10_3 : w11.frozen? ⟨go10, (x4_1 : Int).toNat * 4 + 3, none⟩ = false := hfr10 3; clear hcl10 hcc10 hfr10 hM10; replace p10 := eq_true p10; replace q10 := eq_true q10; have HX12 := Aside0.mk (show Kd.R k32 32 w11 w.heap.size (fun _ => True) (.slice (some ⟨go10, 0, none⟩) x3_1.length co10) x3_1 from (by (with_reducible repeat (first | apply Kd.R_alloc | apply Kd.R_drewN | apply Kd.R_drew)); exact HO_3.out)); obtain ⟨ce12, hcl12, hM12, hcc12, hfr12⟩ := Kd.R_elem HX12.out z32 (x4_1 : Int) (of_decide_eq_true (by first | (with_reducible assumption) | assumption)) (by have h_ : (x4_1 : Int) < ((x3_1.length : Int) : Int) := of_decide_eq_true (by first | (with_reducible assumption) | assumption); first | exact h_ | (have e_ := (Kd.R_reads' HO_3.out).1; omega) | simpa using h_); obtain rfl := k32_openM hM12; have HP12 := Kd.R_seg HX12.out (x4_1 : Int) (of_decide_eq_true (by first | (with_reducible assumption) | assumption)) (by have h_ : (x4_1 : Int) < ((x3_1.length : Int) : Int) := of_decide_eq_true (by first | (with_reducible assumption) | assumption); first | exact h_ | (have e_ := (Kd.R_reads' HO_3.out).1; omega) | simpa using h_) (seg := [.int .i64 t110, .int .i64 t111, .int .i64 t112, .float .f64 t113]) (j := 0) hcl12 hcc12 (show 4 ≤ 4 from by decide) (x' := (⟨t110, t111, t112, t113⟩ : S32)) (k32_mkM _ _ _ (⟨t110, t111, t112, t113⟩ : S32) ) (fun _ hk => hk); have hx12_0 := hcc12 0 _ rfl; (try simp only [show (k32).sz = 4 from rfl, Nat.mul_one, Nat.add_zero] at hx12_0); have hf12_0 := hfr12 0; (try simp only [show (k32).sz = 4 from rfl, Nat.mul_one, Nat.add_zero] at hf12_0); have hx12_1 := hcc12 1 _ rfl; (try simp only [show (k32).sz = 4 from rfl, Nat.mul_one, Nat.add_zero] at hx12_1); have hf12_1 := hfr12 1; (try simp only [show (k32).sz = 4 from rfl, Nat.mul_one, Nat.add_zero] at hf12_1); have hx12_2 := hcc12 2 _ rfl; (try simp only [show (k32).sz = 4 from rfl, Nat.mul_one, Nat.add_zero] at hx12_2); have hf12_2 := hfr12 2; (try simp only [show (k32).sz = 4 from rfl, Nat.mul_one, Nat.add_zero] at hf12_2); have hx12_3 := hcc12 3 _ rfl; (try simp only [show (k32).sz = 4 from rfl, Nat.mul_one, Nat.add_zero] at hx12_3); have hf12_3 := hfr12 3; (try simp only [show (k32).sz = 4 from rfl, Nat.mul_one, Nat.add_zero] at hf12_3); clear hcl12 hcc12 hfr12 hM12) | ((with_reducible refine gate_store (t := 32) (p := 21) rfl ?_); refine store_event (t := 32) (p := 21) (v := ?vo_w13) (w1 := ((((w11.setCell ⟨go10, (x4_1 : Int).toNat * 4, none⟩ (.int .i64 t110)).setCell ⟨go10, (x4_1 : Int).toNat * 4 + 1, none⟩ (.int .i64 t111)).setCell ⟨go10, (x4_1 : Int).toNat * 4 + 2, none⟩ (.int .i64 t112)).setCell ⟨go10, (x4_1 : Int).toNat * 4 + 3, none⟩ (.float .f64 t113))) ?hg ?ho ?hn ?hr ?_; (case ho => rfl); (case hg => rfl); (case hn => rfl); (case hr => first | (go_simp; done) | (go_simp; rfl)); intro w13 hw; have hg : w11.grownBy w13 (some go10) := (by rw [hw]; exact HP12.2); have hp_ : Kd.R k32 32 w13 w.heap.size (fun _ => True) (.slice (some ⟨go10, 0, none⟩) x3_1.length co10) y114 := (by rw [hw, Ny114.out]; exact HP12.1); clear HP12; have n0_ := Aside0.mk (hp_); have n1_ := Aside0.mk ((by rw [hw]; exact below_set (below_set (below_set (below_set (HB.out) GB10.out) GB10.out) GB10.out) GB10.out : Below w.heap.size w w13)); clear HO_3; clear HB; have HO_3 := n0_; have HB := n1_; clear n0_ n1_; clear hg hw hp_))
                go_roundg k1
                case measure => have := HK1.out; omega
                case rel => exact ⟨(y114), (wrap64 (x4_1 + 1)), (by first | rfl | (simp; done) | (simp [*]; done)), H', ⟨by have := HK1.out; omega⟩, ⟨by (with_reducible repeat (first | apply Kd.R_alloc | apply Kd.R_drewN | apply Kd.R_drew)); exact HO_3.out⟩, ⟨by repeat (first | (with_reducible first | exact HB.out | apply below_alloc | apply pw_below_drewN | apply below_drew1) | exact HB.out)⟩⟩
              · rw [if_neg c9] at H
                exact absurd H (by simp)
            · rw [if_neg c7] at H
              exact absurd H (by simp)
          · rw [if_neg c6] at H
            have c6b0 : decide (x4_1 < (l0.length : Int)) = false := decide_eq_false c6
            clear c6
            obtain rfl := Option.some.inj H
            go_wp2
            go_ret
            exact ⟨_, by first | rfl | (simp [errW_none, errW_some] <;> rfl) | (simp [*, errW_none, errW_some] <;> rfl), by (with_reducible repeat (first | apply Kd.R_alloc | apply Kd.R_drewN | apply Kd.R_drew)); exact HO_3.out, by repeat (first | (with_reducible first | exact HB.out | apply below_alloc | apply pw_below_drewN | apply below_drew1) | exact HB.out)⟩
    · rw [if_neg c3] at H
      exact absurd H (by simp)
  · rw [if_neg c2] at H
    exact absurd H (by simp)

/-! ### impl_in: function 11 -/
def impl_in.f (a0 : Int) (a1 : Int) (a2 : Int) : Option (Bool) := if a1 ≤ a0 then (some (decide (a0 ≤ a2))) else (some false)
set_option maxHeartbeats 8000000 in
set_option maxRecDepth 100000 in
theorem impl_in.calls (a0 : Int) (a1 : Int) (a2 : Int) (r : Bool) (w : World) (h : impl_in.f a0 a1 a2 = some r) :
    Calls Try.prog 11 #[.int .i64 a0, .int .i64 a1, .int .i64 a2] w fun e w' => e = .returned (.bool r) ∧ Drawn0 w w' := by
  have H : (if a1 ≤ a0 then (some (decide (a0 ≤ a2))) else (some false)) = some r := h
  clear h
  by_cases c4 : a1 ≤ a0
  · rw [if_pos c4] at H
    have c4b0 : decide (a1 ≤ a0) = true := decide_eq_true c4
    clear c4
    obtain rfl := Option.some.inj H
    go_enter Try.func11, Try.ntmps11
    go_wp2
    go_ret
    exact ⟨by first | rfl | (simp; done) | (simp [*]; done), by repeat (first | exact Drawn0.refl _ | apply Drawn0.step)⟩
  · rw [if_neg c4] at H
    have c4b0 : decide (a1 ≤ a0) = false := decide_eq_false c4
    clear c4
    obtain rfl := Option.some.inj H
    go_enter Try.func11, Try.ntmps11
    go_wp2
    go_ret
    exact ⟨by first | rfl | (simp; done) | (simp [*]; done), by repeat (first | exact Drawn0.refl _ | apply Drawn0.step)⟩

/-! ### impl_Node_takes: function 14 -/
def impl_Node_takes.f (a0_0 : Int) (a0_1 : Int) (a0_2 : Int) (a0_3 : Nat) : Option (Bool × Bool × Bool) := if a0_0 = 1 then (some (false, false, false)) else (if a0_0 = 4 then (some (true, true, true)) else (if a0_0 = 6 then (some (true, false, false)) else (if a0_0 = 7 then (some (true, false, false)) else (some (true, false, true)))))
set_option maxHeartbeats 8000000 in
set_option maxRecDepth 100000 in
theorem impl_Node_takes.calls (a0_0 : Int) (a0_1 : Int) (a0_2 : Int) (a0_3 : Nat) (r1 : Bool) (r2 : Bool) (r3 : Bool) (w : World) (h : impl_Node_takes.f a0_0 a0_1 a0_2 a0_3 = some (r1, r2, r3)) :
    Calls Try.prog 14 #[.agg #[.int .i64 a0_0, .int .i64 a0_1, .int .i64 a0_2, .float .f64 a0_3]] w fun e w' => e = .returned (.tuple #[.bool r1, .bool r2, .bool r3]) ∧ Below w.heap.size w w' := by
  have hu32 := Try.underlying32
  have HB := Aside0.mk (Below.refl w.heap.size w)
  have H : (if a0_0 = 1 then (some (false, false, false)) else (if a0_0 = 4 then (some (true, true, true)) else (if a0_0 = 6 then (some (true, false, false)) else (if a0_0 = 7 then (some (true, false, false)) else (some (true, false, true)))))) = some (r1, r2, r3) := h
  clear h
  by_cases c2 : a0_0 = 1
  · rw [if_pos c2] at H
    have c2b0 : (a0_0 == 1) = true := beq_iff_eq.mpr c2
    have c2b1 : (a0_0 != 1) = false := bne_eq_false_iff_eq.mpr c2
    clear c2
    simp only [Option.some.injEq, Prod.mk.injEq] at H
    obtain ⟨rfl, rfl, rfl⟩ := H
    go_enter Try.func14, Try.ntmps14
    go_wp2_with (first | ((with_reducible refine gate_dst (N := 1) rfl ?_); refine box_event ?hg (N := 1) ?hd (cs := #[.int .i64 a0_0, .int .i64 a0_1, .int .i64 a0_2, .float .f64 a0_3]) (t := 32) ?hr ?_; (case hd => rfl); (case hg => rfl); (case hr => first | (go_simp; done) | (go_simp; rfl)); intro gb115 hg w3 hbox hb; have n0_ := Aside0.mk (below_step (by repeat (first | (with_reducible first | exact HB.out | apply below_alloc | apply pw_below_drewN | apply below_drew1) | exact HB.out)) hb); have n1_ := Aside0.mk (hbox); have n2_ := Aside0.mk ((by rw [hg]; exact (below_size (by repeat (first | (with_reducible first | exact HB.out | apply below_alloc | apply pw_below_drewN | apply below_drew1) | exact HB.out))) : w.heap.size ≤ gb115)); have n3_ := Aside0.mk ((by rw [hg]; exact (below_size (by repeat (first | (with_reducible first | exact HB.out | apply below_alloc | apply pw_below_drewN | apply below_drew1) | exact HB.out))) : w.heap.size ≤ gb115)); clear HB; have HB := n0_; have BK115 := n1_; have GW115 := n2_; have GE115 := n3_; clear n0_ n1_ n2_ n3_; clear hb hbox hg; have hcz4_0 : w3.cell? ⟨gb115, 0, none⟩ = some (.int .i64 a0_0) := (blk_cell BK115.out 0).trans rfl; have hcz4_1 : w3.cell? ⟨gb115, 1, none⟩ = some (.int .i64 a0_1) := (blk_cell BK115.out 1).trans rfl; have hcz4_2 : w3.cell? ⟨gb115, 2, none⟩ = some (.int .i64 a0_2) := (blk_cell BK115.out 2).trans rfl; have hcz4_3 : w3.cell? ⟨gb115, 3, none⟩ = some (.float .f64 a0_3) := (blk_cell BK115.out 3).trans rfl; have hfz4_0 := blk_frozen BK115.out 0; have hfz4_1 := blk_frozen BK115.out 1; have hfz4_2 := blk_frozen BK115.out 2; have hfz4_3 := blk_frozen BK115.out 3))
    go_ret3
    exact ⟨by first | rfl | (simp [errW_none, errW_some] <;> rfl) | (simp [*, errW_none, errW_some] <;> rfl), by repeat (first | (with_reducible first | exact HB.out | apply below_alloc | apply pw_below_drewN | apply below_drew1 | refine below_set ?_ GE115.out) | exact HB.out)⟩
  · rw [if_neg c2] at H
    have c2b0 : (a0_0 == 1) = false := beq_eq_false_iff_ne.mpr c2
    have c2b1 : (a0_0 != 1) = true := bne_iff_ne.mpr c2
    by_cases c5 : a0_0 = 4
    · rw [if_pos c5] at H
      have c5b0 : (a0_0 == 4) = true := beq_iff_eq.mpr c5
      have c5b1 : (a0_0 != 4) = false := bne_eq_false_iff_eq.mpr c5
      clear c5
      simp only [Option.some.injEq, Prod.mk.injEq] at H
      obtain ⟨rfl, rfl, rfl⟩ := H
      go_enter Try.func14, Try.ntmps14
      go_wp2_with (first | ((with_reducible refine gate_dst (N := 1) rfl ?_); refine box_event ?hg (N := 1) ?hd (cs := #[.int .i64 a0_0, .int .i64 a0_1, .int .i64 a0_2, .float .f64 a0_3]) (t := 32) ?hr ?_; (case hd => rfl); (case hg => rfl); (case hr => first | (go_simp; done) | (go_simp; rfl)); intro gb115 hg w6 hbox hb; have n0_ := Aside0.mk (below_step (by repeat (first | (with_reducible first | exact HB.out | apply below_alloc | apply pw_below_drewN | apply below_drew1) | exact HB.out)) hb); have n1_ := Aside0.mk (hbox); have n2_ := Aside0.mk ((by rw [hg]; exact (below_size (by repeat (first | (with_reducible first | exact HB.out | apply below_alloc | apply pw_below_drewN | apply below_drew1) | exact HB.out))) : w.heap.size ≤ gb115)); have n3_ := Aside0.mk ((by rw [hg]; exact (below_size (by repeat (first | (with_reducible first | exact HB.out | apply below_alloc | apply pw_below_drewN | apply below_drew1) | exact HB.out))) : w.heap.size ≤ gb115)); clear HB; have HB := n0_; have BK115 := n1_; have GW115 := n2_; have GE115 := n3_; clear n0_ n1_ n2_ n3_; clear hb hbox hg; have hcz7_0 : w6.cell? ⟨gb115, 0, none⟩ = some (.int .i64 a0_0) := (blk_cell BK115.out 0).trans rfl; have hcz7_1 : w6.cell? ⟨gb115, 1, none⟩ = some (.int .i64 a0_1) := (blk_cell BK115.out 1).trans rfl; have hcz7_2 : w6.cell? ⟨gb115, 2, none⟩ = some (.int .i64 a0_2) := (blk_cell BK115.out 2).trans rfl; have hcz7_3 : w6.cell? ⟨gb115, 3, none⟩ = some (.float .f64 a0_3) := (blk_cell BK115.out 3).trans rfl; have hfz7_0 := blk_frozen BK115.out 0; have hfz7_1 := blk_frozen BK115.out 1; have hfz7_2 := blk_frozen BK115.out 2; have hfz7_3 := blk_frozen BK115.out 3))
      go_ret3
      exact ⟨by first | rfl | (simp [errW_none, errW_some] <;> rfl) | (simp [*, errW_none, errW_some] <;> rfl), by repeat (first | (with_reducible first | exact HB.out | apply below_alloc | apply pw_below_drewN | apply below_drew1 | refine below_set ?_ GE115.out) | exact HB.out)⟩
    · rw [if_neg c5] at H
      have c5b0 : (a0_0 == 4) = false := beq_eq_false_iff_ne.mpr c5
      have c5b1 : (a0_0 != 4) = true := bne_iff_ne.mpr c5
      by_cases c8 : a0_0 = 6
      · rw [if_pos c8] at H
        have c8b0 : (a0_0 == 6) = true := beq_iff_eq.mpr c8
        have c8b1 : (a0_0 != 6) = false := bne_eq_false_iff_eq.mpr c8
        clear c8
        simp only [Option.some.injEq, Prod.mk.injEq] at H
        obtain ⟨rfl, rfl, rfl⟩ := H
        go_enter Try.func14, Try.ntmps14
        go_wp2_with (first | ((with_reducible refine gate_dst (N := 1) rfl ?_); refine box_event ?hg (N := 1) ?hd (cs := #[.int .i64 a0_0, .int .i64 a0_1, .int .i64 a0_2, .float .f64 a0_3]) (t := 32) ?hr ?_; (case hd => rfl); (case hg => rfl); (case hr => first | (go_simp; done) | (go_simp; rfl)); intro gb115 hg w9 hbox hb; have n0_ := Aside0.mk (below_step (by repeat (first | (with_reducible first | exact HB.out | apply below_alloc | apply pw_below_drewN | apply below_drew1) | exact HB.out)) hb); have n1_ := Aside0.mk (hbox); have n2_ := Aside0.mk ((by rw [hg]; exact (below_size (by repeat (first | (with_reducible first | exact HB.out | apply below_alloc | apply pw_below_drewN | apply below_drew1) | exact HB.out))) : w.heap.size ≤ gb115)); have n3_ := Aside0.mk ((by rw [hg]; exact (below_size (by repeat (first | (with_reducible first | exact HB.out | apply below_alloc | apply pw_below_drewN | apply below_drew1) | exact HB.out))) : w.heap.size ≤ gb115)); clear HB; have HB := n0_; have BK115 := n1_; have GW115 := n2_; have GE115 := n3_; clear n0_ n1_ n2_ n3_; clear hb hbox hg; have hcz10_0 : w9.cell? ⟨gb115, 0, none⟩ = some (.int .i64 a0_0) := (blk_cell BK115.out 0).trans rfl; have hcz10_1 : w9.cell? ⟨gb115, 1, none⟩ = some (.int .i64 a0_1) := (blk_cell BK115.out 1).trans rfl; have hcz10_2 : w9.cell? ⟨gb115, 2, none⟩ = some (.int .i64 a0_2) := (blk_cell BK115.out 2).trans rfl; have hcz10_3 : w9.cell? ⟨gb115, 3, none⟩ = some (.float .f64 a0_3) := (blk_cell BK115.out 3).trans rfl; have hfz10_0 := blk_frozen BK115.out 0; have hfz10_1 := blk_frozen BK115.out 1; have hfz10_2 := blk_frozen BK115.out 2; have hfz10_3 := blk_frozen BK115.out 3))
        go_ret3
        exact ⟨by first | rfl | (simp [errW_none, errW_some] <;> rfl) | (simp [*, errW_none, errW_some] <;> rfl), by repeat (first | (with_reducible first | exact HB.out | apply below_alloc | apply pw_below_drewN | apply below_drew1 | refine below_set ?_ GE115.out) | exact HB.out)⟩
      · rw [if_neg c8] at H
        have c8b0 : (a0_0 == 6) = false := beq_eq_false_iff_ne.mpr c8
        have c8b1 : (a0_0 != 6) = true := bne_iff_ne.mpr c8
        by_cases c11 : a0_0 = 7
        · rw [if_pos c11] at H
          have c11b0 : (a0_0 == 7) = true := beq_iff_eq.mpr c11
          have c11b1 : (a0_0 != 7) = false := bne_eq_false_iff_eq.mpr c11
          clear c11
          simp only [Option.some.injEq, Prod.mk.injEq] at H
          obtain ⟨rfl, rfl, rfl⟩ := H
          go_enter Try.func14, Try.ntmps14
          go_wp2_with (first | ((with_reducible refine gate_dst (N := 1) rfl ?_); refine box_event ?hg (N := 1) ?hd (cs := #[.int .i64 a0_0, .int .i64 a0_1, .int .i64 a0_2, .float .f64 a0_3]) (t := 32) ?hr ?_; (case hd => rfl); (case hg => rfl); (case hr => first | (go_simp; done) | (go_simp; rfl)); intro gb115 hg w12 hbox hb; have n0_ := Aside0.mk (below_step (by repeat (first | (with_reducible first | exact HB.out | apply below_alloc | apply pw_below_drewN | apply below_drew1) | exact HB.out)) hb); have n1_ := Aside0.mk (hbox); have n2_ := Aside0.mk ((by rw [hg]; exact (below_size (by repeat (first | (with_reducible first | exact HB.out | apply below_alloc | apply pw_below_drewN | apply below_drew1) | exact HB.out))) : w.heap.size ≤ gb115)); have n3_ := Aside0.mk ((by rw [hg]; exact (below_size (by repeat (first | (with_reducible first | exact HB.out | apply below_alloc | apply pw_below_drewN | apply below_drew1) | exact HB.out))) : w.heap.size ≤ gb115)); clear HB; have HB := n0_; have BK115 := n1_; have GW115 := n2_; have GE115 := n3_; clear n0_ n1_ n2_ n3_; clear hb hbox hg; have hcz13_0 : w12.cell? ⟨gb115, 0, none⟩ = some (.int .i64 a0_0) := (blk_cell BK115.out 0).trans rfl; have hcz13_1 : w12.cell? ⟨gb115, 1, none⟩ = some (.int .i64 a0_1) := (blk_cell BK115.out 1).trans rfl; have hcz13_2 : w12.cell? ⟨gb115, 2, none⟩ = some (.int .i64 a0_2) := (blk_cell BK115.out 2).trans rfl; have hcz13_3 : w12.cell? ⟨gb115, 3, none⟩ = some (.float .f64 a0_3) := (blk_cell BK115.out 3).trans rfl; have hfz13_0 := blk_frozen BK115.out 0; have hfz13_1 := blk_frozen BK115.out 1; have hfz13_2 := blk_frozen BK115.out 2; have hfz13_3 := blk_frozen BK115.out 3))
          go_ret3
          exact ⟨by first | rfl | (simp [errW_none, errW_some] <;> rfl) | (simp [*, errW_none, errW_some] <;> rfl), by repeat (first | (with_reducible first | exact HB.out | apply below_alloc | apply pw_below_drewN | apply below_drew1 | refine below_set ?_ GE115.out) | exact HB.out)⟩
        · rw [if_neg c11] at H
          have c11b0 : (a0_0 == 7) = false := beq_eq_false_iff_ne.mpr c11
          have c11b1 : (a0_0 != 7) = true := bne_iff_ne.mpr c11
          simp only [Option.some.injEq, Prod.mk.injEq] at H
          obtain ⟨rfl, rfl, rfl⟩ := H
          go_enter Try.func14, Try.ntmps14
          go_wp2_with (first | ((with_reducible refine gate_dst (N := 1) rfl ?_); refine box_event ?hg (N := 1) ?hd (cs := #[.int .i64 a0_0, .int .i64 a0_1, .int .i64 a0_2, .float .f64 a0_3]) (t := 32) ?hr ?_; (case hd => rfl); (case hg => rfl); (case hr => first | (go_simp; done) | (go_simp; rfl)); intro gb115 hg w14 hbox hb; have n0_ := Aside0.mk (below_step (by repeat (first | (with_reducible first | exact HB.out | apply below_alloc | apply pw_below_drewN | apply below_drew1) | exact HB.out)) hb); have n1_ := Aside0.mk (hbox); have n2_ := Aside0.mk ((by rw [hg]; exact (below_size (by repeat (first | (with_reducible first | exact HB.out | apply below_alloc | apply pw_below_drewN | apply below_drew1) | exact HB.out))) : w.heap.size ≤ gb115)); have n3_ := Aside0.mk ((by rw [hg]; exact (below_size (by repeat (first | (with_reducible first | exact HB.out | apply below_alloc | apply pw_below_drewN | apply below_drew1) | exact HB.out))) : w.heap.size ≤ gb115)); clear HB; have HB := n0_; have BK115 := n1_; have GW115 := n2_; have GE115 := n3_; clear n0_ n1_ n2_ n3_; clear hb hbox hg; have hcz15_0 : w14.cell? ⟨gb115, 0, none⟩ = some (.int .i64 a0_0) := (blk_cell BK115.out 0).trans rfl; have hcz15_1 : w14.cell? ⟨gb115, 1, none⟩ = some (.int .i64 a0_1) := (blk_cell BK115.out 1).trans rfl; have hcz15_2 : w14.cell? ⟨gb115, 2, none⟩ = some (.int .i64 a0_2) := (blk_cell BK115.out 2).trans rfl; have hcz15_3 : w14.cell? ⟨gb115, 3, none⟩ = some (.float .f64 a0_3) := (blk_cell BK115.out 3).trans rfl; have hfz15_0 := blk_frozen BK115.out 0; have hfz15_1 := blk_frozen BK115.out 1; have hfz15_2 := blk_frozen BK115.out 2; have hfz15_3 := blk_frozen BK115.out 3))
          go_ret3
          exact ⟨by first | rfl | (simp [errW_none, errW_some] <;> rfl) | (simp [*, errW_none, errW_some] <;> rfl), by repeat (first | (with_reducible first | exact HB.out | apply below_alloc | apply pw_below_drewN | apply below_drew1 | refine below_set ?_ GE115.out) | exact HB.out)⟩

-- NOT PRINTED: function 15 (impl_Node_ok_1)

/-! ### impl_Node_ok: function 12 -/
/-! ### impl.Node.ok -/
theorem gr_drawn {w w' : World} (h : Drawn0 w w') : Below w.heap.size w w' := by
  obtain ⟨n, rfl⟩ := h.out
  exact pw_below_drewN (Below.refl _ _) n
theorem nodeB_other {k x y : Int} {v : Nat} {i : Int} (h : ¬ (1 ≤ k ∧ k ≤ 7)) : nodeB k x y v i = false := by
  unfold nodeB
  rw [if_neg (by omega), if_neg (by omega), if_neg (by omega), if_neg (by omega)]
theorem float_bits (v : Nat) (w : World) : (callFunc 19 #[.float .f64 v]).run Try.prog w = .ok (.value (.int .u64 v)) w :=
  (run_callFunc_extern (e := Extern.MathFloatBits.float64bits) Try.func19 (by kernel_rfl) (by kernel_rfl) (by kernel_rfl) (by kernel_rfl) _ w).trans rfl
set_option maxHeartbeats 4000000 in
set_option maxRecDepth 100000 in
theorem node_signbit (v : Nat) (hv : v < 18446744073709551616) (w : World) : Calls Try.prog 18 #[.float .f64 v] w fun e w' => e = .returned (.bool (decide (9223372036854775808 ≤ v))) ∧ Below w.heap.size w w' := by
  have HB := Aside0.mk (Below.refl w.heap.size w)
  have HV := Aside0.mk hv
  clear hv
  have hf := fun w => float_bits v w
  go_enter Try.func18, Try.ntmps18
  go_wp2
  go_ret
  refine ⟨congrArg (fun b => Ending.returned (Value.bool b)) ?_, (by repeat (first | (with_reducible first | exact HB.out | apply below_alloc | apply pw_below_drewN | apply below_drew1) | exact HB.out))⟩
  have := HV.out
  by_cases h : 9223372036854775808 ≤ v
  · rw [decide_eq_true h]
    simp [wrap64]
    omega
  · rw [decide_eq_false h]
    simp [wrap64]
    omega
set_option maxHeartbeats 4000000 in
set_option maxRecDepth 100000 in
theorem plain_nought (v : Nat) (hv : v < 18446744073709551616) (w : World) : Calls Try.prog 16 #[.float .f64 v] w fun e w' => e = .returned (.bool (decide (v = 0))) ∧ Below w.heap.size w w' := by
  have HB := Aside0.mk (Below.refl w.heap.size w)
  have n0 := nought0
  have n1 := nought1
  have HS := Aside0.mk (node_signbit v hv)
  have hz : v = 0 ∨ v = 9223372036854775808 ∨ (v ≠ 0 ∧ (FloatKind.f64.format.order v 0 == some Ordering.eq) = false) := by
    by_cases h0 : v = 0
    · exact .inl h0
    · by_cases h1 : v = 9223372036854775808
      · exact .inr (.inl h1)
      · exact .inr (.inr ⟨h0, order_nought hv h0 h1⟩)
  clear hv
  rcases hz with rfl | rfl | ⟨hz0, hz⟩
  · go_enter Try.func16, Try.ntmps16
    go_wp2_with (first | (go_at_call 18; (with_reducible refine (HS.out _).mono ?_); rintro e wk_ ⟨rfl, hb_⟩; have n1_ := Aside0.mk (below_step (by repeat (first | (with_reducible first | exact HB.out | apply below_alloc | apply pw_below_drewN | apply below_drew1) | exact HB.out)) hb_); clear HB; have HB := n1_; clear n1_ hb_))
    go_ret
    exact ⟨rfl, (by repeat (first | (with_reducible first | exact HB.out | apply below_alloc | apply pw_below_drewN | apply below_drew1) | exact HB.out))⟩
  · go_enter Try.func16, Try.ntmps16
    go_wp2_with (first | (go_at_call 18; (with_reducible refine (HS.out _).mono ?_); rintro e wk_ ⟨rfl, hb_⟩; have n1_ := Aside0.mk (below_step (by repeat (first | (with_reducible first | exact HB.out | apply below_alloc | apply pw_below_drewN | apply below_drew1) | exact HB.out)) hb_); clear HB; have HB := n1_; clear n1_ hb_))
    go_ret
    exact ⟨rfl, (by repeat (first | (with_reducible first | exact HB.out | apply below_alloc | apply pw_below_drewN | apply below_drew1) | exact HB.out))⟩
  · go_enter Try.func16, Try.ntmps16
    go_wp2_with (first | (go_at_call 18; (with_reducible refine (HS.out _).mono ?_); rintro e wk_ ⟨rfl, hb_⟩; have n1_ := Aside0.mk (below_step (by repeat (first | (with_reducible first | exact HB.out | apply below_alloc | apply pw_below_drewN | apply below_drew1) | exact HB.out)) hb_); clear HB; have HB := n1_; clear n1_ hb_))
    go_ret
    exact ⟨by simp [hz0], (by repeat (first | (with_reducible first | exact HB.out | apply below_alloc | apply pw_below_drewN | apply below_drew1) | exact HB.out))⟩
set_option maxHeartbeats 4000000 in
set_option maxRecDepth 100000 in
theorem node_points (B : Nat) (i : Int) (has : Bool) (tq : Int) (w : World) (hi : 0 ≤ i ∧ i ≤ 1000) (hB : w.cell? ⟨B, 0, none⟩ = some (.int .i64 i)) : Calls Try.prog 15 #[.bool has, .int .i64 tq, .pointer (some ⟨B, 0, none⟩)] w fun e w' => e = .returned (.bool (if has = true then inB tq i else decide (tq = 0))) ∧ Below w.heap.size w w' := by
  have HB := Aside0.mk (Below.refl w.heap.size w)
  have HI := Aside0.mk (show IntKind.i64.wrap (i - 1) = i - 1 by simp [IntKind.wrap, IntKind.bits, IntKind.signed]; omega)
  have HW := Aside0.mk (show wrap64 (i - 1) = i - 1 by unfold wrap64; omega)
  clear hi
  have h1 : ∀ b, impl_in.f tq 0 (wrap64 (i - 1)) = some b → b = inB tq i := by
    intro b hb
    rw [HW.out] at hb
    unfold impl_in.f at hb
    unfold inB
    by_cases h : 0 ≤ tq
    · rw [if_pos h] at hb
      obtain rfl := Option.some.inj hb
      rw [decide_eq_true h, Bool.true_and]
      exact decide_eq_decide.2 (by omega)
    · rw [if_neg h] at hb
      obtain rfl := Option.some.inj hb
      rw [decide_eq_false h, Bool.false_and]
  have H1 := Aside0.mk h1
  clear h1
  cases has
  · go_enter Try.func15, Try.ntmps15
    go_wp2
    go_ret
    exact ⟨by (first | (simp; done) | (simp; rfl)), (by repeat (first | (with_reducible first | exact HB.out | apply below_alloc | apply pw_below_drewN | apply below_drew1) | exact HB.out))⟩
  · obtain ⟨b, hb⟩ : ∃ b, impl_in.f tq 0 (wrap64 (i - 1)) = some b := by unfold impl_in.f; split <;> exact ⟨_, rfl⟩
    have hbb := H1.out b hb
    have HBB := Aside0.mk hb
    clear hb H1
    cases b
    · have HX := Aside0.mk hbb
      clear hbb
      go_enter Try.func15, Try.ntmps15
      go_wp2_with (first | (go_at_call 11; (with_reducible refine (impl_in.calls tq 0 (wrap64 (i - 1)) _ _ HBB.out).mono ?_); rintro e wk_ ⟨rfl, hd_⟩; have hb_ := gr_drawn hd_; clear hd_; have n1_ := Aside0.mk (below_step (by repeat (first | (with_reducible first | exact HB.out | apply below_alloc | apply pw_below_drewN | apply below_drew1) | exact HB.out)) hb_); clear HB; have HB := n1_; clear n1_ hb_))
      go_ret
      exact ⟨congrArg (fun b => Ending.returned (Value.bool b)) HX.out, (by repeat (first | (with_reducible first | exact HB.out | apply below_alloc | apply pw_below_drewN | apply below_drew1) | exact HB.out))⟩
    · have HX := Aside0.mk hbb
      clear hbb
      go_enter Try.func15, Try.ntmps15
      go_wp2_with (first | (go_at_call 11; (with_reducible refine (impl_in.calls tq 0 (wrap64 (i - 1)) _ _ HBB.out).mono ?_); rintro e wk_ ⟨rfl, hd_⟩; have hb_ := gr_drawn hd_; clear hd_; have n1_ := Aside0.mk (below_step (by repeat (first | (with_reducible first | exact HB.out | apply below_alloc | apply pw_below_drewN | apply below_drew1) | exact HB.out)) hb_); clear HB; have HB := n1_; clear n1_ hb_))
      go_ret
      exact ⟨congrArg (fun b => Ending.returned (Value.bool b)) HX.out, (by repeat (first | (with_reducible first | exact HB.out | apply below_alloc | apply pw_below_drewN | apply below_drew1) | exact HB.out))⟩
def impl_Node_ok.f (a0_0 a0_1 a0_2 : Int) (a0_3 : Nat) (a1 : Int) : Option Bool := if a0_3 < 18446744073709551616 ∧ 0 ≤ a1 ∧ a1 ≤ 1000 then some (nodeB a0_0 a0_1 a0_2 a0_3 a1) else none
set_option maxHeartbeats 8000000 in
set_option maxRecDepth 100000 in
theorem impl_Node_ok.calls (a0_0 a0_1 a0_2 : Int) (a0_3 : Nat) (a1 : Int) (r : Bool) (w : World) (h : impl_Node_ok.f a0_0 a0_1 a0_2 a0_3 a1 = some r) :
    Calls Try.prog 12 #[.agg #[.int .i64 a0_0, .int .i64 a0_1, .int .i64 a0_2, .float .f64 a0_3], .int .i64 a1] w fun e w' => e = .returned (.bool r) ∧ Below w.heap.size w w' := by
  have hu := Try.underlying32
  unfold impl_Node_ok.f at h
  by_cases hv : a0_3 < 18446744073709551616 ∧ 0 ≤ a1 ∧ a1 ≤ 1000
  · rw [if_pos hv] at h
    obtain rfl := Option.some.inj h
    clear h
    have HB := Aside0.mk (Below.refl w.heap.size w)
    have HV := Aside0.mk hv
    clear hv
    by_cases hk : 1 ≤ a0_0 ∧ a0_0 ≤ 7
    · have HI := Aside0.mk (show impl_in.f a0_0 1 7 = some true by unfold impl_in.f; rw [if_pos hk.1, decide_eq_true hk.2])
      obtain rfl | rfl | rfl | rfl | rfl | rfl | rfl : a0_0 = 1 ∨ a0_0 = 2 ∨ a0_0 = 3 ∨ a0_0 = 4 ∨ a0_0 = 5 ∨ a0_0 = 6 ∨ a0_0 = 7 := by omega
      all_goals clear hk
      · have HT := Aside0.mk (show impl_Node_takes.f 1 a0_1 a0_2 a0_3 = some (false, false, false) from rfl)
        go_enter Try.func12, Try.ntmps12
        go_wp2_with (first | (go_at_call 11; (with_reducible refine (impl_in.calls _ 1 7 _ _ HI.out).mono ?_); rintro e wk_ ⟨rfl, hd_⟩; obtain ⟨n_, e_⟩ := hd_.out; have c0 : wk_.cell? ⟨w.heap.size, 0, none⟩ = some (.int .i64 1) := (by rw [e_]; first | (go_simp; done) | (simp; done)); have c1 : wk_.cell? ⟨w.heap.size, 1, none⟩ = some (.int .i64 a0_1) := (by rw [e_]; first | (go_simp; done) | (simp; done)); have c2 : wk_.cell? ⟨w.heap.size, 2, none⟩ = some (.int .i64 a0_2) := (by rw [e_]; first | (go_simp; done) | (simp; done)); have c3 : wk_.cell? ⟨w.heap.size, 3, none⟩ = some (.float .f64 a0_3) := (by rw [e_]; first | (go_simp; done) | (simp; done)); have cB : wk_.cell? ⟨w.heap.size + 1, 0, none⟩ = some (.int .i64 a1) := (by rw [e_]; first | (go_simp; done) | (simp; done)); have HSZ : Aside0 (w.heap.size + 1 < wk_.heap.size) := ⟨by rw [e_]; first | (go_simp; done) | (simp; done)⟩; clear e_; have hb_ := gr_drawn hd_; clear hd_; have n1_ := Aside0.mk (below_step (by repeat (first | (with_reducible first | exact HB.out | apply below_alloc | apply pw_below_drewN | apply below_drew1) | exact HB.out)) hb_); clear HB; have HB := n1_; clear n1_ hb_) | (go_at_call 14; (with_reducible refine (impl_Node_takes.calls _ _ _ _ _ _ _ _ HT.out).mono ?_); rintro e wk_ ⟨rfl, hb_⟩; have c0n := (hb_.cell (p := ⟨w.heap.size, 0, none⟩) (by have := HSZ.out; (first | omega | (simp; omega)))).trans c0; clear c0; have c0 := c0n; clear c0n; have c1n := (hb_.cell (p := ⟨w.heap.size, 1, none⟩) (by have := HSZ.out; (first | omega | (simp; omega)))).trans c1; clear c1; have c1 := c1n; clear c1n; have c2n := (hb_.cell (p := ⟨w.heap.size, 2, none⟩) (by have := HSZ.out; (first | omega | (simp; omega)))).trans c2; clear c2; have c2 := c2n; clear c2n; have c3n := (hb_.cell (p := ⟨w.heap.size, 3, none⟩) (by have := HSZ.out; (first | omega | (simp; omega)))).trans c3; clear c3; have c3 := c3n; clear c3n; have cBn := (hb_.cell (p := ⟨w.heap.size + 1, 0, none⟩) (by have := HSZ.out; (first | omega | (simp; omega)))).trans cB; clear cB; have cB := cBn; clear cBn; have hs_ := Aside0.mk (Nat.lt_of_lt_of_le HSZ.out hb_.size); clear HSZ; have HSZ := hs_; clear hs_; have n1_ := Aside0.mk (below_step (by repeat (first | (with_reducible first | exact HB.out | apply below_alloc | apply pw_below_drewN | apply below_drew1) | exact HB.out)) hb_); clear HB; have HB := n1_; clear n1_ hb_) | (go_at_call 15; (with_reducible refine (node_points _ a1 _ _ _ HV.out.2 cB).mono ?_); rintro e wk_ ⟨rfl, hb_⟩; have c0n := (hb_.cell (p := ⟨w.heap.size, 0, none⟩) (by have := HSZ.out; (first | omega | (simp; omega)))).trans c0; clear c0; have c0 := c0n; clear c0n; have c1n := (hb_.cell (p := ⟨w.heap.size, 1, none⟩) (by have := HSZ.out; (first | omega | (simp; omega)))).trans c1; clear c1; have c1 := c1n; clear c1n; have c2n := (hb_.cell (p := ⟨w.heap.size, 2, none⟩) (by have := HSZ.out; (first | omega | (simp; omega)))).trans c2; clear c2; have c2 := c2n; clear c2n; have c3n := (hb_.cell (p := ⟨w.heap.size, 3, none⟩) (by have := HSZ.out; (first | omega | (simp; omega)))).trans c3; clear c3; have c3 := c3n; clear c3n; have cBn := (hb_.cell (p := ⟨w.heap.size + 1, 0, none⟩) (by have := HSZ.out; (first | omega | (simp; omega)))).trans cB; clear cB; have cB := cBn; clear cBn; have hs_ := Aside0.mk (Nat.lt_of_lt_of_le HSZ.out hb_.size); clear HSZ; have HSZ := hs_; clear hs_; have n1_ := Aside0.mk (below_step (by repeat (first | (with_reducible first | exact HB.out | apply below_alloc | apply pw_below_drewN | apply below_drew1) | exact HB.out)) hb_); clear HB; have HB := n1_; clear n1_ hb_) | (go_at_call 16; (with_reducible refine (plain_nought a0_3 HV.out.1 _).mono ?_); rintro e wk_ ⟨rfl, hb_⟩; have c0n := (hb_.cell (p := ⟨w.heap.size, 0, none⟩) (by have := HSZ.out; (first | omega | (simp; omega)))).trans c0; clear c0; have c0 := c0n; clear c0n; have c1n := (hb_.cell (p := ⟨w.heap.size, 1, none⟩) (by have := HSZ.out; (first | omega | (simp; omega)))).trans c1; clear c1; have c1 := c1n; clear c1n; have c2n := (hb_.cell (p := ⟨w.heap.size, 2, none⟩) (by have := HSZ.out; (first | omega | (simp; omega)))).trans c2; clear c2; have c2 := c2n; clear c2n; have c3n := (hb_.cell (p := ⟨w.heap.size, 3, none⟩) (by have := HSZ.out; (first | omega | (simp; omega)))).trans c3; clear c3; have c3 := c3n; clear c3n; have cBn := (hb_.cell (p := ⟨w.heap.size + 1, 0, none⟩) (by have := HSZ.out; (first | omega | (simp; omega)))).trans cB; clear cB; have cB := cBn; clear cBn; have hs_ := Aside0.mk (Nat.lt_of_lt_of_le HSZ.out hb_.size); clear HSZ; have HSZ := hs_; clear hs_; have n1_ := Aside0.mk (below_step (by repeat (first | (with_reducible first | exact HB.out | apply below_alloc | apply pw_below_drewN | apply below_drew1) | exact HB.out)) hb_); clear HB; have HB := n1_; clear n1_ hb_))
        all_goals (go_ret; refine ⟨congrArg (fun b => Ending.returned (Value.bool b)) ?_, (by repeat (first | (with_reducible first | exact HB.out | apply below_alloc | apply pw_below_drewN | apply below_drew1) | exact HB.out))⟩; clear HB)
        all_goals first | (simp_all [nodeB]; done) | (simp_all [nodeB]; rfl) | (simp_all [nodeB]; omega) | (simp_all [nodeB] <;> omega)
      · have HT := Aside0.mk (show impl_Node_takes.f 2 a0_1 a0_2 a0_3 = some (true, false, true) from rfl)
        go_enter Try.func12, Try.ntmps12
        go_wp2_with (first | (go_at_call 11; (with_reducible refine (impl_in.calls _ 1 7 _ _ HI.out).mono ?_); rintro e wk_ ⟨rfl, hd_⟩; obtain ⟨n_, e_⟩ := hd_.out; have c0 : wk_.cell? ⟨w.heap.size, 0, none⟩ = some (.int .i64 2) := (by rw [e_]; first | (go_simp; done) | (simp; done)); have c1 : wk_.cell? ⟨w.heap.size, 1, none⟩ = some (.int .i64 a0_1) := (by rw [e_]; first | (go_simp; done) | (simp; done)); have c2 : wk_.cell? ⟨w.heap.size, 2, none⟩ = some (.int .i64 a0_2) := (by rw [e_]; first | (go_simp; done) | (simp; done)); have c3 : wk_.cell? ⟨w.heap.size, 3, none⟩ = some (.float .f64 a0_3) := (by rw [e_]; first | (go_simp; done) | (simp; done)); have cB : wk_.cell? ⟨w.heap.size + 1, 0, none⟩ = some (.int .i64 a1) := (by rw [e_]; first | (go_simp; done) | (simp; done)); have HSZ : Aside0 (w.heap.size + 1 < wk_.heap.size) := ⟨by rw [e_]; first | (go_simp; done) | (simp; done)⟩; clear e_; have hb_ := gr_drawn hd_; clear hd_; have n1_ := Aside0.mk (below_step (by repeat (first | (with_reducible first | exact HB.out | apply below_alloc | apply pw_below_drewN | apply below_drew1) | exact HB.out)) hb_); clear HB; have HB := n1_; clear n1_ hb_) | (go_at_call 14; (with_reducible refine (impl_Node_takes.calls _ _ _ _ _ _ _ _ HT.out).mono ?_); rintro e wk_ ⟨rfl, hb_⟩; have c0n := (hb_.cell (p := ⟨w.heap.size, 0, none⟩) (by have := HSZ.out; (first | omega | (simp; omega)))).trans c0; clear c0; have c0 := c0n; clear c0n; have c1n := (hb_.cell (p := ⟨w.heap.size, 1, none⟩) (by have := HSZ.out; (first | omega | (simp; omega)))).trans c1; clear c1; have c1 := c1n; clear c1n; have c2n := (hb_.cell (p := ⟨w.heap.size, 2, none⟩) (by have := HSZ.out; (first | omega | (simp; omega)))).trans c2; clear c2; have c2 := c2n; clear c2n; have c3n := (hb_.cell (p := ⟨w.heap.size, 3, none⟩) (by have := HSZ.out; (first | omega | (simp; omega)))).trans c3; clear c3; have c3 := c3n; clear c3n; have cBn := (hb_.cell (p := ⟨w.heap.size + 1, 0, none⟩) (by have := HSZ.out; (first | omega | (simp; omega)))).trans cB; clear cB; have cB := cBn; clear cBn; have hs_ := Aside0.mk (Nat.lt_of_lt_of_le HSZ.out hb_.size); clear HSZ; have HSZ := hs_; clear hs_; have n1_ := Aside0.mk (below_step (by repeat (first | (with_reducible first | exact HB.out | apply below_alloc | apply pw_below_drewN | apply below_drew1) | exact HB.out)) hb_); clear HB; have HB := n1_; clear n1_ hb_) | (go_at_call 15; (with_reducible refine (node_points _ a1 _ _ _ HV.out.2 cB).mono ?_); rintro e wk_ ⟨rfl, hb_⟩; have c0n := (hb_.cell (p := ⟨w.heap.size, 0, none⟩) (by have := HSZ.out; (first | omega | (simp; omega)))).trans c0; clear c0; have c0 := c0n; clear c0n; have c1n := (hb_.cell (p := ⟨w.heap.size, 1, none⟩) (by have := HSZ.out; (first | omega | (simp; omega)))).trans c1; clear c1; have c1 := c1n; clear c1n; have c2n := (hb_.cell (p := ⟨w.heap.size, 2, none⟩) (by have := HSZ.out; (first | omega | (simp; omega)))).trans c2; clear c2; have c2 := c2n; clear c2n; have c3n := (hb_.cell (p := ⟨w.heap.size, 3, none⟩) (by have := HSZ.out; (first | omega | (simp; omega)))).trans c3; clear c3; have c3 := c3n; clear c3n; have cBn := (hb_.cell (p := ⟨w.heap.size + 1, 0, none⟩) (by have := HSZ.out; (first | omega | (simp; omega)))).trans cB; clear cB; have cB := cBn; clear cBn; have hs_ := Aside0.mk (Nat.lt_of_lt_of_le HSZ.out hb_.size); clear HSZ; have HSZ := hs_; clear hs_; have n1_ := Aside0.mk (below_step (by repeat (first | (with_reducible first | exact HB.out | apply below_alloc | apply pw_below_drewN | apply below_drew1) | exact HB.out)) hb_); clear HB; have HB := n1_; clear n1_ hb_) | (go_at_call 16; (with_reducible refine (plain_nought a0_3 HV.out.1 _).mono ?_); rintro e wk_ ⟨rfl, hb_⟩; have c0n := (hb_.cell (p := ⟨w.heap.size, 0, none⟩) (by have := HSZ.out; (first | omega | (simp; omega)))).trans c0; clear c0; have c0 := c0n; clear c0n; have c1n := (hb_.cell (p := ⟨w.heap.size, 1, none⟩) (by have := HSZ.out; (first | omega | (simp; omega)))).trans c1; clear c1; have c1 := c1n; clear c1n; have c2n := (hb_.cell (p := ⟨w.heap.size, 2, none⟩) (by have := HSZ.out; (first | omega | (simp; omega)))).trans c2; clear c2; have c2 := c2n; clear c2n; have c3n := (hb_.cell (p := ⟨w.heap.size, 3, none⟩) (by have := HSZ.out; (first | omega | (simp; omega)))).trans c3; clear c3; have c3 := c3n; clear c3n; have cBn := (hb_.cell (p := ⟨w.heap.size + 1, 0, none⟩) (by have := HSZ.out; (first | omega | (simp; omega)))).trans cB; clear cB; have cB := cBn; clear cBn; have hs_ := Aside0.mk (Nat.lt_of_lt_of_le HSZ.out hb_.size); clear HSZ; have HSZ := hs_; clear hs_; have n1_ := Aside0.mk (below_step (by repeat (first | (with_reducible first | exact HB.out | apply below_alloc | apply pw_below_drewN | apply below_drew1) | exact HB.out)) hb_); clear HB; have HB := n1_; clear n1_ hb_))
        all_goals (go_ret; refine ⟨congrArg (fun b => Ending.returned (Value.bool b)) ?_, (by repeat (first | (with_reducible first | exact HB.out | apply below_alloc | apply pw_below_drewN | apply below_drew1) | exact HB.out))⟩; clear HB)
        all_goals first | (simp_all [nodeB]; done) | (simp_all [nodeB]; rfl) | (simp_all [nodeB]; omega) | (simp_all [nodeB] <;> omega)
      · have HT := Aside0.mk (show impl_Node_takes.f 3 a0_1 a0_2 a0_3 = some (true, false, true) from rfl)
        go_enter Try.func12, Try.ntmps12
        go_wp2_with (first | (go_at_call 11; (with_reducible refine (impl_in.calls _ 1 7 _ _ HI.out).mono ?_); rintro e wk_ ⟨rfl, hd_⟩; obtain ⟨n_, e_⟩ := hd_.out; have c0 : wk_.cell? ⟨w.heap.size, 0, none⟩ = some (.int .i64 3) := (by rw [e_]; first | (go_simp; done) | (simp; done)); have c1 : wk_.cell? ⟨w.heap.size, 1, none⟩ = some (.int .i64 a0_1) := (by rw [e_]; first | (go_simp; done) | (simp; done)); have c2 : wk_.cell? ⟨w.heap.size, 2, none⟩ = some (.int .i64 a0_2) := (by rw [e_]; first | (go_simp; done) | (simp; done)); have c3 : wk_.cell? ⟨w.heap.size, 3, none⟩ = some (.float .f64 a0_3) := (by rw [e_]; first | (go_simp; done) | (simp; done)); have cB : wk_.cell? ⟨w.heap.size + 1, 0, none⟩ = some (.int .i64 a1) := (by rw [e_]; first | (go_simp; done) | (simp; done)); have HSZ : Aside0 (w.heap.size + 1 < wk_.heap.size) := ⟨by rw [e_]; first | (go_simp; done) | (simp; done)⟩; clear e_; have hb_ := gr_drawn hd_; clear hd_; have n1_ := Aside0.mk (below_step (by repeat (first | (with_reducible first | exact HB.out | apply below_alloc | apply pw_below_drewN | apply below_drew1) | exact HB.out)) hb_); clear HB; have HB := n1_; clear n1_ hb_) | (go_at_call 14; (with_reducible refine (impl_Node_takes.calls _ _ _ _ _ _ _ _ HT.out).mono ?_); rintro e wk_ ⟨rfl, hb_⟩; have c0n := (hb_.cell (p := ⟨w.heap.size, 0, none⟩) (by have := HSZ.out; (first | omega | (simp; omega)))).trans c0; clear c0; have c0 := c0n; clear c0n; have c1n := (hb_.cell (p := ⟨w.heap.size, 1, none⟩) (by have := HSZ.out; (first | omega | (simp; omega)))).trans c1; clear c1; have c1 := c1n; clear c1n; have c2n := (hb_.cell (p := ⟨w.heap.size, 2, none⟩) (by have := HSZ.out; (first | omega | (simp; omega)))).trans c2; clear c2; have c2 := c2n; clear c2n; have c3n := (hb_.cell (p := ⟨w.heap.size, 3, none⟩) (by have := HSZ.out; (first | omega | (simp; omega)))).trans c3; clear c3; have c3 := c3n; clear c3n; have cBn := (hb_.cell (p := ⟨w.heap.size + 1, 0, none⟩) (by have := HSZ.out; (first | omega | (simp; omega)))).trans cB; clear cB; have cB := cBn; clear cBn; have hs_ := Aside0.mk (Nat.lt_of_lt_of_le HSZ.out hb_.size); clear HSZ; have HSZ := hs_; clear hs_; have n1_ := Aside0.mk (below_step (by repeat (first | (with_reducible first | exact HB.out | apply below_alloc | apply pw_below_drewN | apply below_drew1) | exact HB.out)) hb_); clear HB; have HB := n1_; clear n1_ hb_) | (go_at_call 15; (with_reducible refine (node_points _ a1 _ _ _ HV.out.2 cB).mono ?_); rintro e wk_ ⟨rfl, hb_⟩; have c0n := (hb_.cell (p := ⟨w.heap.size, 0, none⟩) (by have := HSZ.out; (first | omega | (simp; omega)))).trans c0; clear c0; have c0 := c0n; clear c0n; have c1n := (hb_.cell (p := ⟨w.heap.size, 1, none⟩) (by have := HSZ.out; (first | omega | (simp; omega)))).trans c1; clear c1; have c1 := c1n; clear c1n; have c2n := (hb_.cell (p := ⟨w.heap.size, 2, none⟩) (by have := HSZ.out; (first | omega | (simp; omega)))).trans c2; clear c2; have c2 := c2n; clear c2n; have c3n := (hb_.cell (p := ⟨w.heap.size, 3, none⟩) (by have := HSZ.out; (first | omega | (simp; omega)))).trans c3; clear c3; have c3 := c3n; clear c3n; have cBn := (hb_.cell (p := ⟨w.heap.size + 1, 0, none⟩) (by have := HSZ.out; (first | omega | (simp; omega)))).trans cB; clear cB; have cB := cBn; clear cBn; have hs_ := Aside0.mk (Nat.lt_of_lt_of_le HSZ.out hb_.size); clear HSZ; have HSZ := hs_; clear hs_; have n1_ := Aside0.mk (below_step (by repeat (first | (with_reducible first | exact HB.out | apply below_alloc | apply pw_below_drewN | apply below_drew1) | exact HB.out)) hb_); clear HB; have HB := n1_; clear n1_ hb_) | (go_at_call 16; (with_reducible refine (plain_nought a0_3 HV.out.1 _).mono ?_); rintro e wk_ ⟨rfl, hb_⟩; have c0n := (hb_.cell (p := ⟨w.heap.size, 0, none⟩) (by have := HSZ.out; (first | omega | (simp; omega)))).trans c0; clear c0; have c0 := c0n; clear c0n; have c1n := (hb_.cell (p := ⟨w.heap.size, 1, none⟩) (by have := HSZ.out; (first | omega | (simp; omega)))).trans c1; clear c1; have c1 := c1n; clear c1n; have c2n := (hb_.cell (p := ⟨w.heap.size, 2, none⟩) (by have := HSZ.out; (first | omega | (simp; omega)))).trans c2; clear c2; have c2 := c2n; clear c2n; have c3n := (hb_.cell (p := ⟨w.heap.size, 3, none⟩) (by have := HSZ.out; (first | omega | (simp; omega)))).trans c3; clear c3; have c3 := c3n; clear c3n; have cBn := (hb_.cell (p := ⟨w.heap.size + 1, 0, none⟩) (by have := HSZ.out; (first | omega | (simp; omega)))).trans cB; clear cB; have cB := cBn; clear cBn; have hs_ := Aside0.mk (Nat.lt_of_lt_of_le HSZ.out hb_.size); clear HSZ; have HSZ := hs_; clear hs_; have n1_ := Aside0.mk (below_step (by repeat (first | (with_reducible first | exact HB.out | apply below_alloc | apply pw_below_drewN | apply below_drew1) | exact HB.out)) hb_); clear HB; have HB := n1_; clear n1_ hb_))
        all_goals (go_ret; refine ⟨congrArg (fun b => Ending.returned (Value.bool b)) ?_, (by repeat (first | (with_reducible first | exact HB.out | apply below_alloc | apply pw_below_drewN | apply below_drew1) | exact HB.out))⟩; clear HB)
        all_goals first | (simp_all [nodeB]; done) | (simp_all [nodeB]; rfl) | (simp_all [nodeB]; omega) | (simp_all [nodeB] <;> omega)
      · have HT := Aside0.mk (show impl_Node_takes.f 4 a0_1 a0_2 a0_3 = some (true, true, true) from rfl)
        go_enter Try.func12, Try.ntmps12
        go_wp2_with (first | (go_at_call 11; (with_reducible refine (impl_in.calls _ 1 7 _ _ HI.out).mono ?_); rintro e wk_ ⟨rfl, hd_⟩; obtain ⟨n_, e_⟩ := hd_.out; have c0 : wk_.cell? ⟨w.heap.size, 0, none⟩ = some (.int .i64 4) := (by rw [e_]; first | (go_simp; done) | (simp; done)); have c1 : wk_.cell? ⟨w.heap.size, 1, none⟩ = some (.int .i64 a0_1) := (by rw [e_]; first | (go_simp; done) | (simp; done)); have c2 : wk_.cell? ⟨w.heap.size, 2, none⟩ = some (.int .i64 a0_2) := (by rw [e_]; first | (go_simp; done) | (simp; done)); have c3 : wk_.cell? ⟨w.heap.size, 3, none⟩ = some (.float .f64 a0_3) := (by rw [e_]; first | (go_simp; done) | (simp; done)); have cB : wk_.cell? ⟨w.heap.size + 1, 0, none⟩ = some (.int .i64 a1) := (by rw [e_]; first | (go_simp; done) | (simp; done)); have HSZ : Aside0 (w.heap.size + 1 < wk_.heap.size) := ⟨by rw [e_]; first | (go_simp; done) | (simp; done)⟩; clear e_; have hb_ := gr_drawn hd_; clear hd_; have n1_ := Aside0.mk (below_step (by repeat (first | (with_reducible first | exact HB.out | apply below_alloc | apply pw_below_drewN | apply below_drew1) | exact HB.out)) hb_); clear HB; have HB := n1_; clear n1_ hb_) | (go_at_call 14; (with_reducible refine (impl_Node_takes.calls _ _ _ _ _ _ _ _ HT.out).mono ?_); rintro e wk_ ⟨rfl, hb_⟩; have c0n := (hb_.cell (p := ⟨w.heap.size, 0, none⟩) (by have := HSZ.out; (first | omega | (simp; omega)))).trans c0; clear c0; have c0 := c0n; clear c0n; have c1n := (hb_.cell (p := ⟨w.heap.size, 1, none⟩) (by have := HSZ.out; (first | omega | (simp; omega)))).trans c1; clear c1; have c1 := c1n; clear c1n; have c2n := (hb_.cell (p := ⟨w.heap.size, 2, none⟩) (by have := HSZ.out; (first | omega | (simp; omega)))).trans c2; clear c2; have c2 := c2n; clear c2n; have c3n := (hb_.cell (p := ⟨w.heap.size, 3, none⟩) (by have := HSZ.out; (first | omega | (simp; omega)))).trans c3; clear c3; have c3 := c3n; clear c3n; have cBn := (hb_.cell (p := ⟨w.heap.size + 1, 0, none⟩) (by have := HSZ.out; (first | omega | (simp; omega)))).trans cB; clear cB; have cB := cBn; clear cBn; have hs_ := Aside0.mk (Nat.lt_of_lt_of_le HSZ.out hb_.size); clear HSZ; have HSZ := hs_; clear hs_; have n1_ := Aside0.mk (below_step (by repeat (first | (with_reducible first | exact HB.out | apply below_alloc | apply pw_below_drewN | apply below_drew1) | exact HB.out)) hb_); clear HB; have HB := n1_; clear n1_ hb_) | (go_at_call 15; (with_reducible refine (node_points _ a1 _ _ _ HV.out.2 cB).mono ?_); rintro e wk_ ⟨rfl, hb_⟩; have c0n := (hb_.cell (p := ⟨w.heap.size, 0, none⟩) (by have := HSZ.out; (first | omega | (simp; omega)))).trans c0; clear c0; have c0 := c0n; clear c0n; have c1n := (hb_.cell (p := ⟨w.heap.size, 1, none⟩) (by have := HSZ.out; (first | omega | (simp; omega)))).trans c1; clear c1; have c1 := c1n; clear c1n; have c2n := (hb_.cell (p := ⟨w.heap.size, 2, none⟩) (by have := HSZ.out; (first | omega | (simp; omega)))).trans c2; clear c2; have c2 := c2n; clear c2n; have c3n := (hb_.cell (p := ⟨w.heap.size, 3, none⟩) (by have := HSZ.out; (first | omega | (simp; omega)))).trans c3; clear c3; have c3 := c3n; clear c3n; have cBn := (hb_.cell (p := ⟨w.heap.size + 1, 0, none⟩) (by have := HSZ.out; (first | omega | (simp; omega)))).trans cB; clear cB; have cB := cBn; clear cBn; have hs_ := Aside0.mk (Nat.lt_of_lt_of_le HSZ.out hb_.size); clear HSZ; have HSZ := hs_; clear hs_; have n1_ := Aside0.mk (below_step (by repeat (first | (with_reducible first | exact HB.out | apply below_alloc | apply pw_below_drewN | apply below_drew1) | exact HB.out)) hb_); clear HB; have HB := n1_; clear n1_ hb_) | (go_at_call 16; (with_reducible refine (plain_nought a0_3 HV.out.1 _).mono ?_); rintro e wk_ ⟨rfl, hb_⟩; have c0n := (hb_.cell (p := ⟨w.heap.size, 0, none⟩) (by have := HSZ.out; (first | omega | (simp; omega)))).trans c0; clear c0; have c0 := c0n; clear c0n; have c1n := (hb_.cell (p := ⟨w.heap.size, 1, none⟩) (by have := HSZ.out; (first | omega | (simp; omega)))).trans c1; clear c1; have c1 := c1n; clear c1n; have c2n := (hb_.cell (p := ⟨w.heap.size, 2, none⟩) (by have := HSZ.out; (first | omega | (simp; omega)))).trans c2; clear c2; have c2 := c2n; clear c2n; have c3n := (hb_.cell (p := ⟨w.heap.size, 3, none⟩) (by have := HSZ.out; (first | omega | (simp; omega)))).trans c3; clear c3; have c3 := c3n; clear c3n; have cBn := (hb_.cell (p := ⟨w.heap.size + 1, 0, none⟩) (by have := HSZ.out; (first | omega | (simp; omega)))).trans cB; clear cB; have cB := cBn; clear cBn; have hs_ := Aside0.mk (Nat.lt_of_lt_of_le HSZ.out hb_.size); clear HSZ; have HSZ := hs_; clear hs_; have n1_ := Aside0.mk (below_step (by repeat (first | (with_reducible first | exact HB.out | apply below_alloc | apply pw_below_drewN | apply below_drew1) | exact HB.out)) hb_); clear HB; have HB := n1_; clear n1_ hb_))
        all_goals (go_ret; refine ⟨congrArg (fun b => Ending.returned (Value.bool b)) ?_, (by repeat (first | (with_reducible first | exact HB.out | apply below_alloc | apply pw_below_drewN | apply below_drew1) | exact HB.out))⟩; clear HB)
        all_goals first | (simp_all [nodeB]; done) | (simp_all [nodeB]; rfl) | (simp_all [nodeB]; omega) | (simp_all [nodeB] <;> omega)
      · have HT := Aside0.mk (show impl_Node_takes.f 5 a0_1 a0_2 a0_3 = some (true, false, true) from rfl)
        go_enter Try.func12, Try.ntmps12
        go_wp2_with (first | (go_at_call 11; (with_reducible refine (impl_in.calls _ 1 7 _ _ HI.out).mono ?_); rintro e wk_ ⟨rfl, hd_⟩; obtain ⟨n_, e_⟩ := hd_.out; have c0 : wk_.cell? ⟨w.heap.size, 0, none⟩ = some (.int .i64 5) := (by rw [e_]; first | (go_simp; done) | (simp; done)); have c1 : wk_.cell? ⟨w.heap.size, 1, none⟩ = some (.int .i64 a0_1) := (by rw [e_]; first | (go_simp; done) | (simp; done)); have c2 : wk_.cell? ⟨w.heap.size, 2, none⟩ = some (.int .i64 a0_2) := (by rw [e_]; first | (go_simp; done) | (simp; done)); have c3 : wk_.cell? ⟨w.heap.size, 3, none⟩ = some (.float .f64 a0_3) := (by rw [e_]; first | (go_simp; done) | (simp; done)); have cB : wk_.cell? ⟨w.heap.size + 1, 0, none⟩ = some (.int .i64 a1) := (by rw [e_]; first | (go_simp; done) | (simp; done)); have HSZ : Aside0 (w.heap.size + 1 < wk_.heap.size) := ⟨by rw [e_]; first | (go_simp; done) | (simp; done)⟩; clear e_; have hb_ := gr_drawn hd_; clear hd_; have n1_ := Aside0.mk (below_step (by repeat (first | (with_reducible first | exact HB.out | apply below_alloc | apply pw_below_drewN | apply below_drew1) | exact HB.out)) hb_); clear HB; have HB := n1_; clear n1_ hb_) | (go_at_call 14; (with_reducible refine (impl_Node_takes.calls _ _ _ _ _ _ _ _ HT.out).mono ?_); rintro e wk_ ⟨rfl, hb_⟩; have c0n := (hb_.cell (p := ⟨w.heap.size, 0, none⟩) (by have := HSZ.out; (first | omega | (simp; omega)))).trans c0; clear c0; have c0 := c0n; clear c0n; have c1n := (hb_.cell (p := ⟨w.heap.size, 1, none⟩) (by have := HSZ.out; (first | omega | (simp; omega)))).trans c1; clear c1; have c1 := c1n; clear c1n; have c2n := (hb_.cell (p := ⟨w.heap.size, 2, none⟩) (by have := HSZ.out; (first | omega | (simp; omega)))).trans c2; clear c2; have c2 := c2n; clear c2n; have c3n := (hb_.cell (p := ⟨w.heap.size, 3, none⟩) (by have := HSZ.out; (first | omega | (simp; omega)))).trans c3; clear c3; have c3 := c3n; clear c3n; have cBn := (hb_.cell (p := ⟨w.heap.size + 1, 0, none⟩) (by have := HSZ.out; (first | omega | (simp; omega)))).trans cB; clear cB; have cB := cBn; clear cBn; have hs_ := Aside0.mk (Nat.lt_of_lt_of_le HSZ.out hb_.size); clear HSZ; have HSZ := hs_; clear hs_; have n1_ := Aside0.mk (below_step (by repeat (first | (with_reducible first | exact HB.out | apply below_alloc | apply pw_below_drewN | apply below_drew1) | exact HB.out)) hb_); clear HB; have HB := n1_; clear n1_ hb_) | (go_at_call 15; (with_reducible refine (node_points _ a1 _ _ _ HV.out.2 cB).mono ?_); rintro e wk_ ⟨rfl, hb_⟩; have c0n := (hb_.cell (p := ⟨w.heap.size, 0, none⟩) (by have := HSZ.out; (first | omega | (simp; omega)))).trans c0; clear c0; have c0 := c0n; clear c0n; have c1n := (hb_.cell (p := ⟨w.heap.size, 1, none⟩) (by have := HSZ.out; (first | omega | (simp; omega)))).trans c1; clear c1; have c1 := c1n; clear c1n; have c2n := (hb_.cell (p := ⟨w.heap.size, 2, none⟩) (by have := HSZ.out; (first | omega | (simp; omega)))).trans c2; clear c2; have c2 := c2n; clear c2n; have c3n := (hb_.cell (p := ⟨w.heap.size, 3, none⟩) (by have := HSZ.out; (first | omega | (simp; omega)))).trans c3; clear c3; have c3 := c3n; clear c3n; have cBn := (hb_.cell (p := ⟨w.heap.size + 1, 0, none⟩) (by have := HSZ.out; (first | omega | (simp; omega)))).trans cB; clear cB; have cB := cBn; clear cBn; have hs_ := Aside0.mk (Nat.lt_of_lt_of_le HSZ.out hb_.size); clear HSZ; have HSZ := hs_; clear hs_; have n1_ := Aside0.mk (below_step (by repeat (first | (with_reducible first | exact HB.out | apply below_alloc | apply pw_below_drewN | apply below_drew1) | exact HB.out)) hb_); clear HB; have HB := n1_; clear n1_ hb_) | (go_at_call 16; (with_reducible refine (plain_nought a0_3 HV.out.1 _).mono ?_); rintro e wk_ ⟨rfl, hb_⟩; have c0n := (hb_.cell (p := ⟨w.heap.size, 0, none⟩) (by have := HSZ.out; (first | omega | (simp; omega)))).trans c0; clear c0; have c0 := c0n; clear c0n; have c1n := (hb_.cell (p := ⟨w.heap.size, 1, none⟩) (by have := HSZ.out; (first | omega | (simp; omega)))).trans c1; clear c1; have c1 := c1n; clear c1n; have c2n := (hb_.cell (p := ⟨w.heap.size, 2, none⟩) (by have := HSZ.out; (first | omega | (simp; omega)))).trans c2; clear c2; have c2 := c2n; clear c2n; have c3n := (hb_.cell (p := ⟨w.heap.size, 3, none⟩) (by have := HSZ.out; (first | omega | (simp; omega)))).trans c3; clear c3; have c3 := c3n; clear c3n; have cBn := (hb_.cell (p := ⟨w.heap.size + 1, 0, none⟩) (by have := HSZ.out; (first | omega | (simp; omega)))).trans cB; clear cB; have cB := cBn; clear cBn; have hs_ := Aside0.mk (Nat.lt_of_lt_of_le HSZ.out hb_.size); clear HSZ; have HSZ := hs_; clear hs_; have n1_ := Aside0.mk (below_step (by repeat (first | (with_reducible first | exact HB.out | apply below_alloc | apply pw_below_drewN | apply below_drew1) | exact HB.out)) hb_); clear HB; have HB := n1_; clear n1_ hb_))
        all_goals (go_ret; refine ⟨congrArg (fun b => Ending.returned (Value.bool b)) ?_, (by repeat (first | (with_reducible first | exact HB.out | apply below_alloc | apply pw_below_drewN | apply below_drew1) | exact HB.out))⟩; clear HB)
        all_goals first | (simp_all [nodeB]; done) | (simp_all [nodeB]; rfl) | (simp_all [nodeB]; omega) | (simp_all [nodeB] <;> omega)
      · have HT := Aside0.mk (show impl_Node_takes.f 6 a0_1 a0_2 a0_3 = some (true, false, false) from rfl)
        go_enter Try.func12, Try.ntmps12
        go_wp2_with (first | (go_at_call 11; (with_reducible refine (impl_in.calls _ 1 7 _ _ HI.out).mono ?_); rintro e wk_ ⟨rfl, hd_⟩; obtain ⟨n_, e_⟩ := hd_.out; have c0 : wk_.cell? ⟨w.heap.size, 0, none⟩ = some (.int .i64 6) := (by rw [e_]; first | (go_simp; done) | (simp; done)); have c1 : wk_.cell? ⟨w.heap.size, 1, none⟩ = some (.int .i64 a0_1) := (by rw [e_]; first | (go_simp; done) | (simp; done)); have c2 : wk_.cell? ⟨w.heap.size, 2, none⟩ = some (.int .i64 a0_2) := (by rw [e_]; first | (go_simp; done) | (simp; done)); have c3 : wk_.cell? ⟨w.heap.size, 3, none⟩ = some (.float .f64 a0_3) := (by rw [e_]; first | (go_simp; done) | (simp; done)); have cB : wk_.cell? ⟨w.heap.size + 1, 0, none⟩ = some (.int .i64 a1) := (by rw [e_]; first | (go_simp; done) | (simp; done)); have HSZ : Aside0 (w.heap.size + 1 < wk_.heap.size) := ⟨by rw [e_]; first | (go_simp; done) | (simp; done)⟩; clear e_; have hb_ := gr_drawn hd_; clear hd_; have n1_ := Aside0.mk (below_step (by repeat (first | (with_reducible first | exact HB.out | apply below_alloc | apply pw_below_drewN | apply below_drew1) | exact HB.out)) hb_); clear HB; have HB := n1_; clear n1_ hb_) | (go_at_call 14; (with_reducible refine (impl_Node_takes.calls _ _ _ _ _ _ _ _ HT.out).mono ?_); rintro e wk_ ⟨rfl, hb_⟩; have c0n := (hb_.cell (p := ⟨w.heap.size, 0, none⟩) (by have := HSZ.out; (first | omega | (simp; omega)))).trans c0; clear c0; have c0 := c0n; clear c0n; have c1n := (hb_.cell (p := ⟨w.heap.size, 1, none⟩) (by have := HSZ.out; (first | omega | (simp; omega)))).trans c1; clear c1; have c1 := c1n; clear c1n; have c2n := (hb_.cell (p := ⟨w.heap.size, 2, none⟩) (by have := HSZ.out; (first | omega | (simp; omega)))).trans c2; clear c2; have c2 := c2n; clear c2n; have c3n := (hb_.cell (p := ⟨w.heap.size, 3, none⟩) (by have := HSZ.out; (first | omega | (simp; omega)))).trans c3; clear c3; have c3 := c3n; clear c3n; have cBn := (hb_.cell (p := ⟨w.heap.size + 1, 0, none⟩) (by have := HSZ.out; (first | omega | (simp; omega)))).trans cB; clear cB; have cB := cBn; clear cBn; have hs_ := Aside0.mk (Nat.lt_of_lt_of_le HSZ.out hb_.size); clear HSZ; have HSZ := hs_; clear hs_; have n1_ := Aside0.mk (below_step (by repeat (first | (with_reducible first | exact HB.out | apply below_alloc | apply pw_below_drewN | apply below_drew1) | exact HB.out)) hb_); clear HB; have HB := n1_; clear n1_ hb_) | (go_at_call 15; (with_reducible refine (node_points _ a1 _ _ _ HV.out.2 cB).mono ?_); rintro e wk_ ⟨rfl, hb_⟩; have c0n := (hb_.cell (p := ⟨w.heap.size, 0, none⟩) (by have := HSZ.out; (first | omega | (simp; omega)))).trans c0; clear c0; have c0 := c0n; clear c0n; have c1n := (hb_.cell (p := ⟨w.heap.size, 1, none⟩) (by have := HSZ.out; (first | omega | (simp; omega)))).trans c1; clear c1; have c1 := c1n; clear c1n; have c2n := (hb_.cell (p := ⟨w.heap.size, 2, none⟩) (by have := HSZ.out; (first | omega | (simp; omega)))).trans c2; clear c2; have c2 := c2n; clear c2n; have c3n := (hb_.cell (p := ⟨w.heap.size, 3, none⟩) (by have := HSZ.out; (first | omega | (simp; omega)))).trans c3; clear c3; have c3 := c3n; clear c3n; have cBn := (hb_.cell (p := ⟨w.heap.size + 1, 0, none⟩) (by have := HSZ.out; (first | omega | (simp; omega)))).trans cB; clear cB; have cB := cBn; clear cBn; have hs_ := Aside0.mk (Nat.lt_of_lt_of_le HSZ.out hb_.size); clear HSZ; have HSZ := hs_; clear hs_; have n1_ := Aside0.mk (below_step (by repeat (first | (with_reducible first | exact HB.out | apply below_alloc | apply pw_below_drewN | apply below_drew1) | exact HB.out)) hb_); clear HB; have HB := n1_; clear n1_ hb_) | (go_at_call 16; (with_reducible refine (plain_nought a0_3 HV.out.1 _).mono ?_); rintro e wk_ ⟨rfl, hb_⟩; have c0n := (hb_.cell (p := ⟨w.heap.size, 0, none⟩) (by have := HSZ.out; (first | omega | (simp; omega)))).trans c0; clear c0; have c0 := c0n; clear c0n; have c1n := (hb_.cell (p := ⟨w.heap.size, 1, none⟩) (by have := HSZ.out; (first | omega | (simp; omega)))).trans c1; clear c1; have c1 := c1n; clear c1n; have c2n := (hb_.cell (p := ⟨w.heap.size, 2, none⟩) (by have := HSZ.out; (first | omega | (simp; omega)))).trans c2; clear c2; have c2 := c2n; clear c2n; have c3n := (hb_.cell (p := ⟨w.heap.size, 3, none⟩) (by have := HSZ.out; (first | omega | (simp; omega)))).trans c3; clear c3; have c3 := c3n; clear c3n; have cBn := (hb_.cell (p := ⟨w.heap.size + 1, 0, none⟩) (by have := HSZ.out; (first | omega | (simp; omega)))).trans cB; clear cB; have cB := cBn; clear cBn; have hs_ := Aside0.mk (Nat.lt_of_lt_of_le HSZ.out hb_.size); clear HSZ; have HSZ := hs_; clear hs_; have n1_ := Aside0.mk (below_step (by repeat (first | (with_reducible first | exact HB.out | apply below_alloc | apply pw_below_drewN | apply below_drew1) | exact HB.out)) hb_); clear HB; have HB := n1_; clear n1_ hb_))
        all_goals (go_ret; refine ⟨congrArg (fun b => Ending.returned (Value.bool b)) ?_, (by repeat (first | (with_reducible first | exact HB.out | apply below_alloc | apply pw_below_drewN | apply below_drew1) | exact HB.out))⟩; clear HB)
        all_goals first | (simp_all [nodeB]; done) | (simp_all [nodeB]; rfl) | (simp_all [nodeB]; omega) | (simp_all [nodeB] <;> omega)
      · have HT := Aside0.mk (show impl_Node_takes.f 7 a0_1 a0_2 a0_3 = some (true, false, false) from rfl)
        go_enter Try.func12, Try.ntmps12
        go_wp2_with (first | (go_at_call 11; (with_reducible refine (impl_in.calls _ 1 7 _ _ HI.out).mono ?_); rintro e wk_ ⟨rfl, hd_⟩; obtain ⟨n_, e_⟩ := hd_.out; have c0 : wk_.cell? ⟨w.heap.size, 0, none⟩ = some (.int .i64 7) := (by rw [e_]; first | (go_simp; done) | (simp; done)); have c1 : wk_.cell? ⟨w.heap.size, 1, none⟩ = some (.int .i64 a0_1) := (by rw [e_]; first | (go_simp; done) | (simp; done)); have c2 : wk_.cell? ⟨w.heap.size, 2, none⟩ = some (.int .i64 a0_2) := (by rw [e_]; first | (go_simp; done) | (simp; done)); have c3 : wk_.cell? ⟨w.heap.size, 3, none⟩ = some (.float .f64 a0_3) := (by rw [e_]; first | (go_simp; done) | (simp; done)); have cB : wk_.cell? ⟨w.heap.size + 1, 0, none⟩ = some (.int .i64 a1) := (by rw [e_]; first | (go_simp; done) | (simp; done)); have HSZ : Aside0 (w.heap.size + 1 < wk_.heap.size) := ⟨by rw [e_]; first | (go_simp; done) | (simp; done)⟩; clear e_; have hb_ := gr_drawn hd_; clear hd_; have n1_ := Aside0.mk (below_step (by repeat (first | (with_reducible first | exact HB.out | apply below_alloc | apply pw_below_drewN | apply below_drew1) | exact HB.out)) hb_); clear HB; have HB := n1_; clear n1_ hb_) | (go_at_call 14; (with_reducible refine (impl_Node_takes.calls _ _ _ _ _ _ _ _ HT.out).mono ?_); rintro e wk_ ⟨rfl, hb_⟩; have c0n := (hb_.cell (p := ⟨w.heap.size, 0, none⟩) (by have := HSZ.out; (first | omega | (simp; omega)))).trans c0; clear c0; have c0 := c0n; clear c0n; have c1n := (hb_.cell (p := ⟨w.heap.size, 1, none⟩) (by have := HSZ.out; (first | omega | (simp; omega)))).trans c1; clear c1; have c1 := c1n; clear c1n; have c2n := (hb_.cell (p := ⟨w.heap.size, 2, none⟩) (by have := HSZ.out; (first | omega | (simp; omega)))).trans c2; clear c2; have c2 := c2n; clear c2n; have c3n := (hb_.cell (p := ⟨w.heap.size, 3, none⟩) (by have := HSZ.out; (first | omega | (simp; omega)))).trans c3; clear c3; have c3 := c3n; clear c3n; have cBn := (hb_.cell (p := ⟨w.heap.size + 1, 0, none⟩) (by have := HSZ.out; (first | omega | (simp; omega)))).trans cB; clear cB; have cB := cBn; clear cBn; have hs_ := Aside0.mk (Nat.lt_of_lt_of_le HSZ.out hb_.size); clear HSZ; have HSZ := hs_; clear hs_; have n1_ := Aside0.mk (below_step (by repeat (first | (with_reducible first | exact HB.out | apply below_alloc | apply pw_below_drewN | apply below_drew1) | exact HB.out)) hb_); clear HB; have HB := n1_; clear n1_ hb_) | (go_at_call 15; (with_reducible refine (node_points _ a1 _ _ _ HV.out.2 cB).mono ?_); rintro e wk_ ⟨rfl, hb_⟩; have c0n := (hb_.cell (p := ⟨w.heap.size, 0, none⟩) (by have := HSZ.out; (first | omega | (simp; omega)))).trans c0; clear c0; have c0 := c0n; clear c0n; have c1n := (hb_.cell (p := ⟨w.heap.size, 1, none⟩) (by have := HSZ.out; (first | omega | (simp; omega)))).trans c1; clear c1; have c1 := c1n; clear c1n; have c2n := (hb_.cell (p := ⟨w.heap.size, 2, none⟩) (by have := HSZ.out; (first | omega | (simp; omega)))).trans c2; clear c2; have c2 := c2n; clear c2n; have c3n := (hb_.cell (p := ⟨w.heap.size, 3, none⟩) (by have := HSZ.out; (first | omega | (simp; omega)))).trans c3; clear c3; have c3 := c3n; clear c3n; have cBn := (hb_.cell (p := ⟨w.heap.size + 1, 0, none⟩) (by have := HSZ.out; (first | omega | (simp; omega)))).trans cB; clear cB; have cB := cBn; clear cBn; have hs_ := Aside0.mk (Nat.lt_of_lt_of_le HSZ.out hb_.size); clear HSZ; have HSZ := hs_; clear hs_; have n1_ := Aside0.mk (below_step (by repeat (first | (with_reducible first | exact HB.out | apply below_alloc | apply pw_below_drewN | apply below_drew1) | exact HB.out)) hb_); clear HB; have HB := n1_; clear n1_ hb_) | (go_at_call 16; (with_reducible refine (plain_nought a0_3 HV.out.1 _).mono ?_); rintro e wk_ ⟨rfl, hb_⟩; have c0n := (hb_.cell (p := ⟨w.heap.size, 0, none⟩) (by have := HSZ.out; (first | omega | (simp; omega)))).trans c0; clear c0; have c0 := c0n; clear c0n; have c1n := (hb_.cell (p := ⟨w.heap.size, 1, none⟩) (by have := HSZ.out; (first | omega | (simp; omega)))).trans c1; clear c1; have c1 := c1n; clear c1n; have c2n := (hb_.cell (p := ⟨w.heap.size, 2, none⟩) (by have := HSZ.out; (first | omega | (simp; omega)))).trans c2; clear c2; have c2 := c2n; clear c2n; have c3n := (hb_.cell (p := ⟨w.heap.size, 3, none⟩) (by have := HSZ.out; (first | omega | (simp; omega)))).trans c3; clear c3; have c3 := c3n; clear c3n; have cBn := (hb_.cell (p := ⟨w.heap.size + 1, 0, none⟩) (by have := HSZ.out; (first | omega | (simp; omega)))).trans cB; clear cB; have cB := cBn; clear cBn; have hs_ := Aside0.mk (Nat.lt_of_lt_of_le HSZ.out hb_.size); clear HSZ; have HSZ := hs_; clear hs_; have n1_ := Aside0.mk (below_step (by repeat (first | (with_reducible first | exact HB.out | apply below_alloc | apply pw_below_drewN | apply below_drew1) | exact HB.out)) hb_); clear HB; have HB := n1_; clear n1_ hb_))
        all_goals (go_ret; refine ⟨congrArg (fun b => Ending.returned (Value.bool b)) ?_, (by repeat (first | (with_reducible first | exact HB.out | apply below_alloc | apply pw_below_drewN | apply below_drew1) | exact HB.out))⟩; clear HB)
        all_goals first | (simp_all [nodeB]; done) | (simp_all [nodeB]; rfl) | (simp_all [nodeB]; omega) | (simp_all [nodeB] <;> omega)
    · have HI := Aside0.mk (show impl_in.f a0_0 1 7 = some false by (unfold impl_in.f; split <;> simp; omega))
      rw [nodeB_other hk]
      clear hk
      go_enter Try.func12, Try.ntmps12
      go_wp2_with (first | (go_at_call 11; (with_reducible refine (impl_in.calls _ 1 7 _ _ HI.out).mono ?_); rintro e wk_ ⟨rfl, hd_⟩; have hb_ := gr_drawn hd_; clear hd_; have n1_ := Aside0.mk (below_step (by repeat (first | (with_reducible first | exact HB.out | apply below_alloc | apply pw_below_drewN | apply below_drew1) | exact HB.out)) hb_); clear HB; have HB := n1_; clear n1_ hb_))
      go_ret
      exact ⟨rfl, (by repeat (first | (with_reducible first | exact HB.out | apply below_alloc | apply pw_below_drewN | apply below_drew1) | exact HB.out))⟩
  · rw [if_neg hv] at h
    cases h


/-! ### impl_GraphOk: function 7 -/
def impl_GraphOk.l0 : Nat → List (S32) → Int → Int → Option (Bool)
  | 0, _, _, _ => none
  | k + 1, x9, x10, x11 => if x11 < x10 then (if 0 ≤ x11 then (if x11 < (x9.length : Int) then ((impl_Node_ok.f ((rd_T32 x9 x11).f0) ((rd_T32 x9 x11).f1) ((rd_T32 x9 x11).f2) ((rd_T32 x9 x11).f3) x11).bind fun t119 => (if t119 = true then (impl_GraphOk.l0 k x9 x10 (wrap64 (x11 + 1))) else (some false))) else (none)) else (none)) else (some true)
def impl_GraphOk.f (k : Nat) (l0 : List (S32)) : Option (Bool) := (impl_in.f (l0.length : Int) 1 40).bind fun t116 => (if t116 = true then (impl_GraphOk.l0 k l0 (l0.length : Int) 0) else (some false))
theorem impl_GraphOk.mono_l : ∀ k, (∀ y0 y1 y2, LeO (impl_GraphOk.l0 k y0 y1 y2) (impl_GraphOk.l0 (k + 1) y0 y1 y2))
  | 0 => fun _ _ _ r h => by simp [impl_GraphOk.l0] at h
  | k + 1 => by
    have ih0 := impl_GraphOk.mono_l k
    · intro y0 y1 y2
      unfold impl_GraphOk.l0
      repeat' first
      | (with_reducible exact ih0 _ _ _)
      | (with_reducible exact LeO.refl _)
      | (with_reducible exact LeO.none _)
      | (with_reducible refine LeO.ite ?_ ?_)
      | (with_reducible refine LeO.bind ?_ (fun _ => ?_))
      | exact ih0 _ _ _
      | exact LeO.none _
      | refine LeO.ite ?_ ?_
      | refine LeO.bind ?_ (fun _ => ?_)
theorem impl_GraphOk.mono : ∀ a0 k, LeO (impl_GraphOk.f k a0) (impl_GraphOk.f (k + 1) a0) := by
  intro a0 k
  have ih0 := impl_GraphOk.mono_l k
  unfold impl_GraphOk.f
  repeat' first
      | (with_reducible exact ih0 _ _ _)
      | (with_reducible exact LeO.refl _)
      | (with_reducible exact LeO.none _)
      | (with_reducible refine LeO.ite ?_ ?_)
      | (with_reducible refine LeO.bind ?_ (fun _ => ?_))
      | exact ih0 _ _ _
      | exact LeO.none _
      | refine LeO.ite ?_ ?_
      | refine LeO.bind ?_ (fun _ => ?_)
set_option maxHeartbeats 8000000 in
set_option maxRecDepth 100000 in
theorem impl_GraphOk.calls (k : Nat) (A0 : Option Addr) (c0 : Nat) (l0 : List (S32)) (r : Bool) (w : World) (hr0 : Kd.C k32 w A0 l0.length l0) (hc0 : l0.length ≤ c0) (h : impl_GraphOk.f k l0 = some r) :
    Calls Try.prog 7 #[.slice A0 l0.length c0] w fun e w' => e = .returned (.bool r) ∧ Below w.heap.size w w' := by
  have hu32 := Try.underlying32
  have HR0 := Aside0.mk hr0
  have HC0 := Aside0.mk hc0
  clear hr0 hc0
  have HB := Aside0.mk (Below.refl w.heap.size w)
  have H : ((impl_in.f (l0.length : Int) 1 40).bind fun t116 => (if t116 = true then (impl_GraphOk.l0 k l0 (l0.length : Int) 0) else (some false))) = some r := h
  clear h
  replace H := Option.bind_eq_some_iff.mp H
  obtain ⟨t116, A20, H⟩ := H
  replace H : (if t116 = true then (impl_GraphOk.l0 k l0 (l0.length : Int) 0) else (some false)) = some r := H
  have A2 := Aside0.mk A20
  clear A20
  by_cases c3 : t116 = true
  · subst c3
    have H1 : (impl_GraphOk.l0 k l0 (l0.length : Int) 0) = some r := by rw [if_pos rfl] at H; exact H
    clear H
    have H := H1
    clear H1
    have H' := Aside0.mk H
    clear H
    go_enter Try.func7, Try.ntmps7
    go_wp2_with (first | ((with_reducible refine gate_callee (f := 11) rfl ?_); refine goesL_ (some 7) rfl rfl Try.func11 (by kernel_rfl) rfl #[.int .i64 (l0.length : Int), .int .i64 1, .int .i64 40] rfl (by (try simp only [List.map_toArray, List.map_cons, List.map_nil]); first | done | rfl | (simp only [List.length_drop, List.length_take]; rfl)) ?_; (with_reducible refine (impl_in.calls (l0.length : Int) 1 40 true _ A2.out).mono ?_); rintro e w' ⟨rfl, ⟨nd, rfl⟩⟩; refine ⟨_, rfl, ?_⟩))
    go_loopg [11] k (fun kq v11 w' => ∃ (x11_1 : Int), v11 = .int .i64 x11_1 ∧ Aside0 (impl_GraphOk.l0 kq l0 (l0.length : Int) x11_1 = some r) ∧ Aside0 (kq ≤ k) ∧ Aside0 (Below w.heap.size w w'))
    case atStart => exact ⟨(0), (by first | rfl | (simp; done) | (simp [*]; done)), H', ⟨Nat.le_refl _⟩, ⟨by repeat (first | (with_reducible first | exact HB.out | apply below_alloc | apply pw_below_drewN | apply below_drew1) | exact HB.out)⟩⟩
    case round =>
      clear H'
      try clear c1
      try clear p2
      try clear c3
      obtain ⟨x11_1, rfl, HA, HK1, HB⟩ := hrel
      cases gk with
      | zero => exact absurd HA.out (by simp [impl_GraphOk.l0])
      | succ k1 =>
        have H := HA.out
        clear HA
        simp only [impl_GraphOk.l0] at H
        by_cases c4 : x11_1 < (l0.length : Int)
        · rw [if_pos c4] at H
          have c4b0 : decide (x11_1 < (l0.length : Int)) = true := decide_eq_true c4
          clear c4
          by_cases c5 : 0 ≤ x11_1
          · rw [if_pos c5] at H
            have c5b0 : decide (0 ≤ x11_1) = true := decide_eq_true c5
            clear c5
            by_cases c6 : x11_1 < (l0.length : Int)
            · rw [if_pos c6] at H
              have c6b0 : decide (x11_1 < (l0.length : Int)) = true := decide_eq_true c6
              clear c6
              replace H := Option.bind_eq_some_iff.mp H
              obtain ⟨t119, A70, H⟩ := H
              replace H : (if t119 = true then (impl_GraphOk.l0 k1 l0 (l0.length : Int) (wrap64 (x11_1 + 1))) else (some false)) = some r := H
              have A7 := Aside0.mk A70
              clear A70
              by_cases c8 : t119 = true
              · subst c8
                have H1 : (impl_GraphOk.l0 k1 l0 (l0.length : Int) (wrap64 (x11_1 + 1))) = some r := by rw [if_pos rfl] at H; exact H
                clear H
                have H := H1
                clear H1
                have H' := Aside0.mk H
                clear H
                have p117 : 0 ≤ (x11_1 : Int) := of_decide_eq_true (by first | (with_reducible assumption) | assumption)
                have q117 : x11_1 < (l0.length : Int) := of_decide_eq_true (by first | (with_reducible assumption) | assumption)
                obtain ⟨ad117, e117, hx117_0, hx117_1, hx117_2, hx117_3⟩ := at_T32 HR0.out x11_1 p117 q117
                cases e117
                replace hx117_0 := (HB.out.cell (World.block_lt_of_cell? w _ hx117_0)).trans hx117_0
                replace hx117_1 := (HB.out.cell (World.block_lt_of_cell? w _ hx117_1)).trans hx117_1
                replace hx117_2 := (HB.out.cell (World.block_lt_of_cell? w _ hx117_2)).trans hx117_2
                replace hx117_3 := (HB.out.cell (World.block_lt_of_cell? w _ hx117_3)).trans hx117_3
                replace p117 := eq_true p117
                replace q117 := eq_true q117
                go_wp2_with (first | ((with_reducible refine gate_dst (N := 4) rfl ?_); refine box_event ?hg (N := 4) ?hd (cs := #[.int .i64 0, .int .i64 0, .int .i64 0, .float .f64 0]) (t := 32) ?hr ?_; (case hd => rfl); (case hg => rfl); (case hr => first | (go_simp; done) | (go_simp; rfl)); intro gb118 hg w9 hbox hb; have n0_ := Aside0.mk (below_step (by repeat (first | (with_reducible first | exact HB.out | apply below_alloc | apply pw_below_drewN | apply below_drew1) | exact HB.out)) hb); have n1_ := Aside0.mk (hbox); have n2_ := Aside0.mk ((by rw [hg]; exact (below_size (by repeat (first | (with_reducible first | exact HB.out | apply below_alloc | apply pw_below_drewN | apply below_drew1) | exact HB.out))) : w.heap.size ≤ gb118)); have n3_ := Aside0.mk ((by rw [hg]; exact (below_size (by repeat (first | (with_reducible first | exact HB.out | apply below_alloc | apply pw_below_drewN | apply below_drew1) | exact HB.out))) : w.heap.size ≤ gb118)); clear HB; have HB := n0_; have BK118 := n1_; have GW118 := n2_; have GE118 := n3_; clear n0_ n1_ n2_ n3_; clear hb hbox hg; have hcz10_0 : w9.cell? ⟨gb118, 0, none⟩ = some (.int .i64 0) := (blk_cell BK118.out 0).trans rfl; have hcz10_1 : w9.cell? ⟨gb118, 1, none⟩ = some (.int .i64 0) := (blk_cell BK118.out 1).trans rfl; have hcz10_2 : w9.cell? ⟨gb118, 2, none⟩ = some (.int .i64 0) := (blk_cell BK118.out 2).trans rfl; have hcz10_3 : w9.cell? ⟨gb118, 3, none⟩ = some (.float .f64 0) := (blk_cell BK118.out 3).trans rfl; have hfz10_0 := blk_frozen BK118.out 0; have hfz10_1 := blk_frozen BK118.out 1; have hfz10_2 := blk_frozen BK118.out 2; have hfz10_3 := blk_frozen BK118.out 3) | ((with_reducible refine gate_callee (f := 12) rfl ?_); refine goesL_ (some 18) rfl rfl Try.func12 (by kernel_rfl) rfl #[.agg #[.int .i64 ((rd_T32 l0 x11_1).f0), .int .i64 ((rd_T32 l0 x11_1).f1), .int .i64 ((rd_T32 l0 x11_1).f2), .float .f64 ((rd_T32 l0 x11_1).f3)], .int .i64 x11_1] rfl (by (try simp only [List.map_toArray, List.map_cons, List.map_nil]); first | done | rfl | (simp only [List.length_drop, List.length_take]; rfl)) ?_; (with_reducible refine (impl_Node_ok.calls ((rd_T32 l0 x11_1).f0) ((rd_T32 l0 x11_1).f1) ((rd_T32 l0 x11_1).f2) ((rd_T32 l0 x11_1).f3) x11_1 true _ A7.out).mono ?_); rintro e w11 ⟨rfl, hb⟩; refine ⟨_, rfl, ?_⟩; have n0_ := Aside0.mk (blk_below (g := gb118) (o := .cells #[.int .i64 ((rd_T32 l0 x11_1).f0), .int .i64 ((rd_T32 l0 x11_1).f1), .int .i64 ((rd_T32 l0 x11_1).f2), .float .f64 ((rd_T32 l0 x11_1).f3)] 32 (0, 0)) (by (with_reducible repeat (first | refine blk_drewN ?_ _ | refine blk_drew ?_ | refine blk_alloc ?_ _)); refine blk_put (cs := #[.int .i64 ((rd_T32 l0 x11_1).f0), .int .i64 ((rd_T32 l0 x11_1).f1), .int .i64 ((rd_T32 l0 x11_1).f2), .float .f64 0]) ?_ 3 _ rfl; (with_reducible repeat (first | refine blk_drewN ?_ _ | refine blk_drew ?_ | refine blk_alloc ?_ _)); refine blk_put (cs := #[.int .i64 ((rd_T32 l0 x11_1).f0), .int .i64 ((rd_T32 l0 x11_1).f1), .int .i64 0, .float .f64 0]) ?_ 2 _ rfl; (with_reducible repeat (first | refine blk_drewN ?_ _ | refine blk_drew ?_ | refine blk_alloc ?_ _)); refine blk_put (cs := #[.int .i64 ((rd_T32 l0 x11_1).f0), .int .i64 0, .int .i64 0, .float .f64 0]) ?_ 1 _ rfl; (with_reducible repeat (first | refine blk_drewN ?_ _ | refine blk_drew ?_ | refine blk_alloc ?_ _)); refine blk_put (cs := #[.int .i64 0, .int .i64 0, .int .i64 0, .float .f64 0]) ?_ 0 _ rfl; (with_reducible repeat (first | refine blk_drewN ?_ _ | refine blk_drew ?_ | refine blk_alloc ?_ _)); exact BK118.out) hb); have n1_ := Aside0.mk (below_step (by repeat (first | (with_reducible first | exact HB.out | apply below_alloc | apply pw_below_drewN | apply below_drew1 | refine below_set ?_ GE118.out) | exact HB.out)) hb); clear BK118; clear HB; have BK118 := n0_; have HB := n1_; clear n0_ n1_; (try clear hb); (try clear hb2); (try clear hk); (try clear hi)))
                go_roundg k1
                case measure => have := HK1.out; omega
                case rel => exact ⟨(wrap64 (x11_1 + 1)), (by first | rfl | (simp; done) | (simp [*]; done)), H', ⟨by have := HK1.out; omega⟩, ⟨by repeat (first | (with_reducible first | exact HB.out | apply below_alloc | apply pw_below_drewN | apply below_drew1 | refine below_set ?_ GE118.out) | exact HB.out)⟩⟩
              · replace c8 := Bool.eq_false_iff.mpr c8
                subst c8
                have H1 : (some false) = some r := by rw [if_neg (show ¬ (false = true) by decide)] at H; exact H
                clear H
                have H := H1
                clear H1
                obtain rfl := Option.some.inj H
                have p117 : 0 ≤ (x11_1 : Int) := of_decide_eq_true (by first | (with_reducible assumption) | assumption)
                have q117 : x11_1 < (l0.length : Int) := of_decide_eq_true (by first | (with_reducible assumption) | assumption)
                obtain ⟨ad117, e117, hx117_0, hx117_1, hx117_2, hx117_3⟩ := at_T32 HR0.out x11_1 p117 q117
                cases e117
                replace hx117_0 := (HB.out.cell (World.block_lt_of_cell? w _ hx117_0)).trans hx117_0
                replace hx117_1 := (HB.out.cell (World.block_lt_of_cell? w _ hx117_1)).trans hx117_1
                replace hx117_2 := (HB.out.cell (World.block_lt_of_cell? w _ hx117_2)).trans hx117_2
                replace hx117_3 := (HB.out.cell (World.block_lt_of_cell? w _ hx117_3)).trans hx117_3
                replace p117 := eq_true p117
                replace q117 := eq_true q117
                go_wp2_with (first | ((with_reducible refine gate_dst (N := 4) rfl ?_); refine box_event ?hg (N := 4) ?hd (cs := #[.int .i64 0, .int .i64 0, .int .i64 0, .float .f64 0]) (t := 32) ?hr ?_; (case hd => rfl); (case hg => rfl); (case hr => first | (go_simp; done) | (go_simp; rfl)); intro gb118 hg w12 hbox hb; have n0_ := Aside0.mk (below_step (by repeat (first | (with_reducible first | exact HB.out | apply below_alloc | apply pw_below_drewN | apply below_drew1) | exact HB.out)) hb); have n1_ := Aside0.mk (hbox); have n2_ := Aside0.mk ((by rw [hg]; exact (below_size (by repeat (first | (with_reducible first | exact HB.out | apply below_alloc | apply pw_below_drewN | apply below_drew1) | exact HB.out))) : w.heap.size ≤ gb118)); have n3_ := Aside0.mk ((by rw [hg]; exact (below_size (by repeat (first | (with_reducible first | exact HB.out | apply below_alloc | apply pw_below_drewN | apply below_drew1) | exact HB.out))) : w.heap.size ≤ gb118)); clear HB; have HB := n0_; have BK118 := n1_; have GW118 := n2_; have GE118 := n3_; clear n0_ n1_ n2_ n3_; clear hb hbox hg; have hcz13_0 : w12.cell? ⟨gb118, 0, none⟩ = some (.int .i64 0) := (blk_cell BK118.out 0).trans rfl; have hcz13_1 : w12.cell? ⟨gb118, 1, none⟩ = some (.int .i64 0) := (blk_cell BK118.out 1).trans rfl; have hcz13_2 : w12.cell? ⟨gb118, 2, none⟩ = some (.int .i64 0) := (blk_cell BK118.out 2).trans rfl; have hcz13_3 : w12.cell? ⟨gb118, 3, none⟩ = some (.float .f64 0) := (blk_cell BK118.out 3).trans rfl; have hfz13_0 := blk_frozen BK118.out 0; have hfz13_1 := blk_frozen BK118.out 1; have hfz13_2 := blk_frozen BK118.out 2; have hfz13_3 := blk_frozen BK118.out 3) | ((with_reducible refine gate_callee (f := 12) rfl ?_); refine goesL_ (some 18) rfl rfl Try.func12 (by kernel_rfl) rfl #[.agg #[.int .i64 ((rd_T32 l0 x11_1).f0), .int .i64 ((rd_T32 l0 x11_1).f1), .int .i64 ((rd_T32 l0 x11_1).f2), .float .f64 ((rd_T32 l0 x11_1).f3)], .int .i64 x11_1] rfl (by (try simp only [List.map_toArray, List.map_cons, List.map_nil]); first | done | rfl | (simp only [List.length_drop, List.length_take]; rfl)) ?_; (with_reducible refine (impl_Node_ok.calls ((rd_T32 l0 x11_1).f0) ((rd_T32 l0 x11_1).f1) ((rd_T32 l0 x11_1).f2) ((rd_T32 l0 x11_1).f3) x11_1 false _ A7.out).mono ?_); rintro e w14 ⟨rfl, hb⟩; refine ⟨_, rfl, ?_⟩; have n0_ := Aside0.mk (blk_below (g := gb118) (o := .cells #[.int .i64 ((rd_T32 l0 x11_1).f0), .int .i64 ((rd_T32 l0 x11_1).f1), .int .i64 ((rd_T32 l0 x11_1).f2), .float .f64 ((rd_T32 l0 x11_1).f3)] 32 (0, 0)) (by (with_reducible repeat (first | refine blk_drewN ?_ _ | refine blk_drew ?_ | refine blk_alloc ?_ _)); refine blk_put (cs := #[.int .i64 ((rd_T32 l0 x11_1).f0), .int .i64 ((rd_T32 l0 x11_1).f1), .int .i64 ((rd_T32 l0 x11_1).f2), .float .f64 0]) ?_ 3 _ rfl; (with_reducible repeat (first | refine blk_drewN ?_ _ | refine blk_drew ?_ | refine blk_alloc ?_ _)); refine blk_put (cs := #[.int .i64 ((rd_T32 l0 x11_1).f0), .int .i64 ((rd_T32 l0 x11_1).f1), .int .i64 0, .float .f64 0]) ?_ 2 _ rfl; (with_reducible repeat (first | refine blk_drewN ?_ _ | refine blk_drew ?_ | refine blk_alloc ?_ _)); refine blk_put (cs := #[.int .i64 ((rd_T32 l0 x11_1).f0), .int .i64 0, .int .i64 0, .float .f64 0]) ?_ 1 _ rfl; (with_reducible repeat (first | refine blk_drewN ?_ _ | refine blk_drew ?_ | refine blk_alloc ?_ _)); refine blk_put (cs := #[.int .i64 0, .int .i64 0, .int .i64 0, .float .f64 0]) ?_ 0 _ rfl; (with_reducible repeat (first | refine blk_drewN ?_ _ | refine blk_drew ?_ | refine blk_alloc ?_ _)); exact BK118.out) hb); have n1_ := Aside0.mk (below_step (by repeat (first | (with_reducible first | exact HB.out | apply below_alloc | apply pw_below_drewN | apply below_drew1 | refine below_set ?_ GE118.out) | exact HB.out)) hb); clear BK118; clear HB; have BK118 := n0_; have HB := n1_; clear n0_ n1_; (try clear hb); (try clear hb2); (try clear hk); (try clear hi)))
                go_ret
                exact ⟨by first | rfl | (simp [errW_none, errW_some] <;> rfl) | (simp [*, errW_none, errW_some] <;> rfl), by repeat (first | (with_reducible first | exact HB.out | apply below_alloc | apply pw_below_drewN | apply below_drew1 | refine below_set ?_ GE118.out) | exact HB.out)⟩
            · rw [if_neg c6] at H
              exact absurd H (by simp)
          · rw [if_neg c5] at H
            exact absurd H (by simp)
        · rw [if_neg c4] at H
          have c4b0 : decide (x11_1 < (l0.length : Int)) = false := decide_eq_false c4
          clear c4
          obtain rfl := Option.some.inj H
          go_wp2
          go_ret
          exact ⟨by first | rfl | (simp [errW_none, errW_some] <;> rfl) | (simp [*, errW_none, errW_some] <;> rfl), by repeat (first | (with_reducible first | exact HB.out | apply below_alloc | apply pw_below_drewN | apply below_drew1) | exact HB.out)⟩
  · replace c3 := Bool.eq_false_iff.mpr c3
    subst c3
    have H1 : (some false) = some r := by rw [if_neg (show ¬ (false = true) by decide)] at H; exact H
    clear H
    have H := H1
    clear H1
    obtain rfl := Option.some.inj H
    go_enter Try.func7, Try.ntmps7
    go_wp2_with (first | ((with_reducible refine gate_callee (f := 11) rfl ?_); refine goesL_ (some 7) rfl rfl Try.func11 (by kernel_rfl) rfl #[.int .i64 (l0.length : Int), .int .i64 1, .int .i64 40] rfl (by (try simp only [List.map_toArray, List.map_cons, List.map_nil]); first | done | rfl | (simp only [List.length_drop, List.length_take]; rfl)) ?_; (with_reducible refine (impl_in.calls (l0.length : Int) 1 40 false _ A2.out).mono ?_); rintro e w' ⟨rfl, ⟨nd, rfl⟩⟩; refine ⟨_, rfl, ?_⟩))
    go_ret
    exact ⟨by first | rfl | (simp [errW_none, errW_some] <;> rfl) | (simp [*, errW_none, errW_some] <;> rfl), by repeat (first | (with_reducible first | exact HB.out | apply below_alloc | apply pw_below_drewN | apply below_drew1) | exact HB.out)⟩

end Go.Proofs.Ytmmonaiokageeaa.HFnExactGraphOk
