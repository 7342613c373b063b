/-
  Walks of the sound functions: each comes to a plain function of doubles' worths.
  Conditions: none beyond what each theorem names.
-/
import Derived.Test.YtofiabjphjpglaaWalkBaseF
import Derived.Deep.RegionLaw
namespace Go.Proofs.Ytofiabjphjpglaa.Fl
open Go.RowKit Go.Proofs.YtofiabjphjpglaaW.PrintWords Go.Proofs.YtofiabjphjpglaaW.PrintLast Go.Proofs.YtofiabjphjpglaaW.PrintMore
set_option linter.unusedVariables false
set_option linter.unusedSimpArgs false
theorem finfo : (Try.prog.info? 23).map (fun i => (i.zero, i.size, i.bytes)) = some (some (.float .f64 0), 1, 8) := by kernel_rfl
theorem two_reads {W : World} {x y : Value} {p q : Fl} {a b : Nat} (hx : x = .float .f64 a) (hy : y = .float .f64 b) (ha : cv a = p) (hb : cv b = q) :
    ReadsRow (Kf.K W) Kf.sz (W.alloc (.cells #[x, y] 23 (0, 0))) (some ⟨W.heap.size, 0, none⟩) 2 [p, q] := by
  subst hx hy
  refine ⟨rfl, by omega, fun _ => ⟨_, rfl, fun j r hj => ?_⟩⟩
  have hB := Go.Deep.blk_alloc_new W (.cells #[.float .f64 a, .float .f64 b] 23 (0, 0))
  rcases j with _ | _ | j
  · refine ⟨[.float .f64 a], rfl, ⟨a, rfl, ?_⟩, fun i u hu => ?_⟩
    · simpa using ha.trans (Option.some.inj (by simpa using hj))
    · rcases i with _ | i
      · obtain rfl : Value.float .f64 a = u := by simpa using hu
        exact (blk_cell hB 0).trans rfl
      · simp at hu
  · refine ⟨[.float .f64 b], rfl, ⟨b, rfl, ?_⟩, fun i u hu => ?_⟩
    · simpa using hb.trans (Option.some.inj (by simpa using hj))
    · rcases i with _ | i
      · obtain rfl : Value.float .f64 b = u := by simpa using hu
        exact (blk_cell hB 1).trans rfl
      · simp at hu
  · simp at hj
@[go_sem] theorem run_store_float (P : Program) (w : World) (a : Addr) (m : Mode) (k : FloatKind) (b : Nat) : (store a (.float k b) m).run P w = stored P w a (.float k b) m := run_store P w a _ m rfl
theorem R_putf' {e base g n cap i : Nat} {b : Nat} {ok : Nat → Prop} {W : World} {xs ys : List Fl} (h : Kf.R e W base ok (.slice (some ⟨g, 0, none⟩) n cap) xs) (hs : xs.set i (cv b) = ys) :
    Kf.R e (W.setCell ⟨g, i, none⟩ (.float .f64 b)) base ok (.slice (some ⟨g, 0, none⟩) n cap) ys := by
  have h1 := (R_putf h (i : Int) b).1
  rw [Int.toNat_natCast, hs] at h1
  exact h1
theorem rf_drop (xs : List Fl) (d k : Nat) : rf (xs.drop d) (k : Int) = rf xs ((d : Int) + (k : Int)) := by
  simp [rf, List.getD_eq_getElem?_getD, List.getElem?_drop, ← Int.natCast_add]

def laws_sameFloat.f (a0 a1 : Nat) : Option Bool := if cv a0 = cv a1 then some true else none
set_option maxHeartbeats 4000000 in
set_option maxRecDepth 100000 in
theorem laws_sameFloat.calls (a0 a1 : Nat) (r : Bool) (w : World) (h : laws_sameFloat.f a0 a1 = some r) :
    Calls Try.prog 29 #[.float .f64 a0, .float .f64 a1] w fun e w' => e = .returned (.bool r) ∧ Below w.heap.size w w' := by
  have HB := Aside0.mk (Below.refl w.heap.size w)
  unfold laws_sameFloat.f at h
  by_cases hc : cv a0 = cv a1
  · rw [if_pos hc] at h
    obtain rfl := Option.some.inj h
    clear h
    cases h0 : cv a0 with
    | none =>
      have o0 : (FloatKind.f64.format.order a0 a0 != some Ordering.eq) = true := by rw [order_cv, h0]; rfl
      have o1 : (FloatKind.f64.format.order a1 a1 != some Ordering.eq) = true := by rw [order_cv, ← hc, h0]; rfl
      clear h0 hc
      go_enter Try.func29, Try.ntmps29
      go_wp2
      go_ret
      exact ⟨by simp [o0, o1], HB.out⟩
    | some b =>
      obtain ⟨e0, hn⟩ := cv_some h0
      obtain ⟨e1, _⟩ := cv_some (hc.symm.trans h0)
      subst e0
      subst e1
      have oo : FloatKind.f64.format.order a1 a1 = some Ordering.eq := by rw [order_cv, h0]; exact ordF_self hn
      have o0 : (FloatKind.f64.format.order a1 a1 != some Ordering.eq) = false := by rw [oo]; rfl
      have o1 : (FloatKind.f64.format.order a1 a1 == some Ordering.eq) = true := by rw [oo]; rfl
      clear h0 hc oo
      cases hz : (FloatKind.f64.format.order a1 0 == some Ordering.eq) with
      | true =>
        go_enter Try.func29, Try.ntmps29
        go_wp2
        go_ret
        exact ⟨by simp [order_cv, cv_bits], (by repeat (first | (with_reducible first | exact HB.out | apply below_alloc | apply pw_below_drewN | apply below_drew1) | exact HB.out))⟩
      | false =>
        go_enter Try.func29, Try.ntmps29
        go_wp2
        go_ret
        exact ⟨by simp [o1], HB.out⟩
  · rw [if_neg hc] at h
    cases h

def laws_toFloat64S.f (l0 : List Fl) : Option (List Fl) := if l0.length ≤ 1048576 then some l0 else none
set_option maxHeartbeats 4000000 in
set_option maxRecDepth 100000 in
theorem laws_toFloat64S.calls (A0 : Option Addr) (c0 : Nat) (l0 : List Fl) (r : List Fl) (w : World) (hr0 : Kd.C Kf w A0 l0.length l0) (hc0 : l0.length ≤ c0) (h : laws_toFloat64S.f l0 = some r) :
    Calls Try.prog 14 #[.slice A0 l0.length c0] w fun e w' => ∃ v0_ : Value, e = .returned v0_ ∧ Kd.R Kf 23 w' w.heap.size (fun _ => True) v0_ r ∧ Below w.heap.size w w' := by
  have HR0 := Aside0.mk hr0
  have HC0 := Aside0.mk hc0
  have HM0 := Aside0.mk hr0.2.1
  clear hr0 hc0
  have HB := Aside0.mk (Below.refl w.heap.size w)
  unfold laws_toFloat64S.f at h
  by_cases hl : l0.length ≤ 1048576
  · rw [if_pos hl] at h
    obtain rfl := Option.some.inj h
    clear h
    have HL := Aside0.mk hl
    clear hl
    have p0 : (0 ≤ (l0.length : Int)) = True := eq_true (by omega)
    have p1 : decide (0 ≤ (l0.length : Int)) = true := decide_eq_true (by omega)
    go_enter Try.func14, Try.ntmps14
    go_wp2_with (first | ((with_reducible refine gate_dst (N := 7) rfl ?_); refine Kd.R_make Kf _ 23 rfl (N := 7) rfl 22 _ _ rfl (l0.length : Int) rfl rfl Try.underlying22 (.float .f64 0) 8 finfo rfl (by decide) (by omega) (cv 0) (ok := fun _ => True) (okp := fun _ => True) ⟨0, rfl, rfl⟩ (fun _ hk => hk) trivial (by omega) ?hmk (Below.refl _ _) (Nat.le_refl _) ?_; (case hmk => (have := HL.out; omega)); intro vm_ wm_ hom_ hbm_ hg_ hnew_; clear hg_ hnew_; have HO := Aside0.mk (Kd.R_lower hom_ (below_size (by repeat (first | (with_reducible first | exact HB.out | apply below_alloc | apply pw_below_drewN | apply below_drew1) | exact HB.out)))); have n1_ := Aside0.mk (below_step (by repeat (first | (with_reducible first | exact HB.out | apply below_alloc | apply pw_below_drewN | apply below_drew1) | exact HB.out)) hbm_); clear HB; have HB := n1_; clear n1_ hom_ hbm_))
    obtain ⟨AM, cM, eM⟩ := Kd.R_slice HO.out
    subst eM
    simp only [List.length_replicate, Int.toNat_natCast] at *
    go_loopg [4] l0.length (fun gg v4 w' => ∃ i : Nat, Aside0 (i ≤ l0.length ∧ l0.length - i ≤ gg) ∧ v4 = .int .i64 (i : Int) ∧ Aside0 (Kd.R Kf 23 w' w.heap.size (fun _ => True) (.slice AM l0.length cM) (l0.take i ++ List.replicate (l0.length - i) (cv 0))) ∧ Aside0 (Below w.heap.size w w'))
    case atStart => exact ⟨0, ⟨Nat.zero_le _, Nat.le_refl _⟩, rfl, ⟨by simpa using HO.out⟩, HB⟩
    case round =>
      clear HB HO
      obtain ⟨i, HK, rfl, HO, HB⟩ := hrel
      have HM2 : l0.length ≤ 9223372036854775807 := HM0.out
      by_cases hlt : i < l0.length
      · obtain ⟨ad, b, e, hx, hb⟩ := at_f HR0.out (i : Int) (by omega) (by omega)
        cases e
        replace hx := (HB.out.cell (World.block_lt_of_cell? w _ hx)).trans hx
        simp only [Int.toNat_natCast] at hx
        have hltb : decide ((i : Int) < (l0.length : Int)) = true := decide_eq_true (by omega)
        have p0 : (0 ≤ (i : Int)) = True := eq_true (by omega)
        have q0 : ((i : Int) < (l0.length : Int)) = True := eq_true (by omega)
        obtain ⟨go, co, eo, GB, _⟩ := Kd.R_form HO.out (by simp; omega)
        injection eo with ea en ec
        subst ea ec
        clear en
        obtain ⟨bo, xo, _, fo⟩ := R_cellf HO.out (i : Int) (by omega) (by omega)
        have HP := R_putf HO.out (i : Int) b
        simp only [Int.toNat_natCast] at xo fo HP
        have hs : (l0.take i ++ List.replicate (l0.length - i) (cv 0)).set i (cv b) = l0.take (i + 1) ++ List.replicate (l0.length - (i + 1)) (cv 0) := by
          rw [show l0.length - i = (l0.length - (i + 1)) + 1 by omega, List.replicate_succ, fill_set _ _ _ _ _ (by simp; omega), hb, take_rf l0 i hlt]
        rw [hs] at HP
        have HQ := Aside0.mk HP.1
        have GB2 := Aside0.mk GB
        clear hs HP hb GB HO
        go_wp2_with (first | ((with_reducible refine gate_store (t := 23) (p := 20) rfl ?_); refine store_event (t := 23) (p := 20) (v := ?vo_) (w1 := (wr.setCell ⟨go, i, none⟩ (.float .f64 b))) ?hg ?ho ?hn ?hr ?_; (case ho => rfl); (case hg => rfl); (case hn => rfl); (case hr => first | (go_simp; done) | (go_simp; rfl)); intro ws_ hw_; have HQ2 := Aside0.mk (show Kd.R Kf 23 ws_ w.heap.size (fun _ => True) (.slice (some ⟨go, 0, none⟩) l0.length cM) (l0.take (i + 1) ++ List.replicate (l0.length - (i + 1)) (cv 0)) by (rw [hw_]; exact HQ.out)); have n0_ := Aside0.mk (show Below w.heap.size w ws_ by (rw [hw_]; exact below_set HB.out GB2.out)); clear HB; have HB := n0_; clear n0_ hw_))
        go_roundg (l0.length - (i + 1))
        case measure => have := HK.out; omega
        case rel => exact ⟨i + 1, ⟨by omega, by omega⟩, by go_num, HQ2, HB⟩
      · have hltb : decide ((i : Int) < (l0.length : Int)) = false := decide_eq_false (by omega)
        have hi : i = l0.length := by have := HK.out; omega
        subst hi
        have HQ := Aside0.mk (show Kd.R Kf 23 wr w.heap.size (fun _ => True) (.slice AM l0.length cM) l0 by simpa using HO.out)
        clear HO
        go_wp2
        go_ret
        exact ⟨_, rfl, HQ.out, HB.out⟩
  · rw [if_neg hl] at h
    cases h

def laws_eqFloat64S.f (l0 l1 : List Fl) : Option Bool := if l0 = l1 then some true else none
set_option maxHeartbeats 4000000 in
set_option maxRecDepth 100000 in
theorem laws_eqFloat64S.calls (A0 : Option Addr) (c0 : Nat) (l0 : List Fl) (A1 : Option Addr) (c1 : Nat) (l1 : List Fl) (r : Bool) (w : World) (hr0 : Kd.C Kf w A0 l0.length l0) (hc0 : l0.length ≤ c0) (hr1 : Kd.C Kf w A1 l1.length l1) (hc1 : l1.length ≤ c1) (h : laws_eqFloat64S.f l0 l1 = some r) :
    Calls Try.prog 16 #[.slice A0 l0.length c0, .slice A1 l1.length c1] w fun e w' => e = .returned (.bool r) ∧ Below w.heap.size w w' := by
  have HR0 := Aside0.mk hr0
  have HC0 := Aside0.mk hc0
  have HM0 := Aside0.mk hr0.2.1
  clear hr0 hc0
  have HR1 := Aside0.mk hr1
  have HC1 := Aside0.mk hc1
  have HM1 := Aside0.mk hr1.2.1
  clear hr1 hc1
  have HB := Aside0.mk (Below.refl w.heap.size w)
  unfold laws_eqFloat64S.f at h
  by_cases hc : l0 = l1
  · rw [if_pos hc] at h
    obtain rfl := Option.some.inj h
    subst hc
    clear h
    have c1 : ((l0.length : Int) != (l0.length : Int)) = false := by simp
    go_enter Try.func16, Try.ntmps16
    go_wp2
    go_loopg [5] l0.length (fun gg v5 w' => ∃ i : Nat, Aside0 (i ≤ l0.length ∧ l0.length - i ≤ gg) ∧ v5 = .int .i64 (i : Int) ∧ Aside0 (Below w.heap.size w w'))
    case atStart => exact ⟨0, ⟨Nat.zero_le _, Nat.le_refl _⟩, rfl, HB⟩
    case round =>
      clear HB
      obtain ⟨i, HK, rfl, HB⟩ := hrel
      have HM2 : l0.length ≤ 9223372036854775807 := HM0.out
      by_cases hlt : i < l0.length
      · obtain ⟨ad, b, e, hx, hb⟩ := at_f HR0.out (i : Int) (by omega) (by omega)
        cases e
        replace hx := (HB.out.cell (World.block_lt_of_cell? w _ hx)).trans hx
        obtain ⟨ad2, b2, e2, hx2, hb2⟩ := at_f HR1.out (i : Int) (by omega) (by omega)
        cases e2
        replace hx2 := (HB.out.cell (World.block_lt_of_cell? w _ hx2)).trans hx2
        simp only [Int.toNat_natCast] at hx hx2
        have hltb : decide ((i : Int) < (l0.length : Int)) = true := decide_eq_true (by omega)
        have p0 : (0 ≤ (i : Int)) = True := eq_true (by omega)
        have q0 : ((i : Int) < (l0.length : Int)) = True := eq_true (by omega)
        have HS := Aside0.mk (show laws_sameFloat.f b b2 = some true by unfold laws_sameFloat.f; rw [if_pos (hb.trans hb2.symm)])
        clear hb hb2
        go_wp2
        go_region_with (go_at_call 29; refine (laws_sameFloat.calls _ _ true _ HS.out).mono ?_; rintro e w' ⟨rfl, hb⟩)
        all_goals go_wp2
        all_goals (go_roundg (l0.length - (i + 1)); (case measure => (have := HK.out; omega)); (case rel => exact ⟨i + 1, ⟨by omega, by omega⟩, by go_num, ⟨below_step (by repeat (first | exact HB.out | apply below_drew1)) hb⟩⟩))
      · have hltb : decide ((i : Int) < (l0.length : Int)) = false := decide_eq_false (by omega)
        go_wp2
        go_ret
        exact ⟨rfl, HB.out⟩
  · rw [if_neg hc] at h
    cases h

def laws_heldFloat64S.f (l0 : List Fl) (a1 : Int) : Option Int := if (0 ≤ a1 ∧ a1 ≤ 4194304 ∧ l0.length ≤ 1048576) ∧ l0 = markG a1 l0.length then some (a1 + l0.length) else none
set_option maxHeartbeats 4000000 in
set_option maxRecDepth 100000 in
theorem laws_heldFloat64S.calls (A0 : Option Addr) (c0 : Nat) (l0 : List Fl) (a1 : Int) (r : Int) (w : World) (hr0 : Kd.C Kf w A0 l0.length l0) (hc0 : l0.length ≤ c0) (h : laws_heldFloat64S.f l0 a1 = some r) :
    Calls Try.prog 18 #[.slice A0 l0.length c0, .int .i64 a1] w fun e w' => e = .returned (.int .i64 r) ∧ Below w.heap.size w w' := by
  have HR0 := Aside0.mk hr0
  have HC0 := Aside0.mk hc0
  have HM0 := Aside0.mk hr0.2.1
  clear hr0 hc0
  have HB := Aside0.mk (Below.refl w.heap.size w)
  unfold laws_heldFloat64S.f at h
  by_cases hc : (0 ≤ a1 ∧ a1 ≤ 4194304 ∧ l0.length ≤ 1048576) ∧ l0 = markG a1 l0.length
  · rw [if_pos hc] at h
    obtain rfl := Option.some.inj h
    clear h
    have HC := Aside0.mk hc
    clear hc
    go_enter Try.func18, Try.ntmps18
    go_wp2
    go_loopg [1, 5] l0.length (fun gg v1 v5 w' => ∃ i : Nat, Aside0 (i ≤ l0.length ∧ l0.length - i ≤ gg) ∧ v1 = .int .i64 (a1 + (i : Int)) ∧ v5 = .int .i64 (i : Int) ∧ Aside0 (Below w.heap.size w w'))
    case atStart => exact ⟨0, ⟨Nat.zero_le _, Nat.le_refl _⟩, by simp, rfl, HB⟩
    case round =>
      clear HB
      obtain ⟨i, HK, rfl, rfl, HB⟩ := hrel
      have HM2 : l0.length ≤ 9223372036854775807 := HM0.out
      by_cases hlt : i < l0.length
      · obtain ⟨ad, b, e, hx, hb⟩ := at_f HR0.out (i : Int) (by omega) (by omega)
        cases e
        replace hx := (HB.out.cell (World.block_lt_of_cell? w _ hx)).trans hx
        simp only [Int.toNat_natCast] at hx
        have hltb : decide ((i : Int) < (l0.length : Int)) = true := decide_eq_true (by omega)
        have p0 : (0 ≤ (i : Int)) = True := eq_true (by omega)
        have q0 : ((i : Int) < (l0.length : Int)) = True := eq_true (by omega)
        have hv : rf l0 (i : Int) = ofI (a1 + (i : Int)) := by
          have := HC.out.2
          rw [this]
          simp [rf, markG, List.getD_eq_getElem?_getD, List.getElem?_map, List.getElem?_range hlt]
        have hn : (FloatKind.f64.format.order b (floatOfInt .f64 (a1 + (i : Int))) != some Ordering.eq) = false := by
          rw [order_cv, hb, hv]
          show (ordF (ofI (a1 + (i : Int))) (ofI (a1 + (i : Int))) != some Ordering.eq) = false
          rw [ofI_eq, ordF_self (ofI_nn _)]
          rfl
        have hw : wrap64 (a1 + (i : Int) + 1) = a1 + ((i + 1 : Nat) : Int) := by have := HC.out.1; unfold wrap64; omega
        have HW := Aside0.mk hw
        clear hb hv hw
        go_wp2
        go_roundg (l0.length - (i + 1))
        case measure => have := HK.out; omega
        case rel => exact ⟨i + 1, ⟨by omega, by omega⟩, by first | rw [HW.out] | (simp only [HW.out]), by go_num, HB⟩
      · have hltb : decide ((i : Int) < (l0.length : Int)) = false := decide_eq_false (by omega)
        have hi : i = l0.length := by have := HK.out; omega
        subst hi
        go_wp2
        go_ret
        exact ⟨rfl, HB.out⟩
  · rw [if_neg hc] at h
    cases h

def laws_markFloat64S.f (l0 : List Fl) (a1 : Int) : Option (Int × List Fl) := if (0 ≤ a1 ∧ a1 ≤ 4194304 ∧ l0.length ≤ 1048576) then some (a1 + l0.length, markG a1 l0.length) else none
set_option maxHeartbeats 4000000 in
set_option maxRecDepth 100000 in
theorem laws_markFloat64S.calls (P0_ : Nat → Prop) (u9000_ : Value) (l0 : List Fl) (a1 : Int) (r1 : Int) (r2 : List Fl) (w0 w : World) (hB : Below w0.heap.size w0 w) (ho0 : Kd.R Kf 23 w w0.heap.size P0_ u9000_ l0) (h : laws_markFloat64S.f l0 a1 = some (r1, r2)) :
    Calls Try.prog 17 #[u9000_, .int .i64 a1] w fun e w' => e = .returned (.int .i64 r1) ∧ Kd.R Kf 23 w' w0.heap.size (fun k_ => (P0_ k_ ∨ w.heap.size ≤ k_)) u9000_ r2 ∧ Below w0.heap.size w0 w' ∧ Kept w w' (fun k_ => P0_ k_) := by
  have HO := Aside0.mk (show Kd.R Kf 23 w w0.heap.size (fun k_ => (P0_ k_ ∨ w.heap.size ≤ k_)) u9000_ l0 from Kd.R_mono ho0 (fun k_ hk => (.inl hk)))
  have HK := Aside0.mk (Kept.refl w (fun k_ => P0_ k_))
  have HW0 := Aside0.mk hB.size
  have HB := Aside0.mk hB
  have HP0 := Aside0.mk ho0.1
  obtain ⟨AM, cM, eM, _, hC⟩ := Kd.R_reads ho0
  subst eM
  have HM0 := Aside0.mk hC.2.1
  clear hB ho0 hC
  unfold laws_markFloat64S.f at h
  by_cases hc : (0 ≤ a1 ∧ a1 ≤ 4194304 ∧ l0.length ≤ 1048576)
  · rw [if_pos hc] at h
    simp only [Option.some.injEq, Prod.mk.injEq] at h
    obtain ⟨rfl, rfl⟩ := h
    have HC := Aside0.mk hc
    clear hc
    go_enter Try.func17, Try.ntmps17
    go_wp2
    go_loopg [1, 5] l0.length (fun gg v1 v5 w' => ∃ i : Nat, Aside0 (i ≤ l0.length ∧ l0.length - i ≤ gg) ∧ v1 = .int .i64 (a1 + (i : Int)) ∧ v5 = .int .i64 (i : Int) ∧ Aside0 (Kd.R Kf 23 w' w0.heap.size (fun k_ => (P0_ k_ ∨ w.heap.size ≤ k_)) (.slice AM l0.length cM) (markG a1 i ++ l0.drop i)) ∧ Aside0 (Below w0.heap.size w0 w') ∧ Aside0 (Kept w w' (fun k_ => P0_ k_)))
    case atStart => exact ⟨0, ⟨Nat.zero_le _, Nat.le_refl _⟩, by simp, rfl, HO, HB, HK⟩
    case round =>
      clear HB HO HK
      obtain ⟨i, HI, rfl, rfl, HO, HB, HK⟩ := hrel
      have HM2 : l0.length ≤ 9223372036854775807 := HM0.out
      by_cases hlt : i < l0.length
      · have hltb : decide ((i : Int) < (l0.length : Int)) = true := decide_eq_true (by omega)
        have p0 : (0 ≤ (i : Int)) = True := eq_true (by omega)
        have q0 : ((i : Int) < (l0.length : Int)) = True := eq_true (by omega)
        obtain ⟨go, co, eo, GB, _⟩ := Kd.R_form HO.out (by simp [markG_len]; omega)
        injection eo with ea en ec
        subst ea ec
        clear en
        obtain ⟨bo, xo, _, fo⟩ := R_cellf HO.out (i : Int) (by omega) (by omega)
        have HP := R_putf HO.out (i : Int) (floatOfInt .f64 (a1 + (i : Int)))
        simp only [Int.toNat_natCast] at xo fo HP
        have hs : (markG a1 i ++ l0.drop i).set i (cv (floatOfInt .f64 (a1 + (i : Int)))) = markG a1 (i + 1) ++ l0.drop (i + 1) := by
          rw [List.drop_eq_getElem_cons hlt, fill_set _ _ _ _ _ (markG_len _ _), markG_succ]
          rfl
        rw [hs] at HP
        have HQ := Aside0.mk HP.1
        have GB2 := Aside0.mk GB
        have hw : wrap64 (a1 + (i : Int) + 1) = a1 + ((i + 1 : Nat) : Int) := by have := HC.out; unfold wrap64; omega
        have HW := Aside0.mk hw
        have HN := Aside0.mk (HP0.out go (by simp [Value.ownBlock]))
        clear hs HP GB HO hw
        go_wp2_with (first | ((with_reducible refine gate_store (t := 23) (p := 16) rfl ?_); refine store_event (t := 23) (p := 16) (v := ?vo_) (w1 := (wr.setCell ⟨go, i, none⟩ (.float .f64 (floatOfInt .f64 (a1 + (i : Int)))))) ?hg ?ho ?hn ?hr ?_; (case ho => rfl); (case hg => rfl); (case hn => rfl); (case hr => first | (go_simp; done) | (go_simp; rfl)); intro ws_ hw_; have HQ2 := Aside0.mk (show Kd.R Kf 23 ws_ w0.heap.size (fun k_ => (P0_ k_ ∨ w.heap.size ≤ k_)) (.slice (some ⟨go, 0, none⟩) l0.length cM) (markG a1 (i + 1) ++ l0.drop (i + 1)) by (rw [hw_]; exact HQ.out)); have n0_ := Aside0.mk (show Below w0.heap.size w0 ws_ by (rw [hw_]; exact below_set HB.out GB2.out)); have n1_ := Aside0.mk (show Kept w ws_ (fun k_ => P0_ k_) by (rw [hw_]; exact Kept.setCell HK.out (.inl HN.out) _)); clear HB HK; have HB := n0_; have HK := n1_; clear n0_ n1_ hw_))
        go_roundg (l0.length - (i + 1))
        case measure => have := HI.out; omega
        case rel => exact ⟨i + 1, ⟨by omega, by omega⟩, by first | rw [HW.out] | (simp only [HW.out]), by go_num, HQ2, HB, HK⟩
      · have hltb : decide ((i : Int) < (l0.length : Int)) = false := decide_eq_false (by omega)
        have hi : i = l0.length := by have := HI.out; omega
        subst hi
        have HQ := Aside0.mk (show Kd.R Kf 23 wr w0.heap.size (fun k_ => (P0_ k_ ∨ w.heap.size ≤ k_)) (.slice AM l0.length cM) (markG a1 l0.length) by simpa using HO.out)
        clear HO
        go_wp2
        go_ret
        exact ⟨rfl, HQ.out, HB.out, HK.out⟩
  · rw [if_neg hc] at h
    cases h

theorem spec_l13Ok.calls (A0 : Option Addr) (c0 n : Nat) (w : World) :
    Calls Try.prog 37 #[.slice A0 n c0] w fun e w' => e = .returned (.bool (decide ((n : Int) ≤ 4096))) ∧ Drawn0 w w' := by
  go_enter Try.func37, Try.ntmps37
  go_wp2
  go_ret
  exact ⟨rfl, Drawn0.refl _⟩

theorem impl_tooLong.calls (A0 : Option Addr) (c0 n : Nat) (w : World) :
    Calls Try.prog 39 #[.slice A0 n c0] w fun e w' => e = .returned (.bool (decide ((n : Int) > 4096))) ∧ Drawn0 w w' := by
  go_enter Try.func39, Try.ntmps39
  go_wp2
  go_ret
  exact ⟨rfl, Drawn0.refl _⟩

def spec_Pan.f (l0 : List Fl) (a1 : Nat) : Option (List Fl) := some (panF l0 (cv a1))
set_option maxHeartbeats 4000000 in
set_option maxRecDepth 100000 in
theorem spec_Pan.calls (A0 : Option Addr) (c0 : Nat) (l0 : List Fl) (a1 : Nat) (r : List Fl) (w : World) (hr0 : Kd.C Kf w A0 l0.length l0) (hc0 : l0.length ≤ c0) (h : spec_Pan.f l0 a1 = some r) :
    Calls Try.prog 13 #[.slice A0 l0.length c0, .float .f64 a1] w fun e w' => ∃ v0_ : Value, e = .returned v0_ ∧ Kd.R Kf 23 w' w.heap.size (fun _ => True) v0_ r ∧ Below w.heap.size w w' := by
  have HR0 := Aside0.mk hr0
  have HC0 := Aside0.mk hc0
  have HM0 := Aside0.mk hr0.2.1
  clear hr0 hc0
  have HB := Aside0.mk (Below.refl w.heap.size w)
  obtain rfl := Option.some.inj h
  clear h
  by_cases hl : l0.length ≤ 2048
  · have c1 : decide ((l0.length : Int) ≤ 2048) = true := decide_eq_true (by omega)
    rw [show panF l0 (cv a1) = panG l0 (cv a1) l0.length by unfold panF; rw [if_pos hl]]
    have HL := Aside0.mk hl
    clear hl
    go_enter Try.func13, Try.ntmps13
    go_wp2_with (first | ((with_reducible refine gate_dst (N := 8) rfl ?_); (try (refine gate_guard (by rfl) ?_; dsimp only)); refine Kd.R_lit Kf _ 23 ?hg (N := 8) ?hd (xs := ([] : List Fl)) (inner := []) (ok := fun _ => True) (okp := fun _ => True) ?hr ?hp (fun _ hk => hk) trivial (Below.refl _ _) (Nat.le_refl _) (by simp) ?_; (case hd => rfl); (case hg => rfl); (case hr => first | (go_simp; done) | (go_simp; rfl)); (case hp => exact (Reps.none _ _)); intro vl_ wl_ hol_ hbl_ hg_ hnew_; clear hg_ hnew_; have HO := Aside0.mk (Kd.R_lower hol_ (below_size (by repeat (first | (with_reducible first | exact HB.out | apply below_alloc | apply pw_below_drewN | apply below_drew1) | exact HB.out)))); have n1_ := Aside0.mk (below_step (by repeat (first | (with_reducible first | exact HB.out | apply below_alloc | apply pw_below_drewN | apply below_drew1) | exact HB.out)) hbl_); clear HB; have HB := n1_; clear n1_ hol_ hbl_))
    go_loopg [5, 6] l0.length (fun gg v5 v6 w' => ∃ i : Nat, Aside0 (i ≤ l0.length ∧ l0.length - i ≤ gg) ∧ v6 = .int .i64 (i : Int) ∧ Aside0 (Kd.R Kf 23 w' w.heap.size (fun _ => True) v5 (panG l0 (cv a1) i)) ∧ Aside0 (Below w.heap.size w w'))
    case atStart => exact ⟨0, ⟨Nat.zero_le _, Nat.le_refl _⟩, rfl, HO, HB⟩
    case round =>
      clear HB HO
      obtain ⟨i, HK, rfl, HO, HB⟩ := hrel
      have HM2 : l0.length ≤ 9223372036854775807 := HM0.out
      by_cases hlt : i < l0.length
      · obtain ⟨ad, b, e, hx, hb⟩ := at_f HR0.out (i : Int) (by omega) (by omega)
        cases e
        replace hx := (HB.out.cell (World.block_lt_of_cell? w _ hx)).trans hx
        simp only [Int.toNat_natCast] at hx
        have hltb : decide ((i : Int) < (l0.length : Int)) = true := decide_eq_true (by omega)
        have p0 : (0 ≤ (i : Int)) = True := eq_true (by omega)
        have q0 : ((i : Int) < (l0.length : Int)) = True := eq_true (by omega)
        have HBV := Aside0.mk hb
        clear hb
        go_wp2
        go_region_law (refine Kd.R_append_rows_step Kf (Rr := Kf.K w) (w0 := w) w.heap.size (by rfl) (.tmp 22) (.tmp 35) 22 23 (.float .f64 0) 8 (by rfl) Try.underlying22 finfo rfl (by decide) (by omega) u5 (panG l0 (cv a1) i) [(fmul (rf l0 i) (fsub one (cv a1))), (fmul (rf l0 i) (cv a1))] _ 2 2 (fun _ => True) (fun _ => False) (by rfl) (by rfl) ?aO (two_reads rfl rfl ?ap ?aq) (fun _ _ h => h) (fun _ hk => hk.elim) (fun _ _ => trivial) ?aB ?aS ?aL ?_; (case aO => exact (by (with_reducible repeat (first | apply Kd.R_alloc | apply Kd.R_drewN | apply Kd.R_drew)); exact HO.out)); (case ap => simp only [cv_bits, HBV.out]; rfl); (case aq => simp only [cv_bits, HBV.out]); (case aB => exact (by repeat (first | (with_reducible first | exact HB.out | apply below_alloc | apply pw_below_drewN | apply below_drew1) | exact HB.out))); (case aS => exact (below_size (by repeat (first | (with_reducible first | exact HB.out | apply below_alloc | apply pw_below_drewN | apply below_drew1) | exact HB.out)))); (case aL => (rw [panG_len]; have := HL.out; omega)); intro va_ wa_ hoa_ hba_ hg_ hat_; clear hg_ hat_; have n0_ := Aside0.mk hba_; have n1_ := Aside0.mk hoa_; clear HB HO; have HB := n0_; have HO := n1_; clear n0_ n1_ hoa_ hba_)
        all_goals (go_wp2; rw [← panG_succ] at HO; go_roundg (l0.length - (i + 1)); (case measure => (have := HK.out; omega)); (case rel => exact ⟨i + 1, ⟨by omega, by omega⟩, by go_num, HO, HB⟩))
      · have hltb : decide ((i : Int) < (l0.length : Int)) = false := decide_eq_false (by omega)
        have hi : i = l0.length := by have := HK.out; omega
        subst hi
        go_wp2
        go_ret
        exact ⟨_, rfl, HO.out, HB.out⟩
  · have c1 : decide ((l0.length : Int) ≤ 2048) = false := decide_eq_false (by omega)
    have c2 : decide ((0 : Int) < (l0.length : Int)) = true := decide_eq_true (by omega)
    rw [show panF l0 (cv a1) = [] by unfold panF; rw [if_neg hl]]
    clear hl
    go_enter Try.func13, Try.ntmps13
    go_wp2_with (first | ((with_reducible refine gate_dst (N := 8) rfl ?_); (try (refine gate_guard (by rfl) ?_; dsimp only)); refine Kd.R_lit Kf _ 23 ?hg (N := 8) ?hd (xs := ([] : List Fl)) (inner := []) (ok := fun _ => True) (okp := fun _ => True) ?hr ?hp (fun _ hk => hk) trivial (Below.refl _ _) (Nat.le_refl _) (by simp) ?_; (case hd => rfl); (case hg => rfl); (case hr => first | (go_simp; done) | (go_simp; rfl)); (case hp => exact (Reps.none _ _)); intro vl_ wl_ hol_ hbl_ hg_ hnew_; clear hg_ hnew_; have HO := Aside0.mk (Kd.R_lower hol_ (below_size (by repeat (first | (with_reducible first | exact HB.out | apply below_alloc | apply pw_below_drewN | apply below_drew1) | exact HB.out)))); have n1_ := Aside0.mk (below_step (by repeat (first | (with_reducible first | exact HB.out | apply below_alloc | apply pw_below_drewN | apply below_drew1) | exact HB.out)) hbl_); clear HB; have HB := n1_; clear n1_ hol_ hbl_))
    go_loopg [5, 6] 0 (fun gg v5 v6 w' => ∃ i : Nat, Aside0 (i = 0) ∧ v6 = .int .i64 (i : Int) ∧ Aside0 (Kd.R Kf 23 w' w.heap.size (fun _ => True) v5 []) ∧ Aside0 (Below w.heap.size w w'))
    case atStart => exact ⟨0, ⟨rfl⟩, rfl, HO, HB⟩
    case round =>
      clear HB HO
      obtain ⟨i, HI, rfl, HO, HB⟩ := hrel
      have hlt : i < l0.length := by have := HI.out; have := of_decide_eq_true c2; omega
      have c3 : decide ((i : Int) < (l0.length : Int)) = true := decide_eq_true (by omega)
      go_wp2
      go_ret
      exact ⟨_, rfl, HO.out, HB.out⟩

def impl_Pan.f (l0 : List Fl) (a1 : Nat) : Option (List Fl) := some (panF l0 (cv a1))
set_option maxHeartbeats 4000000 in
set_option maxRecDepth 100000 in
theorem impl_Pan.calls (A0 : Option Addr) (c0 : Nat) (l0 : List Fl) (a1 : Nat) (r : List Fl) (w : World) (hr0 : Kd.C Kf w A0 l0.length l0) (hc0 : l0.length ≤ c0) (h : impl_Pan.f l0 a1 = some r) :
    Calls Try.prog 15 #[.slice A0 l0.length c0, .float .f64 a1] w fun e w' => ∃ v0_ : Value, e = .returned v0_ ∧ Kd.R Kf 23 w' w.heap.size (fun _ => True) v0_ r ∧ Below w.heap.size w w' := by
  have HR0 := Aside0.mk hr0
  have HC0 := Aside0.mk hc0
  have HM0 := Aside0.mk hr0.2.1
  clear hr0 hc0
  have HB := Aside0.mk (Below.refl w.heap.size w)
  obtain rfl := Option.some.inj h
  clear h
  by_cases hl : l0.length ≤ 2048
  · have c1 : decide ((l0.length : Int) > 2048) = false := decide_eq_false (by omega)
    rw [show panF l0 (cv a1) = panG l0 (cv a1) l0.length by unfold panF; rw [if_pos hl]]
    have HL := Aside0.mk hl
    clear hl
    go_enter Try.func15, Try.ntmps15
    go_wp2_with (first | ((with_reducible refine gate_dst (N := 14) rfl ?_); (try (refine gate_guard (by rfl) ?_; dsimp only)); refine Kd.R_lit Kf _ 23 ?hg (N := 14) ?hd (xs := ([] : List Fl)) (inner := []) (ok := fun _ => True) (okp := fun _ => True) ?hr ?hp (fun _ hk => hk) trivial (Below.refl _ _) (Nat.le_refl _) (by simp) ?_; (case hd => rfl); (case hg => rfl); (case hr => first | (go_simp; done) | (go_simp; rfl)); (case hp => exact (Reps.none _ _)); intro vl_ wl_ hol_ hbl_ hg_ hnew_; clear hg_ hnew_; have HO := Aside0.mk (Kd.R_lower hol_ (below_size (by repeat (first | (with_reducible first | exact HB.out | apply below_alloc | apply pw_below_drewN | apply below_drew1) | exact HB.out)))); have n1_ := Aside0.mk (below_step (by repeat (first | (with_reducible first | exact HB.out | apply below_alloc | apply pw_below_drewN | apply below_drew1) | exact HB.out)) hbl_); clear HB; have HB := n1_; clear n1_ hol_ hbl_))
    go_loopg [6, 17] l0.length (fun gg v6 v17 w' => ∃ i : Nat, Aside0 (i ≤ l0.length ∧ l0.length - i ≤ gg) ∧ v17 = .int .i64 (i : Int) ∧ Aside0 (Kd.R Kf 23 w' w.heap.size (fun _ => True) v6 (panG l0 (cv a1) i)) ∧ Aside0 (Below w.heap.size w w'))
    case atStart => exact ⟨0, ⟨Nat.zero_le _, Nat.le_refl _⟩, rfl, HO, HB⟩
    case round =>
      clear HB HO
      obtain ⟨i, HK, rfl, HO, HB⟩ := hrel
      by_cases hlt : i < l0.length
      · obtain ⟨ad, b, e, hx, hb⟩ := at_f HR0.out (i : Int) (by omega) (by omega)
        cases e
        replace hx := (HB.out.cell (World.block_lt_of_cell? w _ hx)).trans hx
        simp only [Int.toNat_natCast] at hx
        have hltb : decide ((i : Int) < (l0.length : Int)) = true := decide_eq_true (by omega)
        have p0 : (0 ≤ (i : Int)) = True := eq_true (by omega)
        have q0 : ((i : Int) < (l0.length : Int)) = True := eq_true (by omega)
        have HBV := Aside0.mk hb
        clear hb
        have HM2 : l0.length ≤ 9223372036854775807 := HM0.out
        go_wp2_with (first | ((with_reducible refine gate_builtin (b := .append) (xs := #[.tmp 21, .tmp 28]) rfl ?_); (try (refine gate_guard (by rfl) ?_; dsimp only)); at_builtin; refine Kd.R_append_rows Kf (Rr := Kf.K w) (w0 := w) w.heap.size rfl (.tmp 21) (.tmp 28) 22 23 (.float .f64 0) 8 rfl Try.underlying22 finfo rfl (by decide) (by omega) u6 (panG l0 (cv a1) i) [(fmul (rf l0 i) (fsub one (cv a1))), (fmul (rf l0 i) (cv a1))] _ 2 2 (fun _ => True) (fun _ => False) rfl rfl ?aO (two_reads rfl rfl ?ap ?aq) (fun _ _ h => h) (fun _ hk => hk.elim) (fun _ _ => trivial) ?aB ?aS ?aL ?_; (case aO => exact (by (with_reducible repeat (first | apply Kd.R_alloc | apply Kd.R_drewN | apply Kd.R_drew)); exact HO.out)); (case ap => simp only [cv_bits, HBV.out]; rfl); (case aq => simp only [cv_bits, HBV.out]); (case aB => exact (by repeat (first | (with_reducible first | exact HB.out | apply below_alloc | apply pw_below_drewN | apply below_drew1) | exact HB.out))); (case aS => exact (below_size (by repeat (first | (with_reducible first | exact HB.out | apply below_alloc | apply pw_below_drewN | apply below_drew1) | exact HB.out)))); (case aL => (rw [panG_len]; have := HL.out; omega)); intro va_ wa_ hoa_ hba_ hg_ hat_; clear hg_ hat_; have n0_ := Aside0.mk hba_; have n1_ := Aside0.mk hoa_; clear HB HO; have HB := n0_; have HO := n1_; clear n0_ n1_ hoa_ hba_))
        rw [← panG_succ] at HO
        go_roundg (l0.length - (i + 1))
        case measure => have := HK.out; omega
        case rel => exact ⟨i + 1, ⟨by omega, by omega⟩, by go_num, HO, HB⟩
      · have hltb : decide ((i : Int) < (l0.length : Int)) = false := decide_eq_false (by omega)
        have hi : i = l0.length := by have := HK.out; omega
        subst hi
        go_wp2
        go_ret
        exact ⟨_, rfl, HO.out, HB.out⟩
  · have c1 : decide ((l0.length : Int) > 2048) = true := decide_eq_true (by omega)
    rw [show panF l0 (cv a1) = [] by unfold panF; rw [if_neg hl]]
    clear hl
    go_enter Try.func15, Try.ntmps15
    go_wp2
    go_ret
    exact ⟨_, rfl, Kd.R_nil _ _ _ _ _, HB.out⟩

def spec_Mix.f (l0 l1 : List Fl) (a2 a3 : Nat) : Option (List Fl) := some (mixF l0 l1 (cv a2) (cv a3))
set_option maxHeartbeats 4000000 in
set_option maxRecDepth 100000 in
theorem spec_Mix.calls (A0 : Option Addr) (c0 : Nat) (l0 : List Fl) (A1 : Option Addr) (c1 : Nat) (l1 : List Fl) (a2 a3 : Nat) (r : List Fl) (w : World) (hr0 : Kd.C Kf w A0 l0.length l0) (hc0 : l0.length ≤ c0) (hr1 : Kd.C Kf w A1 l1.length l1) (hc1 : l1.length ≤ c1) (h : spec_Mix.f l0 l1 a2 a3 = some r) :
    Calls Try.prog 25 #[.slice A0 l0.length c0, .slice A1 l1.length c1, .float .f64 a2, .float .f64 a3] w fun e w' => ∃ v0_ : Value, e = .returned v0_ ∧ Kd.R Kf 23 w' w.heap.size (fun _ => True) v0_ r ∧ Below w.heap.size w w' := by
  have HR0 := Aside0.mk hr0
  have HC0 := Aside0.mk hc0
  have HM0 := Aside0.mk hr0.2.1
  clear hr0 hc0
  have HR1 := Aside0.mk hr1
  have HC1 := Aside0.mk hc1
  have HM1 := Aside0.mk hr1.2.1
  clear hr1 hc1
  have HB := Aside0.mk (Below.refl w.heap.size w)
  obtain rfl := Option.some.inj h
  clear h
  by_cases hl : l0.length ≤ 4096 ∧ l1.length ≤ 4096
  · have c0 : decide ((l0.length : Int) ≤ 4096) = true := decide_eq_true (by omega)
    have c1 : decide ((l1.length : Int) ≤ 4096) = true := decide_eq_true (by omega)
    rw [show mixF l0 l1 (cv a2) (cv a3) = mixG l0 l1 (cv a2) (cv a3) (max l0.length l1.length) by unfold mixF; rw [if_pos hl]]
    have HL := Aside0.mk hl
    clear hl
    go_enter Try.func25, Try.ntmps25
    go_wp2_with (first | ((with_reducible refine gate_dst (N := 13) rfl ?_); (try (refine gate_guard (by rfl) ?_; dsimp only)); refine Kd.R_lit Kf _ 23 ?hg (N := 13) ?hd (xs := ([] : List Fl)) (inner := []) (ok := fun _ => True) (okp := fun _ => True) ?hr ?hp (fun _ hk => hk) trivial (Below.refl _ _) (Nat.le_refl _) (by simp) ?_; (case hd => rfl); (case hg => rfl); (case hr => first | (go_simp; done) | (go_simp; rfl)); (case hp => exact (Reps.none _ _)); intro vl_ wl_ hol_ hbl_ hg_ hnew_; clear hg_ hnew_; have HO := Aside0.mk (Kd.R_lower hol_ (below_size (by repeat (first | (with_reducible first | exact HB.out | apply below_alloc | apply pw_below_drewN | apply below_drew1) | exact HB.out)))); have n1_ := Aside0.mk (below_step (by repeat (first | (with_reducible first | exact HB.out | apply below_alloc | apply pw_below_drewN | apply below_drew1) | exact HB.out)) hbl_); clear HB; have HB := n1_; clear n1_ hol_ hbl_) | (go_at_call 37; refine (spec_l13Ok.calls _ _ _ _).mono ?_; rintro e w' ⟨rfl, ⟨nd, rfl⟩⟩))
    go_loopg [9, 10] (max l0.length l1.length) (fun gg v9 v10 w' => ∃ i : Nat, Aside0 (i ≤ max l0.length l1.length ∧ max l0.length l1.length - i ≤ gg) ∧ v10 = .int .i64 (i : Int) ∧ Aside0 (Kd.R Kf 23 w' w.heap.size (fun _ => True) v9 (mixG l0 l1 (cv a2) (cv a3) i)) ∧ Aside0 (Below w.heap.size w w'))
    case atStart => exact ⟨0, ⟨Nat.zero_le _, Nat.le_refl _⟩, rfl, ⟨(by (with_reducible repeat (first | apply Kd.R_alloc | apply Kd.R_drewN | apply Kd.R_drew)); exact HO.out)⟩, ⟨(by repeat (first | (with_reducible first | exact HB.out | apply below_alloc | apply pw_below_drewN | apply below_drew1) | exact HB.out))⟩⟩
    case round =>
      clear HB HO
      obtain ⟨i, HK, rfl, HO, HB⟩ := hrel
      have HM2 : l0.length ≤ 9223372036854775807 := HM0.out
      have HM3 : l1.length ≤ 9223372036854775807 := HM1.out
      have p0 : (0 ≤ (i : Int)) = True := eq_true (by omega)
      by_cases hA : i < l0.length
      · obtain ⟨ad, b, e, hx, hb⟩ := at_f HR0.out (i : Int) (by omega) (by omega)
        cases e
        replace hx := (HB.out.cell (World.block_lt_of_cell? w _ hx)).trans hx
        simp only [Int.toNat_natCast] at hx
        have la : decide ((i : Int) < (l0.length : Int)) = true := decide_eq_true (by omega)
        have ga : decide ((l0.length : Int) ≤ (i : Int)) = false := decide_eq_false (by omega)
        have qa : ((i : Int) < (l0.length : Int)) = True := eq_true (by omega)
        have HBA := Aside0.mk hb
        clear hb
        by_cases hB : i < l1.length
        · obtain ⟨ad2, b2, e2, hx2, hb2⟩ := at_f HR1.out (i : Int) (by omega) (by omega)
          cases e2
          replace hx2 := (HB.out.cell (World.block_lt_of_cell? w _ hx2)).trans hx2
          simp only [Int.toNat_natCast] at hx2
          have lb : decide ((i : Int) < (l1.length : Int)) = true := decide_eq_true (by omega)
          have gb : decide ((l1.length : Int) ≤ (i : Int)) = false := decide_eq_false (by omega)
          have qb : ((i : Int) < (l1.length : Int)) = True := eq_true (by omega)
          have HBB := Aside0.mk hb2
          clear hb2
          go_wp2_with (first | ((with_reducible refine gate_builtin (b := .append) (xs := #[.tmp 47, .tmp 51]) rfl ?_); (try (refine gate_guard (by rfl) ?_; dsimp only)); at_builtin; refine Kd.R_append Kf (w0 := w) w.heap.size rfl (.tmp 47) (.tmp 51) 22 23 (.float .f64 0) 8 rfl Try.underlying22 finfo rfl (by decide) (by omega) u9 (mixG l0 l1 (cv a2) (cv a3) i) (mixE l0 l1 (cv a2) (cv a3) i) [_] (fun _ => True) (fun _ => False) rfl rfl ?aP (fun _ hk => hk.elim) ?aF ?aO ?aB ?aS ?aL ?_; (case aP => exact ⟨_, rfl, (by unfold mixE; rw [if_neg (by omega), if_neg (by omega)]; simp only [cv_bits, HBA.out, HBB.out])⟩); (case aB => exact (by repeat (first | (with_reducible first | exact HB.out | apply below_alloc | apply pw_below_drewN | apply below_drew1) | exact HB.out))); (case aF => exact (fun _ _ => trivial)); (case aO => exact (by (with_reducible repeat (first | apply Kd.R_alloc | apply Kd.R_drewN | apply Kd.R_drew)); exact HO.out)); (case aS => exact (below_size (by repeat (first | (with_reducible first | exact HB.out | apply below_alloc | apply pw_below_drewN | apply below_drew1) | exact HB.out)))); (case aL => (rw [mixG_len]; have := HL.out; omega)); intro va_ wa_ hoa_ hba_ hg_ hat_; clear hg_ hat_; have n0_ := Aside0.mk hba_; have n1_ := Aside0.mk hoa_; clear HB HO; have HB := n0_; have HO := n1_; clear n0_ n1_ hoa_ hba_))
          rw [← mixG_succ] at HO
          go_roundg (max l0.length l1.length - (i + 1))
          case measure => have := HK.out; omega
          case rel => exact ⟨i + 1, ⟨by omega, by omega⟩, by go_num, HO, HB⟩
        · have lb : decide ((i : Int) < (l1.length : Int)) = false := decide_eq_false (by omega)
          have gb : decide ((l1.length : Int) ≤ (i : Int)) = true := decide_eq_true (by omega)
          go_wp2_with (first | ((with_reducible refine gate_builtin (b := .append) (xs := #[.tmp 58, .tmp 65]) rfl ?_); (try (refine gate_guard (by rfl) ?_; dsimp only)); at_builtin; refine Kd.R_append Kf (w0 := w) w.heap.size rfl (.tmp 58) (.tmp 65) 22 23 (.float .f64 0) 8 rfl Try.underlying22 finfo rfl (by decide) (by omega) u9 (mixG l0 l1 (cv a2) (cv a3) i) (mixE l0 l1 (cv a2) (cv a3) i) [_] (fun _ => True) (fun _ => False) rfl rfl ?aP (fun _ hk => hk.elim) ?aF ?aO ?aB ?aS ?aL ?_; (case aP => exact ⟨_, rfl, (by unfold mixE; rw [if_pos (by omega)]; simp only [cv_bits, HBA.out])⟩); (case aB => exact (by repeat (first | (with_reducible first | exact HB.out | apply below_alloc | apply pw_below_drewN | apply below_drew1) | exact HB.out))); (case aF => exact (fun _ _ => trivial)); (case aO => exact (by (with_reducible repeat (first | apply Kd.R_alloc | apply Kd.R_drewN | apply Kd.R_drew)); exact HO.out)); (case aS => exact (below_size (by repeat (first | (with_reducible first | exact HB.out | apply below_alloc | apply pw_below_drewN | apply below_drew1) | exact HB.out)))); (case aL => (rw [mixG_len]; have := HL.out; omega)); intro va_ wa_ hoa_ hba_ hg_ hat_; clear hg_ hat_; have n0_ := Aside0.mk hba_; have n1_ := Aside0.mk hoa_; clear HB HO; have HB := n0_; have HO := n1_; clear n0_ n1_ hoa_ hba_))
          rw [← mixG_succ] at HO
          go_roundg (max l0.length l1.length - (i + 1))
          case measure => have := HK.out; omega
          case rel => exact ⟨i + 1, ⟨by omega, by omega⟩, by go_num, HO, HB⟩
      · have la : decide ((i : Int) < (l0.length : Int)) = false := decide_eq_false (by omega)
        have ga : decide ((l0.length : Int) ≤ (i : Int)) = true := decide_eq_true (by omega)
        by_cases hB : i < l1.length
        · obtain ⟨ad2, b2, e2, hx2, hb2⟩ := at_f HR1.out (i : Int) (by omega) (by omega)
          cases e2
          replace hx2 := (HB.out.cell (World.block_lt_of_cell? w _ hx2)).trans hx2
          simp only [Int.toNat_natCast] at hx2
          have lb : decide ((i : Int) < (l1.length : Int)) = true := decide_eq_true (by omega)
          have gb : decide ((l1.length : Int) ≤ (i : Int)) = false := decide_eq_false (by omega)
          have qb : ((i : Int) < (l1.length : Int)) = True := eq_true (by omega)
          have HBB := Aside0.mk hb2
          clear hb2
          go_wp2_with (first | ((with_reducible refine gate_builtin (b := .append) (xs := #[.tmp 72, .tmp 79]) rfl ?_); (try (refine gate_guard (by rfl) ?_; dsimp only)); at_builtin; refine Kd.R_append Kf (w0 := w) w.heap.size rfl (.tmp 72) (.tmp 79) 22 23 (.float .f64 0) 8 rfl Try.underlying22 finfo rfl (by decide) (by omega) u9 (mixG l0 l1 (cv a2) (cv a3) i) (mixE l0 l1 (cv a2) (cv a3) i) [_] (fun _ => True) (fun _ => False) rfl rfl ?aP (fun _ hk => hk.elim) ?aF ?aO ?aB ?aS ?aL ?_; (case aP => exact ⟨_, rfl, (by unfold mixE; rw [if_neg (by omega), if_pos (by omega)]; simp only [cv_bits, HBB.out])⟩); (case aB => exact (by repeat (first | (with_reducible first | exact HB.out | apply below_alloc | apply pw_below_drewN | apply below_drew1) | exact HB.out))); (case aF => exact (fun _ _ => trivial)); (case aO => exact (by (with_reducible repeat (first | apply Kd.R_alloc | apply Kd.R_drewN | apply Kd.R_drew)); exact HO.out)); (case aS => exact (below_size (by repeat (first | (with_reducible first | exact HB.out | apply below_alloc | apply pw_below_drewN | apply below_drew1) | exact HB.out)))); (case aL => (rw [mixG_len]; have := HL.out; omega)); intro va_ wa_ hoa_ hba_ hg_ hat_; clear hg_ hat_; have n0_ := Aside0.mk hba_; have n1_ := Aside0.mk hoa_; clear HB HO; have HB := n0_; have HO := n1_; clear n0_ n1_ hoa_ hba_))
          rw [← mixG_succ] at HO
          go_roundg (max l0.length l1.length - (i + 1))
          case measure => have := HK.out; omega
          case rel => exact ⟨i + 1, ⟨by omega, by omega⟩, by go_num, HO, HB⟩
        · have lb : decide ((i : Int) < (l1.length : Int)) = false := decide_eq_false (by omega)
          have hi : i = max l0.length l1.length := by have := HK.out; omega
          subst hi
          go_wp2
          go_ret
          exact ⟨_, rfl, HO.out, HB.out⟩
  · rw [show mixF l0 l1 (cv a2) (cv a3) = [] by unfold mixF; rw [if_neg hl]]
    by_cases hA : l0.length ≤ 4096
    · have c0 : decide ((l0.length : Int) ≤ 4096) = true := decide_eq_true (by omega)
      have c1 : decide ((l1.length : Int) ≤ 4096) = false := decide_eq_false (by omega)
      clear hl
      go_enter Try.func25, Try.ntmps25
      go_wp2_with (first | ((with_reducible refine gate_dst (N := 13) rfl ?_); (try (refine gate_guard (by rfl) ?_; dsimp only)); refine Kd.R_lit Kf _ 23 ?hg (N := 13) ?hd (xs := ([] : List Fl)) (inner := []) (ok := fun _ => True) (okp := fun _ => True) ?hr ?hp (fun _ hk => hk) trivial (Below.refl _ _) (Nat.le_refl _) (by simp) ?_; (case hd => rfl); (case hg => rfl); (case hr => first | (go_simp; done) | (go_simp; rfl)); (case hp => exact (Reps.none _ _)); intro vl_ wl_ hol_ hbl_ hg_ hnew_; clear hg_ hnew_; have HO := Aside0.mk (Kd.R_lower hol_ (below_size (by repeat (first | (with_reducible first | exact HB.out | apply below_alloc | apply pw_below_drewN | apply below_drew1) | exact HB.out)))); have n1_ := Aside0.mk (below_step (by repeat (first | (with_reducible first | exact HB.out | apply below_alloc | apply pw_below_drewN | apply below_drew1) | exact HB.out)) hbl_); clear HB; have HB := n1_; clear n1_ hol_ hbl_) | (go_at_call 37; refine (spec_l13Ok.calls _ _ _ _).mono ?_; rintro e w' ⟨rfl, ⟨nd, rfl⟩⟩))
      go_ret
      exact ⟨_, rfl, (by (with_reducible repeat (first | apply Kd.R_alloc | apply Kd.R_drewN | apply Kd.R_drew)); exact HO.out), (by repeat (first | (with_reducible first | exact HB.out | apply below_alloc | apply pw_below_drewN | apply below_drew1) | exact HB.out))⟩
    · have c0 : decide ((l0.length : Int) ≤ 4096) = false := decide_eq_false (by omega)
      clear hl
      go_enter Try.func25, Try.ntmps25
      go_wp2_with (first | ((with_reducible refine gate_dst (N := 13) rfl ?_); (try (refine gate_guard (by rfl) ?_; dsimp only)); refine Kd.R_lit Kf _ 23 ?hg (N := 13) ?hd (xs := ([] : List Fl)) (inner := []) (ok := fun _ => True) (okp := fun _ => True) ?hr ?hp (fun _ hk => hk) trivial (Below.refl _ _) (Nat.le_refl _) (by simp) ?_; (case hd => rfl); (case hg => rfl); (case hr => first | (go_simp; done) | (go_simp; rfl)); (case hp => exact (Reps.none _ _)); intro vl_ wl_ hol_ hbl_ hg_ hnew_; clear hg_ hnew_; have HO := Aside0.mk (Kd.R_lower hol_ (below_size (by repeat (first | (with_reducible first | exact HB.out | apply below_alloc | apply pw_below_drewN | apply below_drew1) | exact HB.out)))); have n1_ := Aside0.mk (below_step (by repeat (first | (with_reducible first | exact HB.out | apply below_alloc | apply pw_below_drewN | apply below_drew1) | exact HB.out)) hbl_); clear HB; have HB := n1_; clear n1_ hol_ hbl_) | (go_at_call 37; refine (spec_l13Ok.calls _ _ _ _).mono ?_; rintro e w' ⟨rfl, ⟨nd, rfl⟩⟩))
      go_ret
      exact ⟨_, rfl, (by (with_reducible repeat (first | apply Kd.R_alloc | apply Kd.R_drewN | apply Kd.R_drew)); exact HO.out), (by repeat (first | (with_reducible first | exact HB.out | apply below_alloc | apply pw_below_drewN | apply below_drew1) | exact HB.out))⟩

def impl_Mix.f (l0 l1 : List Fl) (a2 a3 : Nat) : Option (List Fl) := some (mixF l0 l1 (cv a2) (cv a3))
set_option maxHeartbeats 4000000 in
set_option maxRecDepth 100000 in
theorem impl_Mix.calls (A0 : Option Addr) (c0 : Nat) (l0 : List Fl) (A1 : Option Addr) (c1 : Nat) (l1 : List Fl) (a2 a3 : Nat) (r : List Fl) (w : World) (hr0 : Kd.C Kf w A0 l0.length l0) (hc0 : l0.length ≤ c0) (hr1 : Kd.C Kf w A1 l1.length l1) (hc1 : l1.length ≤ c1) (h : impl_Mix.f l0 l1 a2 a3 = some r) :
    Calls Try.prog 26 #[.slice A0 l0.length c0, .slice A1 l1.length c1, .float .f64 a2, .float .f64 a3] w fun e w' => ∃ v0_ : Value, e = .returned v0_ ∧ Kd.R Kf 23 w' w.heap.size (fun _ => True) v0_ r ∧ Below w.heap.size w w' := by
  have HR0 := Aside0.mk hr0
  have HC0 := Aside0.mk hc0
  have HM0 := Aside0.mk hr0.2.1
  clear hr0 hc0
  have HR1 := Aside0.mk hr1
  have HC1 := Aside0.mk hc1
  have HM1 := Aside0.mk hr1.2.1
  clear hr1 hc1
  have HB := Aside0.mk (Below.refl w.heap.size w)
  obtain rfl := Option.some.inj h
  clear h
  by_cases hl : l0.length ≤ 4096 ∧ l1.length ≤ 4096
  · have c0 : decide ((l0.length : Int) > 4096) = false := decide_eq_false (by omega)
    have c1 : decide ((l1.length : Int) > 4096) = false := decide_eq_false (by omega)
    rw [show mixF l0 l1 (cv a2) (cv a3) = mixG l0 l1 (cv a2) (cv a3) (max l0.length l1.length) by unfold mixF; rw [if_pos hl]]
    have HL := Aside0.mk hl
    clear hl
    by_cases hm : l0.length < l1.length
    · rw [show max l0.length l1.length = l1.length by omega]
      go_enter Try.func26, Try.ntmps26
      go_wp2_with (first | ((with_reducible refine gate_dst (N := 17) rfl ?_); (try (refine gate_guard (by rfl) ?_; dsimp only)); refine Kd.R_lit Kf _ 23 ?hg (N := 17) ?hd (xs := ([] : List Fl)) (inner := []) (ok := fun _ => True) (okp := fun _ => True) ?hr ?hp (fun _ hk => hk) trivial (Below.refl _ _) (Nat.le_refl _) (by simp) ?_; (case hd => rfl); (case hg => rfl); (case hr => first | (go_simp; done) | (go_simp; rfl)); (case hp => exact (Reps.none _ _)); intro vl_ wl_ hol_ hbl_ hg_ hnew_; clear hg_ hnew_; have HO := Aside0.mk (Kd.R_lower hol_ (below_size (by repeat (first | (with_reducible first | exact HB.out | apply below_alloc | apply pw_below_drewN | apply below_drew1) | exact HB.out)))); have n1_ := Aside0.mk (below_step (by repeat (first | (with_reducible first | exact HB.out | apply below_alloc | apply pw_below_drewN | apply below_drew1) | exact HB.out)) hbl_); clear HB; have HB := n1_; clear n1_ hol_ hbl_) | (go_at_call 39; refine (impl_tooLong.calls _ _ _ _).mono ?_; rintro e w' ⟨rfl, ⟨nd, rfl⟩⟩))
      go_loopg [9, 23] l1.length (fun gg v9 v23 w' => ∃ i : Nat, Aside0 (i ≤ l1.length ∧ l1.length - i ≤ gg) ∧ v23 = .int .i64 (i : Int) ∧ Aside0 (Kd.R Kf 23 w' w.heap.size (fun _ => True) v9 (mixG l0 l1 (cv a2) (cv a3) i)) ∧ Aside0 (Below w.heap.size w w'))
      case atStart => exact ⟨0, ⟨Nat.zero_le _, Nat.le_refl _⟩, rfl, HO, HB⟩
      case round =>
        clear HB HO
        obtain ⟨i, HK, rfl, HO, HB⟩ := hrel
        have HM2 : l0.length ≤ 9223372036854775807 := HM0.out
        have HM3 : l1.length ≤ 9223372036854775807 := HM1.out
        have p0 : (0 ≤ (i : Int)) = True := eq_true (by omega)
        by_cases hA : i < l0.length
        · obtain ⟨ad, b, e, hx, hb⟩ := at_f HR0.out (i : Int) (by omega) (by omega)
          cases e
          replace hx := (HB.out.cell (World.block_lt_of_cell? w _ hx)).trans hx
          simp only [Int.toNat_natCast] at hx
          have la : decide ((i : Int) < (l0.length : Int)) = true := decide_eq_true (by omega)
          have ga : decide ((l0.length : Int) ≤ (i : Int)) = false := decide_eq_false (by omega)
          have qa : ((i : Int) < (l0.length : Int)) = True := eq_true (by omega)
          have HBA := Aside0.mk hb
          clear hb
          by_cases hB : i < l1.length
          · obtain ⟨ad2, b2, e2, hx2, hb2⟩ := at_f HR1.out (i : Int) (by omega) (by omega)
            cases e2
            replace hx2 := (HB.out.cell (World.block_lt_of_cell? w _ hx2)).trans hx2
            simp only [Int.toNat_natCast] at hx2
            have lb : decide ((i : Int) < (l1.length : Int)) = true := decide_eq_true (by omega)
            have gb : decide ((l1.length : Int) ≤ (i : Int)) = false := decide_eq_false (by omega)
            have qb : ((i : Int) < (l1.length : Int)) = True := eq_true (by omega)
            have HBB := Aside0.mk hb2
            clear hb2
            go_wp2
            go_region_law (refine Kd.R_append_step Kf (w0 := w) w.heap.size (by rfl) (.tmp 26) (.tmp 40) 22 23 (.float .f64 0) 8 (by rfl) Try.underlying22 finfo rfl (by decide) (by omega) u9 (mixG l0 l1 (cv a2) (cv a3) i) (mixE l0 l1 (cv a2) (cv a3) i) [_] (fun _ => True) (fun _ => False) (by rfl) (by rfl) ?aP (fun _ hk => hk.elim) ?aF ?aO ?aB ?aS ?aL ?_; (case aP => exact ⟨_, rfl, (by unfold mixE; rw [if_neg (by omega), if_neg (by omega)]; simp only [cv_bits, HBA.out, HBB.out])⟩); (case aB => exact (by repeat (first | (with_reducible first | exact HB.out | apply below_alloc | apply pw_below_drewN | apply below_drew1) | exact HB.out))); (case aF => exact (fun _ _ => trivial)); (case aO => exact (by (with_reducible repeat (first | apply Kd.R_alloc | apply Kd.R_drewN | apply Kd.R_drew)); exact HO.out)); (case aS => exact (below_size (by repeat (first | (with_reducible first | exact HB.out | apply below_alloc | apply pw_below_drewN | apply below_drew1) | exact HB.out)))); (case aL => (rw [mixG_len]; have := HL.out; omega)); intro va_ wa_ hoa_ hba_ hg_ hat_; clear hg_ hat_; have n0_ := Aside0.mk hba_; have n1_ := Aside0.mk hoa_; clear HB HO; have HB := n0_; have HO := n1_; clear n0_ n1_ hoa_ hba_)
            all_goals (go_wp2; rw [← mixG_succ] at HO; go_roundg (l1.length - (i + 1)); (case measure => (have := HK.out; omega)); (case rel => exact ⟨i + 1, ⟨by omega, by omega⟩, by go_num, HO, HB⟩))
          · have lb : decide ((i : Int) < (l1.length : Int)) = false := decide_eq_false (by omega)
            have gb : decide ((l1.length : Int) ≤ (i : Int)) = true := decide_eq_true (by omega)
            exfalso; omega
        · have la : decide ((i : Int) < (l0.length : Int)) = false := decide_eq_false (by omega)
          have ga : decide ((l0.length : Int) ≤ (i : Int)) = true := decide_eq_true (by omega)
          by_cases hB : i < l1.length
          · obtain ⟨ad2, b2, e2, hx2, hb2⟩ := at_f HR1.out (i : Int) (by omega) (by omega)
            cases e2
            replace hx2 := (HB.out.cell (World.block_lt_of_cell? w _ hx2)).trans hx2
            simp only [Int.toNat_natCast] at hx2
            have lb : decide ((i : Int) < (l1.length : Int)) = true := decide_eq_true (by omega)
            have gb : decide ((l1.length : Int) ≤ (i : Int)) = false := decide_eq_false (by omega)
            have qb : ((i : Int) < (l1.length : Int)) = True := eq_true (by omega)
            have HBB := Aside0.mk hb2
            clear hb2
            go_wp2_with (first | ((with_reducible refine gate_builtin (b := .append) (xs := #[.tmp 61, .tmp 68]) rfl ?_); (try (refine gate_guard (by rfl) ?_; dsimp only)); at_builtin; refine Kd.R_append Kf (w0 := w) w.heap.size rfl (.tmp 61) (.tmp 68) 22 23 (.float .f64 0) 8 rfl Try.underlying22 finfo rfl (by decide) (by omega) u9 (mixG l0 l1 (cv a2) (cv a3) i) (mixE l0 l1 (cv a2) (cv a3) i) [_] (fun _ => True) (fun _ => False) rfl rfl ?aP (fun _ hk => hk.elim) ?aF ?aO ?aB ?aS ?aL ?_; (case aP => exact ⟨_, rfl, (by unfold mixE; rw [if_neg (by omega), if_pos (by omega)]; simp only [cv_bits, HBB.out])⟩); (case aB => exact (by repeat (first | (with_reducible first | exact HB.out | apply below_alloc | apply pw_below_drewN | apply below_drew1) | exact HB.out))); (case aF => exact (fun _ _ => trivial)); (case aO => exact (by (with_reducible repeat (first | apply Kd.R_alloc | apply Kd.R_drewN | apply Kd.R_drew)); exact HO.out)); (case aS => exact (below_size (by repeat (first | (with_reducible first | exact HB.out | apply below_alloc | apply pw_below_drewN | apply below_drew1) | exact HB.out)))); (case aL => (rw [mixG_len]; have := HL.out; omega)); intro va_ wa_ hoa_ hba_ hg_ hat_; clear hg_ hat_; have n0_ := Aside0.mk hba_; have n1_ := Aside0.mk hoa_; clear HB HO; have HB := n0_; have HO := n1_; clear n0_ n1_ hoa_ hba_))
            rw [← mixG_succ] at HO
            go_roundg (l1.length - (i + 1))
            (case measure => (have := HK.out; omega)); (case rel => exact ⟨i + 1, ⟨by omega, by omega⟩, by go_num, HO, HB⟩)
          · have lb : decide ((i : Int) < (l1.length : Int)) = false := decide_eq_false (by omega)
            have hi : i = l1.length := by have := HK.out; omega
            subst hi
            go_wp2
            go_ret
            exact ⟨_, rfl, HO.out, HB.out⟩
    · rw [show max l0.length l1.length = l0.length by omega]
      go_enter Try.func26, Try.ntmps26
      go_wp2_with (first | ((with_reducible refine gate_dst (N := 17) rfl ?_); (try (refine gate_guard (by rfl) ?_; dsimp only)); refine Kd.R_lit Kf _ 23 ?hg (N := 17) ?hd (xs := ([] : List Fl)) (inner := []) (ok := fun _ => True) (okp := fun _ => True) ?hr ?hp (fun _ hk => hk) trivial (Below.refl _ _) (Nat.le_refl _) (by simp) ?_; (case hd => rfl); (case hg => rfl); (case hr => first | (go_simp; done) | (go_simp; rfl)); (case hp => exact (Reps.none _ _)); intro vl_ wl_ hol_ hbl_ hg_ hnew_; clear hg_ hnew_; have HO := Aside0.mk (Kd.R_lower hol_ (below_size (by repeat (first | (with_reducible first | exact HB.out | apply below_alloc | apply pw_below_drewN | apply below_drew1) | exact HB.out)))); have n1_ := Aside0.mk (below_step (by repeat (first | (with_reducible first | exact HB.out | apply below_alloc | apply pw_below_drewN | apply below_drew1) | exact HB.out)) hbl_); clear HB; have HB := n1_; clear n1_ hol_ hbl_) | (go_at_call 39; refine (impl_tooLong.calls _ _ _ _).mono ?_; rintro e w' ⟨rfl, ⟨nd, rfl⟩⟩))
      go_loopg [9, 23] l0.length (fun gg v9 v23 w' => ∃ i : Nat, Aside0 (i ≤ l0.length ∧ l0.length - i ≤ gg) ∧ v23 = .int .i64 (i : Int) ∧ Aside0 (Kd.R Kf 23 w' w.heap.size (fun _ => True) v9 (mixG l0 l1 (cv a2) (cv a3) i)) ∧ Aside0 (Below w.heap.size w w'))
      case atStart => exact ⟨0, ⟨Nat.zero_le _, Nat.le_refl _⟩, rfl, HO, HB⟩
      case round =>
        clear HB HO
        obtain ⟨i, HK, rfl, HO, HB⟩ := hrel
        have HM2 : l0.length ≤ 9223372036854775807 := HM0.out
        have HM3 : l1.length ≤ 9223372036854775807 := HM1.out
        have p0 : (0 ≤ (i : Int)) = True := eq_true (by omega)
        by_cases hA : i < l0.length
        · obtain ⟨ad, b, e, hx, hb⟩ := at_f HR0.out (i : Int) (by omega) (by omega)
          cases e
          replace hx := (HB.out.cell (World.block_lt_of_cell? w _ hx)).trans hx
          simp only [Int.toNat_natCast] at hx
          have la : decide ((i : Int) < (l0.length : Int)) = true := decide_eq_true (by omega)
          have ga : decide ((l0.length : Int) ≤ (i : Int)) = false := decide_eq_false (by omega)
          have qa : ((i : Int) < (l0.length : Int)) = True := eq_true (by omega)
          have HBA := Aside0.mk hb
          clear hb
          by_cases hB : i < l1.length
          · obtain ⟨ad2, b2, e2, hx2, hb2⟩ := at_f HR1.out (i : Int) (by omega) (by omega)
            cases e2
            replace hx2 := (HB.out.cell (World.block_lt_of_cell? w _ hx2)).trans hx2
            simp only [Int.toNat_natCast] at hx2
            have lb : decide ((i : Int) < (l1.length : Int)) = true := decide_eq_true (by omega)
            have gb : decide ((l1.length : Int) ≤ (i : Int)) = false := decide_eq_false (by omega)
            have qb : ((i : Int) < (l1.length : Int)) = True := eq_true (by omega)
            have HBB := Aside0.mk hb2
            clear hb2
            go_wp2
            go_region_law (refine Kd.R_append_step Kf (w0 := w) w.heap.size (by rfl) (.tmp 26) (.tmp 40) 22 23 (.float .f64 0) 8 (by rfl) Try.underlying22 finfo rfl (by decide) (by omega) u9 (mixG l0 l1 (cv a2) (cv a3) i) (mixE l0 l1 (cv a2) (cv a3) i) [_] (fun _ => True) (fun _ => False) (by rfl) (by rfl) ?aP (fun _ hk => hk.elim) ?aF ?aO ?aB ?aS ?aL ?_; (case aP => exact ⟨_, rfl, (by unfold mixE; rw [if_neg (by omega), if_neg (by omega)]; simp only [cv_bits, HBA.out, HBB.out])⟩); (case aB => exact (by repeat (first | (with_reducible first | exact HB.out | apply below_alloc | apply pw_below_drewN | apply below_drew1) | exact HB.out))); (case aF => exact (fun _ _ => trivial)); (case aO => exact (by (with_reducible repeat (first | apply Kd.R_alloc | apply Kd.R_drewN | apply Kd.R_drew)); exact HO.out)); (case aS => exact (below_size (by repeat (first | (with_reducible first | exact HB.out | apply below_alloc | apply pw_below_drewN | apply below_drew1) | exact HB.out)))); (case aL => (rw [mixG_len]; have := HL.out; omega)); intro va_ wa_ hoa_ hba_ hg_ hat_; clear hg_ hat_; have n0_ := Aside0.mk hba_; have n1_ := Aside0.mk hoa_; clear HB HO; have HB := n0_; have HO := n1_; clear n0_ n1_ hoa_ hba_)
            all_goals (go_wp2; rw [← mixG_succ] at HO; go_roundg (l0.length - (i + 1)); (case measure => (have := HK.out; omega)); (case rel => exact ⟨i + 1, ⟨by omega, by omega⟩, by go_num, HO, HB⟩))
          · have lb : decide ((i : Int) < (l1.length : Int)) = false := decide_eq_false (by omega)
            have gb : decide ((l1.length : Int) ≤ (i : Int)) = true := decide_eq_true (by omega)
            (go_wp2_with (first | ((with_reducible refine gate_builtin (b := .append) (xs := #[.tmp 47, .tmp 54]) rfl ?_); (try (refine gate_guard (by rfl) ?_; dsimp only)); at_builtin; refine Kd.R_append Kf (w0 := w) w.heap.size rfl (.tmp 47) (.tmp 54) 22 23 (.float .f64 0) 8 rfl Try.underlying22 finfo rfl (by decide) (by omega) u9 (mixG l0 l1 (cv a2) (cv a3) i) (mixE l0 l1 (cv a2) (cv a3) i) [_] (fun _ => True) (fun _ => False) rfl rfl ?aP (fun _ hk => hk.elim) ?aF ?aO ?aB ?aS ?aL ?_; (case aP => exact ⟨_, rfl, (by unfold mixE; rw [if_pos (by omega)]; simp only [cv_bits, HBA.out])⟩); (case aB => exact (by repeat (first | (with_reducible first | exact HB.out | apply below_alloc | apply pw_below_drewN | apply below_drew1) | exact HB.out))); (case aF => exact (fun _ _ => trivial)); (case aO => exact (by (with_reducible repeat (first | apply Kd.R_alloc | apply Kd.R_drewN | apply Kd.R_drew)); exact HO.out)); (case aS => exact (below_size (by repeat (first | (with_reducible first | exact HB.out | apply below_alloc | apply pw_below_drewN | apply below_drew1) | exact HB.out)))); (case aL => (rw [mixG_len]; have := HL.out; omega)); intro va_ wa_ hoa_ hba_ hg_ hat_; clear hg_ hat_; have n0_ := Aside0.mk hba_; have n1_ := Aside0.mk hoa_; clear HB HO; have HB := n0_; have HO := n1_; clear n0_ n1_ hoa_ hba_)); rw [← mixG_succ] at HO; go_roundg (l0.length - (i + 1)); (case measure => (have := HK.out; omega)); (case rel => exact ⟨i + 1, ⟨by omega, by omega⟩, by go_num, HO, HB⟩))
        · have la : decide ((i : Int) < (l0.length : Int)) = false := decide_eq_false (by omega)
          have ga : decide ((l0.length : Int) ≤ (i : Int)) = true := decide_eq_true (by omega)
          by_cases hB : i < l1.length
          · exfalso; omega
          · have lb : decide ((i : Int) < (l1.length : Int)) = false := decide_eq_false (by omega)
            have hi : i = l0.length := by have := HK.out; omega
            subst hi
            go_wp2
            go_ret
            exact ⟨_, rfl, HO.out, HB.out⟩
  · rw [show mixF l0 l1 (cv a2) (cv a3) = [] by unfold mixF; rw [if_neg hl]]
    by_cases hA : l0.length ≤ 4096
    · have c0 : decide ((l0.length : Int) > 4096) = false := decide_eq_false (by omega)
      have c1 : decide ((l1.length : Int) > 4096) = true := decide_eq_true (by omega)
      clear hl
      go_enter Try.func26, Try.ntmps26
      go_wp2_with (first | (go_at_call 39; refine (impl_tooLong.calls _ _ _ _).mono ?_; rintro e w' ⟨rfl, ⟨nd, rfl⟩⟩))
      go_ret
      exact ⟨_, rfl, Kd.R_nil _ _ _ _ _, (by repeat (first | (with_reducible first | exact HB.out | apply below_alloc | apply pw_below_drewN | apply below_drew1) | exact HB.out))⟩
    · have c0 : decide ((l0.length : Int) > 4096) = true := decide_eq_true (by omega)
      clear hl
      go_enter Try.func26, Try.ntmps26
      go_wp2_with (first | (go_at_call 39; refine (impl_tooLong.calls _ _ _ _).mono ?_; rintro e w' ⟨rfl, ⟨nd, rfl⟩⟩))
      go_ret
      exact ⟨_, rfl, Kd.R_nil _ _ _ _ _, (by repeat (first | (with_reducible first | exact HB.out | apply below_alloc | apply pw_below_drewN | apply below_drew1) | exact HB.out))⟩

def spec_Fader.f (l0 : List Fl) (a1 a2 : Int) : Option (List Fl) := some (faderF l0 a1 a2)
set_option maxHeartbeats 4000000 in
set_option maxRecDepth 100000 in
theorem spec_Fader.calls (A0 : Option Addr) (c0 : Nat) (l0 : List Fl) (a1 a2 : Int) (r : List Fl) (w : World) (hr0 : Kd.C Kf w A0 l0.length l0) (hc0 : l0.length ≤ c0) (h : spec_Fader.f l0 a1 a2 = some r) :
    Calls Try.prog 23 #[.slice A0 l0.length c0, .int .i64 a1, .int .i64 a2] w fun e w' => ∃ v0_ : Value, e = .returned v0_ ∧ Kd.R Kf 23 w' w.heap.size (fun _ => True) v0_ r ∧ Below w.heap.size w w' := by
  have HR0 := Aside0.mk hr0
  have HC0 := Aside0.mk hc0
  have HM0 := Aside0.mk hr0.2.1
  clear hr0 hc0
  have HB := Aside0.mk (Below.refl w.heap.size w)
  obtain rfl := Option.some.inj h
  clear h
  by_cases h0 : l0.length ≤ 4096
  · have c0 : decide ((l0.length : Int) ≤ 4096) = true := decide_eq_true (by omega)
    by_cases h1 : 0 ≤ a1
    · have c1 : decide (a1 < 0) = false := decide_eq_false (by omega)
      by_cases h2 : a1 < a2
      · have c2 : decide (a2 ≤ a1) = false := decide_eq_false (by omega)
        by_cases h3 : a2 ≤ (l0.length : Int)
        · have c3 : decide (a2 > (l0.length : Int)) = false := decide_eq_false (by omega)
          rw [show faderF l0 a1 a2 = faderG l0 a1 a2 l0.length by unfold faderF; rw [if_pos ⟨h0, h1, h2, h3⟩]]
          go_enter Try.func23, Try.ntmps23
          go_wp2_with (first | ((with_reducible refine gate_dst (N := 10) rfl ?_); (try (refine gate_guard (by rfl) ?_; dsimp only)); refine Kd.R_lit Kf _ 23 ?hg (N := 10) ?hd (xs := ([] : List Fl)) (inner := []) (ok := fun _ => True) (okp := fun _ => True) ?hr ?hp (fun _ hk => hk) trivial (Below.refl _ _) (Nat.le_refl _) (by simp) ?_; (case hd => rfl); (case hg => rfl); (case hr => first | (go_simp; done) | (go_simp; rfl)); (case hp => exact (Reps.none _ _)); intro vl_ wl_ hol_ hbl_ hg_ hnew_; clear hg_ hnew_; have HO := Aside0.mk (Kd.R_lower hol_ (below_size (by repeat (first | (with_reducible first | exact HB.out | apply below_alloc | apply pw_below_drewN | apply below_drew1) | exact HB.out)))); have n1_ := Aside0.mk (below_step (by repeat (first | (with_reducible first | exact HB.out | apply below_alloc | apply pw_below_drewN | apply below_drew1) | exact HB.out)) hbl_); clear HB; have HB := n1_; clear n1_ hol_ hbl_) | (go_at_call 37; refine (spec_l13Ok.calls _ _ _ _).mono ?_; rintro e w' ⟨rfl, ⟨nd, rfl⟩⟩))
          go_loopg [7, 8] l0.length (fun gg v7 v8 w' => ∃ i : Nat, Aside0 (i ≤ l0.length ∧ l0.length - i ≤ gg) ∧ v8 = .int .i64 (i : Int) ∧ Aside0 (Kd.R Kf 23 w' w.heap.size (fun _ => True) v7 (faderG l0 a1 a2 i)) ∧ Aside0 (Below w.heap.size w w'))
          case atStart => exact ⟨0, ⟨Nat.zero_le _, Nat.le_refl _⟩, rfl, HO, ⟨(by repeat (first | (with_reducible first | exact HB.out | apply below_alloc | apply pw_below_drewN | apply below_drew1) | exact HB.out))⟩⟩
          case round =>
            clear HB HO
            obtain ⟨i, HK, rfl, HO, HB⟩ := hrel
            by_cases hlt : i < l0.length
            · obtain ⟨ad, b, e, hx, hb⟩ := at_f HR0.out (i : Int) (by omega) (by omega)
              cases e
              replace hx := (HB.out.cell (World.block_lt_of_cell? w _ hx)).trans hx
              simp only [Int.toNat_natCast] at hx
              have hltb : decide ((i : Int) < (l0.length : Int)) = true := decide_eq_true (by omega)
              have p0 : (0 ≤ (i : Int)) = True := eq_true (by omega)
              have q0 : ((i : Int) < (l0.length : Int)) = True := eq_true (by omega)
              have HBV := Aside0.mk hb
              clear hb
              by_cases g1 : (i : Int) < a1
              · have d1 : decide ((i : Int) < a1) = true := decide_eq_true (by omega)
                go_wp2_with (first | ((with_reducible refine gate_builtin (b := .append) (xs := #[.tmp 58, .tmp 59]) rfl ?_); (try (refine gate_guard (by rfl) ?_; dsimp only)); at_builtin; refine Kd.R_append Kf (w0 := w) w.heap.size rfl (.tmp 58) (.tmp 59) 22 23 (.float .f64 0) 8 rfl Try.underlying22 finfo rfl (by decide) (by omega) u7 (faderG l0 a1 a2 i) (faderE l0 a1 a2 i) [_] (fun _ => True) (fun _ => False) rfl rfl ?aP (fun _ hk => hk.elim) ?aF ?aO ?aB ?aS ?aL ?_; (case aP => exact ⟨_, rfl, (by unfold faderE; rw [if_pos g1]; rfl)⟩); (case aB => exact (by repeat (first | (with_reducible first | exact HB.out | apply below_alloc | apply pw_below_drewN | apply below_drew1) | exact HB.out))); (case aF => exact (fun _ _ => trivial)); (case aO => exact (by (with_reducible repeat (first | apply Kd.R_alloc | apply Kd.R_drewN | apply Kd.R_drew)); exact HO.out)); (case aS => exact (below_size (by repeat (first | (with_reducible first | exact HB.out | apply below_alloc | apply pw_below_drewN | apply below_drew1) | exact HB.out)))); (case aL => (rw [faderG_len]; omega)); intro va_ wa_ hoa_ hba_ hg_ hat_; clear hg_ hat_; have n0_ := Aside0.mk hba_; have n1_ := Aside0.mk hoa_; clear HB HO; have HB := n0_; have HO := n1_; clear n0_ n1_ hoa_ hba_))
                rw [← faderG_succ] at HO
                go_roundg (l0.length - (i + 1))
                case measure => have := HK.out; omega
                case rel => exact ⟨i + 1, ⟨by omega, by omega⟩, by go_num, HO, HB⟩
              · have d1 : decide ((i : Int) < a1) = false := decide_eq_false (by omega)
                by_cases g2 : a2 ≤ (i : Int)
                · have d2 : decide (a2 ≤ (i : Int)) = true := decide_eq_true (by omega)
                  go_wp2_with (first | ((with_reducible refine gate_builtin (b := .append) (xs := #[.tmp 65, .tmp 70]) rfl ?_); (try (refine gate_guard (by rfl) ?_; dsimp only)); at_builtin; refine Kd.R_append Kf (w0 := w) w.heap.size rfl (.tmp 65) (.tmp 70) 22 23 (.float .f64 0) 8 rfl Try.underlying22 finfo rfl (by decide) (by omega) u7 (faderG l0 a1 a2 i) (faderE l0 a1 a2 i) [_] (fun _ => True) (fun _ => False) rfl rfl ?aP (fun _ hk => hk.elim) ?aF ?aO ?aB ?aS ?aL ?_; (case aP => exact ⟨_, rfl, (by unfold faderE; rw [if_neg g1, if_pos g2]; exact HBV.out)⟩); (case aB => exact (by repeat (first | (with_reducible first | exact HB.out | apply below_alloc | apply pw_below_drewN | apply below_drew1) | exact HB.out))); (case aF => exact (fun _ _ => trivial)); (case aO => exact (by (with_reducible repeat (first | apply Kd.R_alloc | apply Kd.R_drewN | apply Kd.R_drew)); exact HO.out)); (case aS => exact (below_size (by repeat (first | (with_reducible first | exact HB.out | apply below_alloc | apply pw_below_drewN | apply below_drew1) | exact HB.out)))); (case aL => (rw [faderG_len]; omega)); intro va_ wa_ hoa_ hba_ hg_ hat_; clear hg_ hat_; have n0_ := Aside0.mk hba_; have n1_ := Aside0.mk hoa_; clear HB HO; have HB := n0_; have HO := n1_; clear n0_ n1_ hoa_ hba_))
                  rw [← faderG_succ] at HO
                  go_roundg (l0.length - (i + 1))
                  case measure => have := HK.out; omega
                  case rel => exact ⟨i + 1, ⟨by omega, by omega⟩, by go_num, HO, HB⟩
                · have d2 : decide (a2 ≤ (i : Int)) = false := decide_eq_false (by omega)
                  go_wp2_with (first | ((with_reducible refine gate_builtin (b := .append) (xs := #[.tmp 45, .tmp 52]) rfl ?_); (try (refine gate_guard (by rfl) ?_; dsimp only)); at_builtin; refine Kd.R_append Kf (w0 := w) w.heap.size rfl (.tmp 45) (.tmp 52) 22 23 (.float .f64 0) 8 rfl Try.underlying22 finfo rfl (by decide) (by omega) u7 (faderG l0 a1 a2 i) (faderE l0 a1 a2 i) [_] (fun _ => True) (fun _ => False) rfl rfl ?aP (fun _ hk => hk.elim) ?aF ?aO ?aB ?aS ?aL ?_; (case aP => exact ⟨_, rfl, (by unfold faderE; rw [if_neg g1, if_neg g2]; simp only [cv_bits, HBV.out]; rfl)⟩); (case aB => exact (by repeat (first | (with_reducible first | exact HB.out | apply below_alloc | apply pw_below_drewN | apply below_drew1) | exact HB.out))); (case aF => exact (fun _ _ => trivial)); (case aO => exact (by (with_reducible repeat (first | apply Kd.R_alloc | apply Kd.R_drewN | apply Kd.R_drew)); exact HO.out)); (case aS => exact (below_size (by repeat (first | (with_reducible first | exact HB.out | apply below_alloc | apply pw_below_drewN | apply below_drew1) | exact HB.out)))); (case aL => (rw [faderG_len]; omega)); intro va_ wa_ hoa_ hba_ hg_ hat_; clear hg_ hat_; have n0_ := Aside0.mk hba_; have n1_ := Aside0.mk hoa_; clear HB HO; have HB := n0_; have HO := n1_; clear n0_ n1_ hoa_ hba_))
                  rw [← faderG_succ] at HO
                  go_roundg (l0.length - (i + 1))
                  case measure => have := HK.out; omega
                  case rel => exact ⟨i + 1, ⟨by omega, by omega⟩, by go_num, HO, HB⟩
            · have hltb : decide ((i : Int) < (l0.length : Int)) = false := decide_eq_false (by omega)
              have hi : i = l0.length := by have := HK.out; omega
              subst hi
              go_wp2
              go_ret
              exact ⟨_, rfl, HO.out, HB.out⟩
        · have c3 : decide (a2 > (l0.length : Int)) = true := decide_eq_true (by omega)
          rw [show faderF l0 a1 a2 = [] by unfold faderF; rw [if_neg (by omega)]]
          go_enter Try.func23, Try.ntmps23
          go_wp2_with (first | ((with_reducible refine gate_dst (N := 10) rfl ?_); (try (refine gate_guard (by rfl) ?_; dsimp only)); refine Kd.R_lit Kf _ 23 ?hg (N := 10) ?hd (xs := ([] : List Fl)) (inner := []) (ok := fun _ => True) (okp := fun _ => True) ?hr ?hp (fun _ hk => hk) trivial (Below.refl _ _) (Nat.le_refl _) (by simp) ?_; (case hd => rfl); (case hg => rfl); (case hr => first | (go_simp; done) | (go_simp; rfl)); (case hp => exact (Reps.none _ _)); intro vl_ wl_ hol_ hbl_ hg_ hnew_; clear hg_ hnew_; have HO := Aside0.mk (Kd.R_lower hol_ (below_size (by repeat (first | (with_reducible first | exact HB.out | apply below_alloc | apply pw_below_drewN | apply below_drew1) | exact HB.out)))); have n1_ := Aside0.mk (below_step (by repeat (first | (with_reducible first | exact HB.out | apply below_alloc | apply pw_below_drewN | apply below_drew1) | exact HB.out)) hbl_); clear HB; have HB := n1_; clear n1_ hol_ hbl_) | (go_at_call 37; refine (spec_l13Ok.calls _ _ _ _).mono ?_; rintro e w' ⟨rfl, ⟨nd, rfl⟩⟩))
          go_ret
          exact ⟨_, rfl, HO.out, (by repeat (first | (with_reducible first | exact HB.out | apply below_alloc | apply pw_below_drewN | apply below_drew1) | exact HB.out))⟩
      · have c2 : decide (a2 ≤ a1) = true := decide_eq_true (by omega)
        rw [show faderF l0 a1 a2 = [] by unfold faderF; rw [if_neg (by omega)]]
        go_enter Try.func23, Try.ntmps23
        go_wp2_with (first | ((with_reducible refine gate_dst (N := 10) rfl ?_); (try (refine gate_guard (by rfl) ?_; dsimp only)); refine Kd.R_lit Kf _ 23 ?hg (N := 10) ?hd (xs := ([] : List Fl)) (inner := []) (ok := fun _ => True) (okp := fun _ => True) ?hr ?hp (fun _ hk => hk) trivial (Below.refl _ _) (Nat.le_refl _) (by simp) ?_; (case hd => rfl); (case hg => rfl); (case hr => first | (go_simp; done) | (go_simp; rfl)); (case hp => exact (Reps.none _ _)); intro vl_ wl_ hol_ hbl_ hg_ hnew_; clear hg_ hnew_; have HO := Aside0.mk (Kd.R_lower hol_ (below_size (by repeat (first | (with_reducible first | exact HB.out | apply below_alloc | apply pw_below_drewN | apply below_drew1) | exact HB.out)))); have n1_ := Aside0.mk (below_step (by repeat (first | (with_reducible first | exact HB.out | apply below_alloc | apply pw_below_drewN | apply below_drew1) | exact HB.out)) hbl_); clear HB; have HB := n1_; clear n1_ hol_ hbl_) | (go_at_call 37; refine (spec_l13Ok.calls _ _ _ _).mono ?_; rintro e w' ⟨rfl, ⟨nd, rfl⟩⟩))
        go_ret
        exact ⟨_, rfl, HO.out, (by repeat (first | (with_reducible first | exact HB.out | apply below_alloc | apply pw_below_drewN | apply below_drew1) | exact HB.out))⟩
    · have c1 : decide (a1 < 0) = true := decide_eq_true (by omega)
      rw [show faderF l0 a1 a2 = [] by unfold faderF; rw [if_neg (by omega)]]
      go_enter Try.func23, Try.ntmps23
      go_wp2_with (first | ((with_reducible refine gate_dst (N := 10) rfl ?_); (try (refine gate_guard (by rfl) ?_; dsimp only)); refine Kd.R_lit Kf _ 23 ?hg (N := 10) ?hd (xs := ([] : List Fl)) (inner := []) (ok := fun _ => True) (okp := fun _ => True) ?hr ?hp (fun _ hk => hk) trivial (Below.refl _ _) (Nat.le_refl _) (by simp) ?_; (case hd => rfl); (case hg => rfl); (case hr => first | (go_simp; done) | (go_simp; rfl)); (case hp => exact (Reps.none _ _)); intro vl_ wl_ hol_ hbl_ hg_ hnew_; clear hg_ hnew_; have HO := Aside0.mk (Kd.R_lower hol_ (below_size (by repeat (first | (with_reducible first | exact HB.out | apply below_alloc | apply pw_below_drewN | apply below_drew1) | exact HB.out)))); have n1_ := Aside0.mk (below_step (by repeat (first | (with_reducible first | exact HB.out | apply below_alloc | apply pw_below_drewN | apply below_drew1) | exact HB.out)) hbl_); clear HB; have HB := n1_; clear n1_ hol_ hbl_) | (go_at_call 37; refine (spec_l13Ok.calls _ _ _ _).mono ?_; rintro e w' ⟨rfl, ⟨nd, rfl⟩⟩))
      go_ret
      exact ⟨_, rfl, HO.out, (by repeat (first | (with_reducible first | exact HB.out | apply below_alloc | apply pw_below_drewN | apply below_drew1) | exact HB.out))⟩
  · have c0 : decide ((l0.length : Int) ≤ 4096) = false := decide_eq_false (by omega)
    rw [show faderF l0 a1 a2 = [] by unfold faderF; rw [if_neg (by omega)]]
    go_enter Try.func23, Try.ntmps23
    go_wp2_with (first | ((with_reducible refine gate_dst (N := 10) rfl ?_); (try (refine gate_guard (by rfl) ?_; dsimp only)); refine Kd.R_lit Kf _ 23 ?hg (N := 10) ?hd (xs := ([] : List Fl)) (inner := []) (ok := fun _ => True) (okp := fun _ => True) ?hr ?hp (fun _ hk => hk) trivial (Below.refl _ _) (Nat.le_refl _) (by simp) ?_; (case hd => rfl); (case hg => rfl); (case hr => first | (go_simp; done) | (go_simp; rfl)); (case hp => exact (Reps.none _ _)); intro vl_ wl_ hol_ hbl_ hg_ hnew_; clear hg_ hnew_; have HO := Aside0.mk (Kd.R_lower hol_ (below_size (by repeat (first | (with_reducible first | exact HB.out | apply below_alloc | apply pw_below_drewN | apply below_drew1) | exact HB.out)))); have n1_ := Aside0.mk (below_step (by repeat (first | (with_reducible first | exact HB.out | apply below_alloc | apply pw_below_drewN | apply below_drew1) | exact HB.out)) hbl_); clear HB; have HB := n1_; clear n1_ hol_ hbl_) | (go_at_call 37; refine (spec_l13Ok.calls _ _ _ _).mono ?_; rintro e w' ⟨rfl, ⟨nd, rfl⟩⟩))
    go_ret
    exact ⟨_, rfl, HO.out, (by repeat (first | (with_reducible first | exact HB.out | apply below_alloc | apply pw_below_drewN | apply below_drew1) | exact HB.out))⟩

def impl_Fader.f (l0 : List Fl) (a1 a2 : Int) : Option (List Fl) := some (faderF l0 a1 a2)
set_option maxHeartbeats 4000000 in
set_option maxRecDepth 100000 in
theorem impl_Fader.calls (A0 : Option Addr) (c0 : Nat) (l0 : List Fl) (a1 a2 : Int) (r : List Fl) (w : World) (hr0 : Kd.C Kf w A0 l0.length l0) (hc0 : l0.length ≤ c0) (h : impl_Fader.f l0 a1 a2 = some r) :
    Calls Try.prog 24 #[.slice A0 l0.length c0, .int .i64 a1, .int .i64 a2] w fun e w' => ∃ v0_ : Value, e = .returned v0_ ∧ Kd.R Kf 23 w' w.heap.size (fun _ => True) v0_ r ∧ Below w.heap.size w w' := by
  have HR0 := Aside0.mk hr0
  have HC0 := Aside0.mk hc0
  have HM0 := Aside0.mk hr0.2.1
  clear hr0 hc0
  have HB := Aside0.mk (Below.refl w.heap.size w)
  obtain rfl := Option.some.inj h
  clear h
  by_cases h0 : l0.length ≤ 4096
  · have c0 : decide ((l0.length : Int) > 4096) = false := decide_eq_false (by omega)
    by_cases h1 : 0 ≤ a1
    · have c1 : decide (0 ≤ a1) = true := decide_eq_true (by omega)
      by_cases h2 : a1 < a2
      · have c2 : decide (a1 < a2) = true := decide_eq_true (by omega)
        by_cases h3 : a2 ≤ (l0.length : Int)
        · have c3 : decide (a2 ≤ (l0.length : Int)) = true := decide_eq_true (by omega)
          rw [show faderF l0 a1 a2 = faderG l0 a1 a2 l0.length by unfold faderF; rw [if_pos ⟨h0, h1, h2, h3⟩]]
          have p0 : (0 ≤ (l0.length : Int)) = True := eq_true (by omega)
          have p1 : decide (0 ≤ (l0.length : Int)) = true := decide_eq_true (by omega)
          go_enter Try.func24, Try.ntmps24
          go_wp2_with (first | (go_at_call 39; refine (impl_tooLong.calls _ _ _ _).mono ?_; rintro e w' ⟨rfl, ⟨nd, rfl⟩⟩) | ((with_reducible refine gate_dst (N := 31) rfl ?_); refine Kd.R_make Kf _ 23 rfl (N := 31) rfl 22 _ _ rfl (l0.length : Int) rfl rfl Try.underlying22 (.float .f64 0) 8 finfo rfl (by decide) (by omega) (cv 0) (ok := fun _ => True) (okp := fun _ => True) ⟨0, rfl, rfl⟩ (fun _ hk => hk) trivial (by omega) ?hmk (Below.refl _ _) (Nat.le_refl _) ?_; (case hmk => omega); intro vm_ wm_ hom_ hbm_ hg_ hnew_; clear hg_ hnew_; have HO := Aside0.mk (Kd.R_lower hom_ (below_size (by repeat (first | (with_reducible first | exact HB.out | apply below_alloc | apply pw_below_drewN | apply below_drew1) | exact HB.out)))); have n1_ := Aside0.mk (below_step (by repeat (first | (with_reducible first | exact HB.out | apply below_alloc | apply pw_below_drewN | apply below_drew1) | exact HB.out)) hbm_); clear HB; have HB := n1_; clear n1_ hom_ hbm_))
          obtain ⟨AM, cM, eM⟩ := Kd.R_slice HO.out
          subst eM
          simp only [List.length_replicate, Int.toNat_natCast] at *
          go_loopg [34] l0.length (fun gg v34 w' => ∃ i : Nat, Aside0 (i ≤ l0.length ∧ l0.length - i ≤ gg) ∧ v34 = .int .i64 (i : Int) ∧ Aside0 (Kd.R Kf 23 w' w.heap.size (fun _ => True) (.slice AM l0.length cM) (faderG l0 a1 a2 i ++ List.replicate (l0.length - i) (cv 0))) ∧ Aside0 (Below w.heap.size w w'))
          case atStart => exact ⟨0, ⟨Nat.zero_le _, Nat.le_refl _⟩, rfl, ⟨by simpa [faderG] using HO.out⟩, ⟨(by repeat (first | (with_reducible first | exact HB.out | apply below_alloc | apply pw_below_drewN | apply below_drew1) | exact HB.out))⟩⟩
          case round =>
            clear HB HO
            obtain ⟨i, HK, rfl, HO, HB⟩ := hrel
            by_cases hlt : i < l0.length
            · obtain ⟨ad, b, e, hx, hb⟩ := at_f HR0.out (i : Int) (by omega) (by omega)
              cases e
              replace hx := (HB.out.cell (World.block_lt_of_cell? w _ hx)).trans hx
              simp only [Int.toNat_natCast] at hx
              have hltb : decide ((i : Int) < (l0.length : Int)) = true := decide_eq_true (by omega)
              have p0 : (0 ≤ (i : Int)) = True := eq_true (by omega)
              have q0 : ((i : Int) < (l0.length : Int)) = True := eq_true (by omega)
              have HBV := Aside0.mk hb
              clear hb
              have FS_ : ∀ y : Fl, y = faderE l0 a1 a2 i → (faderG l0 a1 a2 i ++ List.replicate (l0.length - i) (cv 0)).set i y = faderG l0 a1 a2 (i + 1) ++ List.replicate (l0.length - (i + 1)) (cv 0) := by
                intro y hy
                rw [show l0.length - i = (l0.length - (i + 1)) + 1 by omega, List.replicate_succ, fill_set _ _ _ _ _ (faderG_len _ _ _ _), hy, faderG_succ]
              by_cases g2 : a2 ≤ (i : Int)
              · have d2 : decide (a2 ≤ (i : Int)) = true := decide_eq_true (by omega)
                obtain ⟨go, co, eo, GB, _⟩ := Kd.R_form HO.out (by simp [faderG_len]; omega)
                injection eo with ea en ec
                subst ea ec
                clear en
                obtain ⟨bo, xo, _, fo⟩ := R_cellf HO.out (i : Int) (by omega) (by omega)
                simp only [Int.toNat_natCast] at xo fo
                have GB2 := Aside0.mk GB
                clear GB
                go_wp2
                go_roundg (l0.length - (i + 1))
                case measure => have := HK.out; omega
                case rel => exact ⟨i + 1, ⟨by omega, by omega⟩, by go_num, ⟨R_putf' (by (with_reducible repeat (first | apply Kd.R_alloc | apply Kd.R_drewN | apply Kd.R_drew)); exact HO.out) (FS_ _ (by rw [HBV.out]; unfold faderE; rw [if_neg (by omega), if_pos g2]))⟩, ⟨below_set (by repeat (first | (with_reducible first | exact HB.out | apply below_alloc | apply pw_below_drewN | apply below_drew1) | exact HB.out)) GB2.out⟩⟩
              · have d2 : decide (a2 ≤ (i : Int)) = false := decide_eq_false (by omega)
                by_cases g1 : a1 ≤ (i : Int)
                · have d1 : decide (a1 ≤ (i : Int)) = true := decide_eq_true (by omega)
                  obtain ⟨go, co, eo, GB, _⟩ := Kd.R_form HO.out (by simp [faderG_len]; omega)
                  injection eo with ea en ec
                  subst ea ec
                  clear en
                  obtain ⟨bo, xo, _, fo⟩ := R_cellf HO.out (i : Int) (by omega) (by omega)
                  simp only [Int.toNat_natCast] at xo fo
                  have GB2 := Aside0.mk GB
                  clear GB
                  go_wp2
                  go_roundg (l0.length - (i + 1))
                  case measure => have := HK.out; omega
                  case rel => exact ⟨i + 1, ⟨by omega, by omega⟩, by go_num, ⟨R_putf' (by (with_reducible repeat (first | apply Kd.R_alloc | apply Kd.R_drewN | apply Kd.R_drew)); exact HO.out) (FS_ _ (by unfold faderE; rw [if_neg (by omega), if_neg (by omega)]; simp only [cv_bits, HBV.out]; rfl))⟩, ⟨below_set (by repeat (first | (with_reducible first | exact HB.out | apply below_alloc | apply pw_below_drewN | apply below_drew1) | exact HB.out)) GB2.out⟩⟩
                · have d1 : decide (a1 ≤ (i : Int)) = false := decide_eq_false (by omega)
                  have hs : faderG l0 a1 a2 i ++ List.replicate (l0.length - i) (cv 0) = faderG l0 a1 a2 (i + 1) ++ List.replicate (l0.length - (i + 1)) (cv 0) := by
                    rw [show l0.length - i = (l0.length - (i + 1)) + 1 by omega, List.replicate_succ, faderG_succ, List.append_assoc]
                    congr 1
                    rw [show faderE l0 a1 a2 i = cv 0 by unfold faderE; rw [if_pos (by omega)]; rfl]
                    rfl
                  rw [hs] at HO
                  clear hs
                  go_wp2
                  go_roundg (l0.length - (i + 1))
                  case measure => have := HK.out; omega
                  case rel => exact ⟨i + 1, ⟨by omega, by omega⟩, by go_num, HO, HB⟩
            · have hltb : decide ((i : Int) < (l0.length : Int)) = false := decide_eq_false (by omega)
              have hi : i = l0.length := by have := HK.out; omega
              subst hi
              have HQ := Aside0.mk (show Kd.R Kf 23 wr w.heap.size (fun _ => True) (.slice AM l0.length cM) (faderG l0 a1 a2 l0.length) by simpa using HO.out)
              clear HO
              go_wp2
              go_ret
              exact ⟨_, rfl, HQ.out, HB.out⟩
        · have c3 : decide (a2 ≤ (l0.length : Int)) = false := decide_eq_false (by omega)
          rw [show faderF l0 a1 a2 = [] by unfold faderF; rw [if_neg (by omega)]]
          go_enter Try.func24, Try.ntmps24
          go_wp2_with (first | (go_at_call 39; refine (impl_tooLong.calls _ _ _ _).mono ?_; rintro e w' ⟨rfl, ⟨nd, rfl⟩⟩))
          go_ret
          exact ⟨_, rfl, Kd.R_nil _ _ _ _ _, (by repeat (first | (with_reducible first | exact HB.out | apply below_alloc | apply pw_below_drewN | apply below_drew1) | exact HB.out))⟩
      · have c2 : decide (a1 < a2) = false := decide_eq_false (by omega)
        rw [show faderF l0 a1 a2 = [] by unfold faderF; rw [if_neg (by omega)]]
        go_enter Try.func24, Try.ntmps24
        go_wp2_with (first | (go_at_call 39; refine (impl_tooLong.calls _ _ _ _).mono ?_; rintro e w' ⟨rfl, ⟨nd, rfl⟩⟩))
        go_ret
        exact ⟨_, rfl, Kd.R_nil _ _ _ _ _, (by repeat (first | (with_reducible first | exact HB.out | apply below_alloc | apply pw_below_drewN | apply below_drew1) | exact HB.out))⟩
    · have c1 : decide (0 ≤ a1) = false := decide_eq_false (by omega)
      rw [show faderF l0 a1 a2 = [] by unfold faderF; rw [if_neg (by omega)]]
      go_enter Try.func24, Try.ntmps24
      go_wp2_with (first | (go_at_call 39; refine (impl_tooLong.calls _ _ _ _).mono ?_; rintro e w' ⟨rfl, ⟨nd, rfl⟩⟩))
      go_ret
      exact ⟨_, rfl, Kd.R_nil _ _ _ _ _, (by repeat (first | (with_reducible first | exact HB.out | apply below_alloc | apply pw_below_drewN | apply below_drew1) | exact HB.out))⟩
  · have c0 : decide ((l0.length : Int) > 4096) = true := decide_eq_true (by omega)
    rw [show faderF l0 a1 a2 = [] by unfold faderF; rw [if_neg (by omega)]]
    go_enter Try.func24, Try.ntmps24
    go_wp2_with (first | (go_at_call 39; refine (impl_tooLong.calls _ _ _ _).mono ?_; rintro e w' ⟨rfl, ⟨nd, rfl⟩⟩))
    go_ret
    exact ⟨_, rfl, Kd.R_nil _ _ _ _ _, (by repeat (first | (with_reducible first | exact HB.out | apply below_alloc | apply pw_below_drewN | apply below_drew1) | exact HB.out))⟩

def spec_l13Above.f (l0 : List Fl) (a1 : Nat) : Option (List Fl) := if l0.length ≤ 1048576 then some (aboveF l0 (cv a1)) else none
set_option maxHeartbeats 4000000 in
set_option maxRecDepth 100000 in
theorem spec_l13Above.calls (A0 : Option Addr) (c0 : Nat) (l0 : List Fl) (a1 : Nat) (r : List Fl) (w : World) (hr0 : Kd.C Kf w A0 l0.length l0) (hc0 : l0.length ≤ c0) (h : spec_l13Above.f l0 a1 = some r) :
    Calls Try.prog 41 #[.slice A0 l0.length c0, .float .f64 a1] w fun e w' => ∃ v0_ : Value, e = .returned v0_ ∧ Kd.R Kf 23 w' w.heap.size (fun _ => True) v0_ r ∧ Below w.heap.size w w' := by
  have HR0 := Aside0.mk hr0
  have HC0 := Aside0.mk hc0
  have HM0 := Aside0.mk hr0.2.1
  clear hr0 hc0
  have HB := Aside0.mk (Below.refl w.heap.size w)
  unfold spec_l13Above.f at h
  by_cases h0 : l0.length ≤ 1048576
  · rw [if_pos h0] at h
    obtain rfl := Option.some.inj h
    clear h
    rw [← aboveG_all]
    go_enter Try.func41, Try.ntmps41
    go_wp2_with (first | ((with_reducible refine gate_dst (N := 7) rfl ?_); (try (refine gate_guard (by rfl) ?_; dsimp only)); refine Kd.R_lit Kf _ 23 ?hg (N := 7) ?hd (xs := ([] : List Fl)) (inner := []) (ok := fun _ => True) (okp := fun _ => True) ?hr ?hp (fun _ hk => hk) trivial (Below.refl _ _) (Nat.le_refl _) (by simp) ?_; (case hd => rfl); (case hg => rfl); (case hr => first | (go_simp; done) | (go_simp; rfl)); (case hp => exact (Reps.none _ _)); intro vl_ wl_ hol_ hbl_ hg_ hnew_; clear hg_ hnew_; have HO := Aside0.mk (Kd.R_lower hol_ (below_size (by repeat (first | (with_reducible first | exact HB.out | apply below_alloc | apply pw_below_drewN | apply below_drew1) | exact HB.out)))); have n1_ := Aside0.mk (below_step (by repeat (first | (with_reducible first | exact HB.out | apply below_alloc | apply pw_below_drewN | apply below_drew1) | exact HB.out)) hbl_); clear HB; have HB := n1_; clear n1_ hol_ hbl_))
    go_loopg [5, 6] l0.length (fun gg v5 v6 w' => ∃ i : Nat, Aside0 (i ≤ l0.length ∧ l0.length - i ≤ gg) ∧ v6 = .int .i64 (i : Int) ∧ Aside0 (Kd.R Kf 23 w' w.heap.size (fun _ => True) v5 (aboveG l0 (cv a1) i)) ∧ Aside0 (Below w.heap.size w w'))
    case atStart => exact ⟨0, ⟨Nat.zero_le _, Nat.le_refl _⟩, rfl, HO, HB⟩
    case round =>
      clear HB HO
      obtain ⟨i, HK, rfl, HO, HB⟩ := hrel
      by_cases hlt : i < l0.length
      · obtain ⟨ad, b, e, hx, hb⟩ := at_f HR0.out (i : Int) (by omega) (by omega)
        cases e
        replace hx := (HB.out.cell (World.block_lt_of_cell? w _ hx)).trans hx
        simp only [Int.toNat_natCast] at hx
        have hltb : decide ((i : Int) < (l0.length : Int)) = true := decide_eq_true (by omega)
        have p0 : (0 ≤ (i : Int)) = True := eq_true (by omega)
        have q0 : ((i : Int) < (l0.length : Int)) = True := eq_true (by omega)
        have HBV := Aside0.mk hb
        have hlen := aboveG_len l0 (cv a1) i
        have hsu := aboveG_succ l0 (cv a1) i hlt
        have hgt : (FloatKind.f64.format.order b a1 == some Ordering.gt) = gtF (rf l0 (i : Int)) (cv a1) := by rw [order_cv, hb]; rfl
        clear hb
        cases hg : gtF (rf l0 (i : Int)) (cv a1) with
        | true =>
          rw [hg] at hgt hsu
          rw [if_pos rfl] at hsu
          go_wp2_with (first | ((with_reducible refine gate_builtin (b := .append) (xs := #[.tmp 20, .tmp 25]) rfl ?_); (try (refine gate_guard (by rfl) ?_; dsimp only)); at_builtin; refine Kd.R_append Kf (w0 := w) w.heap.size rfl (.tmp 20) (.tmp 25) 22 23 (.float .f64 0) 8 rfl Try.underlying22 finfo rfl (by decide) (by omega) u5 (aboveG l0 (cv a1) i) (rf l0 (i : Int)) [_] (fun _ => True) (fun _ => False) rfl rfl ?aP (fun _ hk => hk.elim) ?aF ?aO ?aB ?aS ?aL ?_; (case aP => exact ⟨_, rfl, (by exact HBV.out)⟩); (case aB => exact (by repeat (first | (with_reducible first | exact HB.out | apply below_alloc | apply pw_below_drewN | apply below_drew1) | exact HB.out))); (case aF => exact (fun _ _ => trivial)); (case aO => exact (by (with_reducible repeat (first | apply Kd.R_alloc | apply Kd.R_drewN | apply Kd.R_drew)); exact HO.out)); (case aS => exact (below_size (by repeat (first | (with_reducible first | exact HB.out | apply below_alloc | apply pw_below_drewN | apply below_drew1) | exact HB.out)))); (case aL => omega); intro va_ wa_ hoa_ hba_ hg_ hat_; clear hg_ hat_; have n0_ := Aside0.mk hba_; have n1_ := Aside0.mk hoa_; clear HB HO; have HB := n0_; have HO := n1_; clear n0_ n1_ hoa_ hba_))
          rw [← hsu] at HO
          go_roundg (l0.length - (i + 1))
          case measure => have := HK.out; omega
          case rel => exact ⟨i + 1, ⟨by omega, by omega⟩, by go_num, HO, HB⟩
        | false =>
          rw [hg] at hgt hsu
          rw [if_neg (by simp), List.append_nil] at hsu
          rw [← hsu] at HO
          go_wp2
          go_roundg (l0.length - (i + 1))
          case measure => have := HK.out; omega
          case rel => exact ⟨i + 1, ⟨by omega, by omega⟩, by go_num, HO, HB⟩
      · have hltb : decide ((i : Int) < (l0.length : Int)) = false := decide_eq_false (by omega)
        have hi : i = l0.length := by have := HK.out; omega
        subst hi
        go_wp2
        go_ret
        exact ⟨_, rfl, HO.out, HB.out⟩
  · rw [if_neg h0] at h
    cases h

def impl_above.f (l0 : List Fl) (a1 : Nat) : Option (List Fl) := if l0.length ≤ 1048576 then some (aboveF l0 (cv a1)) else none
set_option maxHeartbeats 4000000 in
set_option maxRecDepth 100000 in
theorem impl_above.calls (A0 : Option Addr) (c0 : Nat) (l0 : List Fl) (a1 : Nat) (r : List Fl) (w : World) (hr0 : Kd.C Kf w A0 l0.length l0) (hc0 : l0.length ≤ c0) (h : impl_above.f l0 a1 = some r) :
    Calls Try.prog 43 #[.slice A0 l0.length c0, .float .f64 a1] w fun e w' => ∃ v0_ : Value, e = .returned v0_ ∧ Kd.R Kf 23 w' w.heap.size (fun _ => True) v0_ r ∧ Below w.heap.size w w' := by
  have HR0 := Aside0.mk hr0
  have HC0 := Aside0.mk hc0
  have HM0 := Aside0.mk hr0.2.1
  clear hr0 hc0
  have HB := Aside0.mk (Below.refl w.heap.size w)
  unfold impl_above.f at h
  by_cases h0 : l0.length ≤ 1048576
  · rw [if_pos h0] at h
    obtain rfl := Option.some.inj h
    clear h
    rw [← aboveG_all]
    go_enter Try.func43, Try.ntmps43
    go_wp2_with (first | ((with_reducible refine gate_dst (N := 8) rfl ?_); (try (refine gate_guard (by rfl) ?_; dsimp only)); refine Kd.R_lit Kf _ 23 ?hg (N := 8) ?hd (xs := ([] : List Fl)) (inner := []) (ok := fun _ => True) (okp := fun _ => True) ?hr ?hp (fun _ hk => hk) trivial (Below.refl _ _) (Nat.le_refl _) (by simp) ?_; (case hd => rfl); (case hg => rfl); (case hr => first | (go_simp; done) | (go_simp; rfl)); (case hp => exact (Reps.none _ _)); intro vl_ wl_ hol_ hbl_ hg_ hnew_; clear hg_ hnew_; have HO := Aside0.mk (Kd.R_lower hol_ (below_size (by repeat (first | (with_reducible first | exact HB.out | apply below_alloc | apply pw_below_drewN | apply below_drew1) | exact HB.out)))); have n1_ := Aside0.mk (below_step (by repeat (first | (with_reducible first | exact HB.out | apply below_alloc | apply pw_below_drewN | apply below_drew1) | exact HB.out)) hbl_); clear HB; have HB := n1_; clear n1_ hol_ hbl_))
    go_loopg [5, 11] l0.length (fun gg v5 v11 w' => ∃ i : Nat, Aside0 (i ≤ l0.length ∧ l0.length - i ≤ gg) ∧ v11 = .int .i64 (i : Int) ∧ Aside0 (Kd.R Kf 23 w' w.heap.size (fun _ => True) v5 (aboveG l0 (cv a1) i)) ∧ Aside0 (Below w.heap.size w w'))
    case atStart => exact ⟨0, ⟨Nat.zero_le _, Nat.le_refl _⟩, rfl, HO, HB⟩
    case round =>
      clear HB HO
      obtain ⟨i, HK, rfl, HO, HB⟩ := hrel
      by_cases hlt : i < l0.length
      · obtain ⟨ad, b, e, hx, hb⟩ := at_f HR0.out (i : Int) (by omega) (by omega)
        cases e
        replace hx := (HB.out.cell (World.block_lt_of_cell? w _ hx)).trans hx
        simp only [Int.toNat_natCast] at hx
        have hltb : decide ((i : Int) < (l0.length : Int)) = true := decide_eq_true (by omega)
        have p0 : (0 ≤ (i : Int)) = True := eq_true (by omega)
        have q0 : ((i : Int) < (l0.length : Int)) = True := eq_true (by omega)
        have HBV := Aside0.mk hb
        have hlen := aboveG_len l0 (cv a1) i
        have hsu := aboveG_succ l0 (cv a1) i hlt
        have hgt : (FloatKind.f64.format.order b a1 == some Ordering.gt) = gtF (rf l0 (i : Int)) (cv a1) := by rw [order_cv, hb]; rfl
        clear hb
        cases hg : gtF (rf l0 (i : Int)) (cv a1) with
        | true =>
          rw [hg] at hgt hsu
          rw [if_pos rfl] at hsu
          go_wp2_with (first | ((with_reducible refine gate_builtin (b := .append) (xs := #[.tmp 18, .tmp 20]) rfl ?_); (try (refine gate_guard (by rfl) ?_; dsimp only)); at_builtin; refine Kd.R_append Kf (w0 := w) w.heap.size rfl (.tmp 18) (.tmp 20) 22 23 (.float .f64 0) 8 rfl Try.underlying22 finfo rfl (by decide) (by omega) u5 (aboveG l0 (cv a1) i) (rf l0 (i : Int)) [_] (fun _ => True) (fun _ => False) rfl rfl ?aP (fun _ hk => hk.elim) ?aF ?aO ?aB ?aS ?aL ?_; (case aP => exact ⟨_, rfl, (by exact HBV.out)⟩); (case aB => exact (by repeat (first | (with_reducible first | exact HB.out | apply below_alloc | apply pw_below_drewN | apply below_drew1) | exact HB.out))); (case aF => exact (fun _ _ => trivial)); (case aO => exact (by (with_reducible repeat (first | apply Kd.R_alloc | apply Kd.R_drewN | apply Kd.R_drew)); exact HO.out)); (case aS => exact (below_size (by repeat (first | (with_reducible first | exact HB.out | apply below_alloc | apply pw_below_drewN | apply below_drew1) | exact HB.out)))); (case aL => omega); intro va_ wa_ hoa_ hba_ hg_ hat_; clear hg_ hat_; have n0_ := Aside0.mk hba_; have n1_ := Aside0.mk hoa_; clear HB HO; have HB := n0_; have HO := n1_; clear n0_ n1_ hoa_ hba_))
          rw [← hsu] at HO
          go_roundg (l0.length - (i + 1))
          case measure => have := HK.out; omega
          case rel => exact ⟨i + 1, ⟨by omega, by omega⟩, by go_num, HO, HB⟩
        | false =>
          rw [hg] at hgt hsu
          rw [if_neg (by simp), List.append_nil] at hsu
          rw [← hsu] at HO
          go_wp2
          go_roundg (l0.length - (i + 1))
          case measure => have := HK.out; omega
          case rel => exact ⟨i + 1, ⟨by omega, by omega⟩, by go_num, HO, HB⟩
      · have hltb : decide ((i : Int) < (l0.length : Int)) = false := decide_eq_false (by omega)
        have hi : i = l0.length := by have := HK.out; omega
        subst hi
        go_wp2
        go_ret
        exact ⟨_, rfl, HO.out, HB.out⟩
  · rw [if_neg h0] at h
    cases h

def spec_l13Mean.f (l0 : List Fl) : Option Fl := some (meanF l0)
set_option maxHeartbeats 4000000 in
set_option maxRecDepth 100000 in
theorem spec_l13Mean.calls (A0 : Option Addr) (c0 : Nat) (l0 : List Fl) (r : Fl) (w : World) (hr0 : Kd.C Kf w A0 l0.length l0) (hc0 : l0.length ≤ c0) (h : spec_l13Mean.f l0 = some r) :
    Calls Try.prog 42 #[.slice A0 l0.length c0] w fun e w' => ∃ b_ : Nat, e = .returned (.float .f64 b_) ∧ cv b_ = r ∧ Below w.heap.size w w' := by
  have HR0 := Aside0.mk hr0
  have HC0 := Aside0.mk hc0
  have HM0 := Aside0.mk hr0.2.1
  clear hr0 hc0
  have HB := Aside0.mk (Below.refl w.heap.size w)
  obtain rfl := Option.some.inj h
  clear h
  go_enter Try.func42, Try.ntmps42
  go_wp2
  go_loopg [3, 4] l0.length (fun gg v3 v4 w' => ∃ (i b : Nat), Aside0 (i ≤ l0.length ∧ l0.length - i ≤ gg) ∧ v4 = .int .i64 (i : Int) ∧ v3 = .float .f64 b ∧ Aside0 (cv b = sumG l0 i) ∧ Aside0 (Below w.heap.size w w'))
  case atStart => exact ⟨0, 0, ⟨Nat.zero_le _, Nat.le_refl _⟩, rfl, rfl, ⟨rfl⟩, HB⟩
  case round =>
    clear HB
    obtain ⟨i, bs, HK, rfl, rfl, HS, HB⟩ := hrel
    have HM2 : l0.length ≤ 9223372036854775807 := HM0.out
    by_cases hlt : i < l0.length
    · obtain ⟨ad, b, e, hx, hb⟩ := at_f HR0.out (i : Int) (by omega) (by omega)
      cases e
      replace hx := (HB.out.cell (World.block_lt_of_cell? w _ hx)).trans hx
      simp only [Int.toNat_natCast] at hx
      have hltb : decide ((i : Int) < (l0.length : Int)) = true := decide_eq_true (by omega)
      have p0 : (0 ≤ (i : Int)) = True := eq_true (by omega)
      have q0 : ((i : Int) < (l0.length : Int)) = True := eq_true (by omega)
      have HBV := Aside0.mk hb
      clear hb
      go_wp2
      go_roundg (l0.length - (i + 1))
      case measure => have := HK.out; omega
      case rel => exact ⟨i + 1, _, ⟨by omega, by omega⟩, by go_num, rfl, ⟨by simp only [cv_bits, HBV.out, HS.out]; rfl⟩, ⟨(by repeat (first | (with_reducible first | exact HB.out | apply below_alloc | apply pw_below_drewN | apply below_drew1) | exact HB.out))⟩⟩
    · have hltb : decide ((i : Int) < (l0.length : Int)) = false := decide_eq_false (by omega)
      have hi : i = l0.length := by have := HK.out; omega
      subst hi
      go_wp2
      go_ret
      exact ⟨_, rfl, by simp only [cv_bits, HS.out]; rfl, (by repeat (first | (with_reducible first | exact HB.out | apply below_alloc | apply pw_below_drewN | apply below_drew1) | exact HB.out))⟩

def impl_mean.f (l0 : List Fl) : Option Fl := some (meanF l0)
set_option maxHeartbeats 4000000 in
set_option maxRecDepth 100000 in
theorem impl_mean.calls (A0 : Option Addr) (c0 : Nat) (l0 : List Fl) (r : Fl) (w : World) (hr0 : Kd.C Kf w A0 l0.length l0) (hc0 : l0.length ≤ c0) (h : impl_mean.f l0 = some r) :
    Calls Try.prog 44 #[.slice A0 l0.length c0] w fun e w' => ∃ b_ : Nat, e = .returned (.float .f64 b_) ∧ cv b_ = r ∧ Below w.heap.size w w' := by
  have HR0 := Aside0.mk hr0
  have HC0 := Aside0.mk hc0
  have HM0 := Aside0.mk hr0.2.1
  clear hr0 hc0
  have HB := Aside0.mk (Below.refl w.heap.size w)
  obtain rfl := Option.some.inj h
  clear h
  go_enter Try.func44, Try.ntmps44
  go_wp2
  go_loopg [3, 8] l0.length (fun gg v3 v8 w' => ∃ (i b : Nat), Aside0 (i ≤ l0.length ∧ l0.length - i ≤ gg) ∧ v8 = .int .i64 (i : Int) ∧ v3 = .float .f64 b ∧ Aside0 (cv b = sumG l0 i) ∧ Aside0 (Below w.heap.size w w'))
  case atStart => exact ⟨0, 0, ⟨Nat.zero_le _, Nat.le_refl _⟩, rfl, rfl, ⟨rfl⟩, HB⟩
  case round =>
    clear HB
    obtain ⟨i, bs, HK, rfl, rfl, HS, HB⟩ := hrel
    have HM2 : l0.length ≤ 9223372036854775807 := HM0.out
    by_cases hlt : i < l0.length
    · obtain ⟨ad, b, e, hx, hb⟩ := at_f HR0.out (i : Int) (by omega) (by omega)
      cases e
      replace hx := (HB.out.cell (World.block_lt_of_cell? w _ hx)).trans hx
      simp only [Int.toNat_natCast] at hx
      have hltb : decide ((i : Int) < (l0.length : Int)) = true := decide_eq_true (by omega)
      have p0 : (0 ≤ (i : Int)) = True := eq_true (by omega)
      have q0 : ((i : Int) < (l0.length : Int)) = True := eq_true (by omega)
      have HBV := Aside0.mk hb
      clear hb
      go_wp2
      go_roundg (l0.length - (i + 1))
      case measure => have := HK.out; omega
      case rel => exact ⟨i + 1, _, ⟨by omega, by omega⟩, by go_num, rfl, ⟨by simp only [cv_bits, HBV.out, HS.out]; rfl⟩, ⟨(by repeat (first | (with_reducible first | exact HB.out | apply below_alloc | apply pw_below_drewN | apply below_drew1) | exact HB.out))⟩⟩
    · have hltb : decide ((i : Int) < (l0.length : Int)) = false := decide_eq_false (by omega)
      have hi : i = l0.length := by have := HK.out; omega
      subst hi
      go_wp2
      go_ret
      exact ⟨_, rfl, by simp only [cv_bits, HS.out]; rfl, (by repeat (first | (with_reducible first | exact HB.out | apply below_alloc | apply pw_below_drewN | apply below_drew1) | exact HB.out))⟩

def spec_Loud.f (l0 : List Fl) (a1 a2 : Nat) : Option Fl := if l0.length ≤ 1048576 then some (loudF l0 (cv a1) (cv a2)) else none
set_option maxHeartbeats 4000000 in
set_option maxRecDepth 100000 in
theorem spec_Loud.calls (A0 : Option Addr) (c0 : Nat) (l0 : List Fl) (a1 a2 : Nat) (r : Fl) (w : World) (hr0 : Kd.C Kf w A0 l0.length l0) (hc0 : l0.length ≤ c0) (h : spec_Loud.f l0 a1 a2 = some r) :
    Calls Try.prog 27 #[.slice A0 l0.length c0, .float .f64 a1, .float .f64 a2] w fun e w' => ∃ b_ : Nat, e = .returned (.float .f64 b_) ∧ cv b_ = r ∧ Below w.heap.size w w' := by
  have HR0 := Aside0.mk hr0
  have HC0 := Aside0.mk hc0
  have HM0 := Aside0.mk hr0.2.1
  clear hr0 hc0
  have HB := Aside0.mk (Below.refl w.heap.size w)
  unfold spec_Loud.f at h
  by_cases hL : l0.length ≤ 1048576
  · rw [if_pos hL] at h
    obtain rfl := Option.some.inj h
    clear h
    have HA1 := Aside0.mk (show spec_l13Above.f l0 a1 = some (aboveF l0 (cv a1)) by unfold spec_l13Above.f; rw [if_pos hL])
    have hl1 := aboveF_len l0 (cv a1)
    by_cases h0 : l0.length ≤ 4096
    · have d0 : decide ((l0.length : Int) ≤ 4096) = true := decide_eq_true (by omega)
      by_cases h1 : (aboveF l0 (cv a1)).length = 0
      · rw [show loudF l0 (cv a1) (cv a2) = zero by unfold loudF; rw [if_pos h0, if_pos h1]]
        have z1 : ((((aboveF l0 (cv a1)).length : Nat) : Int) == 0) = true := by rw [beq_iff_eq]; omega
        have h1' := h1
        clear h1
        go_enter Try.func27, Try.ntmps27
        go_wp2_with (first | (go_at_call 37; refine (spec_l13Ok.calls _ _ _ _).mono ?_; rintro e w' ⟨rfl, ⟨nd, rfl⟩⟩) | (go_at_call 41; (with_reducible refine (spec_l13Above.calls A0 c0 l0 a1 (aboveF l0 (cv a1)) _ ?s1 HC0.out HA1.out).mono ?_); (case s1 => exact Kd.C_below HR0.out (by repeat (first | (with_reducible first | exact HB.out | apply below_alloc | apply pw_below_drewN | apply below_drew1) | exact HB.out))); rintro e wk_ ⟨vk_, rfl, ho_, hb_⟩; obtain ⟨AK, cK, rfl, hcK, hCK⟩ := Kd.R_reads ho_; have HCK := Aside0.mk hCK; have HLK := Aside0.mk hcK; have n1_ := Aside0.mk (below_step (by repeat (first | (with_reducible first | exact HB.out | apply below_alloc | apply pw_below_drewN | apply below_drew1) | exact HB.out)) hb_); clear HB; have HB := n1_; clear n1_ ho_ hb_ hCK hcK))
        go_ret
        exact ⟨_, rfl, rfl, (by repeat (first | (with_reducible first | exact HB.out | apply below_alloc | apply pw_below_drewN | apply below_drew1) | exact HB.out))⟩
      · have z1 : ((((aboveF l0 (cv a1)).length : Nat) : Int) == 0) = false := by rw [beq_eq_false_iff_ne]; omega
        have hl2 := aboveF_len (aboveF l0 (cv a1)) (fmul (cv a2) (meanF (aboveF l0 (cv a1))))
        by_cases h2 : (aboveF (aboveF l0 (cv a1)) (fmul (cv a2) (meanF (aboveF l0 (cv a1))))).length = 0
        · rw [show loudF l0 (cv a1) (cv a2) = zero by unfold loudF; rw [if_pos h0, if_neg h1, if_pos h2]]
          have z2 : ((((aboveF (aboveF l0 (cv a1)) (fmul (cv a2) (meanF (aboveF l0 (cv a1))))).length : Nat) : Int) == 0) = true := by rw [beq_iff_eq]; omega
          clear h1 h2
          go_enter Try.func27, Try.ntmps27
          go_wp2_with (first | (go_at_call 37; refine (spec_l13Ok.calls _ _ _ _).mono ?_; rintro e w' ⟨rfl, ⟨nd, rfl⟩⟩) | (go_at_call 41; (with_reducible refine (spec_l13Above.calls A0 c0 l0 a1 (aboveF l0 (cv a1)) _ ?s1 HC0.out HA1.out).mono ?_); (case s1 => exact Kd.C_below HR0.out (by repeat (first | (with_reducible first | exact HB.out | apply below_alloc | apply pw_below_drewN | apply below_drew1) | exact HB.out))); rintro e wk_ ⟨vk_, rfl, ho_, hb_⟩; obtain ⟨AK, cK, rfl, hcK, hCK⟩ := Kd.R_reads ho_; have HCK := Aside0.mk hCK; have HLK := Aside0.mk hcK; have n1_ := Aside0.mk (below_step (by repeat (first | (with_reducible first | exact HB.out | apply below_alloc | apply pw_below_drewN | apply below_drew1) | exact HB.out)) hb_); clear HB; have HB := n1_; clear n1_ ho_ hb_ hCK hcK) | (go_at_call 42; (with_reducible refine (spec_l13Mean.calls AK cK (aboveF l0 (cv a1)) (meanF (aboveF l0 (cv a1))) _ ?s1 HLK.out ?s2).mono ?_); (case s1 => exact Kd.C_below HCK.out (by repeat (first | exact Below.refl _ _ | apply pw_below_drewN | apply below_drew1))); (case s2 => rfl); rintro e wm_ ⟨bm, rfl, hbm, hb_⟩; have HBM := Aside0.mk hbm; have HCK2 := Aside0.mk (Kd.C_below (Kd.C_below HCK.out (by repeat (first | exact Below.refl _ _ | apply pw_below_drewN | apply below_drew1))) hb_); clear HCK; have HCK := HCK2; clear HCK2; have n1_ := Aside0.mk (below_step (by repeat (first | (with_reducible first | exact HB.out | apply below_alloc | apply pw_below_drewN | apply below_drew1) | exact HB.out)) hb_); clear HB; have HB := n1_; clear n1_ hb_ hbm) | (go_at_call 41; (with_reducible refine (spec_l13Above.calls AK cK (aboveF l0 (cv a1)) _ (aboveF (aboveF l0 (cv a1)) (fmul (cv a2) (meanF (aboveF l0 (cv a1))))) _ ?s1 HLK.out ?s2).mono ?_); (case s1 => exact Kd.C_below HCK.out (by repeat (first | exact Below.refl _ _ | apply pw_below_drewN | apply below_drew1))); (case s2 => (unfold spec_l13Above.f; rw [if_pos (by omega)]; simp only [cv_bits, HBM.out])); rintro e wk_ ⟨vk_, rfl, ho_, hb_⟩; obtain ⟨AQ, cQ, rfl, hcQ, hCQ⟩ := Kd.R_reads ho_; have HCQ := Aside0.mk hCQ; have HLQ := Aside0.mk hcQ; have n1_ := Aside0.mk (below_step (by repeat (first | (with_reducible first | exact HB.out | apply below_alloc | apply pw_below_drewN | apply below_drew1) | exact HB.out)) hb_); clear HB; have HB := n1_; clear n1_ ho_ hb_ hCQ hcQ))
          go_ret
          exact ⟨_, rfl, rfl, (by repeat (first | (with_reducible first | exact HB.out | apply below_alloc | apply pw_below_drewN | apply below_drew1) | exact HB.out))⟩
        · rw [show loudF l0 (cv a1) (cv a2) = meanF (aboveF (aboveF l0 (cv a1)) (fmul (cv a2) (meanF (aboveF l0 (cv a1))))) by unfold loudF; rw [if_pos h0, if_neg h1, if_neg h2]]
          have z2 : ((((aboveF (aboveF l0 (cv a1)) (fmul (cv a2) (meanF (aboveF l0 (cv a1))))).length : Nat) : Int) == 0) = false := by rw [beq_eq_false_iff_ne]; omega
          clear h1 h2
          go_enter Try.func27, Try.ntmps27
          go_wp2_with (first | (go_at_call 37; refine (spec_l13Ok.calls _ _ _ _).mono ?_; rintro e w' ⟨rfl, ⟨nd, rfl⟩⟩) | (go_at_call 41; (with_reducible refine (spec_l13Above.calls A0 c0 l0 a1 (aboveF l0 (cv a1)) _ ?s1 HC0.out HA1.out).mono ?_); (case s1 => exact Kd.C_below HR0.out (by repeat (first | (with_reducible first | exact HB.out | apply below_alloc | apply pw_below_drewN | apply below_drew1) | exact HB.out))); rintro e wk_ ⟨vk_, rfl, ho_, hb_⟩; obtain ⟨AK, cK, rfl, hcK, hCK⟩ := Kd.R_reads ho_; have HCK := Aside0.mk hCK; have HLK := Aside0.mk hcK; have n1_ := Aside0.mk (below_step (by repeat (first | (with_reducible first | exact HB.out | apply below_alloc | apply pw_below_drewN | apply below_drew1) | exact HB.out)) hb_); clear HB; have HB := n1_; clear n1_ ho_ hb_ hCK hcK) | (go_at_call 42; (with_reducible refine (spec_l13Mean.calls AK cK (aboveF l0 (cv a1)) (meanF (aboveF l0 (cv a1))) _ ?s1 HLK.out ?s2).mono ?_); (case s1 => exact Kd.C_below HCK.out (by repeat (first | exact Below.refl _ _ | apply pw_below_drewN | apply below_drew1))); (case s2 => rfl); rintro e wm_ ⟨bm, rfl, hbm, hb_⟩; have HBM := Aside0.mk hbm; have HCK2 := Aside0.mk (Kd.C_below (Kd.C_below HCK.out (by repeat (first | exact Below.refl _ _ | apply pw_below_drewN | apply below_drew1))) hb_); clear HCK; have HCK := HCK2; clear HCK2; have n1_ := Aside0.mk (below_step (by repeat (first | (with_reducible first | exact HB.out | apply below_alloc | apply pw_below_drewN | apply below_drew1) | exact HB.out)) hb_); clear HB; have HB := n1_; clear n1_ hb_ hbm) | (go_at_call 41; (with_reducible refine (spec_l13Above.calls AK cK (aboveF l0 (cv a1)) _ (aboveF (aboveF l0 (cv a1)) (fmul (cv a2) (meanF (aboveF l0 (cv a1))))) _ ?s1 HLK.out ?s2).mono ?_); (case s1 => exact Kd.C_below HCK.out (by repeat (first | exact Below.refl _ _ | apply pw_below_drewN | apply below_drew1))); (case s2 => (unfold spec_l13Above.f; rw [if_pos (by omega)]; simp only [cv_bits, HBM.out])); rintro e wk_ ⟨vk_, rfl, ho_, hb_⟩; obtain ⟨AQ, cQ, rfl, hcQ, hCQ⟩ := Kd.R_reads ho_; have HCQ := Aside0.mk hCQ; have HLQ := Aside0.mk hcQ; have n1_ := Aside0.mk (below_step (by repeat (first | (with_reducible first | exact HB.out | apply below_alloc | apply pw_below_drewN | apply below_drew1) | exact HB.out)) hb_); clear HB; have HB := n1_; clear n1_ ho_ hb_ hCQ hcQ) | (go_at_call 42; (with_reducible refine (spec_l13Mean.calls AQ cQ (aboveF (aboveF l0 (cv a1)) (fmul (cv a2) (meanF (aboveF l0 (cv a1))))) (meanF (aboveF (aboveF l0 (cv a1)) (fmul (cv a2) (meanF (aboveF l0 (cv a1)))))) _ ?s1 HLQ.out ?s2).mono ?_); (case s1 => exact Kd.C_below HCQ.out (by repeat (first | exact Below.refl _ _ | apply pw_below_drewN | apply below_drew1))); (case s2 => rfl); rintro e wm_ ⟨bn, rfl, hbn, hb_⟩; have HBN := Aside0.mk hbn; have n1_ := Aside0.mk (below_step (by repeat (first | (with_reducible first | exact HB.out | apply below_alloc | apply pw_below_drewN | apply below_drew1) | exact HB.out)) hb_); clear HB; have HB := n1_; clear n1_ hb_ hbn))
          go_ret
          exact ⟨_, rfl, HBN.out, (by repeat (first | (with_reducible first | exact HB.out | apply below_alloc | apply pw_below_drewN | apply below_drew1) | exact HB.out))⟩
    · have d0 : decide ((l0.length : Int) ≤ 4096) = false := decide_eq_false (by omega)
      rw [show loudF l0 (cv a1) (cv a2) = zero by unfold loudF; rw [if_neg h0]]
      go_enter Try.func27, Try.ntmps27
      go_wp2_with (first | (go_at_call 37; refine (spec_l13Ok.calls _ _ _ _).mono ?_; rintro e w' ⟨rfl, ⟨nd, rfl⟩⟩) | (go_at_call 41; (with_reducible refine (spec_l13Above.calls A0 c0 l0 a1 (aboveF l0 (cv a1)) _ ?s1 HC0.out HA1.out).mono ?_); (case s1 => exact Kd.C_below HR0.out (by repeat (first | (with_reducible first | exact HB.out | apply below_alloc | apply pw_below_drewN | apply below_drew1) | exact HB.out))); rintro e wk_ ⟨vk_, rfl, ho_, hb_⟩; obtain ⟨AK, cK, rfl, hcK, hCK⟩ := Kd.R_reads ho_; have HCK := Aside0.mk hCK; have HLK := Aside0.mk hcK; have n1_ := Aside0.mk (below_step (by repeat (first | (with_reducible first | exact HB.out | apply below_alloc | apply pw_below_drewN | apply below_drew1) | exact HB.out)) hb_); clear HB; have HB := n1_; clear n1_ ho_ hb_ hCK hcK))
      go_ret
      exact ⟨_, rfl, rfl, (by repeat (first | (with_reducible first | exact HB.out | apply below_alloc | apply pw_below_drewN | apply below_drew1) | exact HB.out))⟩
  · rw [if_neg hL] at h
    cases h

def impl_Loud.f (l0 : List Fl) (a1 a2 : Nat) : Option Fl := if l0.length ≤ 1048576 then some (loudF l0 (cv a1) (cv a2)) else none
set_option maxHeartbeats 4000000 in
set_option maxRecDepth 100000 in
theorem impl_Loud.calls (A0 : Option Addr) (c0 : Nat) (l0 : List Fl) (a1 a2 : Nat) (r : Fl) (w : World) (hr0 : Kd.C Kf w A0 l0.length l0) (hc0 : l0.length ≤ c0) (h : impl_Loud.f l0 a1 a2 = some r) :
    Calls Try.prog 28 #[.slice A0 l0.length c0, .float .f64 a1, .float .f64 a2] w fun e w' => ∃ b_ : Nat, e = .returned (.float .f64 b_) ∧ cv b_ = r ∧ Below w.heap.size w w' := by
  have HR0 := Aside0.mk hr0
  have HC0 := Aside0.mk hc0
  have HM0 := Aside0.mk hr0.2.1
  clear hr0 hc0
  have HB := Aside0.mk (Below.refl w.heap.size w)
  unfold impl_Loud.f at h
  by_cases hL : l0.length ≤ 1048576
  · rw [if_pos hL] at h
    obtain rfl := Option.some.inj h
    clear h
    have HA1 := Aside0.mk (show impl_above.f l0 a1 = some (aboveF l0 (cv a1)) by unfold impl_above.f; rw [if_pos hL])
    have hl1 := aboveF_len l0 (cv a1)
    by_cases h0 : l0.length ≤ 4096
    · have d0 : decide ((l0.length : Int) > 4096) = false := decide_eq_false (by omega)
      by_cases h1 : (aboveF l0 (cv a1)).length = 0
      · rw [show loudF l0 (cv a1) (cv a2) = zero by unfold loudF; rw [if_pos h0, if_pos h1]]
        have z1 : ((((aboveF l0 (cv a1)).length : Nat) : Int) == 0) = true := by rw [beq_iff_eq]; omega
        have h1' := h1
        clear h1
        go_enter Try.func28, Try.ntmps28
        go_wp2_with (first | (go_at_call 39; refine (impl_tooLong.calls _ _ _ _).mono ?_; rintro e w' ⟨rfl, ⟨nd, rfl⟩⟩) | (go_at_call 43; (with_reducible refine (impl_above.calls A0 c0 l0 a1 (aboveF l0 (cv a1)) _ ?s1 HC0.out HA1.out).mono ?_); (case s1 => exact Kd.C_below HR0.out (by repeat (first | (with_reducible first | exact HB.out | apply below_alloc | apply pw_below_drewN | apply below_drew1) | exact HB.out))); rintro e wk_ ⟨vk_, rfl, ho_, hb_⟩; obtain ⟨AK, cK, rfl, hcK, hCK⟩ := Kd.R_reads ho_; have HCK := Aside0.mk hCK; have HLK := Aside0.mk hcK; have n1_ := Aside0.mk (below_step (by repeat (first | (with_reducible first | exact HB.out | apply below_alloc | apply pw_below_drewN | apply below_drew1) | exact HB.out)) hb_); clear HB; have HB := n1_; clear n1_ ho_ hb_ hCK hcK))
        go_ret
        exact ⟨_, rfl, rfl, (by repeat (first | (with_reducible first | exact HB.out | apply below_alloc | apply pw_below_drewN | apply below_drew1) | exact HB.out))⟩
      · have z1 : ((((aboveF l0 (cv a1)).length : Nat) : Int) == 0) = false := by rw [beq_eq_false_iff_ne]; omega
        have hl2 := aboveF_len (aboveF l0 (cv a1)) (fmul (cv a2) (meanF (aboveF l0 (cv a1))))
        by_cases h2 : (aboveF (aboveF l0 (cv a1)) (fmul (cv a2) (meanF (aboveF l0 (cv a1))))).length = 0
        · rw [show loudF l0 (cv a1) (cv a2) = zero by unfold loudF; rw [if_pos h0, if_neg h1, if_pos h2]]
          have z2 : ((((aboveF (aboveF l0 (cv a1)) (fmul (cv a2) (meanF (aboveF l0 (cv a1))))).length : Nat) : Int) == 0) = true := by rw [beq_iff_eq]; omega
          clear h1 h2
          go_enter Try.func28, Try.ntmps28
          go_wp2_with (first | (go_at_call 39; refine (impl_tooLong.calls _ _ _ _).mono ?_; rintro e w' ⟨rfl, ⟨nd, rfl⟩⟩) | (go_at_call 43; (with_reducible refine (impl_above.calls A0 c0 l0 a1 (aboveF l0 (cv a1)) _ ?s1 HC0.out HA1.out).mono ?_); (case s1 => exact Kd.C_below HR0.out (by repeat (first | (with_reducible first | exact HB.out | apply below_alloc | apply pw_below_drewN | apply below_drew1) | exact HB.out))); rintro e wk_ ⟨vk_, rfl, ho_, hb_⟩; obtain ⟨AK, cK, rfl, hcK, hCK⟩ := Kd.R_reads ho_; have HCK := Aside0.mk hCK; have HLK := Aside0.mk hcK; have n1_ := Aside0.mk (below_step (by repeat (first | (with_reducible first | exact HB.out | apply below_alloc | apply pw_below_drewN | apply below_drew1) | exact HB.out)) hb_); clear HB; have HB := n1_; clear n1_ ho_ hb_ hCK hcK) | (go_at_call 44; (with_reducible refine (impl_mean.calls AK cK (aboveF l0 (cv a1)) (meanF (aboveF l0 (cv a1))) _ ?s1 HLK.out ?s2).mono ?_); (case s1 => exact Kd.C_below HCK.out (by repeat (first | exact Below.refl _ _ | apply pw_below_drewN | apply below_drew1))); (case s2 => rfl); rintro e wm_ ⟨bm, rfl, hbm, hb_⟩; have HBM := Aside0.mk hbm; have HCK2 := Aside0.mk (Kd.C_below (Kd.C_below HCK.out (by repeat (first | exact Below.refl _ _ | apply pw_below_drewN | apply below_drew1))) hb_); clear HCK; have HCK := HCK2; clear HCK2; have n1_ := Aside0.mk (below_step (by repeat (first | (with_reducible first | exact HB.out | apply below_alloc | apply pw_below_drewN | apply below_drew1) | exact HB.out)) hb_); clear HB; have HB := n1_; clear n1_ hb_ hbm) | (go_at_call 43; (with_reducible refine (impl_above.calls AK cK (aboveF l0 (cv a1)) _ (aboveF (aboveF l0 (cv a1)) (fmul (cv a2) (meanF (aboveF l0 (cv a1))))) _ ?s1 HLK.out ?s2).mono ?_); (case s1 => exact Kd.C_below HCK.out (by repeat (first | exact Below.refl _ _ | apply pw_below_drewN | apply below_drew1))); (case s2 => (unfold impl_above.f; rw [if_pos (by omega)]; simp only [cv_bits, HBM.out])); rintro e wk_ ⟨vk_, rfl, ho_, hb_⟩; obtain ⟨AQ, cQ, rfl, hcQ, hCQ⟩ := Kd.R_reads ho_; have HCQ := Aside0.mk hCQ; have HLQ := Aside0.mk hcQ; have n1_ := Aside0.mk (below_step (by repeat (first | (with_reducible first | exact HB.out | apply below_alloc | apply pw_below_drewN | apply below_drew1) | exact HB.out)) hb_); clear HB; have HB := n1_; clear n1_ ho_ hb_ hCQ hcQ))
          go_ret
          exact ⟨_, rfl, rfl, (by repeat (first | (with_reducible first | exact HB.out | apply below_alloc | apply pw_below_drewN | apply below_drew1) | exact HB.out))⟩
        · rw [show loudF l0 (cv a1) (cv a2) = meanF (aboveF (aboveF l0 (cv a1)) (fmul (cv a2) (meanF (aboveF l0 (cv a1))))) by unfold loudF; rw [if_pos h0, if_neg h1, if_neg h2]]
          have z2 : ((((aboveF (aboveF l0 (cv a1)) (fmul (cv a2) (meanF (aboveF l0 (cv a1))))).length : Nat) : Int) == 0) = false := by rw [beq_eq_false_iff_ne]; omega
          clear h1 h2
          go_enter Try.func28, Try.ntmps28
          go_wp2_with (first | (go_at_call 39; refine (impl_tooLong.calls _ _ _ _).mono ?_; rintro e w' ⟨rfl, ⟨nd, rfl⟩⟩) | (go_at_call 43; (with_reducible refine (impl_above.calls A0 c0 l0 a1 (aboveF l0 (cv a1)) _ ?s1 HC0.out HA1.out).mono ?_); (case s1 => exact Kd.C_below HR0.out (by repeat (first | (with_reducible first | exact HB.out | apply below_alloc | apply pw_below_drewN | apply below_drew1) | exact HB.out))); rintro e wk_ ⟨vk_, rfl, ho_, hb_⟩; obtain ⟨AK, cK, rfl, hcK, hCK⟩ := Kd.R_reads ho_; have HCK := Aside0.mk hCK; have HLK := Aside0.mk hcK; have n1_ := Aside0.mk (below_step (by repeat (first | (with_reducible first | exact HB.out | apply below_alloc | apply pw_below_drewN | apply below_drew1) | exact HB.out)) hb_); clear HB; have HB := n1_; clear n1_ ho_ hb_ hCK hcK) | (go_at_call 44; (with_reducible refine (impl_mean.calls AK cK (aboveF l0 (cv a1)) (meanF (aboveF l0 (cv a1))) _ ?s1 HLK.out ?s2).mono ?_); (case s1 => exact Kd.C_below HCK.out (by repeat (first | exact Below.refl _ _ | apply pw_below_drewN | apply below_drew1))); (case s2 => rfl); rintro e wm_ ⟨bm, rfl, hbm, hb_⟩; have HBM := Aside0.mk hbm; have HCK2 := Aside0.mk (Kd.C_below (Kd.C_below HCK.out (by repeat (first | exact Below.refl _ _ | apply pw_below_drewN | apply below_drew1))) hb_); clear HCK; have HCK := HCK2; clear HCK2; have n1_ := Aside0.mk (below_step (by repeat (first | (with_reducible first | exact HB.out | apply below_alloc | apply pw_below_drewN | apply below_drew1) | exact HB.out)) hb_); clear HB; have HB := n1_; clear n1_ hb_ hbm) | (go_at_call 43; (with_reducible refine (impl_above.calls AK cK (aboveF l0 (cv a1)) _ (aboveF (aboveF l0 (cv a1)) (fmul (cv a2) (meanF (aboveF l0 (cv a1))))) _ ?s1 HLK.out ?s2).mono ?_); (case s1 => exact Kd.C_below HCK.out (by repeat (first | exact Below.refl _ _ | apply pw_below_drewN | apply below_drew1))); (case s2 => (unfold impl_above.f; rw [if_pos (by omega)]; simp only [cv_bits, HBM.out])); rintro e wk_ ⟨vk_, rfl, ho_, hb_⟩; obtain ⟨AQ, cQ, rfl, hcQ, hCQ⟩ := Kd.R_reads ho_; have HCQ := Aside0.mk hCQ; have HLQ := Aside0.mk hcQ; have n1_ := Aside0.mk (below_step (by repeat (first | (with_reducible first | exact HB.out | apply below_alloc | apply pw_below_drewN | apply below_drew1) | exact HB.out)) hb_); clear HB; have HB := n1_; clear n1_ ho_ hb_ hCQ hcQ) | (go_at_call 44; (with_reducible refine (impl_mean.calls AQ cQ (aboveF (aboveF l0 (cv a1)) (fmul (cv a2) (meanF (aboveF l0 (cv a1))))) (meanF (aboveF (aboveF l0 (cv a1)) (fmul (cv a2) (meanF (aboveF l0 (cv a1)))))) _ ?s1 HLQ.out ?s2).mono ?_); (case s1 => exact Kd.C_below HCQ.out (by repeat (first | exact Below.refl _ _ | apply pw_below_drewN | apply below_drew1))); (case s2 => rfl); rintro e wm_ ⟨bn, rfl, hbn, hb_⟩; have HBN := Aside0.mk hbn; have n1_ := Aside0.mk (below_step (by repeat (first | (with_reducible first | exact HB.out | apply below_alloc | apply pw_below_drewN | apply below_drew1) | exact HB.out)) hb_); clear HB; have HB := n1_; clear n1_ hb_ hbn))
          go_ret
          exact ⟨_, rfl, HBN.out, (by repeat (first | (with_reducible first | exact HB.out | apply below_alloc | apply pw_below_drewN | apply below_drew1) | exact HB.out))⟩
    · have d0 : decide ((l0.length : Int) > 4096) = true := decide_eq_true (by omega)
      rw [show loudF l0 (cv a1) (cv a2) = zero by unfold loudF; rw [if_neg h0]]
      go_enter Try.func28, Try.ntmps28
      go_wp2_with (first | (go_at_call 39; refine (impl_tooLong.calls _ _ _ _).mono ?_; rintro e w' ⟨rfl, ⟨nd, rfl⟩⟩) | (go_at_call 43; (with_reducible refine (impl_above.calls A0 c0 l0 a1 (aboveF l0 (cv a1)) _ ?s1 HC0.out HA1.out).mono ?_); (case s1 => exact Kd.C_below HR0.out (by repeat (first | (with_reducible first | exact HB.out | apply below_alloc | apply pw_below_drewN | apply below_drew1) | exact HB.out))); rintro e wk_ ⟨vk_, rfl, ho_, hb_⟩; obtain ⟨AK, cK, rfl, hcK, hCK⟩ := Kd.R_reads ho_; have HCK := Aside0.mk hCK; have HLK := Aside0.mk hcK; have n1_ := Aside0.mk (below_step (by repeat (first | (with_reducible first | exact HB.out | apply below_alloc | apply pw_below_drewN | apply below_drew1) | exact HB.out)) hb_); clear HB; have HB := n1_; clear n1_ ho_ hb_ hCK hcK))
      go_ret
      exact ⟨_, rfl, rfl, (by repeat (first | (with_reducible first | exact HB.out | apply below_alloc | apply pw_below_drewN | apply below_drew1) | exact HB.out))⟩
  · rw [if_neg hL] at h
    cases h

theorem snd_l1In (a b c : Int) (w : World) :
    Calls Try.prog 38 #[.int .i64 a, .int .i64 b, .int .i64 c] w fun e w' => e = .returned (.bool (decide (b ≤ a ∧ a ≤ c))) ∧ Drawn0 w w' := by
  by_cases h1 : b ≤ a
  · have c1 : decide (b ≤ a) = true := decide_eq_true h1
    by_cases h2 : a ≤ c
    · have c2 : decide (a ≤ c) = true := decide_eq_true h2
      rw [decide_eq_true (show b ≤ a ∧ a ≤ c from ⟨h1, h2⟩)]
      clear h1 h2
      go_enter Try.func38, Try.ntmps38
      go_wp2
      go_ret
      exact ⟨by simp [c2], Drawn0.refl _⟩
    · have c2 : decide (a ≤ c) = false := decide_eq_false h2
      rw [decide_eq_false (show ¬ (b ≤ a ∧ a ≤ c) from fun h => h2 h.2)]
      clear h1 h2
      go_enter Try.func38, Try.ntmps38
      go_wp2
      go_ret
      exact ⟨by simp [c2], Drawn0.refl _⟩
  · have c1 : decide (b ≤ a) = false := decide_eq_false h1
    rw [decide_eq_false (show ¬ (b ≤ a ∧ a ≤ c) from fun h => h1 h.1)]
    clear h1
    go_enter Try.func38, Try.ntmps38
    go_wp2
    go_ret
    exact ⟨by simp, Drawn0.refl _⟩
def spec_Squares.f (l0 : List Fl) (a1 : Int) : Option (List Fl) := some (sqF l0 a1)
set_option maxHeartbeats 4000000 in
set_option maxRecDepth 100000 in
theorem spec_Squares.calls (A0 : Option Addr) (c0 : Nat) (l0 : List Fl) (a1 : Int) (r : List Fl) (w : World) (hr0 : Kd.C Kf w A0 l0.length l0) (hc0 : l0.length ≤ c0) (h : spec_Squares.f l0 a1 = some r) :
    Calls Try.prog 21 #[.slice A0 l0.length c0, .int .i64 a1] w fun e w' => ∃ v0_ : Value, e = .returned v0_ ∧ Kd.R Kf 23 w' w.heap.size (fun _ => True) v0_ r ∧ Below w.heap.size w w' := by
  have HR0 := Aside0.mk hr0
  have HC0 := Aside0.mk hc0
  have HM0 := Aside0.mk hr0.2.1
  clear hr0 hc0
  have HB := Aside0.mk (Below.refl w.heap.size w)
  obtain rfl := Option.some.inj h
  clear h
  by_cases h0 : l0.length ≤ 4096
  · have d0 : decide ((l0.length : Int) ≤ 4096) = true := decide_eq_true (by omega)
    by_cases h1 : 1 ≤ a1 ∧ a1 ≤ 4096
    · have d1 : decide (1 ≤ a1 ∧ a1 ≤ 4096) = true := decide_eq_true (by omega)
      rw [show sqF l0 a1 = sqG l0 a1.toNat (l0.length / a1.toNat) by unfold sqF; rw [if_pos ⟨h0, h1⟩]]
      obtain ⟨n, rfl⟩ := Int.eq_ofNat_of_zero_le (show 0 ≤ a1 by omega)
      rw [Int.toNat_natCast]
      go_enter Try.func21, Try.ntmps21
      go_wp2_with (first | (go_at_call 37; refine (spec_l13Ok.calls _ _ _ _).mono ?_; rintro e w' ⟨rfl, ⟨nd, rfl⟩⟩) | (go_at_call 38; refine (snd_l1In _ _ _ _).mono ?_; rintro e w' ⟨rfl, ⟨nd, rfl⟩⟩) | ((with_reducible refine gate_dst (N := 10) rfl ?_); (try (refine gate_guard (by rfl) ?_; dsimp only)); refine Kd.R_lit Kf _ 23 ?hg (N := 10) ?hd (xs := ([] : List Fl)) (inner := []) (ok := fun _ => True) (okp := fun _ => True) ?hr ?hp (fun _ hk => hk) trivial (Below.refl _ _) (Nat.le_refl _) (by simp) ?_; (case hd => rfl); (case hg => rfl); (case hr => first | (go_simp; done) | (go_simp; rfl)); (case hp => exact (Reps.none _ _)); intro vl_ wl_ hol_ hbl_ hg_ hnew_; clear hg_ hnew_; have HO := Aside0.mk (Kd.R_lower hol_ (below_size (by repeat (first | (with_reducible first | exact HB.out | apply below_alloc | apply pw_below_drewN | apply below_drew1) | exact HB.out)))); have n1_ := Aside0.mk (below_step (by repeat (first | (with_reducible first | exact HB.out | apply below_alloc | apply pw_below_drewN | apply below_drew1) | exact HB.out)) hbl_); clear HB; have HB := n1_; clear n1_ hol_ hbl_))
      go_loopg [5, 6] l0.length (fun gg v5 v6 w' => ∃ (j q : Nat), Aside0 (q = j * n) ∧ Aside0 (q ≤ l0.length ∧ l0.length - q ≤ gg) ∧ v6 = .int .i64 (q : Int) ∧ Aside0 (Kd.R Kf 23 w' w.heap.size (fun _ => True) v5 (sqG l0 n j)) ∧ Aside0 (Below w.heap.size w w'))
      case atStart => exact ⟨0, 0, ⟨by simp⟩, ⟨Nat.zero_le _, Nat.le_refl _⟩, rfl, HO, ⟨(by repeat (first | (with_reducible first | exact HB.out | apply below_alloc | apply pw_below_drewN | apply below_drew1) | exact HB.out))⟩⟩
      case round =>
        clear HB HO
        obtain ⟨j, q, HQ, HX, rfl, HO, HB⟩ := hrel
        have hq : q ≤ l0.length := HX.out.1
        by_cases hn : q + n ≤ l0.length
        · have dn : decide ((q : Int) + (n : Int) ≤ (l0.length : Int)) = true := decide_eq_true (by omega)
          go_wp2
          go_loopg [7, 8] n (fun gg v7 v8 w' => ∃ (m b : Nat), Aside0 (q ≤ m ∧ m ≤ q + n ∧ q + n - m ≤ gg) ∧ v8 = .int .i64 (m : Int) ∧ v7 = .float .f64 b ∧ Aside0 (cv b = sqS (l0.drop q) (m - q)) ∧ Aside0 (Kd.R Kf 23 w' w.heap.size (fun _ => True) u5 (sqG l0 n j)) ∧ Aside0 (Below w.heap.size w w'))
          case atStart => exact ⟨q, 0, ⟨Nat.le_refl _, by omega, by omega⟩, rfl, rfl, ⟨by rw [Nat.sub_self]; rfl⟩, ⟨(by (with_reducible repeat (first | apply Kd.R_alloc | apply Kd.R_drewN | apply Kd.R_drew)); exact HO.out)⟩, ⟨(by repeat (first | (with_reducible first | exact HB.out | apply below_alloc | apply pw_below_drewN | apply below_drew1) | exact HB.out))⟩⟩
          case round =>
            clear HB HO
            obtain ⟨m, bs, HK, rfl, rfl, HS, HO, HB⟩ := hrel
            have hm1 : q ≤ m := HK.out.1
            have hm2 : m ≤ q + n := HK.out.2.1
            by_cases hlt : m < q + n
            · obtain ⟨ad, b, e, hx, hb⟩ := at_f HR0.out (m : Int) (by omega) (by omega)
              cases e
              replace hx := (HB.out.cell (World.block_lt_of_cell? w _ hx)).trans hx
              simp only [Int.toNat_natCast] at hx
              have hltb : decide ((m : Int) < (q : Int) + (n : Int)) = true := decide_eq_true (by omega)
              have p0 : (0 ≤ (m : Int)) = True := eq_true (by omega)
              have q0 : ((m : Int) < (l0.length : Int)) = True := eq_true (by omega)
              have HBV := Aside0.mk (show cv b = rf (l0.drop q) ((m - q : Nat) : Int) by rw [rf_drop, hb]; congr 1; omega)
              have HSU := Aside0.mk (show sqS (l0.drop q) (m + 1 - q) = fadd (sqS (l0.drop q) (m - q)) (fmul (rf (l0.drop q) ((m - q : Nat) : Int)) (rf (l0.drop q) ((m - q : Nat) : Int))) by rw [show m + 1 - q = (m - q) + 1 by omega]; rfl)
              clear hb
              go_wp2
              go_region
              all_goals (go_wp2; go_roundg (q + n - (m + 1)); (case measure => (have := HK.out; omega)); (case rel => exact ⟨m + 1, _, ⟨by omega, by omega, by omega⟩, by go_num, rfl, ⟨by rw [HSU.out, ← HBV.out, ← HS.out]; simp only [cv_bits]⟩, ⟨(by (with_reducible repeat (first | apply Kd.R_alloc | apply Kd.R_drewN | apply Kd.R_drew)); exact HO.out)⟩, ⟨(by repeat (first | (with_reducible first | exact HB.out | apply below_alloc | apply pw_below_drewN | apply below_drew1) | exact HB.out))⟩⟩))
            · have hltb : decide ((m : Int) < (q : Int) + (n : Int)) = false := decide_eq_false (by omega)
              have hm : m = q + n := by omega
              have HE := Aside0.mk (show cv bs = sqS (l0.drop (j * n)) n by rw [HS.out, hm, Nat.add_sub_cancel_left, HQ.out])
              have hlj : j ≤ 4096 := by have h2 := HQ.out; have h3 : j * 1 ≤ j * n := Nat.mul_le_mul_left _ (by omega); omega
              clear hm HS
              go_wp2_with (first | ((with_reducible refine gate_builtin (b := .append) (xs := #[.tmp 49, .tmp 54]) rfl ?_); (try (refine gate_guard (by rfl) ?_; dsimp only)); at_builtin; refine Kd.R_append Kf (w0 := w) w.heap.size rfl (.tmp 49) (.tmp 54) 22 23 (.float .f64 0) 8 rfl Try.underlying22 finfo rfl (by decide) (by omega) u5 (sqG l0 n j) (fquo (sqS (l0.drop (j * n)) n) (ofI n)) [_] (fun _ => True) (fun _ => False) rfl rfl ?aP (fun _ hk => hk.elim) ?aF ?aO ?aB ?aS ?aL ?_; (case aP => exact ⟨_, rfl, (by rw [cv_bits, HE.out]; rfl)⟩); (case aB => exact (by repeat (first | (with_reducible first | exact HB.out | apply below_alloc | apply pw_below_drewN | apply below_drew1) | exact HB.out))); (case aF => exact (fun _ _ => trivial)); (case aO => exact (by (with_reducible repeat (first | apply Kd.R_alloc | apply Kd.R_drewN | apply Kd.R_drew)); exact HO.out)); (case aS => exact (below_size (by repeat (first | (with_reducible first | exact HB.out | apply below_alloc | apply pw_below_drewN | apply below_drew1) | exact HB.out)))); (case aL => (rw [sqG_len]; omega)); intro va_ wa_ hoa_ hba_ hg_ hat_; clear hg_ hat_; have n0_ := Aside0.mk hba_; have n1_ := Aside0.mk hoa_; clear HB HO; have HB := n0_; have HO := n1_; clear n0_ n1_ hoa_ hba_))
              rw [← sqG_succ] at HO
              have hmul : (j + 1) * n = j * n + n := Nat.succ_mul j n
              have hqq := HQ.out
              go_roundg (l0.length - (q + n))
              case measure => have := HX.out; omega
              case rel => exact ⟨j + 1, q + n, ⟨by rw [hmul, ← hqq]⟩, ⟨by omega, by omega⟩, by go_num, HO, HB⟩
        · have dn : decide ((q : Int) + (n : Int) ≤ (l0.length : Int)) = false := decide_eq_false (by omega)
          have hj : l0.length / n = j := by
            have h2 := HQ.out
            refine Nat.div_eq_of_lt_le (by omega) ?_
            rw [Nat.succ_mul]
            omega
          rw [← hj] at HO
          clear hj
          go_wp2
          go_ret
          exact ⟨_, rfl, HO.out, HB.out⟩
    · have d1 : decide (1 ≤ a1 ∧ a1 ≤ 4096) = false := decide_eq_false (by omega)
      rw [show sqF l0 a1 = [] by unfold sqF; rw [if_neg (fun h => h1 h.2)]]
      clear h1
      go_enter Try.func21, Try.ntmps21
      go_wp2_with (first | (go_at_call 37; refine (spec_l13Ok.calls _ _ _ _).mono ?_; rintro e w' ⟨rfl, ⟨nd, rfl⟩⟩) | (go_at_call 38; refine (snd_l1In _ _ _ _).mono ?_; rintro e w' ⟨rfl, ⟨nd, rfl⟩⟩) | ((with_reducible refine gate_dst (N := 10) rfl ?_); (try (refine gate_guard (by rfl) ?_; dsimp only)); refine Kd.R_lit Kf _ 23 ?hg (N := 10) ?hd (xs := ([] : List Fl)) (inner := []) (ok := fun _ => True) (okp := fun _ => True) ?hr ?hp (fun _ hk => hk) trivial (Below.refl _ _) (Nat.le_refl _) (by simp) ?_; (case hd => rfl); (case hg => rfl); (case hr => first | (go_simp; done) | (go_simp; rfl)); (case hp => exact (Reps.none _ _)); intro vl_ wl_ hol_ hbl_ hg_ hnew_; clear hg_ hnew_; have HO := Aside0.mk (Kd.R_lower hol_ (below_size (by repeat (first | (with_reducible first | exact HB.out | apply below_alloc | apply pw_below_drewN | apply below_drew1) | exact HB.out)))); have n1_ := Aside0.mk (below_step (by repeat (first | (with_reducible first | exact HB.out | apply below_alloc | apply pw_below_drewN | apply below_drew1) | exact HB.out)) hbl_); clear HB; have HB := n1_; clear n1_ hol_ hbl_))
      go_ret
      exact ⟨_, rfl, HO.out, (by repeat (first | (with_reducible first | exact HB.out | apply below_alloc | apply pw_below_drewN | apply below_drew1) | exact HB.out))⟩
  · have d0 : decide ((l0.length : Int) ≤ 4096) = false := decide_eq_false (by omega)
    rw [show sqF l0 a1 = [] by unfold sqF; rw [if_neg (fun h => h0 h.1)]]
    clear h0
    go_enter Try.func21, Try.ntmps21
    go_wp2_with (first | (go_at_call 37; refine (spec_l13Ok.calls _ _ _ _).mono ?_; rintro e w' ⟨rfl, ⟨nd, rfl⟩⟩) | ((with_reducible refine gate_dst (N := 10) rfl ?_); (try (refine gate_guard (by rfl) ?_; dsimp only)); refine Kd.R_lit Kf _ 23 ?hg (N := 10) ?hd (xs := ([] : List Fl)) (inner := []) (ok := fun _ => True) (okp := fun _ => True) ?hr ?hp (fun _ hk => hk) trivial (Below.refl _ _) (Nat.le_refl _) (by simp) ?_; (case hd => rfl); (case hg => rfl); (case hr => first | (go_simp; done) | (go_simp; rfl)); (case hp => exact (Reps.none _ _)); intro vl_ wl_ hol_ hbl_ hg_ hnew_; clear hg_ hnew_; have HO := Aside0.mk (Kd.R_lower hol_ (below_size (by repeat (first | (with_reducible first | exact HB.out | apply below_alloc | apply pw_below_drewN | apply below_drew1) | exact HB.out)))); have n1_ := Aside0.mk (below_step (by repeat (first | (with_reducible first | exact HB.out | apply below_alloc | apply pw_below_drewN | apply below_drew1) | exact HB.out)) hbl_); clear HB; have HB := n1_; clear n1_ hol_ hbl_))
    go_ret
    exact ⟨_, rfl, HO.out, (by repeat (first | (with_reducible first | exact HB.out | apply below_alloc | apply pw_below_drewN | apply below_drew1) | exact HB.out))⟩

theorem snd_in (a b c : Int) (w : World) :
    Calls Try.prog 40 #[.int .i64 a, .int .i64 b, .int .i64 c] w fun e w' => e = .returned (.bool (decide (b ≤ a ∧ a ≤ c))) ∧ Drawn0 w w' := by
  by_cases h1 : b ≤ a
  · have c1 : decide (b ≤ a) = true := decide_eq_true h1
    by_cases h2 : a ≤ c
    · have c2 : decide (a ≤ c) = true := decide_eq_true h2
      rw [decide_eq_true (show b ≤ a ∧ a ≤ c from ⟨h1, h2⟩)]
      clear h1 h2
      go_enter Try.func40, Try.ntmps40
      go_wp2
      go_ret
      exact ⟨by simp [c2], Drawn0.refl _⟩
    · have c2 : decide (a ≤ c) = false := decide_eq_false h2
      rw [decide_eq_false (show ¬ (b ≤ a ∧ a ≤ c) from fun h => h2 h.2)]
      clear h1 h2
      go_enter Try.func40, Try.ntmps40
      go_wp2
      go_ret
      exact ⟨by simp [c2], Drawn0.refl _⟩
  · have c1 : decide (b ≤ a) = false := decide_eq_false h1
    rw [decide_eq_false (show ¬ (b ≤ a ∧ a ≤ c) from fun h => h1 h.1)]
    clear h1
    go_enter Try.func40, Try.ntmps40
    go_wp2
    go_ret
    exact ⟨by simp, Drawn0.refl _⟩
def impl_Squares.f (l0 : List Fl) (a1 : Int) : Option (List Fl) := some (sqF l0 a1)
set_option maxHeartbeats 4000000 in
set_option maxRecDepth 100000 in
theorem impl_Squares.calls (A0 : Option Addr) (c0 : Nat) (l0 : List Fl) (a1 : Int) (r : List Fl) (w : World) (hr0 : Kd.C Kf w A0 l0.length l0) (hc0 : l0.length ≤ c0) (h : impl_Squares.f l0 a1 = some r) :
    Calls Try.prog 22 #[.slice A0 l0.length c0, .int .i64 a1] w fun e w' => ∃ v0_ : Value, e = .returned v0_ ∧ Kd.R Kf 23 w' w.heap.size (fun _ => True) v0_ r ∧ Below w.heap.size w w' := by
  have HR0 := Aside0.mk hr0
  have HC0 := Aside0.mk hc0
  have HM0 := Aside0.mk hr0.2.1
  clear hr0 hc0
  have HB := Aside0.mk (Below.refl w.heap.size w)
  obtain rfl := Option.some.inj h
  clear h
  by_cases h0 : l0.length ≤ 4096
  · have d0 : decide ((l0.length : Int) > 4096) = false := decide_eq_false (by omega)
    by_cases h1 : 1 ≤ a1 ∧ a1 ≤ 4096
    · have d1 : decide (1 ≤ a1 ∧ a1 ≤ 4096) = true := decide_eq_true (by omega)
      rw [show sqF l0 a1 = sqG l0 a1.toNat (l0.length / a1.toNat) by unfold sqF; rw [if_pos ⟨h0, h1⟩]]
      obtain ⟨n, rfl⟩ := Int.eq_ofNat_of_zero_le (show 0 ≤ a1 by omega)
      rw [Int.toNat_natCast]
      go_enter Try.func22, Try.ntmps22
      go_wp2_with (first | (go_at_call 39; refine (impl_tooLong.calls _ _ _ _).mono ?_; rintro e w' ⟨rfl, ⟨nd, rfl⟩⟩) | (go_at_call 40; refine (snd_in _ _ _ _).mono ?_; rintro e w' ⟨rfl, ⟨nd, rfl⟩⟩) | ((with_reducible refine gate_dst (N := 16) rfl ?_); (try (refine gate_guard (by rfl) ?_; dsimp only)); refine Kd.R_lit Kf _ 23 ?hg (N := 16) ?hd (xs := ([] : List Fl)) (inner := []) (ok := fun _ => True) (okp := fun _ => True) ?hr ?hp (fun _ hk => hk) trivial (Below.refl _ _) (Nat.le_refl _) (by simp) ?_; (case hd => rfl); (case hg => rfl); (case hr => first | (go_simp; done) | (go_simp; rfl)); (case hp => exact (Reps.none _ _)); intro vl_ wl_ hol_ hbl_ hg_ hnew_; clear hg_ hnew_; have HO := Aside0.mk (Kd.R_lower hol_ (below_size (by repeat (first | (with_reducible first | exact HB.out | apply below_alloc | apply pw_below_drewN | apply below_drew1) | exact HB.out)))); have n1_ := Aside0.mk (below_step (by repeat (first | (with_reducible first | exact HB.out | apply below_alloc | apply pw_below_drewN | apply below_drew1) | exact HB.out)) hbl_); clear HB; have HB := n1_; clear n1_ hol_ hbl_))
      go_loopg [0, 5] l0.length (fun gg v0 v5 w' => ∃ (j : Nat) (A1 : Option Addr) (c1 : Nat) (xs : List Fl), Aside0 (xs = l0.drop (j * n) ∧ j * n + xs.length = l0.length ∧ xs.length ≤ gg) ∧ v0 = .slice A1 xs.length c1 ∧ Aside0 (Kd.C Kf w A1 xs.length xs) ∧ Aside0 (xs.length ≤ c1) ∧ Aside0 (Kd.R Kf 23 w' w.heap.size (fun _ => True) v5 (sqG l0 n j)) ∧ Aside0 (Below w.heap.size w w'))
      case atStart => exact ⟨0, A0, c0, l0, ⟨by simp, by simp, Nat.le_refl _⟩, rfl, HR0, HC0, HO, ⟨(by repeat (first | (with_reducible first | exact HB.out | apply below_alloc | apply pw_below_drewN | apply below_drew1) | exact HB.out))⟩⟩
      case round =>
        clear HB HO HR0 HC0
        obtain ⟨j, A1, c1, xs, HX, rfl, HR1, HC1, HO, HB⟩ := hrel
        have hxl : xs.length ≤ l0.length := by have := HX.out.2.1; omega
        by_cases hn : n ≤ xs.length
        · have dn : decide ((n : Int) ≤ (xs.length : Int)) = true := decide_eq_true (by omega)
          have pn : (n : Int) ≤ (xs.length : Int) := by omega
          obtain ⟨i0, hi0, _, hsz, _⟩ := info_parts finfo
          have hcut := cut_to (P := Try.prog) 22 23 .i64 Try.underlying22 hi0 A1 xs.length c1 (n : Int) (by omega) pn HC1.out
          have hcut2 := cut_from (P := Try.prog) 22 23 .i64 Try.underlying22 hi0 1 hsz A1 xs.length c1 (n : Int) (by omega) pn
          simp only [Int.toNat_natCast] at hcut hcut2
          obtain ⟨A2, hA2⟩ : ∃ A2, A2 = (if c1 = n then A1 else A1.map (·.add (n * 1))) := ⟨_, rfl⟩
          rw [← hA2] at hcut2
          have HD := Aside0.mk (show Kd.C Kf w A2 (xs.drop n).length (xs.drop n) by rw [hA2]; exact Kd.C_drop HR1.out hn HC1.out)
          clear hA2 hi0 hsz
          go_wp2
          go_loopg [6, 28] n (fun gg v6 v28 w' => ∃ (k b : Nat), Aside0 (k ≤ n ∧ n - k ≤ gg) ∧ v28 = .int .i64 (k : Int) ∧ v6 = .float .f64 b ∧ Aside0 (cv b = sqS xs k) ∧ Aside0 (Kd.R Kf 23 w' w.heap.size (fun _ => True) u5 (sqG l0 n j)) ∧ Aside0 (Below w.heap.size w w'))
          case atStart => exact ⟨0, 0, ⟨Nat.zero_le _, Nat.le_refl _⟩, rfl, rfl, ⟨rfl⟩, ⟨(by (with_reducible repeat (first | apply Kd.R_alloc | apply Kd.R_drewN | apply Kd.R_drew)); exact HO.out)⟩, ⟨(by repeat (first | (with_reducible first | exact HB.out | apply below_alloc | apply pw_below_drewN | apply below_drew1) | exact HB.out))⟩⟩
          case round =>
            clear HB HO
            obtain ⟨k, bs, HK, rfl, rfl, HS, HO, HB⟩ := hrel
            by_cases hlt : k < n
            · obtain ⟨ad, b, e, hx, hb⟩ := at_f HR1.out (k : Int) (by omega) (by omega)
              cases e
              replace hx := (HB.out.cell (World.block_lt_of_cell? w _ hx)).trans hx
              simp only [Int.toNat_natCast] at hx
              have hltb : decide ((k : Int) < (n : Int)) = true := decide_eq_true (by omega)
              have p0 : (0 ≤ (k : Int)) = True := eq_true (by omega)
              have q0 : ((k : Int) < (n : Int)) = True := eq_true (by omega)
              have HBV := Aside0.mk hb
              clear hb
              go_wp2
              go_roundg (n - (k + 1))
              case measure => have := HK.out; omega
              case rel => exact ⟨k + 1, _, ⟨by omega, by omega⟩, by go_num, rfl, ⟨by simp only [cv_bits, HBV.out, HS.out]; rfl⟩, ⟨(by (with_reducible repeat (first | apply Kd.R_alloc | apply Kd.R_drewN | apply Kd.R_drew)); exact HO.out)⟩, ⟨(by repeat (first | (with_reducible first | exact HB.out | apply below_alloc | apply pw_below_drewN | apply below_drew1) | exact HB.out))⟩⟩
            · have hltb : decide ((k : Int) < (n : Int)) = false := decide_eq_false (by omega)
              have hk : k = n := by have := HK.out; omega
              subst hk
              have hlj : j ≤ 4096 := by have h2 := HX.out.2.1; have h3 : j * 1 ≤ j * k := Nat.mul_le_mul_left _ (by omega); omega
              go_wp2_with (first | ((with_reducible refine gate_builtin (b := .append) (xs := #[.tmp 38, .tmp 43]) rfl ?_); (try (refine gate_guard (by rfl) ?_; dsimp only)); at_builtin; refine Kd.R_append Kf (w0 := w) w.heap.size rfl (.tmp 38) (.tmp 43) 22 23 (.float .f64 0) 8 rfl Try.underlying22 finfo rfl (by decide) (by omega) u5 (sqG l0 k j) (fquo (sqS (l0.drop (j * k)) k) (ofI k)) [_] (fun _ => True) (fun _ => False) rfl rfl ?aP (fun _ hk => hk.elim) ?aF ?aO ?aB ?aS ?aL ?_; (case aP => exact ⟨_, rfl, (by rw [cv_bits, HS.out, ← HX.out.1]; rfl)⟩); (case aB => exact (by repeat (first | (with_reducible first | exact HB.out | apply below_alloc | apply pw_below_drewN | apply below_drew1) | exact HB.out))); (case aF => exact (fun _ _ => trivial)); (case aO => exact (by (with_reducible repeat (first | apply Kd.R_alloc | apply Kd.R_drewN | apply Kd.R_drew)); exact HO.out)); (case aS => exact (below_size (by repeat (first | (with_reducible first | exact HB.out | apply below_alloc | apply pw_below_drewN | apply below_drew1) | exact HB.out)))); (case aL => (rw [sqG_len]; omega)); intro va_ wa_ hoa_ hba_ hg_ hat_; clear hg_ hat_; have n0_ := Aside0.mk hba_; have n1_ := Aside0.mk hoa_; clear HB HO; have HB := n0_; have HO := n1_; clear n0_ n1_ hoa_ hba_))
              rw [← sqG_succ] at HO
              have hm := HX.out
              have hmul : (j + 1) * k = j * k + k := Nat.succ_mul j k
              go_roundg (xs.length - k)
              case measure => omega
              case rel => exact ⟨j + 1, A2, c1 - k, xs.drop k, ⟨by rw [hmul, ← List.drop_drop, ← hm.1], by rw [List.length_drop, hmul]; omega, by rw [List.length_drop]; omega⟩, by rw [List.length_drop], HD, ⟨by rw [List.length_drop]; have := HC1.out; omega⟩, HO, HB⟩
        · have dn : decide ((n : Int) ≤ (xs.length : Int)) = false := decide_eq_false (by omega)
          have hj : l0.length / n = j := by
            have h2 := HX.out.2.1
            refine Nat.div_eq_of_lt_le (by omega) ?_
            rw [Nat.succ_mul]
            omega
          rw [← hj] at HO
          go_wp2
          go_ret
          exact ⟨_, rfl, HO.out, HB.out⟩
    · have d1 : decide (1 ≤ a1 ∧ a1 ≤ 4096) = false := decide_eq_false (by omega)
      rw [show sqF l0 a1 = [] by unfold sqF; rw [if_neg (fun h => h1 h.2)]]
      clear h1
      go_enter Try.func22, Try.ntmps22
      go_wp2_with (first | (go_at_call 39; refine (impl_tooLong.calls _ _ _ _).mono ?_; rintro e w' ⟨rfl, ⟨nd, rfl⟩⟩) | (go_at_call 40; refine (snd_in _ _ _ _).mono ?_; rintro e w' ⟨rfl, ⟨nd, rfl⟩⟩))
      go_ret
      exact ⟨_, rfl, Kd.R_nil _ _ _ _ _, (by repeat (first | (with_reducible first | exact HB.out | apply below_alloc | apply pw_below_drewN | apply below_drew1) | exact HB.out))⟩
  · have d0 : decide ((l0.length : Int) > 4096) = true := decide_eq_true (by omega)
    rw [show sqF l0 a1 = [] by unfold sqF; rw [if_neg (fun h => h0 h.1)]]
    clear h0
    go_enter Try.func22, Try.ntmps22
    go_wp2_with (first | (go_at_call 39; refine (impl_tooLong.calls _ _ _ _).mono ?_; rintro e w' ⟨rfl, ⟨nd, rfl⟩⟩))
    go_ret
    exact ⟨_, rfl, Kd.R_nil _ _ _ _ _, (by repeat (first | (with_reducible first | exact HB.out | apply below_alloc | apply pw_below_drewN | apply below_drew1) | exact HB.out))⟩

end Go.Proofs.Ytofiabjphjpglaa.Fl
