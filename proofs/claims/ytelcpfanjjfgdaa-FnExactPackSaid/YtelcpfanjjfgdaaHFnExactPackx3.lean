-- Laid by myprint.py, a program of this repo, out of the kit's printer and this repo's own texts (wip/hand).
import Derived.Test.YtelcpfanjjfgdaaHFnExactPackx0
import Derived.Test.YtelcpfanjjfgdaaHFnExactPackx1
import Derived.Test.YtelcpfanjjfgdaaHFnExactPackx2
namespace Go.Proofs.Ytelcpfanjjfgdaa.HFnExactPack
open Go.RowKit Go.Proofs.YtelcpfanjjfgdaaW.PrintWords Go.Proofs.YtelcpfanjjfgdaaW.PrintLast Go.Proofs.YtelcpfanjjfgdaaW.PrintMore
attribute [local go_sem] max2_int min2_int max_two min_two max_three min_three max_four min_four   -- for this text's walks alone
set_option linter.unusedVariables false
set_option linter.unusedSimpArgs false

/-! ### laws_eqByteSS: function 45 -/
def laws_eqByteSS.l0 : Nat → List (List Int) → List (List Int) → Int → Option (Bool)
  | 0, _, _, _ => none
  | k + 1, x0, x1, x5 => if x5 < (x0.length : Int) then (if 0 ≤ x5 then (if x5 < (x1.length : Int) then ((laws_eqByteS.f k (rd_L5 x0 x5) (rd_L5 x1 x5)).bind fun t140 => (if t140 = true then (laws_eqByteSS.l0 k x0 x1 (wrap64 (x5 + 1))) else (some false))) else (none)) else (none)) else (some true)
def laws_eqByteSS.f (k : Nat) (l0 : List (List Int)) (l1 : List (List Int)) : Option (Bool) := if (l0.length : Int) = (l1.length : Int) then (laws_eqByteSS.l0 k l0 l1 0) else (some false)
theorem laws_eqByteSS.mono_l : ∀ k, (∀ y0 y1 y2, LeO (laws_eqByteSS.l0 k y0 y1 y2) (laws_eqByteSS.l0 (k + 1) y0 y1 y2))
  | 0 => fun _ _ _ r h => by simp [laws_eqByteSS.l0] at h
  | k + 1 => by
    have ih0 := laws_eqByteSS.mono_l k
    · intro y0 y1 y2
      unfold laws_eqByteSS.l0
      repeat' first
      | (with_reducible exact ih0 _ _ _)
      | (with_reducible exact laws_eqByteS.mono _ _ _)
      | (with_reducible exact LeO.refl _)
      | (with_reducible exact LeO.none _)
      | (with_reducible refine LeO.ite ?_ ?_)
      | (with_reducible refine LeO.bind ?_ (fun _ => ?_))
      | exact ih0 _ _ _
      | exact laws_eqByteS.mono _ _ _
      | exact LeO.none _
      | refine LeO.ite ?_ ?_
      | refine LeO.bind ?_ (fun _ => ?_)
theorem laws_eqByteSS.mono : ∀ a0 a1 k, LeO (laws_eqByteSS.f k a0 a1) (laws_eqByteSS.f (k + 1) a0 a1) := by
  intro a0 a1 k
  have ih0 := laws_eqByteSS.mono_l k
  unfold laws_eqByteSS.f
  repeat' first
      | (with_reducible exact ih0 _ _ _)
      | (with_reducible exact laws_eqByteS.mono _ _ _)
      | (with_reducible exact LeO.refl _)
      | (with_reducible exact LeO.none _)
      | (with_reducible refine LeO.ite ?_ ?_)
      | (with_reducible refine LeO.bind ?_ (fun _ => ?_))
      | exact ih0 _ _ _
      | exact laws_eqByteS.mono _ _ _
      | exact LeO.none _
      | refine LeO.ite ?_ ?_
      | refine LeO.bind ?_ (fun _ => ?_)
set_option maxHeartbeats 8000000 in
set_option maxRecDepth 100000 in
theorem laws_eqByteSS.calls (k : Nat) (A0 : Option Addr) (c0 : Nat) (l0 : List (List Int)) (A1 : Option Addr) (c1 : Nat) (l1 : List (List Int)) (r : Bool) (w : World) (hr0 : Kd.C (Kd.slice 5 (Kd.int .u8)) w A0 l0.length l0) (hc0 : l0.length ≤ c0) (hr1 : Kd.C (Kd.slice 5 (Kd.int .u8)) w A1 l1.length l1) (hc1 : l1.length ≤ c1) (h : laws_eqByteSS.f k l0 l1 = some r) :
    Calls Try.prog 45 #[.slice A0 l0.length c0, .slice A1 l1.length c1] w fun e w' => e = .returned (.bool r) ∧ Drawn0 w w' := by
  have HR0 := Aside0.mk hr0
  have HC0 := Aside0.mk hc0
  clear hr0 hc0
  have HR1 := Aside0.mk hr1
  have HC1 := Aside0.mk hc1
  clear hr1 hc1
  have H : (if (l0.length : Int) = (l1.length : Int) then (laws_eqByteSS.l0 k l0 l1 0) else (some false)) = some r := h
  clear h
  by_cases c3 : (l0.length : Int) = (l1.length : Int)
  · rw [if_pos c3] at H
    have c3b0 : ((l0.length : Int) == (l1.length : Int)) = true := beq_iff_eq.mpr c3
    have c3b1 : ((l0.length : Int) != (l1.length : Int)) = false := bne_eq_false_iff_eq.mpr c3
    have c3b2 : (l0.length == l1.length) = true := by first | simpa using c3 | (simp at c3 ⊢; omega)
    clear c3
    have H' := Aside0.mk H
    clear H
    go_enter Try.func45, Try.ntmps45
    go_wp2
    repeat (go_quiet (fail); try go_wp2)
    go_loopg [5] k (fun kq v5 w' => ∃ (x5_1 : Int), v5 = .int .i64 x5_1 ∧ Aside0 (laws_eqByteSS.l0 kq l0 l1 x5_1 = some r) ∧ Aside0 (kq ≤ k) ∧ Drawn0 w w')
    case atStart => exact ⟨(0), (by first | rfl | (simp; done) | (simp [*]; done)), H', ⟨Nat.le_refl _⟩, by repeat (first | exact Drawn0.refl _ | apply Drawn0.step)⟩
    case round =>
      clear H'
      try clear c1
      try clear p2
      try clear c3
      try clear c3b0
      try clear c3b1
      try clear c3b2
      obtain ⟨x5_1, rfl, HA, HK1, ⟨m1, rfl⟩⟩ := hrel
      cases gk with
      | zero => exact absurd HA.out (by simp [laws_eqByteSS.l0])
      | succ k1 =>
        have H := HA.out
        clear HA
        simp only [laws_eqByteSS.l0] at H
        by_cases c4 : x5_1 < (l0.length : Int)
        · rw [if_pos c4] at H
          have c4b0 : decide (x5_1 < (l0.length : Int)) = true := decide_eq_true c4
          clear c4
          by_cases c5 : 0 ≤ x5_1
          · rw [if_pos c5] at H
            have c5b0 : decide (0 ≤ x5_1) = true := decide_eq_true c5
            clear c5
            by_cases c6 : x5_1 < (l1.length : Int)
            · rw [if_pos c6] at H
              have c6b0 : decide (x5_1 < (l1.length : Int)) = true := decide_eq_true c6
              clear c6
              replace H := Option.bind_eq_some_iff.mp H
              obtain ⟨t140, A70, H⟩ := H
              replace H : (if t140 = true then (laws_eqByteSS.l0 k1 l0 l1 (wrap64 (x5_1 + 1))) else (some false)) = some r := H
              have A7 := Aside0.mk A70
              clear A70
              by_cases c8 : t140 = true
              · subst c8
                have H1 : (laws_eqByteSS.l0 k1 l0 l1 (wrap64 (x5_1 + 1))) = some r := by rw [if_pos rfl] at H; exact H
                clear H
                have H := H1
                clear H1
                have H' := Aside0.mk H
                clear H
                have p138 : 0 ≤ (x5_1 : Int) := of_decide_eq_true (by first | (with_reducible assumption) | assumption)
                have q138 : x5_1 < (l0.length : Int) := of_decide_eq_true (by first | (with_reducible assumption) | assumption)
                obtain ⟨ad138, A138_0, c138_0, e138, hx138_0, hl138_0, hi138_0⟩ := at_L5 HR0.out x5_1 p138 q138
                cases e138
                have HR138_0 := Aside0.mk hi138_0
                have HC138_0 := Aside0.mk hl138_0
                clear hi138_0 hl138_0
                replace p138 := eq_true p138
                replace q138 := eq_true q138
                have p139 : 0 ≤ (x5_1 : Int) := of_decide_eq_true (by first | (with_reducible assumption) | assumption)
                have q139 : x5_1 < (l1.length : Int) := of_decide_eq_true (by first | (with_reducible assumption) | assumption)
                obtain ⟨ad139, A139_0, c139_0, e139, hx139_0, hl139_0, hi139_0⟩ := at_L5 HR1.out x5_1 p139 q139
                cases e139
                have HR139_0 := Aside0.mk hi139_0
                have HC139_0 := Aside0.mk hl139_0
                clear hi139_0 hl139_0
                replace p139 := eq_true p139
                replace q139 := eq_true q139
                go_wp2_with (first | (go_at_call 16; (with_reducible refine (laws_eqByteS.calls k1 _ _ (rd_L5 l0 x5_1) _ _ (rd_L5 l1 x5_1) true _ ?side1 ?side2 ?side3 ?side4 A7.out).mono ?_); (case side1 => repeat (first | exact HR138_0.out | (with_reducible refine Kd.C_alloc ?_ _) | (with_reducible refine Kd.C_drewN ?_ _) | (with_reducible refine Kd.C_drew ?_))); (case side2 => exact HC138_0.out); (case side3 => repeat (first | exact HR139_0.out | (with_reducible refine Kd.C_alloc ?_ _) | (with_reducible refine Kd.C_drewN ?_ _) | (with_reducible refine Kd.C_drew ?_))); (case side4 => exact HC139_0.out); rintro e w' ⟨rfl, ⟨nd, rfl⟩⟩; (try first | exact ⟨rfl, _, World.drewN_drewN _ _ _⟩ | exact ⟨rfl, _, Eq.trans (World.drewN_drewN _ _ _) (congrArg (World.drewN _) (Nat.add_assoc _ _ _))⟩)))
                repeat (go_quiet (first | (go_at_call 16; (with_reducible refine (laws_eqByteS.calls k1 _ _ (rd_L5 l0 x5_1) _ _ (rd_L5 l1 x5_1) true _ ?side1 ?side2 ?side3 ?side4 A7.out).mono ?_); (case side1 => repeat (first | exact HR138_0.out | (with_reducible refine Kd.C_alloc ?_ _) | (with_reducible refine Kd.C_drewN ?_ _) | (with_reducible refine Kd.C_drew ?_))); (case side2 => exact HC138_0.out); (case side3 => repeat (first | exact HR139_0.out | (with_reducible refine Kd.C_alloc ?_ _) | (with_reducible refine Kd.C_drewN ?_ _) | (with_reducible refine Kd.C_drew ?_))); (case side4 => exact HC139_0.out); rintro e w' ⟨rfl, ⟨nd, rfl⟩⟩; (try first | exact ⟨rfl, _, World.drewN_drewN _ _ _⟩ | exact ⟨rfl, _, Eq.trans (World.drewN_drewN _ _ _) (congrArg (World.drewN _) (Nat.add_assoc _ _ _))⟩))); try go_wp2_with (first | (go_at_call 16; (with_reducible refine (laws_eqByteS.calls k1 _ _ (rd_L5 l0 x5_1) _ _ (rd_L5 l1 x5_1) true _ ?side1 ?side2 ?side3 ?side4 A7.out).mono ?_); (case side1 => repeat (first | exact HR138_0.out | (with_reducible refine Kd.C_alloc ?_ _) | (with_reducible refine Kd.C_drewN ?_ _) | (with_reducible refine Kd.C_drew ?_))); (case side2 => exact HC138_0.out); (case side3 => repeat (first | exact HR139_0.out | (with_reducible refine Kd.C_alloc ?_ _) | (with_reducible refine Kd.C_drewN ?_ _) | (with_reducible refine Kd.C_drew ?_))); (case side4 => exact HC139_0.out); rintro e w' ⟨rfl, ⟨nd, rfl⟩⟩; (try first | exact ⟨rfl, _, World.drewN_drewN _ _ _⟩ | exact ⟨rfl, _, Eq.trans (World.drewN_drewN _ _ _) (congrArg (World.drewN _) (Nat.add_assoc _ _ _))⟩))))
                go_roundg k1
                case measure => have := HK1.out; omega
                case rel => exact ⟨(wrap64 (x5_1 + 1)), (by first | rfl | (simp; done) | (simp [*]; done)), H', ⟨by have := HK1.out; omega⟩, by repeat (first | exact Drawn0.refl _ | apply Drawn0.step)⟩
              · replace c8 := Bool.eq_false_iff.mpr c8
                subst c8
                have H1 : (some false) = some r := by rw [if_neg (show ¬ (false = true) by decide)] at H; exact H
                clear H
                have H := H1
                clear H1
                obtain rfl := Option.some.inj H
                have p138 : 0 ≤ (x5_1 : Int) := of_decide_eq_true (by first | (with_reducible assumption) | assumption)
                have q138 : x5_1 < (l0.length : Int) := of_decide_eq_true (by first | (with_reducible assumption) | assumption)
                obtain ⟨ad138, A138_0, c138_0, e138, hx138_0, hl138_0, hi138_0⟩ := at_L5 HR0.out x5_1 p138 q138
                cases e138
                have HR138_0 := Aside0.mk hi138_0
                have HC138_0 := Aside0.mk hl138_0
                clear hi138_0 hl138_0
                replace p138 := eq_true p138
                replace q138 := eq_true q138
                have p139 : 0 ≤ (x5_1 : Int) := of_decide_eq_true (by first | (with_reducible assumption) | assumption)
                have q139 : x5_1 < (l1.length : Int) := of_decide_eq_true (by first | (with_reducible assumption) | assumption)
                obtain ⟨ad139, A139_0, c139_0, e139, hx139_0, hl139_0, hi139_0⟩ := at_L5 HR1.out x5_1 p139 q139
                cases e139
                have HR139_0 := Aside0.mk hi139_0
                have HC139_0 := Aside0.mk hl139_0
                clear hi139_0 hl139_0
                replace p139 := eq_true p139
                replace q139 := eq_true q139
                go_wp2_with (first | (go_at_call 16; (with_reducible refine (laws_eqByteS.calls k1 _ _ (rd_L5 l0 x5_1) _ _ (rd_L5 l1 x5_1) false _ ?side1 ?side2 ?side3 ?side4 A7.out).mono ?_); (case side1 => repeat (first | exact HR138_0.out | (with_reducible refine Kd.C_alloc ?_ _) | (with_reducible refine Kd.C_drewN ?_ _) | (with_reducible refine Kd.C_drew ?_))); (case side2 => exact HC138_0.out); (case side3 => repeat (first | exact HR139_0.out | (with_reducible refine Kd.C_alloc ?_ _) | (with_reducible refine Kd.C_drewN ?_ _) | (with_reducible refine Kd.C_drew ?_))); (case side4 => exact HC139_0.out); rintro e w' ⟨rfl, ⟨nd, rfl⟩⟩; (try first | exact ⟨rfl, _, World.drewN_drewN _ _ _⟩ | exact ⟨rfl, _, Eq.trans (World.drewN_drewN _ _ _) (congrArg (World.drewN _) (Nat.add_assoc _ _ _))⟩)))
                repeat (go_quiet (first | (go_at_call 16; (with_reducible refine (laws_eqByteS.calls k1 _ _ (rd_L5 l0 x5_1) _ _ (rd_L5 l1 x5_1) false _ ?side1 ?side2 ?side3 ?side4 A7.out).mono ?_); (case side1 => repeat (first | exact HR138_0.out | (with_reducible refine Kd.C_alloc ?_ _) | (with_reducible refine Kd.C_drewN ?_ _) | (with_reducible refine Kd.C_drew ?_))); (case side2 => exact HC138_0.out); (case side3 => repeat (first | exact HR139_0.out | (with_reducible refine Kd.C_alloc ?_ _) | (with_reducible refine Kd.C_drewN ?_ _) | (with_reducible refine Kd.C_drew ?_))); (case side4 => exact HC139_0.out); rintro e w' ⟨rfl, ⟨nd, rfl⟩⟩; (try first | exact ⟨rfl, _, World.drewN_drewN _ _ _⟩ | exact ⟨rfl, _, Eq.trans (World.drewN_drewN _ _ _) (congrArg (World.drewN _) (Nat.add_assoc _ _ _))⟩))); try go_wp2_with (first | (go_at_call 16; (with_reducible refine (laws_eqByteS.calls k1 _ _ (rd_L5 l0 x5_1) _ _ (rd_L5 l1 x5_1) false _ ?side1 ?side2 ?side3 ?side4 A7.out).mono ?_); (case side1 => repeat (first | exact HR138_0.out | (with_reducible refine Kd.C_alloc ?_ _) | (with_reducible refine Kd.C_drewN ?_ _) | (with_reducible refine Kd.C_drew ?_))); (case side2 => exact HC138_0.out); (case side3 => repeat (first | exact HR139_0.out | (with_reducible refine Kd.C_alloc ?_ _) | (with_reducible refine Kd.C_drewN ?_ _) | (with_reducible refine Kd.C_drew ?_))); (case side4 => exact HC139_0.out); rintro e w' ⟨rfl, ⟨nd, rfl⟩⟩; (try first | exact ⟨rfl, _, World.drewN_drewN _ _ _⟩ | exact ⟨rfl, _, Eq.trans (World.drewN_drewN _ _ _) (congrArg (World.drewN _) (Nat.add_assoc _ _ _))⟩))))
                go_ret
                exact ⟨by first | rfl | (simp; done) | (simp [*]; done), by repeat (first | exact Drawn0.refl _ | apply Drawn0.step)⟩
            · rw [if_neg c6] at H
              exact absurd H (by simp)
          · rw [if_neg c5] at H
            exact absurd H (by simp)
        · rw [if_neg c4] at H
          have c4b0 : decide (x5_1 < (l0.length : Int)) = false := decide_eq_false c4
          clear c4
          obtain rfl := Option.some.inj H
          go_wp2
          repeat (go_quiet (fail); try go_wp2)
          go_ret
          exact ⟨by first | rfl | (simp; done) | (simp [*]; done), by repeat (first | exact Drawn0.refl _ | apply Drawn0.step)⟩
  · rw [if_neg c3] at H
    have c3b0 : ((l0.length : Int) == (l1.length : Int)) = false := beq_eq_false_iff_ne.mpr c3
    have c3b1 : ((l0.length : Int) != (l1.length : Int)) = true := bne_iff_ne.mpr c3
    have c3b2 : (l0.length == l1.length) = false := by first | simpa using c3 | (simp at c3 ⊢; omega)
    obtain rfl := Option.some.inj H
    go_enter Try.func45, Try.ntmps45
    go_wp2
    repeat (go_quiet (fail); try go_wp2)
    go_ret
    exact ⟨by first | rfl | (simp; done) | (simp [*]; done), by repeat (first | exact Drawn0.refl _ | apply Drawn0.step)⟩

/-! ### laws_markByteSS: function 46 -/
/-! ### what marks, told by sorts: the blocks of S may turn, each value to one of its sort -/
def Sim : Value → Value → Prop
  | .int k _, v => ∃ y, v = .int k y
  | .string _, v => ∃ s, v = .string s
  | u, v => v = u
theorem Sim.refl (u : Value) : Sim u u := by cases u <;> simp [Sim]
theorem Sim.trans {u v x : Value} (h : Sim u v) (k : Sim v x) : Sim u x := by
  cases u <;> simp only [Sim] at h <;> first | (obtain ⟨y, rfl⟩ := h; exact k) | (subst h; exact k)
structure Alk (S : Nat → Prop) (w w' : World) : Prop where
  kept : Kept w w' S
  sim : ∀ a u, w.cell? a = some u → ∃ u', w'.cell? a = some u' ∧ Sim u u'
  fro : ∀ a, a.block < w.heap.size → w'.frozen? a = w.frozen? a
theorem Alk.refl (S : Nat → Prop) (w : World) : Alk S w w := ⟨Kept.refl w S, fun _ u h => ⟨u, h, Sim.refl u⟩, fun _ _ => rfl⟩
theorem Alk.trans {S : Nat → Prop} {a b c : World} (h : Alk S a b) (k : Alk S b c) : Alk S a c :=
  ⟨h.kept.then_ k.kept (fun _ hk => .inl hk), fun p u hu => by
    obtain ⟨u1, h1, s1⟩ := h.sim p u hu
    obtain ⟨u2, h2, s2⟩ := k.sim p u1 h1
    exact ⟨u2, h2, s1.trans s2⟩, fun p hp => (k.fro p (Nat.lt_of_lt_of_le hp h.kept.1)).trans (h.fro p hp)⟩
theorem Alk.drewN {S : Nat → Prop} {w W : World} (h : Alk S w W) (n : Nat) : Alk S w (W.drewN n) := ⟨h.kept.drewN n, h.sim, h.fro⟩
theorem Alk.drew {S : Nat → Prop} {w W : World} (h : Alk S w W) : Alk S w W.drew := ⟨h.kept.drew, h.sim, h.fro⟩
theorem Alk.below {S : Nat → Prop} {w W V : World} (h : Alk S w W) (hb : Below W.heap.size W V) : Alk S w V :=
  h.trans ⟨Kept.of_below hb S, fun a u hu => ⟨u, (hb.cell (World.block_lt_of_cell? W a hu)).trans hu, Sim.refl u⟩, fun a hlt => hb.frozen hlt⟩
theorem Alk.set {S : Nat → Prop} {w W : World} {p : Addr} {u v : Value} (h : Alk S w W) (hp : S p.block) (hc : W.cell? p = some u) (hs : Sim u v) : Alk S w (W.setCell p v) :=
  h.trans ⟨(Kept.refl W S).setCell (.inl hp) v, fun a x hx => by
    by_cases e : p = a
    · subst e
      rw [hc] at hx
      injection hx with hx
      subst hx
      exact ⟨v, World.cell?_setCell_same W p v hc, hs⟩
    · exact ⟨x, (World.cell?_setCell_other W p a v e).trans hx, Sim.refl x⟩, fun a _ => World.frozen?_setCell _ _ _ _⟩
theorem Alk.int {S : Nat → Prop} {w W : World} {a : Addr} {k : IntKind} {x : Int} (h : Alk S w W) (hc : w.cell? a = some (.int k x)) : ∃ y, W.cell? a = some (.int k y) := by
  obtain ⟨u, h1, y, rfl⟩ := h.sim _ _ hc
  exact ⟨y, h1⟩
theorem Alk.str {S : Nat → Prop} {w W : World} {a : Addr} {s : ByteArray} (h : Alk S w W) (hc : w.cell? a = some (.string s)) : ∃ y, W.cell? a = some (.string y) := by
  obtain ⟨u, h1, y, rfl⟩ := h.sim _ _ hc
  exact ⟨y, h1⟩
theorem Alk.slice {S : Nat → Prop} {w W : World} {a : Addr} {A : Option Addr} {n c : Nat} (h : Alk S w W) (hc : w.cell? a = some (.slice A n c)) : W.cell? a = some (.slice A n c) := by
  obtain ⟨u, h1, h2⟩ := h.sim _ _ hc
  rw [h1]
  exact congrArg some h2
theorem Alk.fz {S : Nat → Prop} {w W : World} {a : Addr} {u : Value} (h : Alk S w W) (hc : w.cell? a = some u) (hf : w.frozen? a = false) : W.frozen? a = false := (h.fro a (World.block_lt_of_cell? w a hc)).trans hf
def Atu8 (S : Nat → Prop) (w : World) (g i : Nat) : Prop := ∃ x, w.cell? ⟨g, i, none⟩ = some (.int .u8 x) ∧ w.frozen? ⟨g, i, none⟩ = false
theorem Atu8.alk {S : Nat → Prop} {w W : World} {g i : Nat} (h : Atu8 S w g i) (ha : Alk S w W) : Atu8 S W g i := by
  obtain ⟨x, e0, f0⟩ := h
  obtain ⟨x', e0'⟩ := ha.int e0
  exact ⟨x', e0', ha.fz e0 f0⟩
/-- A row of bytes in the blocks of S. -/
def RowB (S : Nat → Prop) (w : World) (A : Option Addr) (n : Nat) : Prop := n = 0 ∨ ∃ g, A = some ⟨g, 0, none⟩ ∧ S g ∧ ∀ i : Nat, i < n → Atu8 S w g i
theorem RowB.alk {S : Nat → Prop} {w W : World} {A : Option Addr} {n : Nat} (h : RowB S w A n) (ha : Alk S w W) : RowB S W A n := by
  rcases h with h | ⟨g, hA, hS, hc⟩
  · exact .inl h
  · exact .inr ⟨g, hA, hS, fun i hi => (hc i hi).alk ha⟩
theorem RowB.of_R {ok S : Nat → Prop} {w : World} {base n c : Nat} {A : Option Addr} {xs : List Int} (h : (Kd.int .u8).R 5 w base ok (.slice A n c) xs) (hS : ∀ j, ok j → S j) : RowB S w A n := by
  obtain ⟨hn, _⟩ := Kd.R_reads' h
  by_cases h0 : n = 0
  · exact .inl h0
  · obtain ⟨g, c', e', _⟩ := Kd.R_form h (by omega)
    injection e' with ea _ _
    subst ea
    refine .inr ⟨g, rfl, hS g (h.1 g (by simp [Value.ownBlock])), fun i hi => ?_⟩
    obtain ⟨cs, hcl, hM, hcs, hf⟩ := Kd.R_elem h 0 (i : Int) (by omega) (by omega)
    rw [Int.toNat_natCast] at hM hcs hf
    have hsz : (Kd.int .u8).sz = 1 := rfl
    rw [hsz, Nat.mul_one] at hcs hf
    cases hM
    exact ⟨_, hcs 0 _ rfl, hf 0⟩
def AtStr (S : Nat → Prop) (w : World) (g i : Nat) : Prop := ∃ x, w.cell? ⟨g, i, none⟩ = some (.string x) ∧ w.frozen? ⟨g, i, none⟩ = false
theorem AtStr.alk {S : Nat → Prop} {w W : World} {g i : Nat} (h : AtStr S w g i) (ha : Alk S w W) : AtStr S W g i := by
  obtain ⟨x, e0, f0⟩ := h
  obtain ⟨x', e0'⟩ := ha.str e0
  exact ⟨x', e0', ha.fz e0 f0⟩
/-- A row of strings. -/
def RowS (S : Nat → Prop) (w : World) (A : Option Addr) (n : Nat) : Prop := n = 0 ∨ ∃ g, A = some ⟨g, 0, none⟩ ∧ S g ∧ ∀ i : Nat, i < n → AtStr S w g i
theorem RowS.alk {S : Nat → Prop} {w W : World} {A : Option Addr} {n : Nat} (h : RowS S w A n) (ha : Alk S w W) : RowS S W A n := by
  rcases h with h | ⟨g, hA, hS, hc⟩
  · exact .inl h
  · exact .inr ⟨g, hA, hS, fun i hi => (hc i hi).alk ha⟩
theorem RowS.of_R {ok S : Nat → Prop} {w : World} {base n c : Nat} {A : Option Addr} {xs : List ByteArray} (h : Kd.string.R 9 w base ok (.slice A n c) xs) (hS : ∀ j, ok j → S j) : RowS S w A n := by
  obtain ⟨hn, _⟩ := Kd.R_reads' h
  by_cases h0 : n = 0
  · exact .inl h0
  · obtain ⟨g, c', e', _⟩ := Kd.R_form h (by omega)
    injection e' with ea _ _
    subst ea
    refine .inr ⟨g, rfl, hS g (h.1 g (by simp [Value.ownBlock])), fun i hi => ?_⟩
    obtain ⟨cs, hcl, hM, hcs, hf⟩ := Kd.R_elem h ByteArray.empty (i : Int) (by omega) (by omega)
    rw [Int.toNat_natCast] at hM hcs hf
    have hsz : (Kd.string).sz = 1 := rfl
    rw [hsz, Nat.mul_one] at hcs hf
    cases hM
    exact ⟨_, hcs 0 _ rfl, hf 0⟩
def AtRow (S : Nat → Prop) (w : World) (g i : Nat) : Prop := ∃ A2 n2 c2, w.cell? ⟨g, i, none⟩ = some (.slice A2 n2 c2) ∧ w.frozen? ⟨g, i, none⟩ = false ∧ n2 ≤ 1048576 ∧ RowB S w A2 n2
theorem AtRow.alk {S : Nat → Prop} {w W : World} {g i : Nat} (h : AtRow S w g i) (ha : Alk S w W) : AtRow S W g i := by
  obtain ⟨A2, n2, c2, e0, f0, h2, hr⟩ := h
  exact ⟨A2, n2, c2, ha.slice e0, ha.fz e0 f0, h2, hr.alk ha⟩
/-- A row of rows of bytes. -/
def RowR (S : Nat → Prop) (w : World) (A : Option Addr) (n : Nat) : Prop := n = 0 ∨ ∃ g, A = some ⟨g, 0, none⟩ ∧ S g ∧ ∀ i : Nat, i < n → AtRow S w g i
theorem RowR.alk {S : Nat → Prop} {w W : World} {A : Option Addr} {n : Nat} (h : RowR S w A n) (ha : Alk S w W) : RowR S W A n := by
  rcases h with h | ⟨g, hA, hS, hc⟩
  · exact .inl h
  · exact .inr ⟨g, hA, hS, fun i hi => (hc i hi).alk ha⟩
theorem RowR.of_R {ok S : Nat → Prop} {w : World} {base n c : Nat} {A : Option Addr} {xs : List (List Int)} (h : (Kd.slice 5 (Kd.int .u8)).R 22 w base ok (.slice A n c) xs) (hS : ∀ j, ok j → S j) (hl : ∀ x ∈ xs, x.length ≤ 1048576) : RowR S w A n := by
  obtain ⟨hn, _⟩ := Kd.R_reads' h
  by_cases h0 : n = 0
  · exact .inl h0
  · obtain ⟨g, c', e', _⟩ := Kd.R_form h (by omega)
    injection e' with ea _ _
    subst ea
    refine .inr ⟨g, rfl, hS g (h.1 g (by simp [Value.ownBlock])), fun i hi => ?_⟩
    obtain ⟨cs, hcl, hM, hcs, hf⟩ := Kd.R_elem h ([] : List Int) (i : Int) (by omega) (by omega)
    rw [Int.toNat_natCast] at hM hcs hf
    have hsz : (Kd.slice 5 (Kd.int .u8)).sz = 1 := rfl
    rw [hsz, Nat.mul_one] at hcs hf
    obtain ⟨v2, rfl, g2⟩ := hM
    obtain ⟨A2, c2, rfl⟩ := Kd.R_slice g2
    have hd : (xs.getD i []).length ≤ 1048576 := hl _ (by rw [List.getD_eq_getElem?_getD, List.getElem?_eq_getElem (by omega)]; exact List.getElem_mem _)
    exact ⟨_, _, _, hcs 0 _ rfl, hf 0, hd, RowB.of_R g2 (fun j hj => hS j hj.1)⟩
def AtAst (S : Nat → Prop) (w : World) (g i : Nat) : Prop := ∃ s x y, w.cell? ⟨g, i * 3, none⟩ = some (.string s) ∧ w.cell? ⟨g, i * 3 + 1, none⟩ = some (.int .i64 x) ∧ w.cell? ⟨g, i * 3 + 2, none⟩ = some (.int .i64 y) ∧ w.frozen? ⟨g, i * 3, none⟩ = false ∧ w.frozen? ⟨g, i * 3 + 1, none⟩ = false ∧ w.frozen? ⟨g, i * 3 + 2, none⟩ = false
theorem AtAst.alk {S : Nat → Prop} {w W : World} {g i : Nat} (h : AtAst S w g i) (ha : Alk S w W) : AtAst S W g i := by
  obtain ⟨s, x, y, e0, e1, e2, f0, f1, f2⟩ := h
  obtain ⟨s', e0'⟩ := ha.str e0
  obtain ⟨x', e1'⟩ := ha.int e1
  obtain ⟨y', e2'⟩ := ha.int e2
  exact ⟨s', x', y', e0', e1', e2', ha.fz e0 f0, ha.fz e1 f1, ha.fz e2 f2⟩
/-- A row of assets. -/
def RowA (S : Nat → Prop) (w : World) (A : Option Addr) (n : Nat) : Prop := n = 0 ∨ ∃ g, A = some ⟨g, 0, none⟩ ∧ S g ∧ ∀ i : Nat, i < n → AtAst S w g i
theorem RowA.alk {S : Nat → Prop} {w W : World} {A : Option Addr} {n : Nat} (h : RowA S w A n) (ha : Alk S w W) : RowA S W A n := by
  rcases h with h | ⟨g, hA, hS, hc⟩
  · exact .inl h
  · exact .inr ⟨g, hA, hS, fun i hi => (hc i hi).alk ha⟩
theorem RowA.of_R {ok S : Nat → Prop} {w : World} {base n c : Nat} {A : Option Addr} {xs : List S71} (h : k71.R 71 w base ok (.slice A n c) xs) (hS : ∀ j, ok j → S j) : RowA S w A n := by
  obtain ⟨hn, _⟩ := Kd.R_reads' h
  by_cases h0 : n = 0
  · exact .inl h0
  · obtain ⟨g, c', e', _⟩ := Kd.R_form h (by omega)
    injection e' with ea _ _
    subst ea
    refine .inr ⟨g, rfl, hS g (h.1 g (by simp [Value.ownBlock])), fun i hi => ?_⟩
    obtain ⟨cs, hcl, hM, hcs, hf⟩ := Kd.R_elem h z71 (i : Int) (by omega) (by omega)
    rw [Int.toNat_natCast] at hM hcs hf
    have hsz : k71.sz = 3 := rfl
    rw [hsz] at hcs hf
    obtain ⟨_, _, rfl, rfl, ⟨_, _, rfl, rfl, rfl⟩⟩ := hM
    exact ⟨_, _, _, hcs 0 _ rfl, hcs 1 _ rfl, hcs 2 _ rfl, hf 0, hf 1, hf 2⟩
set_option maxHeartbeats 4000000 in
set_option maxRecDepth 100000 in
theorem mark_bytes (S : Nat → Prop) (A : Option Addr) (n c : Nat) (a1 : Int) (w0 w : World) (hB : Below w0.heap.size w0 w) (hS : ∀ k, S k → w0.heap.size ≤ k) (hr : RowB S w A n) (hb : 0 ≤ a1 ∧ a1 ≤ 35184372088832 ∧ n ≤ 1048576) :
    Calls Try.prog 19 #[.slice A n c, .int .i64 a1] w fun e w' => e = .returned (.int .i64 (a1 + (n : Int))) ∧ Alk S w w' ∧ Below w0.heap.size w0 w' := by
  have HB := Aside0.mk hB
  have HA := Aside0.mk (Alk.refl S w)
  have HS := Aside0.mk hS
  have HR := Aside0.mk hr
  have HN := Aside0.mk hb
  clear hB hS hr hb
  go_enter Try.func19, Try.ntmps19
  go_wp2
  go_loopg [1, 5] n (fun gg v1 v5 w' => ∃ i : Nat, Aside0 (i ≤ n ∧ n - i ≤ gg) ∧ v1 = .int .i64 (a1 + (i : Int)) ∧ v5 = .int .i64 (i : Int) ∧ Aside0 (Below w0.heap.size w0 w') ∧ Aside0 (Alk S w w'))
  case atStart => exact ⟨0, ⟨Nat.zero_le _, Nat.le_refl _⟩, by simp, rfl, ⟨(by repeat (first | (with_reducible first | exact HB.out | apply below_alloc | apply pw_below_drewN | apply below_drew1) | exact HB.out))⟩, ⟨(by repeat (first | exact HA.out | apply Alk.drewN | apply Alk.drew))⟩⟩
  case round =>
    clear HB HA
    obtain ⟨i, HI, rfl, rfl, HB, HA⟩ := hrel
    by_cases hlt : i < n
    · have hltb : decide ((i : Int) < (n : Int)) = true := decide_eq_true (by omega)
      have p0 : (0 ≤ (i : Int)) = True := eq_true (by omega)
      have q0 : ((i : Int) < (n : Int)) = True := eq_true (by omega)
      obtain ⟨g, hA, hg, hc⟩ := HR.out.resolve_left (by omega)
      subst hA
      have HG := Aside0.mk hg
      have HT := Aside0.mk (hc i hlt)
      clear hg hc
      have HI2 := Aside0.mk (show i ≤ 1048576 by have := HN.out; omega)
      obtain ⟨x, hx, hf⟩ := HT.out.alk HA.out
      have HX := Aside0.mk hx
      have HW := Aside0.mk (show wrap64 (a1 + (i : Int) + 1) = a1 + ((i + 1 : Nat) : Int) by have := HN.out; have := HI2.out; unfold wrap64; omega)
      have HW2 := Aside0.mk (show wrap64 ((i : Int) + 1) = ((i + 1 : Nat) : Int) by have := HI2.out; unfold wrap64; omega)
      go_wp2_with (first | ((with_reducible refine gate_store (t := 5) (p := 16) rfl ?_); refine store_event (t := 5) (p := 16) (v := ?vo16) (w1 := (wr.setCell ⟨g, i, none⟩ (.int .u8 ((a1 + (i : Int)) % 256)))) ?hg16 ?ho16 ?hn16 ?hr16 ?_; (case ho16 => rfl); (case hg16 => rfl); (case hn16 => rfl); (case hr16 => first | (go_simp; done) | (go_simp; rfl)); intro ws_ hw_; (have n0_ := Aside0.mk (show Below w0.heap.size w0 ws_ by (rw [hw_]; exact below_set (by repeat (first | (with_reducible first | exact HB.out | apply below_alloc | apply pw_below_drewN | apply below_drew1) | exact HB.out)) (HS.out g HG.out))); have n1_ := Aside0.mk (show Alk S w ws_ by (rw [hw_]; exact Alk.set (by repeat (first | exact HA.out | apply Alk.drewN | apply Alk.drew)) HG.out HX.out ⟨_, rfl⟩)); clear HB HA; have HB := n0_; have HA := n1_; clear n0_ n1_ hw_ HX hx hf)))
      go_roundg (n - (i + 1))
      case measure => have := HI.out; omega
      case rel => exact ⟨i + 1, ⟨by omega, by omega⟩, by first | rw [HW.out] | (simp only [HW.out]), by first | rw [HW2.out] | (simp only [HW2.out]), ⟨(by repeat (first | (with_reducible first | exact HB.out | apply below_alloc | apply pw_below_drewN | apply below_drew1) | exact HB.out))⟩, ⟨(by repeat (first | exact HA.out | apply Alk.drewN | apply Alk.drew))⟩⟩
    · have hltb : decide ((i : Int) < (n : Int)) = false := decide_eq_false (by omega)
      have hi : i = n := by have := HI.out; omega
      subst hi
      go_wp2
      go_ret
      exact ⟨rfl, (by repeat (first | exact HA.out | apply Alk.drewN | apply Alk.drew)), (by repeat (first | (with_reducible first | exact HB.out | apply below_alloc | apply pw_below_drewN | apply below_drew1) | exact HB.out))⟩
set_option maxHeartbeats 4000000 in
set_option maxRecDepth 100000 in
theorem mark_strings (S : Nat → Prop) (k : Nat) (hT : ∀ a : Int, 0 ≤ a → a ≤ 9000000000000 → ∃ s, laws_markText.f k a = some s) (A : Option Addr) (n c : Nat) (a1 : Int) (w0 w : World) (hB : Below w0.heap.size w0 w) (hS : ∀ k, S k → w0.heap.size ≤ k) (hr : RowS S w A n) (hb : 0 ≤ a1 ∧ a1 ≤ 4000000000000 ∧ n ≤ 1048576) :
    Calls Try.prog 35 #[.slice A n c, .int .i64 a1] w fun e w' => e = .returned (.int .i64 (a1 + (n : Int))) ∧ Alk S w w' ∧ Below w0.heap.size w0 w' := by
  have HB := Aside0.mk hB
  have HA := Aside0.mk (Alk.refl S w)
  have HS := Aside0.mk hS
  have HR := Aside0.mk hr
  have HN := Aside0.mk hb
  clear hB hS hr hb
  have HTX := Aside0.mk hT
  clear hT
  go_enter Try.func35, Try.ntmps35
  go_wp2
  go_loopg [1, 5] n (fun gg v1 v5 w' => ∃ i : Nat, Aside0 (i ≤ n ∧ n - i ≤ gg) ∧ v1 = .int .i64 (a1 + (i : Int)) ∧ v5 = .int .i64 (i : Int) ∧ Aside0 (Below w0.heap.size w0 w') ∧ Aside0 (Alk S w w'))
  case atStart => exact ⟨0, ⟨Nat.zero_le _, Nat.le_refl _⟩, by simp, rfl, ⟨(by repeat (first | (with_reducible first | exact HB.out | apply below_alloc | apply pw_below_drewN | apply below_drew1) | exact HB.out))⟩, ⟨(by repeat (first | exact HA.out | apply Alk.drewN | apply Alk.drew))⟩⟩
  case round =>
    clear HB HA
    obtain ⟨i, HI, rfl, rfl, HB, HA⟩ := hrel
    by_cases hlt : i < n
    · have hltb : decide ((i : Int) < (n : Int)) = true := decide_eq_true (by omega)
      have p0 : (0 ≤ (i : Int)) = True := eq_true (by omega)
      have q0 : ((i : Int) < (n : Int)) = True := eq_true (by omega)
      obtain ⟨g, hA, hg, hc⟩ := HR.out.resolve_left (by omega)
      subst hA
      have HG := Aside0.mk hg
      have HT := Aside0.mk (hc i hlt)
      clear hg hc
      have HI2 := Aside0.mk (show i ≤ 1048576 by have := HN.out; omega)
      obtain ⟨x, hx, hf⟩ := HT.out.alk HA.out
      have HW := Aside0.mk (show wrap64 (a1 + (i : Int) + 1) = a1 + ((i + 1 : Nat) : Int) by have := HN.out; have := HI2.out; unfold wrap64; omega)
      have HW2 := Aside0.mk (show wrap64 ((i : Int) + 1) = ((i + 1 : Nat) : Int) by have := HI2.out; unfold wrap64; omega)
      go_wp2_with (first | (go_at_call 74; obtain ⟨ts_, hts_⟩ := HTX.out (a1 + (i : Int)) (by have := HN.out; omega) (by have := HN.out; have := HI2.out; omega); (with_reducible refine (laws_markText.calls k _ ts_ _ hts_).mono ?_); rintro e wk_ ⟨rfl, hb_⟩; have n0_ := Aside0.mk (below_step (by repeat (first | (with_reducible first | exact HB.out | apply below_alloc | apply pw_below_drewN | apply below_drew1) | exact HB.out)) hb_); have n1_ := Aside0.mk (Alk.below (by repeat (first | exact HA.out | apply Alk.drewN | apply Alk.drew)) hb_); clear HB HA; have HB := n0_; have HA := n1_; clear n0_ n1_ hb_ hx hf; obtain ⟨x2, hx, hf⟩ := HT.out.alk HA.out; have HX := Aside0.mk hx) | ((with_reducible refine gate_store (t := 9) (p := 16) rfl ?_); refine store_event (t := 9) (p := 16) (v := ?vo16) (w1 := (wk_.setCell ⟨g, i, none⟩ (.string ts_))) ?hg16 ?ho16 ?hn16 ?hr16 ?_; (case ho16 => rfl); (case hg16 => rfl); (case hn16 => rfl); (case hr16 => first | (go_simp; done) | (go_simp; rfl)); intro ws_ hw_; (have n0_ := Aside0.mk (show Below w0.heap.size w0 ws_ by (rw [hw_]; exact below_set (by repeat (first | (with_reducible first | exact HB.out | apply below_alloc | apply pw_below_drewN | apply below_drew1) | exact HB.out)) (HS.out g HG.out))); have n1_ := Aside0.mk (show Alk S w ws_ by (rw [hw_]; exact Alk.set (by repeat (first | exact HA.out | apply Alk.drewN | apply Alk.drew)) HG.out HX.out ⟨_, rfl⟩)); clear HB HA; have HB := n0_; have HA := n1_; clear n0_ n1_ hw_ HX hx hf)))
      go_roundg (n - (i + 1))
      case measure => have := HI.out; omega
      case rel => exact ⟨i + 1, ⟨by omega, by omega⟩, by first | rw [HW.out] | (simp only [HW.out]), by first | rw [HW2.out] | (simp only [HW2.out]), ⟨(by repeat (first | (with_reducible first | exact HB.out | apply below_alloc | apply pw_below_drewN | apply below_drew1) | exact HB.out))⟩, ⟨(by repeat (first | exact HA.out | apply Alk.drewN | apply Alk.drew))⟩⟩
    · have hltb : decide ((i : Int) < (n : Int)) = false := decide_eq_false (by omega)
      have hi : i = n := by have := HI.out; omega
      subst hi
      go_wp2
      go_ret
      exact ⟨rfl, (by repeat (first | exact HA.out | apply Alk.drewN | apply Alk.drew)), (by repeat (first | (with_reducible first | exact HB.out | apply below_alloc | apply pw_below_drewN | apply below_drew1) | exact HB.out))⟩
set_option maxHeartbeats 4000000 in
set_option maxRecDepth 100000 in
theorem mark_assets (S : Nat → Prop) (k : Nat) (hT : ∀ a : Int, 0 ≤ a → a ≤ 9000000000000 → ∃ s, laws_markText.f k a = some s) (A : Option Addr) (n c : Nat) (a1 : Int) (w0 w : World) (hB : Below w0.heap.size w0 w) (hS : ∀ k, S k → w0.heap.size ≤ k) (hr : RowA S w A n) (hb : 0 ≤ a1 ∧ a1 ≤ 4000000000000 ∧ n ≤ 1048576) :
    Calls Try.prog 34 #[.slice A n c, .int .i64 a1] w fun e w' => e = .returned (.int .i64 (a1 + 3 * (n : Int))) ∧ Alk S w w' ∧ Below w0.heap.size w0 w' := by
  have HB := Aside0.mk hB
  have HA := Aside0.mk (Alk.refl S w)
  have HS := Aside0.mk hS
  have HR := Aside0.mk hr
  have HN := Aside0.mk hb
  clear hB hS hr hb
  have HTX := Aside0.mk hT
  clear hT
  go_enter Try.func34, Try.ntmps34
  go_wp2
  go_loopg [1, 5] n (fun gg v1 v5 w' => ∃ i : Nat, Aside0 (i ≤ n ∧ n - i ≤ gg) ∧ v1 = .int .i64 (a1 + 3 * (i : Int)) ∧ v5 = .int .i64 (i : Int) ∧ Aside0 (Below w0.heap.size w0 w') ∧ Aside0 (Alk S w w'))
  case atStart => exact ⟨0, ⟨Nat.zero_le _, Nat.le_refl _⟩, by simp, rfl, ⟨(by repeat (first | (with_reducible first | exact HB.out | apply below_alloc | apply pw_below_drewN | apply below_drew1) | exact HB.out))⟩, ⟨(by repeat (first | exact HA.out | apply Alk.drewN | apply Alk.drew))⟩⟩
  case round =>
    clear HB HA
    obtain ⟨i, HI, rfl, rfl, HB, HA⟩ := hrel
    by_cases hlt : i < n
    · have hltb : decide ((i : Int) < (n : Int)) = true := decide_eq_true (by omega)
      have p0 : (0 ≤ (i : Int)) = True := eq_true (by omega)
      have q0 : ((i : Int) < (n : Int)) = True := eq_true (by omega)
      obtain ⟨g, hA, hg, hc⟩ := HR.out.resolve_left (by omega)
      subst hA
      have HG := Aside0.mk hg
      have HT := Aside0.mk (hc i hlt)
      clear hg hc
      have HI2 := Aside0.mk (show i ≤ 1048576 by have := HN.out; omega)
      obtain ⟨s, x, y, e0, e1, e2, f0, f1, f2⟩ := HT.out.alk HA.out
      have HW := Aside0.mk (show wrap64 (wrap64 (wrap64 (a1 + 3 * (i : Int) + 1) + 1) + 1) = a1 + 3 * ((i + 1 : Nat) : Int) by have := HN.out; have := HI2.out; unfold wrap64; omega)
      have HW2 := Aside0.mk (show wrap64 ((i : Int) + 1) = ((i + 1 : Nat) : Int) by have := HI2.out; unfold wrap64; omega)
      go_wp2_with (first | (go_at_call 74; obtain ⟨ts_, hts_⟩ := HTX.out (a1 + 3 * (i : Int)) (by have := HN.out; omega) (by have := HN.out; have := HI2.out; omega); (with_reducible refine (laws_markText.calls k _ ts_ _ hts_).mono ?_); rintro e wk_ ⟨rfl, hb_⟩; have n0_ := Aside0.mk (below_step (by repeat (first | (with_reducible first | exact HB.out | apply below_alloc | apply pw_below_drewN | apply below_drew1) | exact HB.out)) hb_); have n1_ := Aside0.mk (Alk.below (by repeat (first | exact HA.out | apply Alk.drewN | apply Alk.drew)) hb_); clear HB HA; have HB := n0_; have HA := n1_; clear n0_ n1_ hb_  e0 e1 e2 f0 f1 f2; obtain ⟨s1, x1, y1, e0, e1, e2, f0, f1, f2⟩ := HT.out.alk HA.out; have HE0 := Aside0.mk e0) | ((with_reducible refine gate_store (t := 9) (p := 17) rfl ?_); refine store_event (t := 9) (p := 17) (v := ?vo17) (w1 := (wk_.setCell ⟨g, i * 3, none⟩ (.string ts_))) ?hg17 ?ho17 ?hn17 ?hr17 ?_; (case ho17 => rfl); (case hg17 => rfl); (case hn17 => rfl); (case hr17 => first | (go_simp; done) | (go_simp; rfl)); intro ws_ hw_; (have n0_ := Aside0.mk (show Below w0.heap.size w0 ws_ by (rw [hw_]; exact below_set (by repeat (first | (with_reducible first | exact HB.out | apply below_alloc | apply pw_below_drewN | apply below_drew1) | exact HB.out)) (HS.out g HG.out))); have n1_ := Aside0.mk (show Alk S w ws_ by (rw [hw_]; exact Alk.set (by repeat (first | exact HA.out | apply Alk.drewN | apply Alk.drew)) HG.out HE0.out ⟨_, rfl⟩)); clear HB HA; have HB := n0_; have HA := n1_; clear n0_ n1_ hw_ e0 e1 e2 f0 f1 f2); obtain ⟨s2, x2, y2, e0, e1, e2, f0, f1, f2⟩ := HT.out.alk HA.out; have HE1 := Aside0.mk e1) | ((with_reducible refine gate_store (t := 2) (p := 24) rfl ?_); refine store_event (t := 2) (p := 24) (v := ?vo24) (w1 := (ws_.setCell ⟨g, i * 3 + 1, none⟩ (.int .i64 (wrap64 (a1 + 3 * (i : Int) + 1))))) ?hg24 ?ho24 ?hn24 ?hr24 ?_; (case ho24 => rfl); (case hg24 => rfl); (case hn24 => rfl); (case hr24 => first | (go_simp; done) | (go_simp; rfl)); intro ws_ hw_; (have n0_ := Aside0.mk (show Below w0.heap.size w0 ws_ by (rw [hw_]; exact below_set (by repeat (first | (with_reducible first | exact HB.out | apply below_alloc | apply pw_below_drewN | apply below_drew1) | exact HB.out)) (HS.out g HG.out))); have n1_ := Aside0.mk (show Alk S w ws_ by (rw [hw_]; exact Alk.set (by repeat (first | exact HA.out | apply Alk.drewN | apply Alk.drew)) HG.out HE1.out ⟨_, rfl⟩)); clear HB HA; have HB := n0_; have HA := n1_; clear n0_ n1_ hw_ e0 e1 e2 f0 f1 f2); obtain ⟨s3, x3, y3, e0, e1, e2, f0, f1, f2⟩ := HT.out.alk HA.out; have HE2 := Aside0.mk e2) | ((with_reducible refine gate_store (t := 2) (p := 31) rfl ?_); refine store_event (t := 2) (p := 31) (v := ?vo31) (w1 := (ws_.setCell ⟨g, i * 3 + 2, none⟩ (.int .i64 (wrap64 (wrap64 (a1 + 3 * (i : Int) + 1) + 1))))) ?hg31 ?ho31 ?hn31 ?hr31 ?_; (case ho31 => rfl); (case hg31 => rfl); (case hn31 => rfl); (case hr31 => first | (go_simp; done) | (go_simp; rfl)); intro ws_ hw_; (have n0_ := Aside0.mk (show Below w0.heap.size w0 ws_ by (rw [hw_]; exact below_set (by repeat (first | (with_reducible first | exact HB.out | apply below_alloc | apply pw_below_drewN | apply below_drew1) | exact HB.out)) (HS.out g HG.out))); have n1_ := Aside0.mk (show Alk S w ws_ by (rw [hw_]; exact Alk.set (by repeat (first | exact HA.out | apply Alk.drewN | apply Alk.drew)) HG.out HE2.out ⟨_, rfl⟩)); clear HB HA; have HB := n0_; have HA := n1_; clear n0_ n1_ hw_ e0 e1 e2 f0 f1 f2)))
      go_roundg (n - (i + 1))
      case measure => have := HI.out; omega
      case rel => exact ⟨i + 1, ⟨by omega, by omega⟩, by first | rw [HW.out] | (simp only [HW.out]), by first | rw [HW2.out] | (simp only [HW2.out]), ⟨(by repeat (first | (with_reducible first | exact HB.out | apply below_alloc | apply pw_below_drewN | apply below_drew1) | exact HB.out))⟩, ⟨(by repeat (first | exact HA.out | apply Alk.drewN | apply Alk.drew))⟩⟩
    · have hltb : decide ((i : Int) < (n : Int)) = false := decide_eq_false (by omega)
      have hi : i = n := by have := HI.out; omega
      subst hi
      go_wp2
      go_ret
      exact ⟨rfl, (by repeat (first | exact HA.out | apply Alk.drewN | apply Alk.drew)), (by repeat (first | (with_reducible first | exact HB.out | apply below_alloc | apply pw_below_drewN | apply below_drew1) | exact HB.out))⟩
set_option maxHeartbeats 4000000 in
set_option maxRecDepth 100000 in
theorem mark_rows (S : Nat → Prop) (A : Option Addr) (n c : Nat) (a1 : Int) (w0 w : World) (hB : Below w0.heap.size w0 w) (hS : ∀ k, S k → w0.heap.size ≤ k) (hr : RowR S w A n) (hb : 0 ≤ a1 ∧ a1 ≤ 8388608 ∧ n ≤ 1048576) :
    Calls Try.prog 46 #[.slice A n c, .int .i64 a1] w fun e w' => (∃ r : Int, e = .returned (.int .i64 r) ∧ 0 ≤ r) ∧ Alk S w w' ∧ Below w0.heap.size w0 w' := by
  have HB := Aside0.mk hB
  have HA := Aside0.mk (Alk.refl S w)
  have HS := Aside0.mk hS
  have HR := Aside0.mk hr
  have HN := Aside0.mk hb
  clear hB hS hr hb
  go_enter Try.func46, Try.ntmps46
  go_wp2
  go_loopg [1, 5] n (fun gg v1 v5 w' => ∃ (i : Nat) (r : Int), Aside0 (i ≤ n ∧ n - i ≤ gg) ∧ v1 = .int .i64 r ∧ Aside0 (0 ≤ r ∧ r ≤ a1 + (i : Int) * 1048576) ∧ v5 = .int .i64 (i : Int) ∧ Aside0 (Below w0.heap.size w0 w') ∧ Aside0 (Alk S w w'))
  case atStart => exact ⟨0, a1, ⟨Nat.zero_le _, Nat.le_refl _⟩, rfl, ⟨HN.out.1, by omega⟩, rfl, ⟨(by repeat (first | (with_reducible first | exact HB.out | apply below_alloc | apply pw_below_drewN | apply below_drew1) | exact HB.out))⟩, ⟨(by repeat (first | exact HA.out | apply Alk.drewN | apply Alk.drew))⟩⟩
  case round =>
    clear HB HA
    obtain ⟨i, r, HI, rfl, HV, rfl, HB, HA⟩ := hrel
    by_cases hlt : i < n
    · have hltb : decide ((i : Int) < (n : Int)) = true := decide_eq_true (by omega)
      have p0 : (0 ≤ (i : Int)) = True := eq_true (by omega)
      have q0 : ((i : Int) < (n : Int)) = True := eq_true (by omega)
      obtain ⟨g, hA, hg, hc⟩ := HR.out.resolve_left (by omega)
      subst hA
      have HG := Aside0.mk hg
      have HT := Aside0.mk (hc i hlt)
      clear hg hc
      have HI2 := Aside0.mk (show i ≤ 1048576 by have := HN.out; omega)
      obtain ⟨A2, n2, c2, e0, f0, h2, hr2⟩ := HT.out.alk HA.out
      have hv2 := Aside0.mk (show r ≤ 1099520016384 by have := HV.out; have := HN.out; have := HI.out; omega)
      have HW2 := Aside0.mk (show wrap64 ((i : Int) + 1) = ((i + 1 : Nat) : Int) by have := HI2.out; unfold wrap64; omega)
      go_wp2_with (first | (go_at_call 19; (with_reducible refine (mark_bytes S A2 n2 c2 r w0 _ ?s1 HS.out ?s2 ?s3).mono ?_); (case s1 => exact (by repeat (first | (with_reducible first | exact HB.out | apply below_alloc | apply pw_below_drewN | apply below_drew1) | exact HB.out))); (case s2 => exact hr2); (case s3 => exact ⟨HV.out.1, by have := hv2.out; omega, h2⟩); rintro e wk_ ⟨rfl, ha_, hb_⟩; have n0_ := Aside0.mk hb_; have n1_ := Aside0.mk (Alk.trans (show Alk S w _ from (by repeat (first | exact HA.out | apply Alk.drewN | apply Alk.drew))) ha_); have HW := Aside0.mk h2; clear HB HA; have HB := n0_; have HA := n1_; clear n0_ n1_ ha_ hb_ e0 f0 h2 hr2))
      go_roundg (n - (i + 1))
      case measure => have := HI.out; omega
      case rel => exact ⟨i + 1, r + (n2 : Int), ⟨by omega, by omega⟩, rfl, ⟨by have := HV.out; omega, by have := HV.out; have := HW.out; omega⟩, by first | rw [HW2.out] | (simp only [HW2.out]), ⟨(by repeat (first | (with_reducible first | exact HB.out | apply below_alloc | apply pw_below_drewN | apply below_drew1) | exact HB.out))⟩, ⟨(by repeat (first | exact HA.out | apply Alk.drewN | apply Alk.drew))⟩⟩
    · have hltb : decide ((i : Int) < (n : Int)) = false := decide_eq_false (by omega)
      have hi : i = n := by have := HI.out; omega
      subst hi
      go_wp2
      go_ret
      exact ⟨⟨r, rfl, HV.out.1⟩, (by repeat (first | exact HA.out | apply Alk.drewN | apply Alk.drew)), (by repeat (first | (with_reducible first | exact HB.out | apply below_alloc | apply pw_below_drewN | apply below_drew1) | exact HB.out))⟩


/-! ### impl_stepped: function 54 -/
def impl_stepped.f (a0 : Int) (a1 : Int) : Option (Int) := some (Int.tmod (wrap64 ((wrap64 ((wrap64 (a0 * 257)) + a1)) + 1)) 1000000007)
set_option maxHeartbeats 8000000 in
set_option maxRecDepth 100000 in
theorem impl_stepped.calls (a0 : Int) (a1 : Int) (r : Int) (w : World) (h : impl_stepped.f a0 a1 = some r) :
    Calls Try.prog 54 #[.int .i64 a0, .int .i64 a1] w fun e w' => e = .returned (.int .i64 r) ∧ Drawn0 w w' := by
  have H : (some (Int.tmod (wrap64 ((wrap64 ((wrap64 (a0 * 257)) + a1)) + 1)) 1000000007)) = some r := h
  clear h
  obtain rfl := Option.some.inj H
  go_enter Try.func54, Try.ntmps54
  go_wp2
  go_ret
  exact ⟨by first | rfl | (simp; done) | (simp [*]; done), by repeat (first | exact Drawn0.refl _ | apply Drawn0.step)⟩

/-! ### impl_Digest: function 15 -/
def impl_Digest.l0 : Nat → Int → List Int → Int → Int → Option (Int)
  | 0, _, _, _, _ => none
  | k + 1, x3, x10, x11, x12 => if x12 < x11 then (if 0 ≤ x12 then (if x12 < (x10.length : Int) then ((impl_stepped.f x3 (wrap64 (rd x10 x12))).bind fun t143 => (impl_Digest.l0 k t143 x10 x11 (wrap64 (x12 + 1)))) else (none)) else (none)) else (some x3)
def impl_Digest.f (k : Nat) (l0 : List Int) : Option (Int) := if 0 ≤ (mn (l0.length : Int) 40000) then (if (mn (l0.length : Int) 40000) ≤ (l0.length : Int) then (impl_Digest.l0 k 0 (l0.take ((mn (l0.length : Int) 40000) : Int).toNat) ((l0.take ((mn (l0.length : Int) 40000) : Int).toNat).length : Int) 0) else (none)) else (none)
theorem impl_Digest.mono_l : ∀ k, (∀ y0 y1 y2 y3, LeO (impl_Digest.l0 k y0 y1 y2 y3) (impl_Digest.l0 (k + 1) y0 y1 y2 y3))
  | 0 => fun _ _ _ _ r h => by simp [impl_Digest.l0] at h
  | k + 1 => by
    have ih0 := impl_Digest.mono_l k
    · intro y0 y1 y2 y3
      unfold impl_Digest.l0
      repeat' first
      | (with_reducible exact ih0 _ _ _ _)
      | (with_reducible exact LeO.refl _)
      | (with_reducible exact LeO.none _)
      | (with_reducible refine LeO.ite ?_ ?_)
      | (with_reducible refine LeO.bind ?_ (fun _ => ?_))
      | exact ih0 _ _ _ _
      | exact LeO.none _
      | refine LeO.ite ?_ ?_
      | refine LeO.bind ?_ (fun _ => ?_)
theorem impl_Digest.mono : ∀ a0 k, LeO (impl_Digest.f k a0) (impl_Digest.f (k + 1) a0) := by
  intro a0 k
  have ih0 := impl_Digest.mono_l k
  unfold impl_Digest.f
  repeat' first
      | (with_reducible exact ih0 _ _ _ _)
      | (with_reducible exact LeO.refl _)
      | (with_reducible exact LeO.none _)
      | (with_reducible refine LeO.ite ?_ ?_)
      | (with_reducible refine LeO.bind ?_ (fun _ => ?_))
      | exact ih0 _ _ _ _
      | exact LeO.none _
      | refine LeO.ite ?_ ?_
      | refine LeO.bind ?_ (fun _ => ?_)
set_option maxHeartbeats 8000000 in
set_option maxRecDepth 100000 in
theorem impl_Digest.calls (k : Nat) (A0 : Option Addr) (c0 : Nat) (l0 : List Int) (r : Int) (w : World) (hr0 : Kd.C (Kd.int .u8) w A0 l0.length l0) (hc0 : l0.length ≤ c0) (h : impl_Digest.f k l0 = some r) :
    Calls Try.prog 15 #[.slice A0 l0.length c0] w fun e w' => e = .returned (.int .i64 r) ∧ Below w.heap.size w w' := by
  have HR0 := Aside0.mk hr0
  have HC0 := Aside0.mk hc0
  clear hr0 hc0
  have HB := Aside0.mk (Below.refl w.heap.size w)
  have H : (if 0 ≤ (mn (l0.length : Int) 40000) then (if (mn (l0.length : Int) 40000) ≤ (l0.length : Int) then (impl_Digest.l0 k 0 (l0.take ((mn (l0.length : Int) 40000) : Int).toNat) ((l0.take ((mn (l0.length : Int) 40000) : Int).toNat).length : Int) 0) else (none)) else (none)) = some r := h
  clear h
  obtain ⟨ji2, hji2⟩ : ∃ j_ : Int, (mn (l0.length : Int) 40000) = j_ := ⟨_, rfl⟩
  replace H : (if 0 ≤ (ji2) then (if (ji2) ≤ (l0.length : Int) then (impl_Digest.l0 k 0 (l0.take ((ji2) : Int).toNat) ((l0.take ((ji2) : Int).toNat).length : Int) 0) else (none)) else (none)) = some r := by first | (rw [hji2] at H; exact H) | (simp only [hji2] at H ⊢; exact H)
  (try (have hji2h : ji2 ≤ 40000 := by (rw [← hji2]; unfold mn; (repeat' split) <;> omega)))
  (try (have hji2g : ji2 ≤ 64 := by omega))
  (try (have hji2l : 0 ≤ ji2 := by (rw [← hji2]; unfold mn; (repeat' split) <;> omega)))
  (try (have hji2m : 0 ≤ ji2 := by omega))
  have hji2_ : (if 40000 < (l0.length : Int) then 40000 else (l0.length : Int)) = ji2 := hji2
  by_cases c3 : 0 ≤ (ji2)
  · rw [if_pos c3] at H
    have c3b0 := eq_true c3
    have c3b1 : decide (0 ≤ (ji2)) = true := decide_eq_true c3
    clear c3
    by_cases c4 : (ji2) ≤ (l0.length : Int)
    · rw [if_pos c4] at H
      have c4b0 := eq_true c4
      have c4b1 : decide ((ji2) ≤ (l0.length : Int)) = true := decide_eq_true c4
      clear c4
      have H' := Aside0.mk H
      clear H
      obtain ⟨i05, hi05, _, hsz5, _⟩ := info_parts info5
      obtain ⟨hcut5, hA5, hC5⟩ := print_take_of (P := Try.prog) (Value.int .u8) 0 22 5 .i64 Try.underlying22 hi05 hsz5 A0 c0 l0 (ji2) (of_decide_eq_true (by first | (with_reducible assumption) | assumption)) (of_decide_eq_true (by first | (with_reducible assumption) | assumption)) HC0.out
      have HR141 := Aside0.mk (Kd.C_of_reads (h1 := fun _ => rfl) (hA5 _ (Kd.reads_of_C HR0.out)))
      have HC141 := Aside0.mk hC5
      clear hA5 hC5 hi05 hsz5
      obtain ⟨ys, hys⟩ : ∃ ys, l0.take ((ji2) : Int).toNat = ys := ⟨_, rfl⟩
      rw [hys] at H' hcut5 HR141 HC141
      clear hys
      go_enter Try.func15, Try.ntmps15
      go_wp2
      go_loopg [3, 12] k (fun kq v3 v12 w' => ∃ (x3_1 : Int) (x12_1 : Int), v3 = .int .i64 x3_1 ∧ v12 = .int .i64 x12_1 ∧ Aside0 (impl_Digest.l0 kq x3_1 ys (ys.length : Int) x12_1 = some r) ∧ Aside0 (kq ≤ k) ∧ Aside0 (Below w.heap.size w w'))
      case atStart => exact ⟨(0), (0), (by first | rfl | (simp; done) | (simp [*]; done)), (by first | rfl | (simp; done) | (simp [*]; done)), H', ⟨Nat.le_refl _⟩, ⟨by repeat (first | (with_reducible first | exact HB.out | apply below_alloc | apply pw_below_drewN | apply below_drew1) | exact HB.out)⟩⟩
      case round =>
        clear H'
        try clear c1
        try clear p2
        try clear c3
        try clear c3b0
        try clear c3b1
        try clear c4
        try clear c4b0
        try clear c4b1
        obtain ⟨x3_1, x12_1, rfl, rfl, HA, HK1, HB⟩ := hrel
        cases gk with
        | zero => exact absurd HA.out (by simp [impl_Digest.l0])
        | succ k1 =>
          have H := HA.out
          clear HA
          simp only [impl_Digest.l0] at H
          by_cases c6 : x12_1 < (ys.length : Int)
          · rw [if_pos c6] at H
            have c6b0 : decide (x12_1 < (ys.length : Int)) = true := decide_eq_true c6
            clear c6
            by_cases c7 : 0 ≤ x12_1
            · rw [if_pos c7] at H
              have c7b0 : decide (0 ≤ x12_1) = true := decide_eq_true c7
              clear c7
              by_cases c8 : x12_1 < (ys.length : Int)
              · rw [if_pos c8] at H
                have c8b0 : decide (x12_1 < (ys.length : Int)) = true := decide_eq_true c8
                clear c8
                replace H := Option.bind_eq_some_iff.mp H
                obtain ⟨t143, A90, H⟩ := H
                replace H : (impl_Digest.l0 k1 t143 ys (ys.length : Int) (wrap64 (x12_1 + 1))) = some r := H
                have A9 := Aside0.mk A90
                clear A90
                have H' := Aside0.mk H
                clear H
                have p142 : 0 ≤ (x12_1 : Int) := of_decide_eq_true (by first | (with_reducible assumption) | assumption)
                have q142 : x12_1 < (ys.length : Int) := of_decide_eq_true (by first | (with_reducible assumption) | assumption)
                obtain ⟨ad142, e142, hx142_0⟩ := Kd.at_int HR141.out x12_1 p142 q142
                cases e142
                replace hx142_0 := (HB.out.cell (World.block_lt_of_cell? w _ hx142_0)).trans hx142_0
                replace p142 := eq_true p142
                replace q142 := eq_true q142
                go_wp2_with (first | ((with_reducible refine gate_callee (f := 54) rfl ?_); refine goesL_ (some 19) rfl rfl Try.func54 (by kernel_rfl) rfl #[.int .i64 x3_1, .int .i64 (wrap64 (rd ys x12_1))] rfl (by (try simp only [List.map_toArray, List.map_cons, List.map_nil]); first | done | (simp only [hji2]; rfl) | rfl | (simp only [List.length_drop, List.length_take]; rfl)) ?_; (with_reducible refine (impl_stepped.calls x3_1 (wrap64 (rd ys x12_1)) t143 _ A9.out).mono ?_); rintro e w' ⟨rfl, ⟨nd, rfl⟩⟩; refine ⟨_, rfl, ?_⟩))
                go_roundg k1
                case measure => have := HK1.out; omega
                case rel => exact ⟨(t143), (wrap64 (x12_1 + 1)), (by first | rfl | (simp; done) | (simp [*]; done)), (by first | rfl | (simp; done) | (simp [*]; done)), H', ⟨by have := HK1.out; omega⟩, ⟨by repeat (first | (with_reducible first | exact HB.out | apply below_alloc | apply pw_below_drewN | apply below_drew1) | exact HB.out)⟩⟩
              · rw [if_neg c8] at H
                exact absurd H (by simp)
            · rw [if_neg c7] at H
              exact absurd H (by simp)
          · rw [if_neg c6] at H
            have c6b0 : decide (x12_1 < (ys.length : Int)) = false := decide_eq_false c6
            clear c6
            obtain rfl := Option.some.inj H
            go_wp2
            go_ret
            exact ⟨by first | rfl | (simp [errW_none, errW_some] <;> rfl) | (simp only [← hji2]; first | rfl | (simp [errW_none, errW_some] <;> rfl)) | (simp [*, errW_none, errW_some] <;> rfl), by repeat (first | (with_reducible first | exact HB.out | apply below_alloc | apply pw_below_drewN | apply below_drew1) | exact HB.out)⟩
    · rw [if_neg c4] at H
      exact absurd H (by simp)
  · rw [if_neg c3] at H
    exact absurd H (by simp)

/-! ### impl_in: function 56 -/
def impl_in.f (a0 : Int) (a1 : Int) (a2 : Int) : Option (Bool) := if a1 ≤ a0 then (some (decide (a0 ≤ a2))) else (some false)
set_option maxHeartbeats 8000000 in
set_option maxRecDepth 100000 in
theorem impl_in.calls (a0 : Int) (a1 : Int) (a2 : Int) (r : Bool) (w : World) (h : impl_in.f a0 a1 a2 = some r) :
    Calls Try.prog 56 #[.int .i64 a0, .int .i64 a1, .int .i64 a2] w fun e w' => e = .returned (.bool r) ∧ Drawn0 w w' := by
  have H : (if a1 ≤ a0 then (some (decide (a0 ≤ a2))) else (some false)) = some r := h
  clear h
  by_cases c4 : a1 ≤ a0
  · rw [if_pos c4] at H
    have c4b0 : decide (a1 ≤ a0) = true := decide_eq_true c4
    clear c4
    obtain rfl := Option.some.inj H
    go_enter Try.func56, Try.ntmps56
    go_wp2
    go_ret
    exact ⟨by first | rfl | (simp; done) | (simp [*]; done), by repeat (first | exact Drawn0.refl _ | apply Drawn0.step)⟩
  · rw [if_neg c4] at H
    have c4b0 : decide (a1 ≤ a0) = false := decide_eq_false c4
    clear c4
    obtain rfl := Option.some.inj H
    go_enter Try.func56, Try.ntmps56
    go_wp2
    go_ret
    exact ⟨by first | rfl | (simp; done) | (simp [*]; done), by repeat (first | exact Drawn0.refl _ | apply Drawn0.step)⟩

/-! ### impl_isLetter: function 83 -/
def impl_isLetter.f (a0 : Int) : Option (Bool) := if 97 ≤ a0 then (if a0 ≤ 122 then (some true) else (if 65 ≤ a0 then (some (decide (a0 ≤ 90))) else (some false))) else (if 65 ≤ a0 then (some (decide (a0 ≤ 90))) else (some false))
set_option maxHeartbeats 8000000 in
set_option maxRecDepth 100000 in
theorem impl_isLetter.calls (a0 : Int) (r : Bool) (w : World) (h : impl_isLetter.f a0 = some r) :
    Calls Try.prog 83 #[.int .u8 a0] w fun e w' => e = .returned (.bool r) ∧ Drawn0 w w' := by
  have H : (if 97 ≤ a0 then (if a0 ≤ 122 then (some true) else (if 65 ≤ a0 then (some (decide (a0 ≤ 90))) else (some false))) else (if 65 ≤ a0 then (some (decide (a0 ≤ 90))) else (some false))) = some r := h
  clear h
  by_cases c2 : 97 ≤ a0
  · rw [if_pos c2] at H
    have c2b0 : decide (97 ≤ a0) = true := decide_eq_true c2
    clear c2
    by_cases c3 : a0 ≤ 122
    · rw [if_pos c3] at H
      have c3b0 : decide (a0 ≤ 122) = true := decide_eq_true c3
      clear c3
      obtain rfl := Option.some.inj H
      go_enter Try.func83, Try.ntmps83
      go_wp2
      go_ret
      exact ⟨by first | rfl | (simp; done) | (simp [*]; done), by repeat (first | exact Drawn0.refl _ | apply Drawn0.step)⟩
    · rw [if_neg c3] at H
      have c3b0 : decide (a0 ≤ 122) = false := decide_eq_false c3
      clear c3
      by_cases c4 : 65 ≤ a0
      · rw [if_pos c4] at H
        have c4b0 : decide (65 ≤ a0) = true := decide_eq_true c4
        clear c4
        obtain rfl := Option.some.inj H
        go_enter Try.func83, Try.ntmps83
        go_wp2
        go_ret
        exact ⟨by first | rfl | (simp; done) | (simp [*]; done), by repeat (first | exact Drawn0.refl _ | apply Drawn0.step)⟩
      · rw [if_neg c4] at H
        have c4b0 : decide (65 ≤ a0) = false := decide_eq_false c4
        clear c4
        obtain rfl := Option.some.inj H
        go_enter Try.func83, Try.ntmps83
        go_wp2
        go_ret
        exact ⟨by first | rfl | (simp; done) | (simp [*]; done), by repeat (first | exact Drawn0.refl _ | apply Drawn0.step)⟩
  · rw [if_neg c2] at H
    have c2b0 : decide (97 ≤ a0) = false := decide_eq_false c2
    clear c2
    by_cases c5 : 65 ≤ a0
    · rw [if_pos c5] at H
      have c5b0 : decide (65 ≤ a0) = true := decide_eq_true c5
      clear c5
      obtain rfl := Option.some.inj H
      go_enter Try.func83, Try.ntmps83
      go_wp2
      go_ret
      exact ⟨by first | rfl | (simp; done) | (simp [*]; done), by repeat (first | exact Drawn0.refl _ | apply Drawn0.step)⟩
    · rw [if_neg c5] at H
      have c5b0 : decide (65 ≤ a0) = false := decide_eq_false c5
      clear c5
      obtain rfl := Option.some.inj H
      go_enter Try.func83, Try.ntmps83
      go_wp2
      go_ret
      exact ⟨by first | rfl | (simp; done) | (simp [*]; done), by repeat (first | exact Drawn0.refl _ | apply Drawn0.step)⟩

/-! ### impl_isDigit: function 84 -/
def impl_isDigit.f (a0 : Int) : Option (Bool) := if 48 ≤ a0 then (some (decide (a0 ≤ 57))) else (some false)
set_option maxHeartbeats 8000000 in
set_option maxRecDepth 100000 in
theorem impl_isDigit.calls (a0 : Int) (r : Bool) (w : World) (h : impl_isDigit.f a0 = some r) :
    Calls Try.prog 84 #[.int .u8 a0] w fun e w' => e = .returned (.bool r) ∧ Drawn0 w w' := by
  have H : (if 48 ≤ a0 then (some (decide (a0 ≤ 57))) else (some false)) = some r := h
  clear h
  by_cases c2 : 48 ≤ a0
  · rw [if_pos c2] at H
    have c2b0 : decide (48 ≤ a0) = true := decide_eq_true c2
    clear c2
    obtain rfl := Option.some.inj H
    go_enter Try.func84, Try.ntmps84
    go_wp2
    go_ret
    exact ⟨by first | rfl | (simp; done) | (simp [*]; done), by repeat (first | exact Drawn0.refl _ | apply Drawn0.step)⟩
  · rw [if_neg c2] at H
    have c2b0 : decide (48 ≤ a0) = false := decide_eq_false c2
    clear c2
    obtain rfl := Option.some.inj H
    go_enter Try.func84, Try.ntmps84
    go_wp2
    go_ret
    exact ⟨by first | rfl | (simp; done) | (simp [*]; done), by repeat (first | exact Drawn0.refl _ | apply Drawn0.step)⟩

end Go.Proofs.Ytelcpfanjjfgdaa.HFnExactPack
