-- Laid by myprint.py, a program of this repo, out of the kit's printer and this repo's own texts (wip/hand).
import Derived.Test.YtofiabjphjpglaaHFnLoudx0
namespace Go.Proofs.Ytofiabjphjpglaa.HFnLoud
open Go.RowKit Go.Proofs.YtofiabjphjpglaaW.PrintWords Go.Proofs.YtofiabjphjpglaaW.PrintLast Go.Proofs.YtofiabjphjpglaaW.PrintMore Go.Proofs.Ytofiabjphjpglaa.Fl
attribute [local go_sem] max2_int min2_int max_two min_two max_three min_three max_four min_four   -- for this text's walks alone
set_option linter.unusedVariables false
set_option linter.unusedSimpArgs false

/-! ### impl_Squares: function 22 -/


/-! ### spec_Loud: function 27 -/


/-! ### impl_Loud: function 28 -/


/-! ### laws_big: function 30 -/
def laws_big.f (l0 : List Int) : Option (Bool) := some (decide ((l0.length : Int) > 4096))
set_option maxHeartbeats 8000000 in
set_option maxRecDepth 100000 in
theorem laws_big.calls (A0 : Option Addr) (c0 : Nat) (l0 : List Int) (r : Bool) (w : World) (hr0 : Kd.C (Kd.int .u8) w A0 l0.length l0) (hc0 : l0.length ≤ c0) (h : laws_big.f l0 = some r) :
    Calls Try.prog 30 #[.slice A0 l0.length c0] w fun e w' => e = .returned (.bool r) ∧ Drawn0 w w' := by
  have HR0 := Aside0.mk hr0
  have HC0 := Aside0.mk hc0
  clear hr0 hc0
  have H : (some (decide ((l0.length : Int) > 4096))) = some r := h
  clear h
  obtain rfl := Option.some.inj H
  go_enter Try.func30, Try.ntmps30
  go_wp2
  go_ret
  exact ⟨by first | rfl | (simp; done) | (simp [*]; done), by repeat (first | exact Drawn0.refl _ | apply Drawn0.step)⟩

/-! ### laws_likeFloat: function 32 -/
set_option maxHeartbeats 4000000 in
set_option maxRecDepth 100000 in
theorem laws_likeFloat.calls (a0 a1 : Nat) (w : World) (h : Like a0 a1) :
    Calls Try.prog 32 #[.float .f64 a0, .float .f64 a1] w fun e w' => e = .returned (.bool true) ∧ Drawn0 w w' := by
  by_cases hn : isN a0 = true
  · have hn1 : isN a1 = true := h.1 ▸ hn
    have o0 : (FloatKind.f64.format.order a0 a0 != some Ordering.eq) = true := by rw [ord_none (by unfold cv; rw [if_pos hn])]; rfl
    have o1 : (FloatKind.f64.format.order a1 a1 != some Ordering.eq) = true := by rw [ord_none (by unfold cv; rw [if_pos hn1])]; rfl
    clear h hn hn1
    go_enter Try.func32, Try.ntmps32
    go_wp2
    go_ret
    exact ⟨by simp [o0, o1], by repeat (first | exact Drawn0.refl _ | apply Drawn0.step)⟩
  · have hn0 : isN a0 = false := by simpa using hn
    have hn1 : isN a1 = false := h.1 ▸ hn0
    have o0 : (FloatKind.f64.format.order a0 a0 != some Ordering.eq) = false := by rw [ord_like ⟨rfl, fun _ => rfl⟩ hn0]; rfl
    have o1 : (FloatKind.f64.format.order a1 a1 != some Ordering.eq) = false := by rw [ord_like ⟨rfl, fun _ => rfl⟩ hn1]; rfl
    have o2 : (FloatKind.f64.format.order a0 a1 == some Ordering.eq) = true := by rw [ord_like h hn0]; rfl
    have o3 : ∀ w1 w2, (FloatKind.f64.format.order (Fl.bits .quo w1 4607182418800017408 a0) (Fl.bits .quo w2 4607182418800017408 a1) == some Ordering.eq) = true := fun w1 w2 => by rw [quo_like h hn0 w1 w2]; rfl
    clear h hn hn0 hn1
    go_enter Try.func32, Try.ntmps32
    go_wp2
    go_ret
    exact ⟨by simp [o3], by repeat (first | exact Drawn0.refl _ | exact ⟨_, rfl⟩ | apply Drawn0.step)⟩


/-- A state of type 61 at block g of W; what its slices lead to came in by w0. -/
def IsS61 (w0 W : World) (g : Nat) (f0 : List Int) (f1 : Int) (f2 : Int) : Prop := ∃ A0 c0, W.heap[g]? = some (.cells #[.slice A0 f0.length c0, .int .i64 f1, .int .i64 f2] 61 (0, 0)) ∧ w0.heap.size ≤ g ∧ Kd.C (Kd.int .u8) w0 A0 f0.length f0
theorem IsS61.grown {w0 W : World} {g : Nat} {f0 : List Int} {f1 : Int} {f2 : Int} {W1 : World} {row : Option Nat} (h : IsS61 w0 W g f0 f1 f2) (hw : W.grownBy W1 row) (hne : some g ≠ row) : IsS61 w0 W1 g f0 f1 f2 := by
  obtain ⟨A0, c0, hb, hg, hr0⟩ := h
  exact ⟨A0, c0, blk_grown hb hw hne, hg, hr0⟩
theorem IsS61.own_neN {w0 W : World} {g : Nat} {f0 : List Int} {f1 : Int} {f2 : Int} {α : Type} {d : Kd α} {e : Nat} {base : Nat} {ok : Nat → Prop} {v : Value} {xs : List α} (h : IsS61 w0 W g f0 f1 f2) (ho : Kd.N d e W base ok v xs) (ht : e ≠ 61) : some g ≠ v.ownBlock := by
  obtain ⟨A0, c0, hb, hg, hr0⟩ := h
  exact Kd.N_ne ho hb ht
theorem IsS61.fresh {w0 W : World} {g : Nat} {f0 : List Int} {f1 : Int} {f2 : Int} (h : IsS61 w0 W g f0 f1 f2) : ∀ k, W.heap.size ≤ k → k ≠ g := by
  obtain ⟨A0, c0, hb, hg, hr0⟩ := h
  exact Kd.freshB hb
theorem IsS61.kept {w0 W : World} {g : Nat} {f0 : List Int} {f1 : Int} {f2 : Int} {W1 : World} {S : Nat → Prop} (h : IsS61 w0 W g f0 f1 f2) (hk : Kept W W1 S) (hne : ¬ S g) : IsS61 w0 W1 g f0 f1 f2 := by
  obtain ⟨A0, c0, hb, hg, hr0⟩ := h
  exact ⟨A0, c0, blk_kept hb hk hne, hg, hr0⟩
theorem IsS61.below {w0 W : World} {g : Nat} {f0 : List Int} {f1 : Int} {f2 : Int} {W1 : World} (h : IsS61 w0 W g f0 f1 f2) (hw : Below W.heap.size W W1) : IsS61 w0 W1 g f0 f1 f2 := h.grown (grown_of_below hw none) (by simp)
theorem IsS61.alloc {w0 W : World} {g : Nat} {f0 : List Int} {f1 : Int} {f2 : Int} (h : IsS61 w0 W g f0 f1 f2) (o : Obj) : IsS61 w0 (W.alloc o) g f0 f1 f2 := h.below (below_alloc (Below.refl _ _) o)
theorem IsS61.drewN {w0 W : World} {g : Nat} {f0 : List Int} {f1 : Int} {f2 : Int} (h : IsS61 w0 W g f0 f1 f2) (m : Nat) : IsS61 w0 (W.drewN m) g f0 f1 f2 := h
theorem IsS61.drew {w0 W : World} {g : Nat} {f0 : List Int} {f1 : Int} {f2 : Int} (h : IsS61 w0 W g f0 f1 f2) : IsS61 w0 W.drew g f0 f1 f2 := h
theorem IsS61.at_ {w0 W : World} {g : Nat} {f0 : List Int} {f1 : Int} {f2 : Int} {w' : World} {m : Nat} (hq : W.drewN m = w') (h : IsS61 w0 W g f0 f1 f2) : IsS61 w0 w' g f0 f1 f2 := by subst hq; exact IsS61.drewN h m
theorem IsS61.apart {w0 W : World} {g : Nat} {f0 : List Int} {f1 : Int} {f2 : Int} {α : Type} {d : Kd α} {e : Nat} {base : Nat} {ok : Nat → Prop} {v : Value} {xs : List α} (h : IsS61 w0 W g f0 f1 f2) (ho : d.R e W base ok v xs) (ht : ∀ q, q ∈ e :: d.E → q ≠ 61) : d.R e W base (fun k => ok k ∧ k ≠ g) v xs := by
  obtain ⟨A0, c0, hb, hg, hr0⟩ := h
  exact Kd.R_types ho hb ht
theorem IsS61.own_ne {w0 W : World} {g : Nat} {f0 : List Int} {f1 : Int} {f2 : Int} {α : Type} {d : Kd α} {e : Nat} {base : Nat} {ok : Nat → Prop} {v : Value} {xs : List α} (h : IsS61 w0 W g f0 f1 f2) (ho : d.R e W base ok v xs) (ht : e ≠ 61) : some g ≠ v.ownBlock := by
  obtain ⟨A0, c0, hb, hg, hr0⟩ := h
  exact Kd.R_ne ho hb ht
theorem IsS61.apartQ {w0 W : World} {g : Nat} {f0 : List Int} {f1 : Int} {f2 : Int} {α : Type} {d : Kd α} {e : Nat} {base : Nat} {ok : Nat → Prop} {v : Value} {xs : List α} (h : IsS61 w0 W g f0 f1 f2) (ho : d.Q e W base ok v xs) (ht : ∀ q, q ∈ e :: d.E → q ≠ 61) : d.Q e W base (fun k => ok k ∧ k ≠ g) v xs := by
  obtain ⟨A0, c0, hb, hg, hr0⟩ := h
  exact Kd.Q_types ho hb ht
theorem IsS61.own_neQ {w0 W : World} {g : Nat} {f0 : List Int} {f1 : Int} {f2 : Int} {α : Type} {d : Kd α} {e : Nat} {base : Nat} {ok : Nat → Prop} {v : Value} {xs : List α} (h : IsS61 w0 W g f0 f1 f2) (ho : d.Q e W base ok v xs) (ht : e ≠ 61) : some g ≠ v.ownBlock := by
  obtain ⟨A0, c0, hb, hg, hr0⟩ := h
  exact Kd.Q_ne ho hb ht
theorem IsS61.apartS {w0 W : World} {g : Nat} {f0 : List Int} {f1 : Int} {f2 : Int} {α : Type} {d : Kd α} {e : Nat} {base : Nat} {ok : Nat → Prop} {v : Value} {xs : List α} (h : IsS61 w0 W g f0 f1 f2) (ho : d.S e W base ok v xs) (ht : ∀ q, q ∈ e :: d.E → q ≠ 61) : d.S e W base (fun k => ok k ∧ k ≠ g) v xs := by
  obtain ⟨A0, c0, hb, hg, hr0⟩ := h
  exact Kd.S_types ho hb ht
theorem IsS61.own_neS {w0 W : World} {g : Nat} {f0 : List Int} {f1 : Int} {f2 : Int} {α : Type} {d : Kd α} {e : Nat} {base : Nat} {ok : Nat → Prop} {v : Value} {xs : List α} (h : IsS61 w0 W g f0 f1 f2) (ho : d.S e W base ok v xs) (ht : e ≠ 61) : some g ≠ v.ownBlock := by
  obtain ⟨A0, c0, hb, hg, hr0⟩ := h
  exact Kd.S_ne ho hb ht
theorem IsS61.lt {w0 W : World} {g : Nat} {f0 : List Int} {f1 : Int} {f2 : Int} (h : IsS61 w0 W g f0 f1 f2) : g < W.heap.size := by
  obtain ⟨A0, c0, hb, hg, hr0⟩ := h
  exact blk_lt hb
theorem IsS61.ge {w0 W : World} {g : Nat} {f0 : List Int} {f1 : Int} {f2 : Int} (h : IsS61 w0 W g f0 f1 f2) : w0.heap.size ≤ g := by
  obtain ⟨A0, c0, hb, hg, hr0⟩ := h
  exact hg
theorem IsS61.ne_blk {w0 W : World} {g : Nat} {f0 : List Int} {f1 : Int} {f2 : Int} {a : Nat} {cs : Array Value} {t : TypeId} {fr : Nat × Nat} (h : IsS61 w0 W g f0 f1 f2) (hb2 : W.heap[a]? = some (.cells cs t fr)) (ht : t ≠ 61) : g ≠ a := by
  obtain ⟨A0, c0, hb, hg, hr0⟩ := h
  rintro rfl
  rw [hb] at hb2
  injection hb2 with hb2
  injection hb2 with _ ht2
  exact ht ht2.symm
theorem IsS61.far {w0 W : World} {g : Nat} {f0 : List Int} {f1 : Int} {f2 : Int} {p : Addr} (h : IsS61 w0 W g f0 f1 f2) (hne : g ≠ p.block) (u : Value) : IsS61 w0 (W.setCell p u) g f0 f1 f2 := by
  obtain ⟨A0, c0, hb, hg, hr0⟩ := h
  exact ⟨A0, c0, blk_far hb hne u, hg, hr0⟩
theorem cellS61_0 {W : World} {g : Nat} {A0 : Option Addr} {c0 : Nat} {f0 : List Int} {f1 : Int} {f2 : Int} (h : W.heap[g]? = some (.cells #[.slice A0 f0.length c0, .int .i64 f1, .int .i64 f2] 61 (0, 0))) : W.cell? ⟨g, 0, none⟩ = some (.slice A0 f0.length c0) := (blk_cell h 0).trans rfl
theorem cellS61_1 {W : World} {g : Nat} {A0 : Option Addr} {c0 : Nat} {f0 : List Int} {f1 : Int} {f2 : Int} (h : W.heap[g]? = some (.cells #[.slice A0 f0.length c0, .int .i64 f1, .int .i64 f2] 61 (0, 0))) : W.cell? ⟨g, 1, none⟩ = some (.int .i64 f1) := (blk_cell h 1).trans rfl
theorem IsS61.set_1 {w0 W : World} {g : Nat} {f0 : List Int} {f1 : Int} {f2 : Int} (h : IsS61 w0 W g f0 f1 f2) (x : Int) : IsS61 w0 (W.setCell ⟨g, 1, none⟩ (.int .i64 x)) g f0 x f2 := by
  obtain ⟨A0, c0, hb, hg, hr0⟩ := h
  exact ⟨A0, c0, by simpa using blk_set hb 1 (.int .i64 x), hg, hr0⟩
theorem cellS61_2 {W : World} {g : Nat} {A0 : Option Addr} {c0 : Nat} {f0 : List Int} {f1 : Int} {f2 : Int} (h : W.heap[g]? = some (.cells #[.slice A0 f0.length c0, .int .i64 f1, .int .i64 f2] 61 (0, 0))) : W.cell? ⟨g, 2, none⟩ = some (.int .i64 f2) := (blk_cell h 2).trans rfl
theorem IsS61.set_2 {w0 W : World} {g : Nat} {f0 : List Int} {f1 : Int} {f2 : Int} (h : IsS61 w0 W g f0 f1 f2) (x : Int) : IsS61 w0 (W.setCell ⟨g, 2, none⟩ (.int .i64 x)) g f0 f1 x := by
  obtain ⟨A0, c0, hb, hg, hr0⟩ := h
  exact ⟨A0, c0, by simpa using blk_set hb 2 (.int .i64 x), hg, hr0⟩
theorem IsS61.new (w0 W : World) (A0 : Option Addr) (c0 : Nat) (f0 : List Int) (f1 : Int) (f2 : Int) (hB : Below w0.heap.size w0 W) (hr0 : Kd.C (Kd.int .u8) w0 A0 f0.length f0) : IsS61 w0 (W.alloc (.cells #[.slice A0 f0.length c0, .int .i64 f1, .int .i64 f2] 61)) W.heap.size f0 f1 f2 := ⟨A0, c0, by simpa using heap_alloc_new W _, hB.size, hr0⟩

/-! ### spec_l1New: function 45 -/
def spec_l1New.l0 : Nat → List Int → Int → Int → Option (List Int × Int × Int)
  | 0, _, _, _ => none
  | k + 1, x0, x3, x4 => if x4 < (x0.length : Int) then (if 0 ≤ x4 then (spec_l1New.l0 k x0 (Go.bits .and .i64 (wrap64 ((wrap64 ((wrap64 (x3 * 137)) + (wrap64 (rd x0 x4)))) + 11)) 1073741823) (wrap64 (x4 + 1))) else (none)) else (some (x0, 0, x3))
def spec_l1New.f (k : Nat) (l0 : List Int) : Option (List Int × Int × Int) := spec_l1New.l0 k l0 (wrap64 (60293 + (l0.length : Int))) 0
theorem spec_l1New.mono_l : ∀ k, (∀ y0 y1 y2, LeO (spec_l1New.l0 k y0 y1 y2) (spec_l1New.l0 (k + 1) y0 y1 y2))
  | 0 => fun _ _ _ r h => by simp [spec_l1New.l0] at h
  | k + 1 => by
    have ih0 := spec_l1New.mono_l k
    · intro y0 y1 y2
      unfold spec_l1New.l0
      repeat' first
      | (with_reducible exact ih0 _ _ _)
      | (with_reducible exact LeO.refl _)
      | (with_reducible exact LeO.none _)
      | (with_reducible refine LeO.ite ?_ ?_)
      | (with_reducible refine LeO.bind ?_ (fun _ => ?_))
      | exact ih0 _ _ _
      | exact LeO.none _
      | refine LeO.ite ?_ ?_
      | refine LeO.bind ?_ (fun _ => ?_)
theorem spec_l1New.mono : ∀ a0 k, LeO (spec_l1New.f k a0) (spec_l1New.f (k + 1) a0) := by
  intro a0 k
  have ih0 := spec_l1New.mono_l k
  unfold spec_l1New.f
  repeat' first
      | (with_reducible exact ih0 _ _ _)
      | (with_reducible exact LeO.refl _)
      | (with_reducible exact LeO.none _)
      | (with_reducible refine LeO.ite ?_ ?_)
      | (with_reducible refine LeO.bind ?_ (fun _ => ?_))
      | exact ih0 _ _ _
      | exact LeO.none _
      | refine LeO.ite ?_ ?_
      | refine LeO.bind ?_ (fun _ => ?_)
set_option maxHeartbeats 8000000 in
set_option maxRecDepth 100000 in
theorem spec_l1New.calls (k : Nat) (A0 : Option Addr) (c0 : Nat) (l0 : List Int) (r1 : List Int) (r2 : Int) (r3 : Int) (w0 w : World) (hB : Below w0.heap.size w0 w) (hr0 : Kd.C (Kd.int .u8) w0 A0 l0.length l0) (hc0 : l0.length ≤ c0) (h : spec_l1New.f k l0 = some (r1, r2, r3)) :
    Calls Try.prog 45 #[.slice A0 l0.length c0] w fun e w' => ∃ g_ : Nat, e = .returned (.pointer (some ⟨g_, 0, none⟩)) ∧ IsS61 w0 w' g_ r1 r2 r3 ∧ Below w0.heap.size w0 w' ∧ Below w.heap.size w w' := by
  have hu61 := Try.underlying61
  have HR0 := Aside0.mk hr0
  have HC0 := Aside0.mk hc0
  clear hr0 hc0
  have HBW := Aside0.mk (Below.refl w.heap.size w)
  have HW0 := Aside0.mk hB.size
  have HB := Aside0.mk hB
  clear hB
  have H : (spec_l1New.l0 k l0 (wrap64 (60293 + (l0.length : Int))) 0) = some (r1, r2, r3) := h
  clear h
  have H' := Aside0.mk H
  clear H
  go_enter Try.func45, Try.ntmps45
  go_wp2
  go_loopg [3, 4] k (fun kq v3 v4 w' => ∃ (x3_1 : Int) (x4_1 : Int), v3 = .int .i64 x3_1 ∧ v4 = .int .i64 x4_1 ∧ Aside0 (spec_l1New.l0 kq l0 x3_1 x4_1 = some (r1, r2, r3)) ∧ Aside0 (kq ≤ k) ∧ Aside0 (Below w0.heap.size w0 w') ∧ Aside0 (Below w.heap.size w w'))
  case atStart => exact ⟨(wrap64 (60293 + (l0.length : Int))), (0), (by first | rfl | (simp; done) | (simp [*]; done)), (by first | rfl | (simp; done) | (simp [*]; done)), H', ⟨Nat.le_refl _⟩, ⟨by repeat (first | (with_reducible first | exact HB.out | apply below_alloc | apply pw_below_drewN | apply below_drew1) | exact HB.out)⟩, ⟨by repeat (first | (with_reducible first | exact HBW.out | apply below_alloc | apply pw_below_drewN | apply below_drew1) | exact HBW.out)⟩⟩
  case round =>
    clear H'
    obtain ⟨x3_1, x4_1, rfl, rfl, HA, HK1, HB, HBW⟩ := hrel
    cases gk with
    | zero => exact absurd HA.out (by simp [spec_l1New.l0])
    | succ k1 =>
      have H := HA.out
      clear HA
      simp only [spec_l1New.l0] at H
      by_cases c2 : x4_1 < (l0.length : Int)
      · rw [if_pos c2] at H
        have c2b0 : decide (x4_1 < (l0.length : Int)) = true := decide_eq_true c2
        clear c2
        by_cases c3 : 0 ≤ x4_1
        · rw [if_pos c3] at H
          have c3b0 : decide (0 ≤ x4_1) = true := decide_eq_true c3
          clear c3
          have H' := Aside0.mk H
          clear H
          have p101 : 0 ≤ (x4_1 : Int) := of_decide_eq_true (by first | (with_reducible assumption) | assumption)
          have q101 : x4_1 < (l0.length : Int) := of_decide_eq_true (by first | (with_reducible assumption) | assumption)
          obtain ⟨ad101, e101, hx101_0⟩ := Kd.at_int HR0.out x4_1 p101 q101
          cases e101
          replace hx101_0 := pw_cell_below HB.out hx101_0
          replace p101 := eq_true p101
          replace q101 := eq_true q101
          go_wp2
          go_roundg k1
          case measure => have := HK1.out; omega
          case rel => exact ⟨(Go.bits .and .i64 (wrap64 ((wrap64 ((wrap64 (x3_1 * 137)) + (wrap64 (rd l0 x4_1)))) + 11)) 1073741823), (wrap64 (x4_1 + 1)), (by first | rfl | (simp; done) | (simp [*]; done)), (by first | rfl | (simp; done) | (simp [*]; done)), H', ⟨by have := HK1.out; omega⟩, ⟨by repeat (first | (with_reducible first | exact HB.out | apply below_alloc | apply pw_below_drewN | apply below_drew1) | exact HB.out)⟩, ⟨by repeat (first | (with_reducible first | exact HBW.out | apply below_alloc | apply pw_below_drewN | apply below_drew1) | exact HBW.out)⟩⟩
        · rw [if_neg c3] at H
          exact absurd H (by simp)
      · rw [if_neg c2] at H
        have c2b0 : decide (x4_1 < (l0.length : Int)) = false := decide_eq_false c2
        clear c2
        simp only [Option.some.injEq, Prod.mk.injEq] at H
        obtain ⟨rfl, rfl, rfl⟩ := H
        go_wp2_with (first | ((with_reducible refine gate_dst (N := 27) rfl ?_); refine box_event ?hg (N := 27) ?hd (cs := #[.slice A0 l0.length c0, .int .i64 0, .int .i64 x3_1]) (t := 61) ?hr ?_; (case hd => rfl); (case hg => rfl); (case hr => first | (go_simp; done) | (go_simp; rfl)); intro gb102 hg w4 hbox hb; have n0_ := Aside0.mk (below_step HBW.out hb); have n1_ := Aside0.mk (below_step (by repeat (first | (with_reducible first | exact HB.out | apply below_alloc | apply pw_below_drewN | apply below_drew1) | exact HB.out)) hb); have n2_ := Aside0.mk (hbox); have n3_ := Aside0.mk ((by rw [hg]; exact (below_size (by repeat (first | (with_reducible first | exact HBW.out | apply below_alloc | apply pw_below_drewN | apply below_drew1) | exact HBW.out))) : w.heap.size ≤ gb102)); have n4_ := Aside0.mk ((Nat.le_trans HW0.out (by rw [hg]; exact (below_size (by repeat (first | (with_reducible first | exact HBW.out | apply below_alloc | apply pw_below_drewN | apply below_drew1) | exact HBW.out))) : w.heap.size ≤ gb102) : w0.heap.size ≤ gb102)); clear HBW; clear HB; have HBW := n0_; have HB := n1_; have BK102 := n2_; have GW102 := n3_; have GE102 := n4_; clear n0_ n1_ n2_ n3_ n4_; clear hb hbox hg))
        go_ret
        exact ⟨_, rfl, (show IsS61 w0 _ gb102 l0 0 x3_1 from ⟨_, _, by (with_reducible repeat (first | refine blk_drewN ?_ _ | refine blk_drew ?_ | refine blk_alloc ?_ _)); exact BK102.out, GE102.out, HR0.out⟩), by repeat (first | (with_reducible first | exact HB.out | apply below_alloc | apply pw_below_drewN | apply below_drew1 | refine below_set ?_ GE102.out) | exact HB.out), by repeat (first | (with_reducible first | exact HBW.out | apply below_alloc | apply pw_below_drewN | apply below_drew1 | refine below_set ?_ GW102.out) | exact HBW.out)⟩

/-! ### spec_l1Byte: function 51 -/
def spec_l1Byte.f (s0_0 : List Int) (s0_1 : Int) (s0_2 : Int) : Option (Int × Int × Int) := if s0_1 < (s0_0.length : Int) then (if 0 ≤ s0_1 then (some (Go.bits .and .i64 (wrap64 ((Go.bits .and .i64 (Go.bits .xor .i64 ((wrap64 ((wrap64 (s0_2 * 6364136223846793005)) + 1442695040888963407)) / 8589934592) ((wrap64 ((wrap64 (s0_2 * 6364136223846793005)) + 1442695040888963407)) / 35184372088832)) 255) + (wrap64 (rd s0_0 s0_1)))) 255, wrap64 (s0_1 + 1), wrap64 ((wrap64 (s0_2 * 6364136223846793005)) + 1442695040888963407))) else (none)) else (some (Go.bits .and .i64 (Go.bits .xor .i64 ((wrap64 ((wrap64 (s0_2 * 6364136223846793005)) + 1442695040888963407)) / 8589934592) ((wrap64 ((wrap64 (s0_2 * 6364136223846793005)) + 1442695040888963407)) / 35184372088832)) 255, s0_1, wrap64 ((wrap64 (s0_2 * 6364136223846793005)) + 1442695040888963407)))
set_option maxHeartbeats 8000000 in
set_option maxRecDepth 100000 in
theorem spec_l1Byte.calls (g : Nat) (s0_0 : List Int) (s0_1 : Int) (s0_2 : Int) (r1 : Int) (r2 : Int) (r3 : Int) (w0 w : World) (hI : IsS61 w0 w g s0_0 s0_1 s0_2) (hB : Below w0.heap.size w0 w) (h : spec_l1Byte.f s0_0 s0_1 s0_2 = some (r1, r2, r3)) :
    Calls Try.prog 51 #[.pointer (some ⟨g, 0, none⟩)] w fun e w' => e = .returned (.int .i64 r1) ∧ IsS61 w0 w' g s0_0 r2 r3 ∧ Below w0.heap.size w0 w' ∧ KeepBut w w' g none := by
  have HI0 := Aside0.mk hI
  have HK := Aside0.mk (KeepBut.refl w g none)
  have HL := Aside0.mk hB.size
  clear hI
  have HW0 := Aside0.mk hB.size
  have HB := Aside0.mk hB
  clear hB
  have H : (if s0_1 < (s0_0.length : Int) then (if 0 ≤ s0_1 then (some (Go.bits .and .i64 (wrap64 ((Go.bits .and .i64 (Go.bits .xor .i64 ((wrap64 ((wrap64 (s0_2 * 6364136223846793005)) + 1442695040888963407)) / 8589934592) ((wrap64 ((wrap64 (s0_2 * 6364136223846793005)) + 1442695040888963407)) / 35184372088832)) 255) + (wrap64 (rd s0_0 s0_1)))) 255, wrap64 (s0_1 + 1), wrap64 ((wrap64 (s0_2 * 6364136223846793005)) + 1442695040888963407))) else (none)) else (some (Go.bits .and .i64 (Go.bits .xor .i64 ((wrap64 ((wrap64 (s0_2 * 6364136223846793005)) + 1442695040888963407)) / 8589934592) ((wrap64 ((wrap64 (s0_2 * 6364136223846793005)) + 1442695040888963407)) / 35184372088832)) 255, s0_1, wrap64 ((wrap64 (s0_2 * 6364136223846793005)) + 1442695040888963407)))) = some (r1, r2, r3) := h
  clear h
  by_cases c2 : s0_1 < (s0_0.length : Int)
  · rw [if_pos c2] at H
    have c2b0 : decide (s0_1 < (s0_0.length : Int)) = true := decide_eq_true c2
    clear c2
    by_cases c3 : 0 ≤ s0_1
    · rw [if_pos c3] at H
      have c3b0 : decide (0 ≤ s0_1) = true := decide_eq_true c3
      clear c3
      simp only [Option.some.injEq, Prod.mk.injEq] at H
      obtain ⟨rfl, rfl, rfl⟩ := H
      obtain ⟨ASz4_0, cSz4_0, HGz4, hgz4, HSz4_0⟩ := HI0.out
      have hcz4_0 := cellS61_0 HGz4
      have hcz4_1 := cellS61_1 HGz4
      have hcz4_2 := cellS61_2 HGz4
      have hfz4_1 := blk_frozen HGz4 1
      have hfz4_2 := blk_frozen HGz4 2
      clear HGz4 hgz4
      have p103 : 0 ≤ (s0_1 : Int) := of_decide_eq_true (by first | (with_reducible assumption) | assumption)
      have q103 : s0_1 < (s0_0.length : Int) := of_decide_eq_true (by first | (with_reducible assumption) | assumption)
      obtain ⟨ad103, e103, hx103_0⟩ := Kd.at_int HSz4_0 s0_1 p103 q103
      cases e103
      have hn103_0 : ad103.block ≠ g := Nat.ne_of_lt (Nat.lt_of_lt_of_le (by have := World.block_lt_of_cell? _ _ hx103_0; first | rwa [add_block] at this | exact this) (IsS61.ge HI0.out))
      replace hx103_0 := pw_cell_below HB.out hx103_0
      replace hx103_0 := (cell_far (p := ⟨g, 2, none⟩) (by first | (rw [add_block]; exact hn103_0) | (show (Addr.add _ _).block ≠ _; rw [add_block]; exact hn103_0) | exact hn103_0) (.int .i64 (wrap64 ((wrap64 (s0_2 * 6364136223846793005)) + 1442695040888963407)))).trans hx103_0
      (try have hy103_0 := fun (n_ : Nat) => (show (((w.drewN n_).setCell ⟨g, 2, none⟩ (.int .i64 (wrap64 ((wrap64 (s0_2 * 6364136223846793005)) + 1442695040888963407))))).cell? _ = some _ from hx103_0))
      clear hn103_0
      replace p103 := eq_true p103
      replace q103 := eq_true q103
      go_enter Try.func51, Try.ntmps51
      go_wp2
      repeat (go_quiet (fail); try go_wp2)
      go_ret
      exact ⟨by first | rfl | (simp [errW_none, errW_some] <;> rfl) | (simp [*, errW_none, errW_some] <;> rfl), by repeat (first | (with_reducible first | exact HI0.out | apply IsS61.alloc | apply IsS61.drewN | apply IsS61.drew | apply IsS61.set_1 | apply IsS61.set_2) | exact HI0.out), by repeat (first | (with_reducible first | exact HB.out | apply below_alloc | apply pw_below_drewN | apply below_drew1 | refine below_set ?_ (IsS61.ge HI0.out)) | exact HB.out), by repeat (first | (with_reducible first | exact HK.out | apply KeepBut.set_ | apply keep_drewN | apply keep_drew | apply keep_alloc) | exact HK.out)⟩
    · rw [if_neg c3] at H
      exact absurd H (by simp)
  · rw [if_neg c2] at H
    have c2b0 : decide (s0_1 < (s0_0.length : Int)) = false := decide_eq_false c2
    clear c2
    simp only [Option.some.injEq, Prod.mk.injEq] at H
    obtain ⟨rfl, rfl, rfl⟩ := H
    obtain ⟨ASz5_0, cSz5_0, HGz5, hgz5, HSz5_0⟩ := HI0.out
    have hcz5_0 := cellS61_0 HGz5
    have hcz5_1 := cellS61_1 HGz5
    have hcz5_2 := cellS61_2 HGz5
    have hfz5_1 := blk_frozen HGz5 1
    have hfz5_2 := blk_frozen HGz5 2
    clear HGz5 hgz5
    go_enter Try.func51, Try.ntmps51
    go_wp2
    repeat (go_quiet (fail); try go_wp2)
    go_ret
    exact ⟨by first | rfl | (simp [errW_none, errW_some] <;> rfl) | (simp [*, errW_none, errW_some] <;> rfl), by repeat (first | (with_reducible first | exact HI0.out | apply IsS61.alloc | apply IsS61.drewN | apply IsS61.drew | apply IsS61.set_1 | apply IsS61.set_2) | exact HI0.out), by repeat (first | (with_reducible first | exact HB.out | apply below_alloc | apply pw_below_drewN | apply below_drew1 | refine below_set ?_ (IsS61.ge HI0.out)) | exact HB.out), by repeat (first | (with_reducible first | exact HK.out | apply KeepBut.set_ | apply keep_drewN | apply keep_drew | apply keep_alloc) | exact HK.out)⟩

/-! ### spec_l1Below: function 48 -/
def spec_l1Below.f (s0_0 : List Int) (s0_1 : Int) (s0_2 : Int) (a1 : Int) : Option (Int × Int × Int) := if a1 ≤ 0 then (some (0, s0_1, s0_2)) else (if a1 ≤ 256 then ((spec_l1Byte.f s0_0 s0_1 s0_2).bind fun bt104 => (if a1 = 0 then (none) else (some (Int.tmod bt104.1 a1, bt104.2.1, bt104.2.2)))) else ((spec_l1Byte.f s0_0 s0_1 s0_2).bind fun bt107 => ((spec_l1Byte.f s0_0 bt107.2.1 bt107.2.2).bind fun bt110 => ((spec_l1Byte.f s0_0 bt110.2.1 bt110.2.2).bind fun bt113 => ((spec_l1Byte.f s0_0 bt113.2.1 bt113.2.2).bind fun bt116 => (if a1 = 0 then (none) else (some (Int.tmod (wrap64 ((wrap64 ((wrap64 ((wrap64 (bt107.1 * 16777216)) + (wrap64 (bt110.1 * 65536)))) + (wrap64 (bt113.1 * 256)))) + bt116.1)) a1, bt116.2.1, bt116.2.2))))))))
set_option maxHeartbeats 8000000 in
set_option maxRecDepth 100000 in
theorem spec_l1Below.calls (g : Nat) (s0_0 : List Int) (s0_1 : Int) (s0_2 : Int) (a1 : Int) (r1 : Int) (r2 : Int) (r3 : Int) (w0 w : World) (hI : IsS61 w0 w g s0_0 s0_1 s0_2) (hB : Below w0.heap.size w0 w) (h : spec_l1Below.f s0_0 s0_1 s0_2 a1 = some (r1, r2, r3)) :
    Calls Try.prog 48 #[.pointer (some ⟨g, 0, none⟩), .int .i64 a1] w fun e w' => e = .returned (.int .i64 r1) ∧ IsS61 w0 w' g s0_0 r2 r3 ∧ Below w0.heap.size w0 w' ∧ KeepBut w w' g none := by
  have HI0 := Aside0.mk hI
  have HK := Aside0.mk (KeepBut.refl w g none)
  have HL := Aside0.mk hB.size
  clear hI
  have HW0 := Aside0.mk hB.size
  have HB := Aside0.mk hB
  clear hB
  have H : (if a1 ≤ 0 then (some (0, s0_1, s0_2)) else (if a1 ≤ 256 then ((spec_l1Byte.f s0_0 s0_1 s0_2).bind fun bt104 => (if a1 = 0 then (none) else (some (Int.tmod bt104.1 a1, bt104.2.1, bt104.2.2)))) else ((spec_l1Byte.f s0_0 s0_1 s0_2).bind fun bt107 => ((spec_l1Byte.f s0_0 bt107.2.1 bt107.2.2).bind fun bt110 => ((spec_l1Byte.f s0_0 bt110.2.1 bt110.2.2).bind fun bt113 => ((spec_l1Byte.f s0_0 bt113.2.1 bt113.2.2).bind fun bt116 => (if a1 = 0 then (none) else (some (Int.tmod (wrap64 ((wrap64 ((wrap64 ((wrap64 (bt107.1 * 16777216)) + (wrap64 (bt110.1 * 65536)))) + (wrap64 (bt113.1 * 256)))) + bt116.1)) a1, bt116.2.1, bt116.2.2))))))))) = some (r1, r2, r3) := h
  clear h
  by_cases c3 : a1 ≤ 0
  · rw [if_pos c3] at H
    have c3b0 : decide (a1 ≤ 0) = true := decide_eq_true c3
    clear c3
    simp only [Option.some.injEq, Prod.mk.injEq] at H
    obtain ⟨rfl, rfl, rfl⟩ := H
    go_enter Try.func48, Try.ntmps48
    go_wp2
    go_ret
    exact ⟨by first | rfl | (simp [errW_none, errW_some] <;> rfl) | (simp [*, errW_none, errW_some] <;> rfl), by repeat (first | (with_reducible first | exact HI0.out | apply IsS61.alloc | apply IsS61.drewN | apply IsS61.drew | apply IsS61.set_1 | apply IsS61.set_2) | exact HI0.out), by repeat (first | (with_reducible first | exact HB.out | apply below_alloc | apply pw_below_drewN | apply below_drew1 | refine below_set ?_ (IsS61.ge HI0.out)) | exact HB.out), by repeat (first | (with_reducible first | exact HK.out | apply KeepBut.set_ | apply keep_drewN | apply keep_drew | apply keep_alloc) | exact HK.out)⟩
  · rw [if_neg c3] at H
    have c3b0 : decide (a1 ≤ 0) = false := decide_eq_false c3
    clear c3
    by_cases c4 : a1 ≤ 256
    · rw [if_pos c4] at H
      have c4b0 : decide (a1 ≤ 256) = true := decide_eq_true c4
      clear c4
      replace H := Option.bind_eq_some_iff.mp H
      obtain ⟨⟨t104, t105, t106⟩, A50, H⟩ := H
      replace H : (if a1 = 0 then (none) else (some (Int.tmod t104 a1, t105, t106))) = some (r1, r2, r3) := H
      have A5 := Aside0.mk A50
      clear A50
      by_cases c6 : a1 = 0
      · rw [if_pos c6] at H
        exact absurd H (by simp)
      · rw [if_neg c6] at H
        have c6b0 : (a1 == 0) = false := beq_eq_false_iff_ne.mpr c6
        have c6b1 : (a1 != 0) = true := bne_iff_ne.mpr c6
        simp only [Option.some.injEq, Prod.mk.injEq] at H
        obtain ⟨rfl, rfl, rfl⟩ := H
        go_enter Try.func48, Try.ntmps48
        go_wp2_with (first | ((with_reducible refine gate_callee (f := 51) rfl ?_); refine goesL_ (some 14) rfl rfl Try.func51 (by kernel_rfl) rfl #[.pointer (some ⟨g, 0, none⟩)] rfl (by (try simp only [List.map_toArray, List.map_cons, List.map_nil]); first | done | rfl | (simp only [List.length_drop, List.length_take]; rfl)) ?_; (with_reducible refine (spec_l1Byte.calls g s0_0 s0_1 s0_2 t104 t105 t106 w0 _ ?side1 ?side2 A5.out).mono ?_); (case side1 => repeat (first | (with_reducible first | exact HI0.out | apply IsS61.alloc | apply IsS61.drewN | apply IsS61.drew | apply IsS61.set_1 | apply IsS61.set_2) | exact HI0.out)); (case side2 => repeat (first | (with_reducible first | exact HB.out | apply below_alloc | apply pw_below_drewN | apply below_drew1 | refine below_set ?_ (IsS61.ge HI0.out)) | exact HB.out)); rintro e w7 ⟨rfl, hi, hb, hk⟩; refine ⟨_, rfl, ?_⟩; have n0_ := Aside0.mk (KeepBut.trans (by repeat (first | (with_reducible first | exact HK.out | apply KeepBut.set_ | apply keep_drewN | apply keep_drew | apply keep_alloc) | exact HK.out)) hk (.inl rfl)); have n1_ := Aside0.mk (hb); have n2_ := Aside0.mk (hi); clear HK; clear HB; clear HI0; have HK := n0_; have HB := n1_; have HI0 := n2_; clear n0_ n1_ n2_; (try clear hb); (try clear hb2); (try clear hk); (try clear hi)))
        go_ret
        exact ⟨by first | rfl | (simp [errW_none, errW_some] <;> rfl) | (simp [*, errW_none, errW_some] <;> rfl), by repeat (first | (with_reducible first | exact HI0.out | apply IsS61.alloc | apply IsS61.drewN | apply IsS61.drew | apply IsS61.set_1 | apply IsS61.set_2) | exact HI0.out), by repeat (first | (with_reducible first | exact HB.out | apply below_alloc | apply pw_below_drewN | apply below_drew1 | refine below_set ?_ (IsS61.ge HI0.out)) | exact HB.out), by repeat (first | (with_reducible first | exact HK.out | apply KeepBut.set_ | apply keep_drewN | apply keep_drew | apply keep_alloc) | exact HK.out)⟩
    · rw [if_neg c4] at H
      have c4b0 : decide (a1 ≤ 256) = false := decide_eq_false c4
      clear c4
      replace H := Option.bind_eq_some_iff.mp H
      obtain ⟨⟨t107, t108, t109⟩, A80, H⟩ := H
      replace H : ((spec_l1Byte.f s0_0 t108 t109).bind fun bt110 => ((spec_l1Byte.f s0_0 bt110.2.1 bt110.2.2).bind fun bt113 => ((spec_l1Byte.f s0_0 bt113.2.1 bt113.2.2).bind fun bt116 => (if a1 = 0 then (none) else (some (Int.tmod (wrap64 ((wrap64 ((wrap64 ((wrap64 (t107 * 16777216)) + (wrap64 (bt110.1 * 65536)))) + (wrap64 (bt113.1 * 256)))) + bt116.1)) a1, bt116.2.1, bt116.2.2)))))) = some (r1, r2, r3) := H
      have A8 := Aside0.mk A80
      clear A80
      replace H := Option.bind_eq_some_iff.mp H
      obtain ⟨⟨t110, t111, t112⟩, A90, H⟩ := H
      replace H : ((spec_l1Byte.f s0_0 t111 t112).bind fun bt113 => ((spec_l1Byte.f s0_0 bt113.2.1 bt113.2.2).bind fun bt116 => (if a1 = 0 then (none) else (some (Int.tmod (wrap64 ((wrap64 ((wrap64 ((wrap64 (t107 * 16777216)) + (wrap64 (t110 * 65536)))) + (wrap64 (bt113.1 * 256)))) + bt116.1)) a1, bt116.2.1, bt116.2.2))))) = some (r1, r2, r3) := H
      have A9 := Aside0.mk A90
      clear A90
      replace H := Option.bind_eq_some_iff.mp H
      obtain ⟨⟨t113, t114, t115⟩, A100, H⟩ := H
      replace H : ((spec_l1Byte.f s0_0 t114 t115).bind fun bt116 => (if a1 = 0 then (none) else (some (Int.tmod (wrap64 ((wrap64 ((wrap64 ((wrap64 (t107 * 16777216)) + (wrap64 (t110 * 65536)))) + (wrap64 (t113 * 256)))) + bt116.1)) a1, bt116.2.1, bt116.2.2)))) = some (r1, r2, r3) := H
      have A10 := Aside0.mk A100
      clear A100
      replace H := Option.bind_eq_some_iff.mp H
      obtain ⟨⟨t116, t117, t118⟩, A110, H⟩ := H
      replace H : (if a1 = 0 then (none) else (some (Int.tmod (wrap64 ((wrap64 ((wrap64 ((wrap64 (t107 * 16777216)) + (wrap64 (t110 * 65536)))) + (wrap64 (t113 * 256)))) + t116)) a1, t117, t118))) = some (r1, r2, r3) := H
      have A11 := Aside0.mk A110
      clear A110
      by_cases c12 : a1 = 0
      · rw [if_pos c12] at H
        exact absurd H (by simp)
      · rw [if_neg c12] at H
        have c12b0 : (a1 == 0) = false := beq_eq_false_iff_ne.mpr c12
        have c12b1 : (a1 != 0) = true := bne_iff_ne.mpr c12
        simp only [Option.some.injEq, Prod.mk.injEq] at H
        obtain ⟨rfl, rfl, rfl⟩ := H
        go_enter Try.func48, Try.ntmps48
        go_wp2_with (first | ((with_reducible refine gate_callee (f := 51) rfl ?_); refine goesL_ (some 18) rfl rfl Try.func51 (by kernel_rfl) rfl #[.pointer (some ⟨g, 0, none⟩)] rfl (by (try simp only [List.map_toArray, List.map_cons, List.map_nil]); first | done | rfl | (simp only [List.length_drop, List.length_take]; rfl)) ?_; (with_reducible refine (spec_l1Byte.calls g s0_0 s0_1 s0_2 t107 t108 t109 w0 _ ?side1 ?side2 A8.out).mono ?_); (case side1 => repeat (first | (with_reducible first | exact HI0.out | apply IsS61.alloc | apply IsS61.drewN | apply IsS61.drew | apply IsS61.set_1 | apply IsS61.set_2) | exact HI0.out)); (case side2 => repeat (first | (with_reducible first | exact HB.out | apply below_alloc | apply pw_below_drewN | apply below_drew1 | refine below_set ?_ (IsS61.ge HI0.out)) | exact HB.out)); rintro e w13 ⟨rfl, hi, hb, hk⟩; refine ⟨_, rfl, ?_⟩; have n0_ := Aside0.mk (KeepBut.trans (by repeat (first | (with_reducible first | exact HK.out | apply KeepBut.set_ | apply keep_drewN | apply keep_drew | apply keep_alloc) | exact HK.out)) hk (.inl rfl)); have n1_ := Aside0.mk (hb); have n2_ := Aside0.mk (hi); clear HK; clear HB; clear HI0; have HK := n0_; have HB := n1_; have HI0 := n2_; clear n0_ n1_ n2_; (try clear hb); (try clear hb2); (try clear hk); (try clear hi)) | ((with_reducible refine gate_callee (f := 51) rfl ?_); refine goesL_ (some 20) rfl rfl Try.func51 (by kernel_rfl) rfl #[.pointer (some ⟨g, 0, none⟩)] rfl (by (try simp only [List.map_toArray, List.map_cons, List.map_nil]); first | done | rfl | (simp only [List.length_drop, List.length_take]; rfl)) ?_; (with_reducible refine (spec_l1Byte.calls g s0_0 t108 t109 t110 t111 t112 w0 _ ?side1 ?side2 A9.out).mono ?_); (case side1 => repeat (first | (with_reducible first | exact HI0.out | apply IsS61.alloc | apply IsS61.drewN | apply IsS61.drew | apply IsS61.set_1 | apply IsS61.set_2) | exact HI0.out)); (case side2 => repeat (first | (with_reducible first | exact HB.out | apply below_alloc | apply pw_below_drewN | apply below_drew1 | refine below_set ?_ (IsS61.ge HI0.out)) | exact HB.out)); rintro e w14 ⟨rfl, hi, hb, hk⟩; refine ⟨_, rfl, ?_⟩; have n0_ := Aside0.mk (KeepBut.trans (by repeat (first | (with_reducible first | exact HK.out | apply KeepBut.set_ | apply keep_drewN | apply keep_drew | apply keep_alloc) | exact HK.out)) hk (.inl rfl)); have n1_ := Aside0.mk (hb); have n2_ := Aside0.mk (hi); clear HK; clear HB; clear HI0; have HK := n0_; have HB := n1_; have HI0 := n2_; clear n0_ n1_ n2_; (try clear hb); (try clear hb2); (try clear hk); (try clear hi)) | ((with_reducible refine gate_callee (f := 51) rfl ?_); refine goesL_ (some 22) rfl rfl Try.func51 (by kernel_rfl) rfl #[.pointer (some ⟨g, 0, none⟩)] rfl (by (try simp only [List.map_toArray, List.map_cons, List.map_nil]); first | done | rfl | (simp only [List.length_drop, List.length_take]; rfl)) ?_; (with_reducible refine (spec_l1Byte.calls g s0_0 t111 t112 t113 t114 t115 w0 _ ?side1 ?side2 A10.out).mono ?_); (case side1 => repeat (first | (with_reducible first | exact HI0.out | apply IsS61.alloc | apply IsS61.drewN | apply IsS61.drew | apply IsS61.set_1 | apply IsS61.set_2) | exact HI0.out)); (case side2 => repeat (first | (with_reducible first | exact HB.out | apply below_alloc | apply pw_below_drewN | apply below_drew1 | refine below_set ?_ (IsS61.ge HI0.out)) | exact HB.out)); rintro e w15 ⟨rfl, hi, hb, hk⟩; refine ⟨_, rfl, ?_⟩; have n0_ := Aside0.mk (KeepBut.trans (by repeat (first | (with_reducible first | exact HK.out | apply KeepBut.set_ | apply keep_drewN | apply keep_drew | apply keep_alloc) | exact HK.out)) hk (.inl rfl)); have n1_ := Aside0.mk (hb); have n2_ := Aside0.mk (hi); clear HK; clear HB; clear HI0; have HK := n0_; have HB := n1_; have HI0 := n2_; clear n0_ n1_ n2_; (try clear hb); (try clear hb2); (try clear hk); (try clear hi)) | ((with_reducible refine gate_callee (f := 51) rfl ?_); refine goesL_ (some 24) rfl rfl Try.func51 (by kernel_rfl) rfl #[.pointer (some ⟨g, 0, none⟩)] rfl (by (try simp only [List.map_toArray, List.map_cons, List.map_nil]); first | done | rfl | (simp only [List.length_drop, List.length_take]; rfl)) ?_; (with_reducible refine (spec_l1Byte.calls g s0_0 t114 t115 t116 t117 t118 w0 _ ?side1 ?side2 A11.out).mono ?_); (case side1 => repeat (first | (with_reducible first | exact HI0.out | apply IsS61.alloc | apply IsS61.drewN | apply IsS61.drew | apply IsS61.set_1 | apply IsS61.set_2) | exact HI0.out)); (case side2 => repeat (first | (with_reducible first | exact HB.out | apply below_alloc | apply pw_below_drewN | apply below_drew1 | refine below_set ?_ (IsS61.ge HI0.out)) | exact HB.out)); rintro e w16 ⟨rfl, hi, hb, hk⟩; refine ⟨_, rfl, ?_⟩; have n0_ := Aside0.mk (KeepBut.trans (by repeat (first | (with_reducible first | exact HK.out | apply KeepBut.set_ | apply keep_drewN | apply keep_drew | apply keep_alloc) | exact HK.out)) hk (.inl rfl)); have n1_ := Aside0.mk (hb); have n2_ := Aside0.mk (hi); clear HK; clear HB; clear HI0; have HK := n0_; have HB := n1_; have HI0 := n2_; clear n0_ n1_ n2_; (try clear hb); (try clear hb2); (try clear hk); (try clear hi)))
        go_ret
        exact ⟨by first | rfl | (simp [errW_none, errW_some] <;> rfl) | (simp [*, errW_none, errW_some] <;> rfl), by repeat (first | (with_reducible first | exact HI0.out | apply IsS61.alloc | apply IsS61.drewN | apply IsS61.drew | apply IsS61.set_1 | apply IsS61.set_2) | exact HI0.out), by repeat (first | (with_reducible first | exact HB.out | apply below_alloc | apply pw_below_drewN | apply below_drew1 | refine below_set ?_ (IsS61.ge HI0.out)) | exact HB.out), by repeat (first | (with_reducible first | exact HK.out | apply KeepBut.set_ | apply keep_drewN | apply keep_drew | apply keep_alloc) | exact HK.out)⟩

/-! ### spec_l1Once: function 47 -/
def spec_l1Once.f (s0_0 : List Int) (s0_1 : Int) (s0_2 : Int) (a1 : Int) : Option (Bool × Int × Int) := (spec_l1Below.f s0_0 s0_1 s0_2 a1).bind fun bt119 => (some ((bt119.1 == 0), bt119.2.1, bt119.2.2))
set_option maxHeartbeats 8000000 in
set_option maxRecDepth 100000 in
theorem spec_l1Once.calls (g : Nat) (s0_0 : List Int) (s0_1 : Int) (s0_2 : Int) (a1 : Int) (r1 : Bool) (r2 : Int) (r3 : Int) (w0 w : World) (hI : IsS61 w0 w g s0_0 s0_1 s0_2) (hB : Below w0.heap.size w0 w) (h : spec_l1Once.f s0_0 s0_1 s0_2 a1 = some (r1, r2, r3)) :
    Calls Try.prog 47 #[.pointer (some ⟨g, 0, none⟩), .int .i64 a1] w fun e w' => e = .returned (.bool r1) ∧ IsS61 w0 w' g s0_0 r2 r3 ∧ Below w0.heap.size w0 w' ∧ KeepBut w w' g none := by
  have HI0 := Aside0.mk hI
  have HK := Aside0.mk (KeepBut.refl w g none)
  have HL := Aside0.mk hB.size
  clear hI
  have HW0 := Aside0.mk hB.size
  have HB := Aside0.mk hB
  clear hB
  have H : ((spec_l1Below.f s0_0 s0_1 s0_2 a1).bind fun bt119 => (some ((bt119.1 == 0), bt119.2.1, bt119.2.2))) = some (r1, r2, r3) := h
  clear h
  replace H := Option.bind_eq_some_iff.mp H
  obtain ⟨⟨t119, t120, t121⟩, A30, H⟩ := H
  replace H : (some ((t119 == 0), t120, t121)) = some (r1, r2, r3) := H
  have A3 := Aside0.mk A30
  clear A30
  simp only [Option.some.injEq, Prod.mk.injEq] at H
  obtain ⟨rfl, rfl, rfl⟩ := H
  go_enter Try.func47, Try.ntmps47
  go_wp2_with (first | ((with_reducible refine gate_callee (f := 48) rfl ?_); refine goesL_ (some 7) rfl rfl Try.func48 (by kernel_rfl) rfl #[.pointer (some ⟨g, 0, none⟩), .int .i64 a1] rfl (by (try simp only [List.map_toArray, List.map_cons, List.map_nil]); first | done | rfl | (simp only [List.length_drop, List.length_take]; rfl)) ?_; (with_reducible refine (spec_l1Below.calls g s0_0 s0_1 s0_2 a1 t119 t120 t121 w0 _ ?side1 ?side2 A3.out).mono ?_); (case side1 => repeat (first | (with_reducible first | exact HI0.out | apply IsS61.alloc | apply IsS61.drewN | apply IsS61.drew | apply IsS61.set_1 | apply IsS61.set_2) | exact HI0.out)); (case side2 => repeat (first | (with_reducible first | exact HB.out | apply below_alloc | apply pw_below_drewN | apply below_drew1 | refine below_set ?_ (IsS61.ge HI0.out)) | exact HB.out)); rintro e w4 ⟨rfl, hi, hb, hk⟩; refine ⟨_, rfl, ?_⟩; have n0_ := Aside0.mk (KeepBut.trans (by repeat (first | (with_reducible first | exact HK.out | apply KeepBut.set_ | apply keep_drewN | apply keep_drew | apply keep_alloc) | exact HK.out)) hk (.inl rfl)); have n1_ := Aside0.mk (hb); have n2_ := Aside0.mk (hi); clear HK; clear HB; clear HI0; have HK := n0_; have HB := n1_; have HI0 := n2_; clear n0_ n1_ n2_; (try clear hb); (try clear hb2); (try clear hk); (try clear hi)))
  go_ret
  exact ⟨by first | rfl | (simp [errW_none, errW_some] <;> rfl) | (simp [*, errW_none, errW_some] <;> rfl), by repeat (first | (with_reducible first | exact HI0.out | apply IsS61.alloc | apply IsS61.drewN | apply IsS61.drew | apply IsS61.set_1 | apply IsS61.set_2) | exact HI0.out), by repeat (first | (with_reducible first | exact HB.out | apply below_alloc | apply pw_below_drewN | apply below_drew1 | refine below_set ?_ (IsS61.ge HI0.out)) | exact HB.out), by repeat (first | (with_reducible first | exact HK.out | apply KeepBut.set_ | apply keep_drewN | apply keep_drew | apply keep_alloc) | exact HK.out)⟩

/-! ### spec_l1From: function 50 -/
def spec_l1From.f (s0_0 : List Int) (s0_1 : Int) (s0_2 : Int) (a1 : Int) (a2 : Int) : Option (Int × Int × Int) := (spec_l1Below.f s0_0 s0_1 s0_2 (wrap64 ((wrap64 (a2 - a1)) + 1))).bind fun bt122 => (some (wrap64 (a1 + bt122.1), bt122.2.1, bt122.2.2))
set_option maxHeartbeats 8000000 in
set_option maxRecDepth 100000 in
theorem spec_l1From.calls (g : Nat) (s0_0 : List Int) (s0_1 : Int) (s0_2 : Int) (a1 : Int) (a2 : Int) (r1 : Int) (r2 : Int) (r3 : Int) (w0 w : World) (hI : IsS61 w0 w g s0_0 s0_1 s0_2) (hB : Below w0.heap.size w0 w) (h : spec_l1From.f s0_0 s0_1 s0_2 a1 a2 = some (r1, r2, r3)) :
    Calls Try.prog 50 #[.pointer (some ⟨g, 0, none⟩), .int .i64 a1, .int .i64 a2] w fun e w' => e = .returned (.int .i64 r1) ∧ IsS61 w0 w' g s0_0 r2 r3 ∧ Below w0.heap.size w0 w' ∧ KeepBut w w' g none := by
  have HI0 := Aside0.mk hI
  have HK := Aside0.mk (KeepBut.refl w g none)
  have HL := Aside0.mk hB.size
  clear hI
  have HW0 := Aside0.mk hB.size
  have HB := Aside0.mk hB
  clear hB
  have H : ((spec_l1Below.f s0_0 s0_1 s0_2 (wrap64 ((wrap64 (a2 - a1)) + 1))).bind fun bt122 => (some (wrap64 (a1 + bt122.1), bt122.2.1, bt122.2.2))) = some (r1, r2, r3) := h
  clear h
  replace H := Option.bind_eq_some_iff.mp H
  obtain ⟨⟨t122, t123, t124⟩, A40, H⟩ := H
  replace H : (some (wrap64 (a1 + t122), t123, t124)) = some (r1, r2, r3) := H
  have A4 := Aside0.mk A40
  clear A40
  simp only [Option.some.injEq, Prod.mk.injEq] at H
  obtain ⟨rfl, rfl, rfl⟩ := H
  go_enter Try.func50, Try.ntmps50
  go_wp2_with (first | ((with_reducible refine gate_callee (f := 48) rfl ?_); refine goesL_ (some 13) rfl rfl Try.func48 (by kernel_rfl) rfl #[.pointer (some ⟨g, 0, none⟩), .int .i64 (wrap64 ((wrap64 (a2 - a1)) + 1))] rfl (by (try simp only [List.map_toArray, List.map_cons, List.map_nil]); first | done | rfl | (simp only [List.length_drop, List.length_take]; rfl)) ?_; (with_reducible refine (spec_l1Below.calls g s0_0 s0_1 s0_2 (wrap64 ((wrap64 (a2 - a1)) + 1)) t122 t123 t124 w0 _ ?side1 ?side2 A4.out).mono ?_); (case side1 => repeat (first | (with_reducible first | exact HI0.out | apply IsS61.alloc | apply IsS61.drewN | apply IsS61.drew | apply IsS61.set_1 | apply IsS61.set_2) | exact HI0.out)); (case side2 => repeat (first | (with_reducible first | exact HB.out | apply below_alloc | apply pw_below_drewN | apply below_drew1 | refine below_set ?_ (IsS61.ge HI0.out)) | exact HB.out)); rintro e w5 ⟨rfl, hi, hb, hk⟩; refine ⟨_, rfl, ?_⟩; have n0_ := Aside0.mk (KeepBut.trans (by repeat (first | (with_reducible first | exact HK.out | apply KeepBut.set_ | apply keep_drewN | apply keep_drew | apply keep_alloc) | exact HK.out)) hk (.inl rfl)); have n1_ := Aside0.mk (hb); have n2_ := Aside0.mk (hi); clear HK; clear HB; clear HI0; have HK := n0_; have HB := n1_; have HI0 := n2_; clear n0_ n1_ n2_; (try clear hb); (try clear hb2); (try clear hk); (try clear hi)))
  go_ret
  exact ⟨by first | rfl | (simp [errW_none, errW_some] <;> rfl) | (simp [*, errW_none, errW_some] <;> rfl), by repeat (first | (with_reducible first | exact HI0.out | apply IsS61.alloc | apply IsS61.drewN | apply IsS61.drew | apply IsS61.set_1 | apply IsS61.set_2) | exact HI0.out), by repeat (first | (with_reducible first | exact HB.out | apply below_alloc | apply pw_below_drewN | apply below_drew1 | refine below_set ?_ (IsS61.ge HI0.out)) | exact HB.out), by repeat (first | (with_reducible first | exact HK.out | apply KeepBut.set_ | apply keep_drewN | apply keep_drew | apply keep_alloc) | exact HK.out)⟩

/-! ### spec_l1Zero: function 52 -/
open Go.Proofs.Ytofiabjphjpglaa.PB
/-! #### the draws' cursor: where it stands (b: the bytes, i: how many are used) -/
def St (b : List Int) (i : Int) : Prop := 0 ≤ i ∧ i ≤ b.length ∧ b.length ≤ 4096
theorem and255 (x : Int) : 0 ≤ Go.bits .and .i64 x 255 ∧ Go.bits .and .i64 x 255 ≤ 255 := by
  have h : ((BitVec.ofInt 64 x) &&& (BitVec.ofInt 64 255)).toNat ≤ 255 := by
    rw [BitVec.toNat_and]
    exact Nat.le_trans Nat.and_le_right (by decide)
  have e : Go.bits .and .i64 x 255 = IntKind.i64.wrap (((BitVec.ofInt 64 x) &&& (BitVec.ofInt 64 255)).toNat : Int) := rfl
  rw [e, IntKind.wrap_i64]
  omega
theorem byte_some {b : List Int} {i : Int} (h : Int) (hs : St b i) : SomeP (spec_l1Byte.f b i h) (fun r => (0 ≤ r.1 ∧ r.1 ≤ 255) ∧ St b r.2.1) := by
  obtain ⟨h1, h2, h3⟩ := hs
  unfold spec_l1Byte.f
  refine somep_ite (fun hl => somep_pos h1 (somep_now ⟨and255 _, ?_⟩)) (fun hl => somep_now ⟨and255 _, h1, h2, h3⟩)
  show St b (wrap64 (i + 1))
  rw [w64 (by omega) (by omega)]
  exact ⟨by omega, by omega, h3⟩
theorem below_some {b : List Int} {i : Int} (h : Int) (n : Int) (hs : St b i) : SomeP (spec_l1Below.f b i h n) (fun r => (0 ≤ r.1 ∧ (0 < n → r.1 < n)) ∧ St b r.2.1) := by
  unfold spec_l1Below.f
  refine somep_ite (fun hn => somep_now ⟨⟨Int.le_refl _, fun h => by omega⟩, hs⟩) (fun hn => somep_ite (fun h2 => ?_) (fun h2 => ?_))
  · refine somep_bind (byte_some h hs) (fun a ha => somep_neg (by omega) (somep_now ⟨?_, ha.2⟩))
    have e : Int.tmod a.1 n = a.1 % n := Int.tmod_eq_emod_of_nonneg ha.1.1
    show 0 ≤ Int.tmod a.1 n ∧ (0 < n → Int.tmod a.1 n < n)
    rw [e]
    exact ⟨Int.emod_nonneg _ (by omega), fun h => Int.emod_lt_of_pos _ h⟩
  · refine somep_bind (byte_some h hs) (fun a ha => somep_bind (byte_some _ ha.2) (fun c hc => somep_bind (byte_some _ hc.2) (fun d hd => somep_bind (byte_some _ hd.2) (fun e he => somep_neg (by omega) (somep_now ⟨?_, he.2⟩)))))
    have h1 := ha.1; have h3 := hc.1; have h4 := hd.1; have h5 := he.1
    have w1 : wrap64 (a.1 * 16777216) = a.1 * 16777216 := w64 (by omega) (by omega)
    have w2 : wrap64 (c.1 * 65536) = c.1 * 65536 := w64 (by omega) (by omega)
    have w3 : wrap64 (d.1 * 256) = d.1 * 256 := w64 (by omega) (by omega)
    show 0 ≤ Int.tmod (wrap64 (wrap64 (wrap64 (wrap64 (a.1 * 16777216) + wrap64 (c.1 * 65536)) + wrap64 (d.1 * 256)) + e.1)) n ∧ (0 < n → Int.tmod (wrap64 (wrap64 (wrap64 (wrap64 (a.1 * 16777216) + wrap64 (c.1 * 65536)) + wrap64 (d.1 * 256)) + e.1)) n < n)
    rw [w1, w2, w3, w64 (x := a.1 * 16777216 + c.1 * 65536) (by omega) (by omega), w64 (x := a.1 * 16777216 + c.1 * 65536 + d.1 * 256) (by omega) (by omega), w64 (by omega) (by omega), Int.tmod_eq_emod_of_nonneg (by omega)]
    exact ⟨Int.emod_nonneg _ (by omega), fun h => Int.emod_lt_of_pos _ h⟩
theorem new_ev (code : List Int) (hc : code.length ≤ 4096) : EvP (fun k => spec_l1New.f k code) (fun r => r.1 = code ∧ St code r.2.1) := by
  have key : ∀ d i (h : Int), i + d = code.length → EvP (fun k => spec_l1New.l0 k code h (i : Int)) (fun r => r.1 = code ∧ St code r.2.1) := by
    intro d
    induction d with
    | zero =>
      intro i h hi
      refine evp_succ ?_
      have h1 : ¬ (i : Int) < (code.length : Int) := by omega
      simp only [spec_l1New.l0, h1, if_false]
      exact evp_now ⟨rfl, by refine ⟨Int.le_refl _, ?_, hc⟩; show (0 : Int) ≤ code.length; omega⟩
    | succ d ih =>
      intro i h hi
      refine evp_succ ?_
      have h1 : (i : Int) < (code.length : Int) := by omega
      have h2 : (0 : Int) ≤ (i : Int) := by omega
      have h4 := w64s (n := i) (by omega)
      simp only [spec_l1New.l0, h1, h2, h4, if_true]
      exact ih (i + 1) _ (by omega)
  exact key code.length 0 _ (by omega)
theorem once_some {b : List Int} {i : Int} (h : Int) (n : Int) (hs : St b i) : SomeP (spec_l1Once.f b i h n) (fun r => St b r.2.1) := by
  unfold spec_l1Once.f
  exact somep_bind (below_some h n hs) (fun a ha => somep_now ha.2)
theorem from_some {b : List Int} {i : Int} (h : Int) (lo hi : Int) (hs : St b i) (h1 : -1000000000000 ≤ lo) (h2 : lo ≤ hi) (h3 : hi ≤ 1000000000000) : SomeP (spec_l1From.f b i h lo hi) (fun r => (lo ≤ r.1 ∧ r.1 ≤ hi) ∧ St b r.2.1) := by
  unfold spec_l1From.f
  have e : wrap64 (wrap64 (hi - lo) + 1) = hi - lo + 1 := by rw [w64 (x := hi - lo) (by omega) (by omega), w64 (by omega) (by omega)]
  rw [e]
  refine somep_bind (below_some h _ hs) (fun a ha => somep_now ⟨?_, ha.2⟩)
  have := ha.1.2 (by omega)
  have := ha.1.1
  show lo ≤ wrap64 (lo + a.1) ∧ wrap64 (lo + a.1) ≤ hi
  rw [w64 (by omega) (by omega)]
  omega

/-- The cursor stands somewhere in its bytes; nothing else of what there was is turned. -/
def CurQ (w0 : World) (b : List Int) (g : Nat) (w W : World) : Prop := ∃ i h : Int, St b i ∧ IsS61 w0 W g b i h ∧ Below w0.heap.size w0 W ∧ KeepBut w W g none
theorem CurQ.trans {w0 w W W' : World} {b : List Int} {g : Nat} (h1 : CurQ w0 b g w W) (h2 : CurQ w0 b g W W') : CurQ w0 b g w W' := by
  obtain ⟨_, _, _, _, _, k1⟩ := h1
  obtain ⟨i, h, s, q, bl, k2⟩ := h2
  exact ⟨i, h, s, q, bl, KeepBut.trans k1 k2 (.inl rfl)⟩
theorem CurQ.drewN {w0 w W : World} {b : List Int} {g : Nat} (h1 : CurQ w0 b g w W) (n : Nat) : CurQ w0 b g w (W.drewN n) := by
  obtain ⟨i, h, s, q, bl, k⟩ := h1
  exact ⟨i, h, s, IsS61.drewN q n, pw_below_drewN bl n, keep_drewN k n⟩
theorem CurQ.alloc {w0 w W : World} {b : List Int} {g : Nat} (h1 : CurQ w0 b g w W) (o : Obj) : CurQ w0 b g w (W.alloc o) := by
  obtain ⟨i, h, s, q, bl, k⟩ := h1
  exact ⟨i, h, s, IsS61.alloc q o, below_alloc bl o, keep_alloc k o⟩
theorem CurQ.below {w0 w W W' : World} {b : List Int} {g : Nat} (h1 : CurQ w0 b g w W) (hb : Below W.heap.size W W') : CurQ w0 b g w W' := by
  obtain ⟨i, h, s, q, bl, k⟩ := h1
  exact ⟨i, h, s, IsS61.below q hb, below_step bl hb, KeepBut.trans k (KeepBut.of_below hb g none) (.inl rfl)⟩
theorem CurQ.refl {w0 w : World} {b : List Int} {g : Nat} {i h : Int} (s : St b i) (q : IsS61 w0 w g b i h) (bl : Below w0.heap.size w0 w) : CurQ w0 b g w w := ⟨i, h, s, q, bl, ⟨Nat.le_refl _, fun _ _ _ _ => rfl⟩⟩
theorem R_cur {w0 w W W' : World} {b : List Int} {g e base : Nat} {v : Value} {xs : List Fl} (he : e ≠ 61) (h : Kf.R e W base (fun _ => True) v xs) (h1 : CurQ w0 b g w W) (h2 : CurQ w0 b g W W') : Kf.R e W' base (fun _ => True) v xs := by
  obtain ⟨_, _, _, q, _, _⟩ := h1
  obtain ⟨_, _, _, _, _, k⟩ := h2
  have h3 := IsS61.apart q h (fun x hx => by
    have : x = e := by simpa [Kf] using hx
    rw [this]; exact he)
  exact Kd.R_mono (Kd.R_keep h3 k (fun _ hk => hk.2)) (fun _ hk => trivial)
theorem cur_below {w0 w W : World} {b : List Int} {g : Nat} (n : Int) (h : CurQ w0 b g w W) :
    Calls Try.prog 48 #[.pointer (some ⟨g, 0, none⟩), .int .i64 n] W fun e w' => ∃ r : Int, e = .returned (.int .i64 r) ∧ (0 ≤ r ∧ (0 < n → r < n)) ∧ CurQ w0 b g W w' := by
  obtain ⟨i, h', s, q, bl, k⟩ := h
  obtain ⟨⟨r1, r2, r3⟩, hf, hr, hs⟩ := below_some h' n s
  refine (spec_l1Below.calls g b i h' n r1 r2 r3 w0 W q bl hf).mono ?_
  rintro e w' ⟨rfl, hI, hB, hK⟩
  exact ⟨r1, rfl, hr, r2, r3, hs, hI, hB, hK⟩
theorem cur_once {w0 w W : World} {b : List Int} {g : Nat} (n : Int) (h : CurQ w0 b g w W) :
    Calls Try.prog 47 #[.pointer (some ⟨g, 0, none⟩), .int .i64 n] W fun e w' => ∃ r : Bool, e = .returned (.bool r) ∧ CurQ w0 b g W w' := by
  obtain ⟨i, h', s, q, bl, k⟩ := h
  obtain ⟨⟨r1, r2, r3⟩, hf, hs⟩ := once_some h' n s
  refine (spec_l1Once.calls g b i h' n r1 r2 r3 w0 W q bl hf).mono ?_
  rintro e w' ⟨rfl, hI, hB, hK⟩
  exact ⟨r1, rfl, r2, r3, hs, hI, hB, hK⟩
theorem lit_f {w : World} {base : Nat} {ok : Nat → Prop} (bs : List Nat) : Reps (Kf.M w base ok) Kf.sz (bs.map cv) (bs.map (Value.float .f64)) := by
  refine ⟨by simp [Kf], fun j p hj => ?_⟩
  rw [List.getElem?_map] at hj
  obtain ⟨b, hb, rfl⟩ := Option.map_eq_some_iff.1 hj
  obtain ⟨hlt, he⟩ := List.getElem?_eq_some_iff.1 hb
  refine ⟨b, ?_, rfl⟩
  show (((bs.map (Value.float .f64)).drop (j * 1)).take 1) = [Value.float .f64 b]
  rw [Nat.mul_one, List.drop_eq_getElem_cons (by simpa using hlt)]
  simp [he]

theorem cur_from {w0 w W : World} {b : List Int} {g : Nat} (lo hi : Int) (h1 : -1000000000000 ≤ lo) (h2 : lo ≤ hi) (h3 : hi ≤ 1000000000000) (h : CurQ w0 b g w W) :
    Calls Try.prog 50 #[.pointer (some ⟨g, 0, none⟩), .int .i64 lo, .int .i64 hi] W fun e w' => ∃ r : Int, e = .returned (.int .i64 r) ∧ (lo ≤ r ∧ r ≤ hi) ∧ CurQ w0 b g W w' := by
  obtain ⟨i, h', s, q, bl, k⟩ := h
  obtain ⟨⟨r1, r2, r3⟩, hf, hr, hs⟩ := from_some h' lo hi s h1 h2 h3
  refine (spec_l1From.calls g b i h' lo hi r1 r2 r3 w0 W q bl hf).mono ?_
  rintro e w' ⟨rfl, hI, hB, hK⟩
  exact ⟨r1, rfl, hr, r2, r3, hs, hI, hB, hK⟩
theorem cur_grown {w0 w W W' : World} {b : List Int} {g : Nat} (h1 : CurQ w0 b g w W) (hg : W.grownBy W' none) (hb : Below w0.heap.size w0 W') : CurQ w0 b g w W' := by
  obtain ⟨i, h, s, q, bl, k⟩ := h1
  exact ⟨i, h, s, IsS61.grown q hg (by simp), hb, KeepBut.trans k (KeepBut.of_grown hg g) (.inl rfl)⟩
theorem R_appendf {P : Program} {ops : Array Oper} {rest : List Oper} {o : Oper} {a : Act} {Q : Exit → Act → World → Prop} {w0 W : World} {b : Nat} (base : Nat) (hgd : o.guard = none) (s x : Operand) (t e : TypeId)
    (ho : o.op = .call { callee := .builtin .append, args := #[s, x], argTypes := #[t, t] })
    (ht : P.underlying t = some (.slice e)) (hinfo : (P.info? e).map (fun i => (i.zero, i.size, i.bytes)) = some (some (.float .f64 0), 1, 8))
    (v : Value) (xs : List Fl) (ok : Nat → Prop) (hs : a.eval s = v) (hx : a.eval x = .slice (some ⟨W.heap.size, 0, none⟩) 1 1) (hfresh : ∀ k, W.heap.size ≤ k → ok k)
    (HO : Kf.R e W base ok v xs) (HB : Below base w0 W) (hbase : base ≤ W.heap.size) (hl : (xs.length + 1) * 8 ≤ 140737488355328)
    (h : ∀ v1 w1, Kf.R e w1 base ok v1 (xs ++ [cv b]) → Below base w0 w1 → W.grownBy w1 v.ownBlock → (v1.ownBlock = v.ownBlock ∨ ∃ b, v1.ownBlock = some b ∧ W.heap.size ≤ b) → wpList P ops Q rest (a.put o.dst v1) w1) :
    wpList P ops Q (o :: rest) a (W.alloc (.cells #[.float .f64 b] e)) :=
  Kd.R_append Kf base hgd s x t e (.float .f64 0) 8 ho ht hinfo rfl (by decide) (by omega) v xs (cv b) [.float .f64 b] ok (fun _ => False) hs hx ⟨b, rfl, rfl⟩ (fun _ hk => hk.elim) hfresh HO HB hbase hl h
theorem cur_size {w0 w W : World} {b : List Int} {g : Nat} (h1 : CurQ w0 b g w W) : w.heap.size ≤ W.heap.size := by
  obtain ⟨_, _, _, _, _, k⟩ := h1
  exact k.1
theorem cur_blw {w0 w W : World} {b : List Int} {g : Nat} (h1 : CurQ w0 b g w W) : Below w0.heap.size w0 W := by
  obtain ⟨_, _, _, _, bl, _⟩ := h1
  exact bl
theorem cur_append {w0 w W W' : World} {b : List Int} {g e base : Nat} {v : Value} {xs : List Fl} (he : e ≠ 61) (h1 : CurQ w0 b g w W) (ho : Kf.R e W base (fun k => w.heap.size ≤ k) v xs) (hg : W.grownBy W' v.ownBlock) (hb : Below w0.heap.size w0 W') : CurQ w0 b g w W' := by
  obtain ⟨i, h, s, q, bl, k⟩ := h1
  refine ⟨i, h, s, IsS61.grown q hg (q.own_ne ho he), hb, KeepBut.trans k (KeepBut.of_grown hg g) ?_⟩
  cases hv : v.ownBlock with
  | none => exact .inl rfl
  | some x => exact .inr ⟨x, rfl, ho.1 x hv⟩
theorem R_cur' {w0 w W W' : World} {b : List Int} {g e base : Nat} {ok : Nat → Prop} {v : Value} {xs : List Fl} (he : e ≠ 61) (h : Kf.R e W base ok v xs) (h1 : CurQ w0 b g w W) (h2 : CurQ w0 b g W W') : Kf.R e W' base ok v xs := by
  obtain ⟨_, _, _, q, _, _⟩ := h1
  obtain ⟨_, _, _, _, _, k⟩ := h2
  have h3 := IsS61.apart q h (fun x hx => by
    have : x = e := by simpa [Kf] using hx
    rw [this]; exact he)
  exact Kd.R_mono (Kd.R_keep h3 k (fun _ hk => hk.2)) (fun _ hk => hk.1)
theorem cur_new {w : World} {A0 : Option Addr} {c0 : Nat} {l0 : List Int} (hr0 : Kd.C (Kd.int .u8) w A0 l0.length l0) (hc0 : l0.length ≤ c0) (hl : l0.length ≤ 4096) :
    Calls Try.prog 45 #[.slice A0 l0.length c0] w fun e w' => ∃ g : Nat, e = .returned (.pointer (some ⟨g, 0, none⟩)) ∧ CurQ w l0 g w' w' := by
  obtain ⟨⟨r1, r2, r3⟩, ⟨k, hk⟩, hc, hs⟩ := new_ev l0 hl
  simp only at hc hs
  subst hc
  refine (spec_l1New.calls k A0 c0 r1 r1 r2 r3 w w (Below.refl _ _) hr0 hc0 (hk k (Nat.le_refl _))).mono ?_
  rintro e w' ⟨g, rfl, hI, hB, hB2⟩
  exact ⟨g, rfl, CurQ.refl hs hI hB⟩
@[go_sem] theorem unary_negf (k : FloatKind) (b : Nat) : Op.unary .neg (.float k b) = pure (.float k (Op.negFloat k b)) := rfl
theorem spec_l1Zero.calls (w : World) :
    Calls Try.prog 52 #[] w fun e w' => e = .returned (.float .f64 0) ∧ Drawn0 w w' := by
  go_enter Try.func52, Try.ntmps52
  go_wp2
  go_ret
  exact ⟨rfl, Drawn0.refl _⟩


/-! ### spec_l1DrawFloat: function 49 -/
set_option maxHeartbeats 4000000 in
set_option maxRecDepth 100000 in
theorem spec_l1DrawFloat.calls {b : List Int} {g : Nat} {w0 wc w : World} (h : CurQ w0 b g wc w) :
    Calls Try.prog 49 #[.pointer (some ⟨g, 0, none⟩)] w fun e w' => ∃ x : Nat, e = .returned (.float .f64 x) ∧ CurQ w0 b g w w' := by
  obtain ⟨i0, h0, s0, q0, b0, _⟩ := h
  have HC := Aside0.mk (CurQ.refl s0 q0 b0)
  clear s0 q0 b0
  go_enter Try.func49, Try.ntmps49
  go_wp2_with (first | (go_at_call 52; refine (spec_l1Zero.calls _).mono ?_; rintro e wz_ ⟨rfl, ⟨nd_, rfl⟩⟩) | (go_at_call 50; (with_reducible refine (cur_from (w0 := w0) (w := w) (b := b) (-20) 20 ?d1 ?d2 ?d3 ?c1).mono ?_); (case d1 => omega); (case d2 => omega); (case d3 => omega); (case c1 => exact (by repeat (first | (with_reducible first | exact HC.out | apply CurQ.alloc | apply CurQ.drewN) | exact HC.out))); rintro e wc_ ⟨r_, rfl, hr_, hc_⟩; have n1_ := Aside0.mk (CurQ.trans (by repeat (first | (with_reducible first | exact HC.out | apply CurQ.alloc | apply CurQ.drewN) | exact HC.out)) hc_); clear HC hc_; have HC := n1_; clear n1_; clear hr_) | (go_at_call 48; (with_reducible refine (cur_below (w0 := w0) (w := w) (b := b) 12 ?c1).mono ?_); (case c1 => exact (by repeat (first | (with_reducible first | exact HC.out | apply CurQ.alloc | apply CurQ.drewN) | exact HC.out))); rintro e wc_ ⟨r_, rfl, hr_, hc_⟩; have n1_ := Aside0.mk (CurQ.trans (by repeat (first | (with_reducible first | exact HC.out | apply CurQ.alloc | apply CurQ.drewN) | exact HC.out)) hc_); clear HC hc_; have HC := n1_; clear n1_; clear hr_) | (go_at_call 48; (with_reducible refine (cur_below (w0 := w0) (w := w) (b := b) 1073741824 ?c1).mono ?_); (case c1 => exact (by repeat (first | (with_reducible first | exact HC.out | apply CurQ.alloc | apply CurQ.drewN) | exact HC.out))); rintro e wc_ ⟨r_, rfl, hr_, hc_⟩; have n1_ := Aside0.mk (CurQ.trans (by repeat (first | (with_reducible first | exact HC.out | apply CurQ.alloc | apply CurQ.drewN) | exact HC.out)) hc_); clear HC hc_; have HC := n1_; clear n1_; clear hr_) | (go_at_call 48; (with_reducible refine (cur_below (w0 := w0) (w := w) (b := b) 40 ?c1).mono ?_); (case c1 => exact (by repeat (first | (with_reducible first | exact HC.out | apply CurQ.alloc | apply CurQ.drewN) | exact HC.out))); rintro e wc_ ⟨r40_, rfl, h40_, hc_⟩; have n1_ := Aside0.mk (CurQ.trans (by repeat (first | (with_reducible first | exact HC.out | apply CurQ.alloc | apply CurQ.drewN) | exact HC.out)) hc_); clear HC hc_; have HC := n1_; clear n1_) | ((with_reducible refine gate_dst (N := 36) rfl ?_); (try (refine gate_guard (by rfl) ?_; dsimp only)); refine Kd.R_lit Kf (w0 := w0) w0.heap.size 23 ?hg (N := 36) ?hd (xs := [cv ?x0_, cv ?x1_, cv ?x2_, cv ?x3_, cv ?x4_, cv ?x5_, cv ?x6_, cv ?x7_, cv ?x8_]) (inner := [.float .f64 ?x0_, .float .f64 ?x1_, .float .f64 ?x2_, .float .f64 ?x3_, .float .f64 ?x4_, .float .f64 ?x5_, .float .f64 ?x6_, .float .f64 ?x7_, .float .f64 ?x8_]) (ok := fun _ => True) (okp := fun _ => True) ?hr ?hp (fun _ hk => hk) trivial ?hbl ?hbs (by simp) ?_; (case hd => rfl); (case hg => rfl); (case hr => first | (go_simp; done) | (go_simp; rfl)); (case hp => exact lit_f [?x0_, ?x1_, ?x2_, ?x3_, ?x4_, ?x5_, ?x6_, ?x7_, ?x8_]); (case hbl => exact (by have := HC.out; obtain ⟨_, _, _, _, bl_, _⟩ := this; repeat (first | (with_reducible first | exact bl_ | apply below_alloc | apply pw_below_drewN) | exact bl_))); (case hbs => exact (Below.size (by have := HC.out; obtain ⟨_, _, _, _, bl_, _⟩ := this; repeat (first | (with_reducible first | exact bl_ | apply below_alloc | apply pw_below_drewN) | exact bl_)))); intro vl_ wl_ hol_ hbl_ hg_ hnew_; obtain ⟨g9_, c9_, e9_, _, _⟩ := Kd.R_form hol_ (by simp); subst e9_; obtain hcw_ := cur_grown (by repeat (first | (with_reducible first | exact HC.out | apply CurQ.alloc | apply CurQ.drewN) | exact HC.out)) hg_ hbl_; clear HC; have HC := Aside0.mk hcw_; have HO := Aside0.mk hol_; clear hcw_ hol_ hbl_ hg_ hnew_) | (go_at_call 48; (with_reducible refine (cur_below (w0 := w0) (w := w) (b := b) 9 ?c1).mono ?_); (case c1 => exact (by repeat (first | (with_reducible first | exact HC.out | apply CurQ.alloc | apply CurQ.drewN) | exact HC.out))); rintro e wc_ ⟨r9_, rfl, hr9_, hc_⟩; have HO2 := Aside0.mk (R_cur (by decide) HO.out (by repeat (first | (with_reducible first | exact HC.out | apply CurQ.alloc | apply CurQ.drewN) | exact HC.out)) hc_); clear HO; have n1_ := Aside0.mk (CurQ.trans (by repeat (first | (with_reducible first | exact HC.out | apply CurQ.alloc | apply CurQ.drewN) | exact HC.out)) hc_); clear HC hc_; have HC := n1_; clear n1_; obtain ⟨b9_, hx9_, _, _⟩ := R_cellf HO2.out r9_ hr9_.1 (hr9_.2 (by decide)); have p9_ : (0 ≤ r9_) = True := eq_true hr9_.1; have q9_ : (r9_ < 9) = True := eq_true (hr9_.2 (by decide))))
  all_goals first
    | (go_ret; exact ⟨_, rfl, (by repeat (first | (with_reducible first | exact HC.out | apply CurQ.alloc | apply CurQ.drewN) | exact HC.out))⟩)
    | (go_loopg [3, 5] 40 (fun gg v3 v5 w' => ∃ (i : Int) (x : Nat), Aside0 (0 ≤ i ∧ i ≤ gg ∧ i ≤ 40) ∧ v5 = .int .i64 i ∧ v3 = .float .f64 x ∧ Aside0 (CurQ w0 b g w w'))
       case atStart => exact ⟨_, _, ⟨h40_.1, Int.le_of_lt (h40_.2 (by decide)), Int.le_of_lt (h40_.2 (by decide))⟩, rfl, rfl, HC⟩
       case round =>
         clear HC
         obtain ⟨i, x, HK, rfl, rfl, HC⟩ := hrel
         have hk0 := HK.out
         by_cases hlt : 0 < i
         · have hltb : decide (i > 0) = true := decide_eq_true (by omega)
           have hw : wrap64 (i - 1) = i - 1 := by unfold wrap64; omega
           go_wp2
           go_roundg ((i - 1).toNat)
           case measure => omega
           case rel => exact ⟨i - 1, _, ⟨by omega, by omega, by omega⟩, by first | rfl | rw [hw], rfl, ⟨(by repeat (first | (with_reducible first | exact HC.out | apply CurQ.alloc | apply CurQ.drewN) | exact HC.out))⟩⟩
         · have hltb : decide (i > 0) = false := decide_eq_false (by omega)
           go_wp2
           go_ret
           first | exact ⟨_, rfl, (by repeat (first | (with_reducible first | exact HC.out | apply CurQ.alloc | apply CurQ.drewN) | exact HC.out))⟩ | exact ⟨⟨_, rfl⟩, (by repeat (first | (with_reducible first | exact HC.out | apply CurQ.alloc | apply CurQ.drewN) | exact HC.out))⟩)


/-! ### spec_l13Draw: function 46 -/
set_option maxHeartbeats 4000000 in
set_option maxRecDepth 100000 in
theorem spec_l13Draw.calls {b : List Int} {g : Nat} {w0 wc w : World} (h : CurQ w0 b g wc w) :
    Calls Try.prog 46 #[.pointer (some ⟨g, 0, none⟩)] w fun e w' => ∃ (v : Value) (xs : List Fl), e = .returned v ∧ Kf.R 23 w' w0.heap.size (fun k => w.heap.size ≤ k) v xs ∧ xs.length ≤ 4097 ∧ CurQ w0 b g w w' := by
  obtain ⟨i0, h0, s0, q0, b0, _⟩ := h
  have HC := Aside0.mk (CurQ.refl s0 q0 b0)
  clear s0 q0 b0
  go_enter Try.func46, Try.ntmps46
  go_wp2_with (first | ((with_reducible refine gate_dst (N := 7) rfl ?_); (try (refine gate_guard (by rfl) ?_; dsimp only)); (refine Kd.R_lit Kf (w0 := w0) w0.heap.size 23 ?hg (N := 7) ?hd (xs := ([] : List Fl)) (inner := []) (ok := (fun k_ => w.heap.size ≤ k_)) (okp := (fun k_ => w.heap.size ≤ k_)) ?hr ?hp ?hok ?hfr ?hbl ?hbs (by simp) ?_; (case hd => rfl); (case hg => rfl); (case hr => first | (go_simp; done) | (go_simp; rfl)); (case hp => exact (Reps.none _ _)); (case hok => exact (fun k_ hk_ => hk_)); (case hfr => exact (cur_size (by repeat (first | (with_reducible first | exact HC.out | apply CurQ.alloc | apply CurQ.drewN) | exact HC.out)))); (case hbl => exact (cur_blw (by repeat (first | (with_reducible first | exact HC.out | apply CurQ.alloc | apply CurQ.drewN) | exact HC.out)))); (case hbs => exact (Below.size (cur_blw (by repeat (first | (with_reducible first | exact HC.out | apply CurQ.alloc | apply CurQ.drewN) | exact HC.out))))); intro vl_ wl_ hol_ hbl_ hg_ hnew_; have hcw_ := cur_grown (by repeat (first | (with_reducible first | exact HC.out | apply CurQ.alloc | apply CurQ.drewN) | exact HC.out)) hg_ hbl_; clear HC; have HC := Aside0.mk hcw_; have HO := Aside0.mk hol_; clear hcw_ hol_ hbl_ hg_ hnew_)) | (go_at_call 47; (with_reducible refine (cur_once (w0 := w0) (w := w) (b := b) 2 ?c1).mono ?_); (case c1 => exact (by repeat (first | (with_reducible first | exact HC.out | apply CurQ.alloc | apply CurQ.drewN) | exact HC.out))); rintro e wc_ ⟨tm_, rfl, hc_⟩; have n10_ := Aside0.mk (R_cur' (e := 23) (by decide) (by (with_reducible repeat (first | apply Kd.R_alloc | apply Kd.R_drewN | apply Kd.R_drew)); exact HO.out) (by repeat (first | (with_reducible first | exact HC.out | apply CurQ.alloc | apply CurQ.drewN) | exact HC.out)) hc_); have n1_ := Aside0.mk (CurQ.trans (by repeat (first | (with_reducible first | exact HC.out | apply CurQ.alloc | apply CurQ.drewN) | exact HC.out)) hc_); clear HC HO; have HC := n1_; clear n1_; have HO := n10_; clear n10_) | (go_at_call 48; (with_reducible refine (cur_below (w0 := w0) (w := w) (b := b) 16 ?c1).mono ?_); (case c1 => exact (by repeat (first | (with_reducible first | exact HC.out | apply CurQ.alloc | apply CurQ.drewN) | exact HC.out))); rintro e wc_ ⟨n_, rfl, ⟨hn0_, hn1_⟩, hc_⟩; have n10_ := Aside0.mk (R_cur' (e := 23) (by decide) (by (with_reducible repeat (first | apply Kd.R_alloc | apply Kd.R_drewN | apply Kd.R_drew)); exact HO.out) (by repeat (first | (with_reducible first | exact HC.out | apply CurQ.alloc | apply CurQ.drewN) | exact HC.out)) hc_); have n1_ := Aside0.mk (CurQ.trans (by repeat (first | (with_reducible first | exact HC.out | apply CurQ.alloc | apply CurQ.drewN) | exact HC.out)) hc_); clear HC HO; have HC := n1_; clear n1_; have HO := n10_; clear n10_))
  cases tm_
  all_goals
    go_loopg [3, 5] 16 (fun gg v3 v5 w' => ∃ (i : Int) (xs : List Fl), Aside0 (0 ≤ i ∧ i ≤ gg ∧ i + xs.length ≤ 16) ∧ v5 = .int .i64 i ∧ Aside0 (Kf.R 23 w' w0.heap.size (fun k => w.heap.size ≤ k) v3 xs) ∧ Aside0 (CurQ w0 b g w w'))
    case atStart => exact ⟨n_, [], ⟨hn0_, Int.le_of_lt (hn1_ (by decide)), by have := hn1_ (by decide); simp; omega⟩, rfl, HO, HC⟩
    case round =>
      clear HC HO
      obtain ⟨i, xs, HK, rfl, HO, HC⟩ := hrel
      have hk0 := HK.out
      by_cases hlt : 0 < i
      · have hltb : decide (i > 0) = true := decide_eq_true (by omega)
        have hw : wrap64 (i - 1) = i - 1 := by unfold wrap64; omega
        have hxl : ∀ p : Fl, (i - 1 + ((xs ++ [p]).length : Int)) ≤ 16 := fun p => by (simp; omega)
        go_wp2_with (first | (go_at_call 49; (with_reducible refine (spec_l1DrawFloat.calls (w0 := w0) (wc := w) (b := b) ?c1).mono ?_); (case c1 => exact (by repeat (first | (with_reducible first | exact HC.out | apply CurQ.alloc | apply CurQ.drewN) | exact HC.out))); rintro e wc_ ⟨x_, rfl, hc_⟩; have n10_ := Aside0.mk (R_cur' (e := 23) (by decide) (by (with_reducible repeat (first | apply Kd.R_alloc | apply Kd.R_drewN | apply Kd.R_drew)); exact HO.out) (by repeat (first | (with_reducible first | exact HC.out | apply CurQ.alloc | apply CurQ.drewN) | exact HC.out)) hc_); have n1_ := Aside0.mk (CurQ.trans (by repeat (first | (with_reducible first | exact HC.out | apply CurQ.alloc | apply CurQ.drewN) | exact HC.out)) hc_); clear HC HO; have HC := n1_; clear n1_; have HO := n10_; clear n10_) | (go_at_call 50; (with_reducible refine (cur_from (w0 := w0) (w := w) (b := b) (-40) 40 ?d1 ?d2 ?d3 ?c1).mono ?_); (case d1 => omega); (case d2 => omega); (case d3 => omega); (case c1 => exact (by repeat (first | (with_reducible first | exact HC.out | apply CurQ.alloc | apply CurQ.drewN) | exact HC.out))); rintro e wc_ ⟨r_, rfl, ⟨_, _⟩, hc_⟩; have n10_ := Aside0.mk (R_cur' (e := 23) (by decide) (by (with_reducible repeat (first | apply Kd.R_alloc | apply Kd.R_drewN | apply Kd.R_drew)); exact HO.out) (by repeat (first | (with_reducible first | exact HC.out | apply CurQ.alloc | apply CurQ.drewN) | exact HC.out)) hc_); have n1_ := Aside0.mk (CurQ.trans (by repeat (first | (with_reducible first | exact HC.out | apply CurQ.alloc | apply CurQ.drewN) | exact HC.out)) hc_); clear HC HO; have HC := n1_; clear n1_; have HO := n10_; clear n10_) | ((with_reducible refine gate_builtin (b := .append) (xs := #[.tmp 23, .tmp 25]) rfl ?_); (try (refine gate_guard (by rfl) ?_; dsimp only)); at_builtin; refine R_appendf (w0 := w0) w0.heap.size rfl (.tmp 23) (.tmp 25) 22 23 rfl Try.underlying22 finfo _ xs (fun k_ => w.heap.size ≤ k_) rfl rfl ?aF ?aO ?aB ?aS ?aL ?_; (case aB => exact (cur_blw (by repeat (first | (with_reducible first | exact HC.out | apply CurQ.alloc | apply CurQ.drewN) | exact HC.out)))); (case aF => exact (fun _ hk_ => Nat.le_trans (cur_size (by repeat (first | (with_reducible first | exact HC.out | apply CurQ.alloc | apply CurQ.drewN) | exact HC.out))) hk_)); (case aO => exact (by (with_reducible repeat (first | apply Kd.R_alloc | apply Kd.R_drewN | apply Kd.R_drew)); exact HO.out)); (case aS => exact (Below.size (cur_blw (by repeat (first | (with_reducible first | exact HC.out | apply CurQ.alloc | apply CurQ.drewN) | exact HC.out))))); (case aL => omega); intro va_ wa_ hoa_ hba_ hg_ hat_; have n1_ := Aside0.mk hoa_; have n0_ := Aside0.mk (cur_append (e := 23) (by decide) (by repeat (first | (with_reducible first | exact HC.out | apply CurQ.alloc | apply CurQ.drewN) | exact HC.out)) (by (with_reducible repeat (first | apply Kd.R_alloc | apply Kd.R_drewN | apply Kd.R_drew)); exact HO.out) hg_ hba_); clear HC HO hg_ hat_; have HC := n0_; have HO := n1_; clear n0_ n1_ hoa_ hba_))
        all_goals
          go_roundg ((i - 1).toNat)
          case measure => omega
          case rel => exact ⟨i - 1, _, ⟨by omega, by omega, hxl _⟩, by first | rfl | rw [hw], ⟨(by (with_reducible repeat (first | apply Kd.R_alloc | apply Kd.R_drewN | apply Kd.R_drew)); exact HO.out)⟩, ⟨(by repeat (first | (with_reducible first | exact HC.out | apply CurQ.alloc | apply CurQ.drewN) | exact HC.out))⟩⟩
      · have hltb : decide (i > 0) = false := decide_eq_false (by omega)
        go_wp2_with (first | (go_at_call 47; (with_reducible refine (cur_once (w0 := w0) (w := w) (b := b) 60 ?c1).mono ?_); (case c1 => exact (by repeat (first | (with_reducible first | exact HC.out | apply CurQ.alloc | apply CurQ.drewN) | exact HC.out))); rintro e wc_ ⟨r_, rfl, hc_⟩; have n10_ := Aside0.mk (R_cur' (e := 23) (by decide) (by (with_reducible repeat (first | apply Kd.R_alloc | apply Kd.R_drewN | apply Kd.R_drew)); exact HO.out) (by repeat (first | (with_reducible first | exact HC.out | apply CurQ.alloc | apply CurQ.drewN) | exact HC.out)) hc_); have n1_ := Aside0.mk (CurQ.trans (by repeat (first | (with_reducible first | exact HC.out | apply CurQ.alloc | apply CurQ.drewN) | exact HC.out)) hc_); clear HC HO; have HC := n1_; clear n1_; have HO := n10_; clear n10_) | (go_at_call 48; (with_reducible refine (cur_below (w0 := w0) (w := w) (b := b) 2 ?c1).mono ?_); (case c1 => exact (by repeat (first | (with_reducible first | exact HC.out | apply CurQ.alloc | apply CurQ.drewN) | exact HC.out))); rintro e wc_ ⟨r2_, rfl, ⟨h20_, h21_⟩, hc_⟩; have n10_ := Aside0.mk (R_cur' (e := 23) (by decide) (by (with_reducible repeat (first | apply Kd.R_alloc | apply Kd.R_drewN | apply Kd.R_drew)); exact HO.out) (by repeat (first | (with_reducible first | exact HC.out | apply CurQ.alloc | apply CurQ.drewN) | exact HC.out)) hc_); have n1_ := Aside0.mk (CurQ.trans (by repeat (first | (with_reducible first | exact HC.out | apply CurQ.alloc | apply CurQ.drewN) | exact HC.out)) hc_); clear HC HO; have HC := n1_; clear n1_; have HO := n10_; clear n10_; have h22_ := h21_ (by decide); clear h21_; have hw2_ : wrap64 (4096 + r2_) = 4096 + r2_ := by unfold wrap64; omega) | ((with_reducible refine gate_dst (N := 32) rfl ?_); refine Kd.R_make Kf (w0 := w0) w0.heap.size 23 rfl (N := 32) rfl 22 _ _ rfl _ rfl rfl Try.underlying22 (.float .f64 0) 8 finfo rfl (by decide) (by omega) (cv 0) (ok := (fun k_ => w.heap.size ≤ k_)) (okp := fun _ => False) ⟨0, rfl, rfl⟩ (fun _ hk => hk.elim) ?hfr ?h0 ?hmk ?hbl ?hbs ?_; (case hfr => exact (cur_size (by repeat (first | (with_reducible first | exact HC.out | apply CurQ.alloc | apply CurQ.drewN) | exact HC.out)))); (case h0 => omega); (case hmk => omega); (case hbl => exact (cur_blw (by repeat (first | (with_reducible first | exact HC.out | apply CurQ.alloc | apply CurQ.drewN) | exact HC.out)))); (case hbs => exact (Below.size (cur_blw (by repeat (first | (with_reducible first | exact HC.out | apply CurQ.alloc | apply CurQ.drewN) | exact HC.out))))); intro vm_ wm_ hom_ hbm_ hg_ hnew_; have hcw_ := cur_grown (by repeat (first | (with_reducible first | exact HC.out | apply CurQ.alloc | apply CurQ.drewN) | exact HC.out)) hg_ hbm_; clear HC HO; have HC := Aside0.mk hcw_; have HO := Aside0.mk hom_; clear hcw_ hom_ hbm_ hg_ hnew_))
        all_goals
          go_ret
          first | exact ⟨_, _, rfl, (by (with_reducible repeat (first | apply Kd.R_alloc | apply Kd.R_drewN | apply Kd.R_drew)); exact HO.out), by first | (simp; omega) | omega, (by repeat (first | (with_reducible first | exact HC.out | apply CurQ.alloc | apply CurQ.drewN) | exact HC.out))⟩ | exact ⟨⟨_, rfl⟩, (by (with_reducible repeat (first | apply Kd.R_alloc | apply Kd.R_drewN | apply Kd.R_drew)); exact HO.out), by first | (simp; omega) | omega, (by repeat (first | (with_reducible first | exact HC.out | apply CurQ.alloc | apply CurQ.drewN) | exact HC.out))⟩


/-! ### spec_DrawLoud: function 35 -/
set_option maxHeartbeats 4000000 in
set_option maxRecDepth 100000 in
theorem spec_DrawLoud.calls (A0 : Option Addr) (c0 : Nat) (l0 : List Int) (w : World) (hr0 : Kd.C (Kd.int .u8) w A0 l0.length l0) (hc0 : l0.length ≤ c0) (hl : l0.length ≤ 4096) :
    Calls Try.prog 35 #[.slice A0 l0.length c0] w fun e w' => ∃ (A : Option Addr) (cA : Nat) (xs : List Fl) (x1 x2 : Nat), e = .returned (.tuple #[.slice A xs.length cA, .float .f64 x1, .float .f64 x2]) ∧ (xs.length ≤ cA ∧ Kf.C w' A xs.length xs ∧ xs.length ≤ 4097) ∧ Below w.heap.size w w' := by
  go_enter Try.func35, Try.ntmps35
  go_wp2_with (first | (go_at_call 45; refine (cur_new hr0 hc0 hl).mono ?_; rintro e wn_ ⟨g, rfl, hq_⟩; have HC := Aside0.mk hq_; clear hq_) | (go_at_call 46; (with_reducible refine (spec_l13Draw.calls (w0 := w) (wc := wn_) (b := l0) ?c1).mono ?_); (case c1 => exact (by repeat (first | (with_reducible first | exact HC.out | apply CurQ.alloc | apply CurQ.drewN) | exact HC.out))); rintro e wc_ ⟨v_, xs_, rfl, ho_, hl_, hc_⟩; have n2_ := Aside0.mk (show Kf.R 23 wc_ w.heap.size (fun k_ => wn_.heap.size ≤ k_) v_ xs_ from Kd.R_mono ho_ (fun _ hk_ => Nat.le_trans (cur_size (by repeat (first | (with_reducible first | exact HC.out | apply CurQ.alloc | apply CurQ.drewN) | exact HC.out))) hk_)); have n1_ := Aside0.mk (CurQ.trans (by repeat (first | (with_reducible first | exact HC.out | apply CurQ.alloc | apply CurQ.drewN) | exact HC.out)) hc_); clear HC hc_; have HC := n1_; clear n1_; have HO := n2_; clear n2_ ho_; have HLX := Aside0.mk hl_; clear hl_) | (go_at_call 47; (with_reducible refine (cur_once (w0 := w) (w := wn_) (b := l0) 3 ?c1).mono ?_); (case c1 => exact (by repeat (first | (with_reducible first | exact HC.out | apply CurQ.alloc | apply CurQ.drewN) | exact HC.out))); rintro e wc_ ⟨r_, rfl, hc_⟩; have n10_ := Aside0.mk (R_cur' (e := 23) (by decide) (by (with_reducible repeat (first | apply Kd.R_alloc | apply Kd.R_drewN | apply Kd.R_drew)); exact HO.out) (by repeat (first | (with_reducible first | exact HC.out | apply CurQ.alloc | apply CurQ.drewN) | exact HC.out)) hc_); have n1_ := Aside0.mk (CurQ.trans (by repeat (first | (with_reducible first | exact HC.out | apply CurQ.alloc | apply CurQ.drewN) | exact HC.out)) hc_); clear HC HO; have HC := n1_; clear n1_; have HO := n10_; clear n10_) | (go_at_call 49; (with_reducible refine (spec_l1DrawFloat.calls (w0 := w) (wc := wn_) (b := l0) ?c1).mono ?_); (case c1 => exact (by repeat (first | (with_reducible first | exact HC.out | apply CurQ.alloc | apply CurQ.drewN) | exact HC.out))); rintro e wc_ ⟨x_, rfl, hc_⟩; have n10_ := Aside0.mk (R_cur' (e := 23) (by decide) (by (with_reducible repeat (first | apply Kd.R_alloc | apply Kd.R_drewN | apply Kd.R_drew)); exact HO.out) (by repeat (first | (with_reducible first | exact HC.out | apply CurQ.alloc | apply CurQ.drewN) | exact HC.out)) hc_); have n1_ := Aside0.mk (CurQ.trans (by repeat (first | (with_reducible first | exact HC.out | apply CurQ.alloc | apply CurQ.drewN) | exact HC.out)) hc_); clear HC HO; have HC := n1_; clear n1_; have HO := n10_; clear n10_) | (go_at_call 50; (with_reducible refine (cur_from (w0 := w) (w := wn_) (b := l0) (-2) 2 ?d1 ?d2 ?d3 ?c1).mono ?_); (case d1 => omega); (case d2 => omega); (case d3 => omega); (case c1 => exact (by repeat (first | (with_reducible first | exact HC.out | apply CurQ.alloc | apply CurQ.drewN) | exact HC.out))); rintro e wc_ ⟨r_, rfl, ⟨_, _⟩, hc_⟩; have n10_ := Aside0.mk (R_cur' (e := 23) (by decide) (by (with_reducible repeat (first | apply Kd.R_alloc | apply Kd.R_drewN | apply Kd.R_drew)); exact HO.out) (by repeat (first | (with_reducible first | exact HC.out | apply CurQ.alloc | apply CurQ.drewN) | exact HC.out)) hc_); have n1_ := Aside0.mk (CurQ.trans (by repeat (first | (with_reducible first | exact HC.out | apply CurQ.alloc | apply CurQ.drewN) | exact HC.out)) hc_); clear HC HO; have HC := n1_; clear n1_; have HO := n10_; clear n10_) | (go_at_call 48; (with_reducible refine (cur_below (w0 := w) (w := wn_) (b := l0) 9 ?c1).mono ?_); (case c1 => exact (by repeat (first | (with_reducible first | exact HC.out | apply CurQ.alloc | apply CurQ.drewN) | exact HC.out))); rintro e wc_ ⟨r_, rfl, ⟨_, _⟩, hc_⟩; have n10_ := Aside0.mk (R_cur' (e := 23) (by decide) (by (with_reducible repeat (first | apply Kd.R_alloc | apply Kd.R_drewN | apply Kd.R_drew)); exact HO.out) (by repeat (first | (with_reducible first | exact HC.out | apply CurQ.alloc | apply CurQ.drewN) | exact HC.out)) hc_); have n1_ := Aside0.mk (CurQ.trans (by repeat (first | (with_reducible first | exact HC.out | apply CurQ.alloc | apply CurQ.drewN) | exact HC.out)) hc_); clear HC HO; have HC := n1_; clear n1_; have HO := n10_; clear n10_))
  all_goals
    go_ret3
    obtain ⟨AX, cX, eX, hX1, hX2⟩ := Kd.R_reads HO.out
    subst eX
    exact ⟨_, _, xs_, _, _, rfl, ⟨hX1, hX2, HLX.out⟩, cur_blw (by repeat (first | (with_reducible first | exact HC.out | apply CurQ.alloc | apply CurQ.drewN) | exact HC.out))⟩


/-! ### laws_pick: function 36 -/
def laws_pick.l0 : Nat → List Int → Int → Int → Int → Option (Int)
  | 0, _, _, _, _ => none
  | k + 1, x0, x1, x5, x6 => if x6 < (x0.length : Int) then (if 0 ≤ x6 then (laws_pick.l0 k x0 x1 (Int.tmod (wrap64 ((wrap64 (x5 * 43)) + (wrap64 (rd x0 x6)))) 1000003) (wrap64 (x6 + 1))) else (none)) else (if x1 = 0 then (none) else (some (Int.tmod x5 x1)))
def laws_pick.f (k : Nat) (l0 : List Int) (a1 : Int) : Option (Int) := laws_pick.l0 k l0 a1 (l0.length : Int) 0
theorem laws_pick.mono_l : ∀ k, (∀ y0 y1 y2 y3, LeO (laws_pick.l0 k y0 y1 y2 y3) (laws_pick.l0 (k + 1) y0 y1 y2 y3))
  | 0 => fun _ _ _ _ r h => by simp [laws_pick.l0] at h
  | k + 1 => by
    have ih0 := laws_pick.mono_l k
    · intro y0 y1 y2 y3
      unfold laws_pick.l0
      repeat' first
      | (with_reducible exact ih0 _ _ _ _)
      | (with_reducible exact LeO.refl _)
      | (with_reducible exact LeO.none _)
      | (with_reducible refine LeO.ite ?_ ?_)
      | (with_reducible refine LeO.bind ?_ (fun _ => ?_))
      | exact ih0 _ _ _ _
      | exact LeO.none _
      | refine LeO.ite ?_ ?_
      | refine LeO.bind ?_ (fun _ => ?_)
theorem laws_pick.mono : ∀ a0 a1 k, LeO (laws_pick.f k a0 a1) (laws_pick.f (k + 1) a0 a1) := by
  intro a0 a1 k
  have ih0 := laws_pick.mono_l k
  unfold laws_pick.f
  repeat' first
      | (with_reducible exact ih0 _ _ _ _)
      | (with_reducible exact LeO.refl _)
      | (with_reducible exact LeO.none _)
      | (with_reducible refine LeO.ite ?_ ?_)
      | (with_reducible refine LeO.bind ?_ (fun _ => ?_))
      | exact ih0 _ _ _ _
      | exact LeO.none _
      | refine LeO.ite ?_ ?_
      | refine LeO.bind ?_ (fun _ => ?_)
set_option maxHeartbeats 8000000 in
set_option maxRecDepth 100000 in
theorem laws_pick.calls (k : Nat) (A0 : Option Addr) (c0 : Nat) (l0 : List Int) (a1 : Int) (r : Int) (w : World) (hr0 : Kd.C (Kd.int .u8) w A0 l0.length l0) (hc0 : l0.length ≤ c0) (h : laws_pick.f k l0 a1 = some r) :
    Calls Try.prog 36 #[.slice A0 l0.length c0, .int .i64 a1] w fun e w' => e = .returned (.int .i64 r) ∧ Drawn0 w w' := by
  have HR0 := Aside0.mk hr0
  have HC0 := Aside0.mk hc0
  clear hr0 hc0
  have H : (laws_pick.l0 k l0 a1 (l0.length : Int) 0) = some r := h
  clear h
  have H' := Aside0.mk H
  clear H
  go_enter Try.func36, Try.ntmps36
  go_wp2
  go_loopg [5, 6] k (fun kq v5 v6 w' => ∃ (x5_1 : Int) (x6_1 : Int), v5 = .int .i64 x5_1 ∧ v6 = .int .i64 x6_1 ∧ Aside0 (laws_pick.l0 kq l0 a1 x5_1 x6_1 = some r) ∧ Aside0 (kq ≤ k) ∧ Drawn0 w w')
  case atStart => exact ⟨((l0.length : Int)), (0), (by first | rfl | (simp; done) | (simp [*]; done)), (by first | rfl | (simp; done) | (simp [*]; done)), H', ⟨Nat.le_refl _⟩, by repeat (first | exact Drawn0.refl _ | apply Drawn0.step)⟩
  case round =>
    clear H'
    try clear p2
    obtain ⟨x5_1, x6_1, rfl, rfl, HA, HK1, ⟨m1, rfl⟩⟩ := hrel
    cases gk with
    | zero => exact absurd HA.out (by simp [laws_pick.l0])
    | succ k1 =>
      have H := HA.out
      clear HA
      simp only [laws_pick.l0] at H
      by_cases c3 : x6_1 < (l0.length : Int)
      · rw [if_pos c3] at H
        have c3b0 : decide (x6_1 < (l0.length : Int)) = true := decide_eq_true c3
        clear c3
        by_cases c4 : 0 ≤ x6_1
        · rw [if_pos c4] at H
          have c4b0 : decide (0 ≤ x6_1) = true := decide_eq_true c4
          clear c4
          have H' := Aside0.mk H
          clear H
          have p125 : 0 ≤ (x6_1 : Int) := of_decide_eq_true (by first | (with_reducible assumption) | assumption)
          have q125 : x6_1 < (l0.length : Int) := of_decide_eq_true (by first | (with_reducible assumption) | assumption)
          obtain ⟨ad125, e125, hx125_0⟩ := Kd.at_int HR0.out x6_1 p125 q125
          cases e125
          replace p125 := eq_true p125
          replace q125 := eq_true q125
          go_wp2
          go_roundg k1
          case measure => have := HK1.out; omega
          case rel => exact ⟨(Int.tmod (wrap64 ((wrap64 (x5_1 * 43)) + (wrap64 (rd l0 x6_1)))) 1000003), (wrap64 (x6_1 + 1)), (by first | rfl | (simp; done) | (simp [*]; done)), (by first | rfl | (simp; done) | (simp [*]; done)), H', ⟨by have := HK1.out; omega⟩, by repeat (first | exact Drawn0.refl _ | apply Drawn0.step)⟩
        · rw [if_neg c4] at H
          exact absurd H (by simp)
      · rw [if_neg c3] at H
        have c3b0 : decide (x6_1 < (l0.length : Int)) = false := decide_eq_false c3
        clear c3
        by_cases c5 : a1 = 0
        · rw [if_pos c5] at H
          exact absurd H (by simp)
        · rw [if_neg c5] at H
          have c5b0 : (a1 == 0) = false := beq_eq_false_iff_ne.mpr c5
          have c5b1 : (a1 != 0) = true := bne_iff_ne.mpr c5
          obtain rfl := Option.some.inj H
          go_wp2
          go_ret
          exact ⟨by first | rfl | (simp; done) | (simp [*]; done), by repeat (first | exact Drawn0.refl _ | apply Drawn0.step)⟩

end Go.Proofs.Ytofiabjphjpglaa.HFnLoud
