/-
  The plain statement of FnKeyed: both sides give one number, a colour against itself is full, and a nearer colour is no weaker; whatever the draw.
  Conditions: the statement's own.
-/
import Derived.Test.YtdhhdphpfleikaaHFnKeyedx0
import Derived.Test.YtdhhdphpfleikaaHFnKeyedx1
import Derived.Test.YtdhhdphpfleikaaHFnKeyedx2
import Derived.Test.YtdhhdphpfleikaaHFnKeyedx3
import Derived.Test.YtdhhdphpfleikaaHFnKeyedx4
import Derived.Test.YtdhhdphpfleikaaPureBase
import Derived.Laws.BitsLemmas
namespace Go.Proofs.Ytdhhdphpfleikaa.Pure
open Go.RowKit Go.Proofs.Ytdhhdphpfleikaa.HFnKeyed Go.Proofs.YtdhhdphpfleikaaW.PrintWords Go.Proofs.YtdhhdphpfleikaaW.PrintLast Go.Proofs.YtdhhdphpfleikaaW.PrintMore Go.Proofs.Ytdhhdphpfleikaa.PB
set_option linter.unusedVariables false
set_option linter.unusedSimpArgs false
theorem spec_in_eq (a lo hi : Int) : spec_l1In.f a lo hi = some (decide (lo ≤ a ∧ a ≤ hi)) := by
  unfold spec_l1In.f
  by_cases h : a ≥ lo
  · rw [if_pos h]; simp [show lo ≤ a from h]
  · rw [if_neg h]; simp; omega

theorem impl_in_eq (a lo hi : Int) : impl_in.f a lo hi = some (decide (lo ≤ a ∧ a ≤ hi)) := by
  unfold impl_in.f
  by_cases h : lo ≤ a
  · rw [if_pos h]; simp [h]
  · rw [if_neg h]; simp; omega

/-! #### KeyMask -/
def vP (a b c : Int) : Prop := (0 ≤ a ∧ a ≤ 65535) ∧ (0 ≤ b ∧ b ≤ 65535) ∧ (0 ≤ c ∧ c ≤ 65535)
instance (a b c : Int) : Decidable (vP a b c) := by unfold vP; infer_instance
theorem specV (a b c : Int) : spec_l9Rgb.f a b c = some (decide (vP a b c)) := by
  unfold spec_l9Rgb.f spec_l9In.f vP
  simp only [spec_in_eq, Option.bind_some]
  by_cases h1 : 0 ≤ a ∧ a ≤ 65535
  · by_cases h2 : 0 ≤ b ∧ b ≤ 65535
    · simp [h1, h2]
    · simp [h1, h2]
  · simp [h1]
theorem implV (a b c : Int) : impl_Rgb_ok.f a b c = some (decide (vP a b c)) := by
  unfold impl_Rgb_ok.f impl_isValue.f vP
  simp only [impl_in_eq, Option.bind_some]
  by_cases h1 : 0 ≤ a ∧ a ≤ 65535
  · by_cases h2 : 0 ≤ b ∧ b ≤ 65535
    · simp [h1, h2]
    · simp [h1, h2]
  · simp [h1]
def ab (x : Int) : Int := if x < 0 then -x else x
def mx (a b : Int) : Int := if a < b then b else a
theorem ab_ge (x : Int) : 0 ≤ ab x := by unfold ab; split <;> omega
theorem ab_le {x n : Int} (h1 : -n ≤ x) (h2 : x ≤ n) : ab x ≤ n := by unfold ab; split <;> omega
theorem mx_ge {a b : Int} : a ≤ mx a b ∧ b ≤ mx a b := by unfold mx; split <;> omega
theorem mx_le {a b n : Int} (h1 : a ≤ n) (h2 : b ≤ n) : mx a b ≤ n := by unfold mx; split <;> omega
theorem kstep (d p q : Int) (hp : 0 ≤ p ∧ p ≤ 65535) (hq : 0 ≤ q ∧ q ≤ 65535) (hd : 0 ≤ d) :
    (if (if d < wrap64 (p - q) then wrap64 (p - q) else d) < wrap64 (q - p) then wrap64 (q - p) else (if d < wrap64 (p - q) then wrap64 (p - q) else d)) = mx d (ab (p - q)) := by
  rw [w64 (x := p - q) (by omega) (by omega), w64 (x := q - p) (by omega) (by omega)]
  unfold mx ab
  repeat' split
  all_goals omega
def dist (a b c d e f : Int) : Int := mx (mx (ab (c - f)) (ab (b - e))) (ab (a - d))
theorem dist_bd {a b c d e f : Int} (h1 : vP a b c) (h2 : vP d e f) : 0 ≤ dist a b c d e f ∧ dist a b c d e f ≤ 65535 := by
  obtain ⟨h3, h4, h5⟩ := h1
  obtain ⟨h6, h7, h8⟩ := h2
  refine ⟨Int.le_trans (ab_ge _) mx_ge.2, mx_le (mx_le (ab_le (by omega) (by omega)) (ab_le (by omega) (by omega))) (ab_le (by omega) (by omega))⟩
theorem D3 {a b c d e f : Int} (h1 : vP a b c) (h2 : vP d e f) : impl_KeyMask_D a b c d e f 3 = dist a b c d e f := by
  obtain ⟨h3, h4, h5⟩ := h1
  obtain ⟨h6, h7, h8⟩ := h2
  have e1 : impl_KeyMask_D a b c d e f 1 = mx 0 (ab (a - d)) := kstep 0 a d h3 h6 (by omega)
  have g1 : 0 ≤ impl_KeyMask_D a b c d e f 1 := by rw [e1]; exact mx_ge.1
  have e2 : impl_KeyMask_D a b c d e f 2 = mx (impl_KeyMask_D a b c d e f 1) (ab (b - e)) := kstep _ b e h4 h7 g1
  have g2 : 0 ≤ impl_KeyMask_D a b c d e f 2 := by rw [e2]; exact Int.le_trans g1 mx_ge.1
  have e3 : impl_KeyMask_D a b c d e f 3 = mx (impl_KeyMask_D a b c d e f 2) (ab (c - f)) := kstep _ c f h5 h8 g2
  rw [e3, e2, e1]
  unfold dist
  have q1 := ab_ge (a - d)
  have q2 := ab_ge (b - e)
  have q3 := ab_ge (c - f)
  generalize ab (a - d) = x at *
  generalize ab (b - e) = y at *
  generalize ab (c - f) = z at *
  unfold mx
  repeat' split
  all_goals omega
def nv (x y : Int) : Int := (2 * x + y) / (2 * y)
theorem near_eq {x y : Int} (hx : 0 ≤ x ∧ x ≤ 4294967296) (hy : 0 < y ∧ y ≤ 65536) : impl_near.f x y = some (nv x y) := by
  have q0 : 0 ≤ (2 * x + y) / (2 * y) := Int.ediv_nonneg (by omega) (by omega)
  have q1 : (2 * x + y) / (2 * y) ≤ 2 * x + y := Int.ediv_le_self _ (by omega)
  have q2 : ¬ Int.tmod (2 * x + y) (2 * y) < 0 := by
    have := Int.tmod_nonneg (a := 2 * x + y) (2 * y) (by omega)
    omega
  have q3 : ¬ (2 * y = 0) := by omega
  unfold impl_near.f impl_down.f
  rw [w64 (x := 2 * x) (by omega) (by omega), w64 (x := 2 * x + y) (by omega) (by omega), w64 (x := 2 * y) (by omega) (by omega), if_neg q3, if_neg q2, Int.tdiv_eq_ediv_of_nonneg (by omega), w64 (by omega) (by omega)]
  rfl
theorem round_eq (x y : Int) : spec_l9Round.f x y = impl_near.f x y := rfl
def okP (a b c d e f n r : Int) : Prop := vP a b c ∧ vP d e f ∧ 0 ≤ n ∧ n < r ∧ r ≤ 65535
instance (a b c d e f n r : Int) : Decidable (okP a b c d e f n r) := by unfold okP; infer_instance
def gv (D n r : Int) : Int := if D ≤ n then 65535 else if r ≤ D then 0 else nv (65535 * (r - D)) (r - n)
def kmV (a b c d e f n r : Int) : Int := if okP a b c d e f n r then gv (dist a b c d e f) n r else 0
theorem gv_eq {D n r : Int} (hD : 0 ≤ D ∧ D ≤ 65535) (hn : 0 ≤ n ∧ n < r ∧ r ≤ 65535) :
    (if D ≤ n then some 65535 else if r ≤ D then some 0 else impl_near.f (wrap64 (65535 * wrap64 (r - D))) (wrap64 (r - n))) = some (gv D n r) := by
  unfold gv
  by_cases h4 : D ≤ n
  · rw [if_pos h4, if_pos h4]
  · rw [if_neg h4, if_neg h4]
    by_cases h5 : r ≤ D
    · rw [if_pos h5, if_pos h5]
    · rw [if_neg h5, if_neg h5, w64 (x := r - D) (by omega) (by omega), w64 (x := 65535 * (r - D)) (by omega) (by omega), w64 (x := r - n) (by omega) (by omega), near_eq (by omega) (by omega)]
theorem impl_KeyMask_eq (a b c d e f n r : Int) : impl_KeyMask.f a b c d e f n r = some (kmV a b c d e f n r) := by
  unfold impl_KeyMask.f kmV
  simp only [implV, Option.bind_some]
  by_cases h1 : vP a b c
  · rw [if_pos (decide_eq_true h1)]
    by_cases h2 : vP d e f
    · rw [if_pos (decide_eq_true h2)]
      by_cases h3 : 0 ≤ n ∧ n < r ∧ r ≤ 65535
      · rw [if_pos h3, if_pos (show okP a b c d e f n r from ⟨h1, h2, h3⟩), D3 h1 h2]
        exact gv_eq (dist_bd h1 h2) h3
      · rw [if_neg h3, if_neg (show ¬ okP a b c d e f n r from fun h => h3 h.2.2)]
    · rw [if_neg (by simp [h2]), if_neg (show ¬ okP a b c d e f n r from fun h => h2 h.2.1)]
  · rw [if_neg (by simp [h1]), if_neg (show ¬ okP a b c d e f n r from fun h => h1 h.1)]
theorem abs_eq {p q : Int} (hp : 0 ≤ p ∧ p ≤ 65535) (hq : 0 ≤ q ∧ q ≤ 65535) : spec_l1Abs.f (wrap64 (p - q)) = some (ab (p - q)) := by
  unfold spec_l1Abs.f ab
  rw [w64 (x := p - q) (by omega) (by omega)]
  by_cases h : p - q < 0
  · rw [if_pos h, if_pos h, w64 (by omega) (by omega)]
  · rw [if_neg h, if_neg h]
theorem max_eq (p q : Int) : spec_l1Max.f p q = some (mx q p) := by
  unfold spec_l1Max.f mx
  by_cases h : q < p
  · rw [if_pos h, if_pos h]
  · rw [if_neg h, if_neg h]
theorem spec_KeyMask_ev (a b c d e f n r : Int) : Ev (fun k => spec_KeyMask.f k a b c d e f n r) (kmV a b c d e f n r) := by
  have j0 : ∀ z : Bool, (z = true → ¬ okP a b c d e f n r) → (z = false → okP a b c d e f n r) → Ev (fun k => spec_KeyMask.j0 k n r z a b c d e f) (kmV a b c d e f n r) := by
    intro z hz1 hz0
    refine ev_succ ?_
    simp only [spec_KeyMask.j0]
    unfold kmV
    cases z with
    | true =>
      rw [if_neg (hz1 rfl)]
      exact ev_ret rfl
    | false =>
      have h := hz0 rfl
      rw [if_pos h]
      obtain ⟨h1, h2, h3⟩ := h
      have hD := dist_bd h1 h2
      simp only [Bool.false_eq_true, if_false, abs_eq h1.1 h2.1, abs_eq h1.2.1 h2.2.1, abs_eq h1.2.2 h2.2.2, max_eq, Option.bind_some, round_eq]
      refine ev_ret ?_
      rw [← gv_eq hD h3]
      show (if dist a b c d e f ≤ n then some 65535 else if dist a b c d e f ≥ r then some 0 else (impl_near.f (wrap64 (65535 * wrap64 (r - dist a b c d e f))) (wrap64 (r - n))).bind fun t => some t) = _
      have e : ∀ o : Option Int, (o.bind fun t => some t) = o := fun o => by cases o <;> rfl
      simp only [e, ge_iff_le]
  unfold spec_KeyMask.f
  simp only [specV, Option.bind_some]
  refine ev_ite (fun h1 => ?_) (fun h1 => j0 true (fun _ h => h1 (decide_eq_true h.1)) (fun h => by cases h))
  refine ev_ite (fun h2 => ?_) (fun h2 => j0 true (fun _ h => h2 (decide_eq_true h.2.1)) (fun h => by cases h))
  refine ev_ite (fun h3 => j0 true (fun _ h => absurd h.2.2.1 (by omega)) (fun h => by cases h)) (fun h3 => ?_)
  refine ev_ite (fun h4 => j0 true (fun _ h => absurd h.2.2.2.1 (by omega)) (fun h => by cases h)) (fun h4 => ?_)
  refine j0 _ (fun h5 h => ?_) (fun h5 => ⟨of_decide_eq_true h1, of_decide_eq_true h2, by omega, by omega, ?_⟩)
  · have := of_decide_eq_true h5
    have := h.2.2.2.2
    omega
  · have := of_decide_eq_false h5
    omega

/-! #### the draws' cursor: where it stands (b: the bytes, i: how many are used) -/
def St (b : List Int) (i : Int) : Prop := 0 ≤ i ∧ i ≤ b.length ∧ b.length ≤ 4096
theorem and255 (x : Int) : 0 ≤ Go.bits .and .i64 x 255 ∧ Go.bits .and .i64 x 255 ≤ 255 := by
  have h : ((BitVec.ofInt 64 x) &&& (BitVec.ofInt 64 255)).toNat ≤ 255 := by
    rw [BitVec.toNat_and]
    exact Nat.le_trans Nat.and_le_right (by decide)
  have e : Go.bits .and .i64 x 255 = IntKind.i64.wrap (((BitVec.ofInt 64 x) &&& (BitVec.ofInt 64 255)).toNat : Int) := rfl
  rw [e, IntKind.wrap_i64]
  omega
theorem byte_some {b : List Int} {i : Int} (h : Int) (hs : St b i) : SomeP (spec_l1Byte.f b i h) (fun r => (0 ≤ r.1 ∧ r.1 ≤ 255) ∧ St b r.2.1) := by
  obtain ⟨h1, h2, h3⟩ := hs
  unfold spec_l1Byte.f
  refine somep_ite (fun hl => somep_pos h1 (somep_now ⟨and255 _, ?_⟩)) (fun hl => somep_now ⟨and255 _, h1, h2, h3⟩)
  show St b (wrap64 (i + 1))
  rw [w64 (by omega) (by omega)]
  exact ⟨by omega, by omega, h3⟩
theorem below_some {b : List Int} {i : Int} (h : Int) (n : Int) (hs : St b i) : SomeP (spec_l1Below.f b i h n) (fun r => (0 ≤ r.1 ∧ (0 < n → r.1 < n)) ∧ St b r.2.1) := by
  unfold spec_l1Below.f
  refine somep_ite (fun hn => somep_now ⟨⟨Int.le_refl _, fun h => by omega⟩, hs⟩) (fun hn => somep_ite (fun h2 => ?_) (fun h2 => ?_))
  · refine somep_bind (byte_some h hs) (fun a ha => somep_neg (by omega) (somep_now ⟨?_, ha.2⟩))
    have e : Int.tmod a.1 n = a.1 % n := Int.tmod_eq_emod_of_nonneg ha.1.1
    show 0 ≤ Int.tmod a.1 n ∧ (0 < n → Int.tmod a.1 n < n)
    rw [e]
    exact ⟨Int.emod_nonneg _ (by omega), fun h => Int.emod_lt_of_pos _ h⟩
  · refine somep_bind (byte_some h hs) (fun a ha => somep_bind (byte_some _ ha.2) (fun c hc => somep_bind (byte_some _ hc.2) (fun d hd => somep_bind (byte_some _ hd.2) (fun e he => somep_neg (by omega) (somep_now ⟨?_, he.2⟩)))))
    have h1 := ha.1; have h3 := hc.1; have h4 := hd.1; have h5 := he.1
    have w1 : wrap64 (a.1 * 16777216) = a.1 * 16777216 := w64 (by omega) (by omega)
    have w2 : wrap64 (c.1 * 65536) = c.1 * 65536 := w64 (by omega) (by omega)
    have w3 : wrap64 (d.1 * 256) = d.1 * 256 := w64 (by omega) (by omega)
    show 0 ≤ Int.tmod (wrap64 (wrap64 (wrap64 (wrap64 (a.1 * 16777216) + wrap64 (c.1 * 65536)) + wrap64 (d.1 * 256)) + e.1)) n ∧ (0 < n → Int.tmod (wrap64 (wrap64 (wrap64 (wrap64 (a.1 * 16777216) + wrap64 (c.1 * 65536)) + wrap64 (d.1 * 256)) + e.1)) n < n)
    rw [w1, w2, w3, w64 (x := a.1 * 16777216 + c.1 * 65536) (by omega) (by omega), w64 (x := a.1 * 16777216 + c.1 * 65536 + d.1 * 256) (by omega) (by omega), w64 (by omega) (by omega), Int.tmod_eq_emod_of_nonneg (by omega)]
    exact ⟨Int.emod_nonneg _ (by omega), fun h => Int.emod_lt_of_pos _ h⟩
theorem new_ev (code : List Int) (hc : code.length ≤ 4096) : EvP (fun k => spec_l1New.f k code) (fun r => r.1 = code ∧ St code r.2.1) := by
  have key : ∀ d i (h : Int), i + d = code.length → EvP (fun k => spec_l1New.l0 k code h (i : Int)) (fun r => r.1 = code ∧ St code r.2.1) := by
    intro d
    induction d with
    | zero =>
      intro i h hi
      refine evp_succ ?_
      have h1 : ¬ (i : Int) < (code.length : Int) := by omega
      simp only [spec_l1New.l0, h1, if_false]
      exact evp_now ⟨rfl, by refine ⟨Int.le_refl _, ?_, hc⟩; show (0 : Int) ≤ code.length; omega⟩
    | succ d ih =>
      intro i h hi
      refine evp_succ ?_
      have h1 : (i : Int) < (code.length : Int) := by omega
      have h2 : (0 : Int) ≤ (i : Int) := by omega
      have h4 := w64s (n := i) (by omega)
      simp only [spec_l1New.l0, h1, h2, h4, if_true]
      exact ih (i + 1) _ (by omega)
  exact key code.length 0 _ (by omega)

theorem once_some {b : List Int} {i : Int} (h : Int) (n : Int) (hs : St b i) : SomeP (spec_l1Once.f b i h n) (fun r => St b r.2.1) := by
  unfold spec_l1Once.f
  exact somep_bind (below_some h n hs) (fun a ha => somep_now ha.2)

theorem pick_ok {b : List Int} {i : Int} (h : Int) (ys : List Int) (n : Nat) (hy : ys.length = n) (hn : 0 < n) (hs : St b i) : SomeP (spec_l1Below.f b i h (n : Int)) (fun r => (0 ≤ r.1 ∧ r.1 < (ys.length : Int)) ∧ St b r.2.1) := by
  obtain ⟨a, ha, hp, hq⟩ := below_some h (n : Int) hs
  exact ⟨a, ha, ⟨hp.1, by rw [hy]; exact hp.2 (by omega)⟩, hq⟩
theorem value_some {b : List Int} {i : Int} (h : Int) (hs : St b i) : SomeP (spec_l9DrawValue.f b i h) (fun r => St b r.2.1) := by
  unfold spec_l9DrawValue.f
  simp only [Option.bind_some]
  refine somep_bind (once_some h 5 hs) (fun a ha => somep_ite (fun _ => ?_) (fun _ => ?_))
  · exact somep_bind (pick_ok _ [0, 65535, 32767, 32768, 16384, 1] 6 rfl (by omega) ha) (fun c hc => somep_pos hc.1.1 (somep_pos hc.1.2 (somep_now hc.2)))
  · exact somep_bind (below_some _ 65536 ha) (fun c hc => somep_now hc.2)
theorem rgb_ev {b : List Int} {i : Int} (h : Int) (hs : St b i) : EvP (fun k => spec_l9DrawRgb.f k b i h) (fun r => St b r.2.2.2.1) := by
  have j1 : ∀ (x y z i h : Int), St b i → EvP (fun k => spec_l9DrawRgb.j1 k b i h x y z) (fun r => St b r.2.2.2.1) := by
    intro x y z i h hs
    refine evp_succ ?_
    simp only [spec_l9DrawRgb.j1, Option.bind_some]
    refine evp_some (once_some h 40 hs) (fun a ha => evp_ite (fun _ => ?_) (fun _ => evp_now ha))
    exact evp_some (pick_ok _ [-1, 65536, 4611686018427387904] 3 rfl (by omega) ha) (fun c hc => evp_pos hc.1.1 (evp_pos hc.1.2 (evp_now hc.2)))
  have j0 : ∀ (x y z i h : Int), St b i → EvP (fun k => spec_l9DrawRgb.j0 k b i h x y z) (fun r => St b r.2.2.2.1) := by
    intro x y z i h hs
    refine evp_succ ?_
    simp only [spec_l9DrawRgb.j0]
    exact evp_some (once_some h 6 hs) (fun a ha => evp_ite (fun _ => j1 _ _ _ _ _ ha) (fun _ => j1 _ _ _ _ _ ha))
  unfold spec_l9DrawRgb.f
  refine evp_some (value_some h hs) (fun a ha => evp_some (value_some _ ha) (fun c hc => evp_some (value_some _ hc) (fun d hd => evp_some (once_some _ 6 hd) (fun e he => ?_))))
  exact evp_ite (fun _ => j0 _ _ _ _ _ he) (fun _ => j0 _ _ _ _ _ he)

theorem value_in {b : List Int} {i : Int} (h : Int) (hs : St b i) : SomeP (spec_l9DrawValue.f b i h) (fun r => (0 ≤ r.1 ∧ r.1 ≤ 65535) ∧ St b r.2.1) := by
  unfold spec_l9DrawValue.f
  simp only [Option.bind_some]
  refine somep_bind (once_some h 5 hs) (fun a ha => somep_ite (fun _ => ?_) (fun _ => ?_))
  · refine somep_bind (pick_ok _ [0, 65535, 32767, 32768, 16384, 1] 6 rfl (by omega) ha) (fun c hc => somep_pos hc.1.1 (somep_pos hc.1.2 (somep_now ⟨?_, hc.2⟩)))
    obtain ⟨m, hm⟩ := Int.eq_ofNat_of_zero_le hc.1.1
    have h2 := hc.1.2
    rw [hm] at h2 ⊢
    have h3 := rd_mem (xs := [0, 65535, 32767, 32768, 16384, 1]) (i := m) (by omega)
    have h4 : ∀ x ∈ ([0, 65535, 32767, 32768, 16384, 1] : List Int), 0 ≤ x ∧ x ≤ 65535 := by decide
    exact h4 _ h3
  · exact somep_bind (below_some _ 65536 ha) (fun c hc => somep_now ⟨⟨hc.1.1, by have := hc.1.2 (by omega); omega⟩, hc.2⟩)
def inP (x : Int) : Prop := 0 ≤ x ∧ x ≤ 65535
theorem rgb_in {b : List Int} {i : Int} (h : Int) (hs : St b i) : EvP (fun k => spec_l9DrawRgb.f k b i h) (fun r => (inP r.2.1 ∧ inP r.2.2.1) ∧ St b r.2.2.2.1) := by
  have j1 : ∀ (x y z i h : Int), inP y → inP z → St b i → EvP (fun k => spec_l9DrawRgb.j1 k b i h x y z) (fun r => (inP r.2.1 ∧ inP r.2.2.1) ∧ St b r.2.2.2.1) := by
    intro x y z i h hy hz hs
    refine evp_succ ?_
    simp only [spec_l9DrawRgb.j1, Option.bind_some]
    refine evp_some (once_some h 40 hs) (fun a ha => evp_ite (fun _ => ?_) (fun _ => evp_now ⟨⟨hy, hz⟩, ha⟩))
    exact evp_some (pick_ok _ [-1, 65536, 4611686018427387904] 3 rfl (by omega) ha) (fun c hc => evp_pos hc.1.1 (evp_pos hc.1.2 (evp_now ⟨⟨hy, hz⟩, hc.2⟩)))
  have j0 : ∀ (x y z i h : Int), inP y → inP z → St b i → EvP (fun k => spec_l9DrawRgb.j0 k b i h x y z) (fun r => (inP r.2.1 ∧ inP r.2.2.1) ∧ St b r.2.2.2.1) := by
    intro x y z i h hy hz hs
    refine evp_succ ?_
    simp only [spec_l9DrawRgb.j0]
    exact evp_some (once_some h 6 hs) (fun a ha => evp_ite (fun _ => j1 _ _ _ _ _ hy hy ha) (fun _ => j1 _ _ _ _ _ hy hz ha))
  unfold spec_l9DrawRgb.f
  refine evp_some (value_in h hs) (fun a ha => evp_some (value_in _ ha.2) (fun c hc => evp_some (value_in _ hc.2) (fun d hd => evp_some (once_some _ 6 hd.2) (fun e he => ?_))))
  exact evp_ite (fun _ => j0 _ _ _ _ _ ha.1 hd.1 he) (fun _ => j0 _ _ _ _ _ hc.1 hd.1 he)
theorem DrawKeyMask_ev (code : List Int) (hc : code.length ≤ 4096) : EvP (fun k => spec_DrawKeyMask.f k code) (fun r => inP r.2.1 ∧ inP r.2.2.1 ∧ inP r.2.2.2.2.1 ∧ inP r.2.2.2.2.2.1) := by
  have j0 : ∀ (b : List Int) (i h a0 a1 a2 b0 b1 b2 : Int), inP a1 → inP a2 → inP b1 → inP b2 → St b i → EvP (fun k => spec_DrawKeyMask.j0 k b i h a0 a1 a2 b0 b1 b2) (fun r => inP r.2.1 ∧ inP r.2.2.1 ∧ inP r.2.2.2.2.1 ∧ inP r.2.2.2.2.2.1) := by
    intro b i h a0 a1 a2 b0 b1 b2 h1 h2 h3 h4 hs
    refine evp_succ ?_
    simp only [spec_DrawKeyMask.j0, Option.bind_some]
    refine evp_some (below_some _ 1000 hs) (fun x hx => evp_some (below_some _ 2000 hx.2) (fun y hy => evp_some (once_some _ 16 hy.2) (fun z hz => evp_ite (fun _ => ?_) (fun _ => evp_now ⟨h1, h2, h3, h4⟩))))
    refine evp_some (pick_ok _ [-1, wrap64 (wrap64 (x.1 + 1) + y.1), 0] 3 rfl (by omega) hz) (fun c hc => evp_pos hc.1.1 (evp_pos hc.1.2 ?_))
    exact evp_some (pick_ok _ [wrap64 (wrap64 (x.1 + 1) + y.1), 65535, 65536] 3 rfl (by omega) hc.2) (fun e he => evp_pos he.1.1 (evp_pos he.1.2 (evp_now ⟨h1, h2, h3, h4⟩)))
  unfold spec_DrawKeyMask.f
  refine evp_bind (new_ev code hc) (fun a ha => ?_)
  obtain ⟨c0, i0, h0⟩ := a
  obtain ⟨rfl, hs⟩ := ha
  refine evp_bind (rgb_in h0 hs) (fun x hx => evp_bind (rgb_in _ hx.2) (fun y hy => evp_some (once_some _ 2 hy.2) (fun z hz => evp_ite (fun _ => ?_) (fun _ => j0 _ _ _ _ _ _ _ _ _ hx.1.1 hx.1.2 hy.1.1 hy.1.2 hz))))
  refine evp_some (below_some _ 2000 hz) (fun w hw => ?_)
  have h1 := hw.1.1
  have h2 := hw.1.2 (by omega)
  have h3 := hx.1.1.1
  have h4 := hx.1.1.2
  have hm : SomeP (spec_l1Min.f 65535 (wrap64 (x.2.1 + w.1))) inP := by
    rw [w64 (by omega) (by omega)]
    unfold spec_l1Min.f
    exact somep_ite (fun _ => somep_now ⟨by omega, by omega⟩) (fun _ => somep_now ⟨by omega, by omega⟩)
  exact evp_some hm (fun v hv => j0 _ _ _ _ _ _ _ _ _ hx.1.1 hx.1.2 hv hx.1.2 hw.2)

theorem nv_nonneg {x y : Int} (hx : 0 ≤ x) (hy : 0 < y) : 0 ≤ nv x y := Int.ediv_nonneg (by omega) (by omega)
theorem gv_le {D n r : Int} (hD : 0 ≤ D) (hn : 0 ≤ n ∧ n < r ∧ r ≤ 65535) : gv D n r ≤ 65535 := by
  unfold gv
  by_cases h1 : D ≤ n
  · rw [if_pos h1]; omega
  · rw [if_neg h1]
    by_cases h2 : r ≤ D
    · rw [if_pos h2]; omega
    · rw [if_neg h2]
      have : nv (65535 * (r - D)) (r - n) < 65536 := Int.ediv_lt_of_lt_mul (by omega) (by omega)
      omega
theorem gv_ge {D n r : Int} (hn : 0 ≤ n ∧ n < r ∧ r ≤ 65535) : 0 ≤ gv D n r := by
  unfold gv
  by_cases h1 : D ≤ n
  · rw [if_pos h1]; omega
  · rw [if_neg h1]
    by_cases h2 : r ≤ D
    · rw [if_pos h2]; omega
    · rw [if_neg h2]
      exact nv_nonneg (by omega) (by omega)
theorem gv_anti {D E n r : Int} (hD : 0 ≤ D) (hE : D ≤ E) (hn : 0 ≤ n ∧ n < r ∧ r ≤ 65535) : gv E n r ≤ gv D n r := by
  by_cases h1 : D ≤ n
  · have := gv_le (D := E) (by omega) hn
    rw [show gv D n r = 65535 from if_pos h1]
    exact this
  · by_cases h2 : r ≤ E
    · rw [show gv E n r = 0 from (if_neg (by omega)).trans (if_pos h2)]
      exact gv_ge hn
    · rw [show gv E n r = nv (65535 * (r - E)) (r - n) from (if_neg (by omega)).trans (if_neg h2), show gv D n r = nv (65535 * (r - D)) (r - n) from (if_neg h1).trans (if_neg (by omega))]
      exact Int.ediv_le_ediv (by omega) (by omega)
theorem FnKeyed : laws_FnKeyed.Pure := by
  intro code _ _ _
  apply Ev.rounds
  apply evp_true
  simp only [laws_FnKeyed.f, laws_big.f, Option.bind_some]
  refine evp_ite (fun _ => evp_now rfl) (fun hb => ?_)
  have hc : code.length ≤ 4096 := by
    have := of_decide_eq_false (Bool.eq_false_iff.2 hb)
    omega
  refine evp_bind (DrawKeyMask_ev code hc) (fun a ha => ?_)
  obtain ⟨a, b, c, d, e, f, n, r⟩ := a
  obtain ⟨hb1, hc1, he1, hf1⟩ := ha
  simp only [impl_KeyMask_eq, Option.bind_some]
  refine evp_ebind (spec_KeyMask_ev a b c d e f n r) ?_
  simp only [if_true]
  have j0 : ∀ z : Bool, (z = true → ¬ okP a b c d e f n r) → (z = false → okP a b c d e f n r) → EvP (fun k => laws_FnKeyed.j0 k n r (kmV a b c d e f n r) z a b c d e f) (fun r => r = true) := by
    intro z hz1 hz0
    refine evp_succ ?_
    simp only [laws_FnKeyed.j0, impl_KeyMask_eq, Option.bind_some]
    cases z with
    | true =>
      rw [show kmV a b c d e f n r = 0 from if_neg (hz1 rfl)]
      exact evp_now rfl
    | false =>
      have h := hz0 rfl
      obtain ⟨h1, h2, h3⟩ := h
      simp only [Bool.false_eq_true, if_false]
      have h4 : vP d e c := ⟨h2.1, h2.2.1, h1.2.2⟩
      have z0 : ab (d - d) = 0 := by unfold ab; split <;> omega
      have z1 : ab (e - e) = 0 := by unfold ab; split <;> omega
      have z2 : ab (f - f) = 0 := by unfold ab; split <;> omega
      have e0 : dist d e f d e f = 0 := by unfold dist; rw [z0, z1, z2]; rfl
      have e1 : kmV d e f d e f n r = 65535 := by
        rw [show kmV d e f d e f n r = gv (dist d e f d e f) n r from if_pos ⟨h2, h2, h3⟩, e0]
        exact if_pos h3.1
      have e2 : dist d e c d e f ≤ dist a b c d e f := by
        have q1 := ab_ge (a - d)
        have q2 := ab_ge (b - e)
        unfold dist
        rw [z0, z1]
        exact mx_le (mx_le (Int.le_trans mx_ge.1 mx_ge.1) (Int.le_trans q2 (Int.le_trans mx_ge.2 mx_ge.1))) (Int.le_trans q1 mx_ge.2)
      rw [if_pos e1]
      refine evp_now ?_
      rw [show kmV d e c d e f n r = gv (dist d e c d e f) n r from if_pos ⟨h4, h2, h3⟩, show kmV a b c d e f n r = gv (dist a b c d e f) n r from if_pos ⟨h1, h2, h3⟩]
      exact decide_eq_true (gv_anti (dist_bd h4 h2).1 e2 h3)
  refine evp_ite (fun h => j0 true (fun _ g => absurd g.2.2.1 (by omega)) (fun g => by cases g)) (fun g1 => ?_)
  refine evp_ite (fun h => j0 true (fun _ g => absurd g.2.2.2.1 (by omega)) (fun g => by cases g)) (fun g2 => ?_)
  refine evp_ite (fun h => j0 true (fun _ g => absurd g.2.2.2.2 (by omega)) (fun g => by cases g)) (fun g3 => ?_)
  refine evp_ite (fun h => j0 true (fun _ g => absurd g.2.1.1.1 (by omega)) (fun g => by cases g)) (fun g4 => ?_)
  refine evp_ite (fun h => j0 true (fun _ g => absurd g.2.1.1.2 (by omega)) (fun g => by cases g)) (fun g5 => ?_)
  refine evp_ite (fun h => j0 true (fun _ g => absurd g.1.1.1 (by omega)) (fun g => by cases g)) (fun g6 => ?_)
  refine j0 _ (fun h g => ?_) (fun h => ?_)
  · have := of_decide_eq_true h
    have := g.1.1.2
    omega
  · have := of_decide_eq_false h
    exact ⟨⟨⟨by omega, by omega⟩, hb1, hc1⟩, ⟨⟨by omega, by omega⟩, he1, hf1⟩, by omega, by omega, by omega⟩
end Go.Proofs.Ytdhhdphpfleikaa.Pure
