/-
  The plain statement of FnBuffered: what a buffer tells is never above its room; where nothing is taken it does not fall; whatever the draw.
  Conditions: the statement's own.
-/
import Derived.Test.YtbdnpfjjaokdbaaHFnBufferedx0
import Derived.Test.YtbdnpfjjaokdbaaHFnBufferedx1
import Derived.Test.YtbdnpfjjaokdbaaHFnBufferedx2
import Derived.Test.YtbdnpfjjaokdbaaHFnBufferedx3
import Derived.Test.YtbdnpfjjaokdbaaHFnBufferedx4
import Derived.Test.YtbdnpfjjaokdbaaPureBase
import Derived.Laws.BitsLemmas
namespace Go.Proofs.Ytbdnpfjjaokdbaa.Pure
open Go.RowKit Go.Proofs.Ytbdnpfjjaokdbaa.HFnBuffered Go.Proofs.YtbdnpfjjaokdbaaW.PrintWords Go.Proofs.YtbdnpfjjaokdbaaW.PrintLast Go.Proofs.YtbdnpfjjaokdbaaW.PrintMore Go.Proofs.Ytbdnpfjjaokdbaa.PB
set_option linter.unusedVariables false
set_option linter.unusedSimpArgs false
theorem spec_in_eq (a lo hi : Int) : spec_l1In.f a lo hi = some (decide (lo ≤ a ∧ a ≤ hi)) := by
  unfold spec_l1In.f
  by_cases h : a ≥ lo
  · rw [if_pos h]; simp [show lo ≤ a from h]
  · rw [if_neg h]; simp; omega

theorem impl_in_eq (a lo hi : Int) : impl_in.f a lo hi = some (decide (lo ≤ a ∧ a ≤ hi)) := by
  unfold impl_in.f
  by_cases h : lo ≤ a
  · rw [if_pos h]; simp [h]
  · rw [if_neg h]; simp; omega

theorem any_not_all {α : Type} (q : α → Bool) (xs : List α) : (xs.any fun c => !q c) = !(xs.all q) := by
  induction xs with
  | nil => rfl
  | cons c cs ih => simp [List.any_cons, List.all_cons, ih]

theorem impl_Buffer_idx_eq {α : Type} (q : α → Bool) : ∀ (l : List α) (i : Int), 0 ≤ i → (impl_Buffer_idxO (fun x => some (q x)) l i).bind (fun t => some (decide (0 ≤ t))) = some (l.any q)
  | [], i, _ => by simp [impl_Buffer_idxO]
  | x :: xs, i, h => by
    rw [impl_Buffer_idxO, List.any_cons]
    simp only [Option.bind_some]
    cases q x with
    | true => simp [h]
    | false => simpa using impl_Buffer_idx_eq q xs (i + 1) (by omega)

/-! #### Buffer -/
def frB (x : Int) : Bool := decide (0 ≤ x ∧ x ≤ 10000000)
def bufGo (rate room : Int) : List Int → Int → List Int
  | [], _ => []
  | s :: ss, full => if s ≤ full then mn (full - s + rate) room :: bufGo rate room ss (mn (full - s + rate) room) else -1 :: bufGo rate room ss (mn (full + rate) room)
theorem bufGo_len (rate room : Int) : ∀ (xs : List Int) (full : Int), (bufGo rate room xs full).length = xs.length
  | [], _ => rfl
  | s :: ss, full => by
    rw [bufGo]
    split <;> simp [bufGo_len rate room ss]
def bufB (xs : List Int) (rate room : Int) : Bool := decide (xs.length ≤ 1000 ∧ (1 ≤ rate ∧ rate ≤ 10000000) ∧ (1 ≤ room ∧ room ≤ 10000000)) && xs.all frB
def bufV (xs : List Int) (rate room : Int) : List Int := if bufB xs rate room = true then bufGo rate room xs room else []
theorem bufV_len (xs : List Int) (rate room : Int) : (bufV xs rate room).length ≤ xs.length := by
  unfold bufV
  split
  · rw [bufGo_len]; exact Nat.le_refl _
  · simp
theorem mn_min (a b : Int) : mn a b ≤ a ∧ mn a b ≤ b ∧ (mn a b = a ∨ mn a b = b) := by
  unfold mn
  split <;> omega
theorem spec_min_eq (a b : Int) : spec_l1Min.f a b = some (mn b a) := by
  unfold spec_l1Min.f mn
  split <;> rfl
theorem spec_Buffer_ev (xs : List Int) (rate room : Int) : Ev (fun k => spec_Buffer.f k xs rate room) (bufV xs rate room) := by
  have hfr : ∀ a, spec_l1Frame.f a = some (frB a) := by
    intro a
    simp only [spec_l1Frame.f, spec_in_eq, Option.bind_some, frB]
  have loop : xs.length ≤ 1000 → (1 ≤ rate ∧ rate ≤ 10000000) → (1 ≤ room ∧ room ≤ 10000000) → xs.all frB = true → ∀ d i (out : List Int) (full : Int), i + d = xs.length → out.length ≤ i → 0 ≤ full → full ≤ room →
      Ev (fun k => spec_Buffer.l1 k xs rate room out full (i : Int)) (out ++ bufGo rate room (xs.drop i) full) := by
    intro hl hr hm hall d
    induction d with
    | zero =>
      intro i out full hi ho h0 h1
      refine ev_succ ?_
      have h1 : ¬ (i : Int) < (xs.length : Int) := by omega
      simp only [spec_Buffer.l1, h1, if_false]
      exact ev_ret (by rw [drop_end (by omega), bufGo, List.append_nil])
    | succ d ih =>
      intro i out full hi ho h0 h1
      refine ev_succ ?_
      have h1 : (i : Int) < (xs.length : Int) := by omega
      have h2 : (0 : Int) ≤ (i : Int) := by omega
      have h4 := w64s (n := i) (by omega)
      have h5 : out.length < 17592186044416 := by omega
      have hs := of_decide_eq_true (List.all_eq_true.1 hall _ (rd_mem (show i < xs.length by omega)))
      have w1 : wrap64 (full - rd xs (i : Int)) = full - rd xs (i : Int) := w64 (by omega) (by omega)
      have w2 : wrap64 (full - rd xs (i : Int) + rate) = full - rd xs (i : Int) + rate := w64 (by omega) (by omega)
      have w3 : wrap64 (full + rate) = full + rate := w64 (by omega) (by omega)
      have hn : ¬ ((-1 : Int) = 0) := by omega
      simp only [spec_Buffer.l1, h1, h2, h4, h5, w1, w2, w3, hn, if_true, if_false, spec_min_eq, Option.bind_some]
      rw [drop_rd xs i (by omega), bufGo]
      refine ev_ite (fun h => ?_) (fun h => ?_)
      · rw [if_pos h]
        have m := mn_min (full - rd xs (i : Int) + rate) room
        refine ev_eq (ih (i + 1) (out ++ [mn (full - rd xs (i : Int) + rate) room]) _ (by omega) (by simp; omega) (by omega) (by omega)) (by simp)
      · rw [if_neg h]
        have m := mn_min (full + rate) room
        refine ev_eq (ih (i + 1) (out ++ [-1]) _ (by omega) (by simp; omega) (by omega) (by omega)) (by simp)
  have test : xs.length ≤ 1000 → (1 ≤ rate ∧ rate ≤ 10000000) → (1 ≤ room ∧ room ≤ 10000000) → ∀ d i, i + d = xs.length → (xs.take i).all frB = true → Ev (fun k => spec_Buffer.l0 k xs rate room [] (i : Int)) (if xs.all frB = true then bufGo rate room xs room else []) := by
    intro hl hr hm d
    induction d with
    | zero =>
      intro i hi hp
      refine ev_succ ?_
      have h1 : ¬ (i : Int) < (xs.length : Int) := by omega
      simp only [spec_Buffer.l0, h1, if_false]
      rw [List.take_of_length_le (by omega)] at hp
      rw [if_pos hp]
      exact ev_eq (loop hl hr hm hp xs.length 0 [] room (by omega) (by simp) (by omega) (by omega)) (by simp)
    | succ d ih =>
      intro i hi hp
      refine ev_succ ?_
      have h1 : (i : Int) < (xs.length : Int) := by omega
      have h2 : (0 : Int) ≤ (i : Int) := by omega
      have h4 := w64s (n := i) (by omega)
      simp only [spec_Buffer.l0, h1, h2, h4, if_true, hfr, Option.bind_some]
      refine ev_ifb (fun h => ?_) (fun h => ev_ret ?_)
      · refine ih (i + 1) (by omega) ?_
        rw [take_rd xs i (by omega), List.all_append, hp]
        simp [h]
      · rw [if_neg (fun hh => by rw [List.all_eq_true.1 hh _ (rd_mem (show i < xs.length by omega))] at h; cases h)]
  unfold bufV bufB
  simp only [spec_Buffer.f, spec_in_eq, Option.bind_some]
  have no : ∀ b, b = false → Ev (fun k => spec_Buffer.j0 k xs rate room [] true) (if (b && xs.all frB) = true then bufGo rate room xs room else []) := fun b hb => by
    refine ev_succ ?_
    simp only [spec_Buffer.j0, if_true]
    exact ev_ret (by rw [hb]; rfl)
  refine ev_ite (fun h => no _ (decide_eq_false (fun hh => by have := hh.1; omega))) (fun h => ?_)
  refine ev_ifb (fun h2 => ?_) (fun h2 => no _ (decide_eq_false (fun hh => of_decide_eq_false h2 hh.2.1)))
  by_cases h3 : 1 ≤ room ∧ room ≤ 10000000
  · rw [decide_eq_true h3]
    refine ev_succ ?_
    simp only [spec_Buffer.j0, Bool.not_true, Bool.false_eq_true, if_false]
    rw [decide_eq_true (show xs.length ≤ 1000 ∧ (1 ≤ rate ∧ rate ≤ 10000000) ∧ 1 ≤ room ∧ room ≤ 10000000 from ⟨by omega, of_decide_eq_true h2, h3⟩), Bool.true_and]
    exact test (by omega) (of_decide_eq_true h2) h3 xs.length 0 (by omega) (by simp)
  · rw [decide_eq_false h3]
    exact no _ (decide_eq_false (fun hh => h3 hh.2.2))
theorem impl_Buffer_ev (xs : List Int) (rate room : Int) : Ev (fun k => impl_Buffer.f k xs rate room) (bufV xs rate room) := by
  have loop : xs.length ≤ 1000 → (1 ≤ rate ∧ rate ≤ 10000000) → (1 ≤ room ∧ room ≤ 10000000) → xs.all frB = true → ∀ d i (out : List Int) (full : Int), i + d = xs.length → out.length ≤ i → 0 ≤ full → full ≤ room →
      Ev (fun k => impl_Buffer.l0 k rate room full out xs (xs.length : Int) (i : Int)) (out ++ bufGo rate room (xs.drop i) full) := by
    intro hl hr hm hall d
    induction d with
    | zero =>
      intro i out full hi ho h0 h1
      refine ev_succ ?_
      have h1 : ¬ (i : Int) < (xs.length : Int) := by omega
      simp only [impl_Buffer.l0, h1, if_false]
      exact ev_ret (by rw [drop_end (by omega), bufGo, List.append_nil])
    | succ d ih =>
      intro i out full hi ho h0 h1
      refine ev_succ ?_
      have h1 : (i : Int) < (xs.length : Int) := by omega
      have h2 : (0 : Int) ≤ (i : Int) := by omega
      have h4 := w64s (n := i) (by omega)
      have h5 : out.length < 17592186044416 := by omega
      have hs := of_decide_eq_true (List.all_eq_true.1 hall _ (rd_mem (show i < xs.length by omega)))
      have w1 : wrap64 (full - rd xs (i : Int)) = full - rd xs (i : Int) := w64 (by omega) (by omega)
      have w2 : wrap64 (full - rd xs (i : Int) + rate) = full - rd xs (i : Int) + rate := w64 (by omega) (by omega)
      have w3 : wrap64 (full + rate) = full + rate := w64 (by omega) (by omega)
      simp only [impl_Buffer.l0, h1, h2, h4, h5, w1, w2, w3, if_true]
      rw [drop_rd xs i (by omega), bufGo]
      refine ev_ite (fun h => ?_) (fun h => ?_)
      · rw [if_pos h]
        have m := mn_min (full - rd xs (i : Int) + rate) room
        refine ev_eq (ih (i + 1) (out ++ [mn (full - rd xs (i : Int) + rate) room]) _ (by omega) (by simp; omega) (by omega) (by omega)) (by simp)
      · rw [if_neg h]
        have m := mn_min (full + rate) room
        refine ev_eq (ih (i + 1) (out ++ [-1]) _ (by omega) (by simp; omega) (by omega) (by omega)) (by simp)
  have hcon : impl_Buffer_contains.f xs = some (!(xs.all frB)) := by
    have e : (fun x => impl_Buffer_1.f x) = fun x => some (!(frB x)) := by
      funext x
      simp only [impl_Buffer_1.f, impl_isFrame.f, impl_in_eq, Option.bind_some, frB]
    rw [impl_Buffer_contains.f, e, impl_Buffer_idx_eq _ _ _ (Int.le_refl _), any_not_all]
  unfold bufV bufB
  simp only [impl_Buffer.f, impl_in_eq, hcon, Option.bind_some]
  have no : ∀ b, b = false → Ev (fun k => impl_Buffer.j0 k xs rate room true) (if b = true then bufGo rate room xs room else []) := fun b hb => by
    refine ev_succ ?_
    simp only [impl_Buffer.j0, if_true]
    exact ev_ret (by rw [hb]; rfl)
  refine ev_ite (fun h => no _ (by rw [decide_eq_false (fun hh => by have := hh.1; omega)]; rfl)) (fun h => ?_)
  refine ev_ifb (fun h2 => ?_) (fun h2 => no _ (by rw [decide_eq_false (fun hh => of_decide_eq_false h2 hh.2.1)]; rfl))
  refine ev_ifb (fun h3 => ?_) (fun h3 => no _ (by rw [decide_eq_false (fun hh => of_decide_eq_false h3 hh.2.2)]; rfl))
  have h2' := of_decide_eq_true h2
  have h3' := of_decide_eq_true h3
  rw [decide_eq_true (show xs.length ≤ 1000 ∧ (1 ≤ rate ∧ rate ≤ 10000000) ∧ 1 ≤ room ∧ room ≤ 10000000 from ⟨by omega, h2', h3'⟩), Bool.true_and]
  cases hall : xs.all frB with
  | false => exact no _ rfl
  | true =>
    refine ev_succ ?_
    simp only [impl_Buffer.j0, Bool.not_true, Bool.false_eq_true, if_false, if_true]
    exact ev_eq (loop (by omega) h2' h3' hall xs.length 0 [] room (by omega) (by simp) (by omega) (by omega)) (by simp)

/-! #### the draws' cursor: where it stands (b: the bytes, i: how many are used) -/
def St (b : List Int) (i : Int) : Prop := 0 ≤ i ∧ i ≤ b.length ∧ b.length ≤ 4096
theorem and255 (x : Int) : 0 ≤ Go.bits .and .i64 x 255 ∧ Go.bits .and .i64 x 255 ≤ 255 := by
  have h : ((BitVec.ofInt 64 x) &&& (BitVec.ofInt 64 255)).toNat ≤ 255 := by
    rw [BitVec.toNat_and]
    exact Nat.le_trans Nat.and_le_right (by decide)
  have e : Go.bits .and .i64 x 255 = IntKind.i64.wrap (((BitVec.ofInt 64 x) &&& (BitVec.ofInt 64 255)).toNat : Int) := rfl
  rw [e, IntKind.wrap_i64]
  omega
theorem byte_some {b : List Int} {i : Int} (h : Int) (hs : St b i) : SomeP (spec_l1Byte.f b i h) (fun r => (0 ≤ r.1 ∧ r.1 ≤ 255) ∧ St b r.2.1) := by
  obtain ⟨h1, h2, h3⟩ := hs
  unfold spec_l1Byte.f
  refine somep_ite (fun hl => somep_pos h1 (somep_now ⟨and255 _, ?_⟩)) (fun hl => somep_now ⟨and255 _, h1, h2, h3⟩)
  show St b (wrap64 (i + 1))
  rw [w64 (by omega) (by omega)]
  exact ⟨by omega, by omega, h3⟩
theorem below_some {b : List Int} {i : Int} (h : Int) (n : Int) (hs : St b i) : SomeP (spec_l1Below.f b i h n) (fun r => (0 ≤ r.1 ∧ (0 < n → r.1 < n)) ∧ St b r.2.1) := by
  unfold spec_l1Below.f
  refine somep_ite (fun hn => somep_now ⟨⟨Int.le_refl _, fun h => by omega⟩, hs⟩) (fun hn => somep_ite (fun h2 => ?_) (fun h2 => ?_))
  · refine somep_bind (byte_some h hs) (fun a ha => somep_neg (by omega) (somep_now ⟨?_, ha.2⟩))
    have e : Int.tmod a.1 n = a.1 % n := Int.tmod_eq_emod_of_nonneg ha.1.1
    show 0 ≤ Int.tmod a.1 n ∧ (0 < n → Int.tmod a.1 n < n)
    rw [e]
    exact ⟨Int.emod_nonneg _ (by omega), fun h => Int.emod_lt_of_pos _ h⟩
  · refine somep_bind (byte_some h hs) (fun a ha => somep_bind (byte_some _ ha.2) (fun c hc => somep_bind (byte_some _ hc.2) (fun d hd => somep_bind (byte_some _ hd.2) (fun e he => somep_neg (by omega) (somep_now ⟨?_, he.2⟩)))))
    have h1 := ha.1; have h3 := hc.1; have h4 := hd.1; have h5 := he.1
    have w1 : wrap64 (a.1 * 16777216) = a.1 * 16777216 := w64 (by omega) (by omega)
    have w2 : wrap64 (c.1 * 65536) = c.1 * 65536 := w64 (by omega) (by omega)
    have w3 : wrap64 (d.1 * 256) = d.1 * 256 := w64 (by omega) (by omega)
    show 0 ≤ Int.tmod (wrap64 (wrap64 (wrap64 (wrap64 (a.1 * 16777216) + wrap64 (c.1 * 65536)) + wrap64 (d.1 * 256)) + e.1)) n ∧ (0 < n → Int.tmod (wrap64 (wrap64 (wrap64 (wrap64 (a.1 * 16777216) + wrap64 (c.1 * 65536)) + wrap64 (d.1 * 256)) + e.1)) n < n)
    rw [w1, w2, w3, w64 (x := a.1 * 16777216 + c.1 * 65536) (by omega) (by omega), w64 (x := a.1 * 16777216 + c.1 * 65536 + d.1 * 256) (by omega) (by omega), w64 (by omega) (by omega), Int.tmod_eq_emod_of_nonneg (by omega)]
    exact ⟨Int.emod_nonneg _ (by omega), fun h => Int.emod_lt_of_pos _ h⟩
theorem new_ev (code : List Int) (hc : code.length ≤ 4096) : EvP (fun k => spec_l1New.f k code) (fun r => r.1 = code ∧ St code r.2.1) := by
  have key : ∀ d i (h : Int), i + d = code.length → EvP (fun k => spec_l1New.l0 k code h (i : Int)) (fun r => r.1 = code ∧ St code r.2.1) := by
    intro d
    induction d with
    | zero =>
      intro i h hi
      refine evp_succ ?_
      have h1 : ¬ (i : Int) < (code.length : Int) := by omega
      simp only [spec_l1New.l0, h1, if_false]
      exact evp_now ⟨rfl, by refine ⟨Int.le_refl _, ?_, hc⟩; show (0 : Int) ≤ code.length; omega⟩
    | succ d ih =>
      intro i h hi
      refine evp_succ ?_
      have h1 : (i : Int) < (code.length : Int) := by omega
      have h2 : (0 : Int) ≤ (i : Int) := by omega
      have h4 := w64s (n := i) (by omega)
      simp only [spec_l1New.l0, h1, h2, h4, if_true]
      exact ih (i + 1) _ (by omega)
  exact key code.length 0 _ (by omega)

theorem once_some {b : List Int} {i : Int} (h : Int) (n : Int) (hs : St b i) : SomeP (spec_l1Once.f b i h n) (fun r => St b r.2.1) := by
  unfold spec_l1Once.f
  exact somep_bind (below_some h n hs) (fun a ha => somep_now ha.2)

theorem sameInts_ev (xs ys : List Int) (h : xs.length ≤ 4611686018427387904) : Ev (fun k => laws_sameInts.f k xs ys) (decide (xs = ys)) := by
  have key : ∀ d i, i + d = xs.length → xs.length = ys.length → Ev (fun k => laws_sameInts.l0 k xs ys (i : Int)) (decide (xs.drop i = ys.drop i)) := by
    intro d
    induction d with
    | zero =>
      intro i hi hl
      refine ev_succ ?_
      have h1 : ¬ ((i : Int) < (xs.length : Int)) := by omega
      simp only [laws_sameInts.l0, h1, if_false]
      exact ev_ret (by rw [drop_end (by omega), drop_end (by omega)]; simp)
    | succ d ih =>
      intro i hi hl
      refine ev_succ ?_
      have h1 : (i : Int) < (xs.length : Int) := by omega
      have h2 : (0 : Int) ≤ (i : Int) := by omega
      have h3 : (i : Int) < (ys.length : Int) := by omega
      have h4 := w64s (n := i) (by omega)
      simp only [laws_sameInts.l0, h1, h2, h3, if_true, h4]
      rw [drop_rd xs i (by omega), drop_rd ys i (by omega)]
      by_cases he : rd xs (i : Int) = rd ys (i : Int)
      · simp only [he, if_true]
        exact ev_eq (ih (i + 1) (by omega) hl) (by simp)
      · simp only [he, if_false]
        exact ev_ret (by simp [he])
  by_cases hl : xs.length = ys.length
  · have h1 : (xs.length : Int) = (ys.length : Int) := by omega
    simp only [laws_sameInts.f, h1, if_true]
    exact ev_eq (key xs.length 0 (by omega) hl) (by simp)
  · have h1 : ¬ (xs.length : Int) = (ys.length : Int) := by omega
    simp only [laws_sameInts.f, h1, if_false]
    exact ev_ret (by
      have : xs ≠ ys := fun e => hl (by rw [e])
      simp [this])

theorem pick3_ok {b : List Int} {i : Int} (h : Int) (ys : List Int) (n : Nat) (hy : ys.length = n) (hn : 0 < n) (hs : St b i) : SomeP (spec_l1Below.f b i h (n : Int)) (fun r => (0 ≤ r.1 ∧ r.1 < (ys.length : Int)) ∧ St b r.2.1) := by
  obtain ⟨a, ha, hp, hq⟩ := below_some h (n : Int) hs
  exact ⟨a, ha, ⟨hp.1, by rw [hy]; exact hp.2 (by omega)⟩, hq⟩
theorem DrawBuffer_ev (code : List Int) (hc : code.length ≤ 4096) : EvP (fun k => spec_DrawBuffer.f k code) (fun r => r.1.length ≤ 1001) := by
  have jn : ∀ (out : List Int) (x y : Int) (b : List Int) (i h : Int), St b i → out.length ≤ 1001 → EvP (fun k => spec_DrawBuffer.j1 k out x y b i h) (fun r => r.1.length ≤ 1001) := by
    intro out x y b i h hs ho
    refine evp_succ ?_
    simp only [spec_DrawBuffer.j1]
    refine evp_some (once_some h 60 hs) (fun a ha => ?_)
    refine evp_ite (fun _ => ?_) (fun _ => evp_now ho)
    refine evp_some (below_some _ 2 ha) (fun c hc => ?_)
    have h2 := hc.1.1
    have h3 := hc.1.2 (by omega)
    have h4 : wrap64 (1000 + c.1) = 1000 + c.1 := w64 (by omega) (by omega)
    rw [h4]
    refine evp_pos (by omega) (evp_pos (by omega) (evp_now ?_))
    show (List.replicate (1000 + c.1).toNat (0 : Int)).length ≤ 1001
    rw [List.length_replicate]
    omega
  have key : ∀ (b : List Int) (d : Nat) (out : List Int) (i h : Int), St b i → out.length + d ≤ 30 → EvP (fun k => spec_DrawBuffer.l0 k out (d : Int) b i h) (fun r => r.1.length ≤ 1001) := by
    intro b d
    induction d with
    | zero =>
      intro out i h hs ho
      refine evp_succ ?_
      have h1 : ¬ (((0 : Nat) : Int) > 0) := by omega
      have h5 : out.length < 17592186044416 := by omega
      simp only [spec_DrawBuffer.l0, h1, h5, if_false, if_true, Option.bind_some]
      refine evp_some (below_some h 30 hs) (fun a ha => ?_)
      refine evp_some (below_some _ 100 ha.2) (fun c hc => ?_)
      refine evp_some (once_some _ 16 hc.2) (fun o ho2 => ?_)
      refine evp_ite (fun _ => ?_) (fun _ => jn _ _ _ _ _ _ ho2 (by omega))
      refine evp_some (below_some _ 3 ho2) (fun e he => ?_)
      refine evp_ite (fun _ => ?_) (fun _ => evp_ite (fun _ => ?_) (fun _ => evp_ite (fun _ => ?_) (fun _ => jn _ _ _ _ _ _ he.2 (by omega))))
      · exact evp_some (pick3_ok _ [-1, 10000000, 10000001] 3 rfl (by omega) he.2) (fun y hy => evp_pos hy.1.1 (evp_pos hy.1.2 (jn _ _ _ _ _ _ hy.2 (by simp; omega))))
      · exact evp_some (pick3_ok _ [0, 10000000, 10000001] 3 rfl (by omega) he.2) (fun y hy => evp_pos hy.1.1 (evp_pos hy.1.2 (jn _ _ _ _ _ _ hy.2 (by omega))))
      · exact evp_some (pick3_ok _ [0, 10000000, 10000001] 3 rfl (by omega) he.2) (fun y hy => evp_pos hy.1.1 (evp_pos hy.1.2 (jn _ _ _ _ _ _ hy.2 (by omega))))
    | succ d ih =>
      intro out i h hs ho
      refine evp_succ ?_
      have h1 : (((d + 1 : Nat) : Int) > 0) := by omega
      have h2 : wrap64 (((d + 1 : Nat) : Int) - 1) = (d : Int) := by rw [w64 (by omega) (by omega)]; omega
      have h5 : out.length < 17592186044416 := by omega
      simp only [spec_DrawBuffer.l0, h1, h2, h5, if_true]
      exact evp_some (below_some h 60 hs) (fun a ha => ih _ _ _ ha.2 (by simp; omega))
  unfold spec_DrawBuffer.f
  refine evp_bind (new_ev code hc) (fun a ha => ?_)
  obtain ⟨c0, i0, h0⟩ := a
  obtain ⟨rfl, hs⟩ := ha
  refine evp_some (below_some h0 20 hs) (fun n hn => ?_)
  obtain ⟨m, hm⟩ := Int.eq_ofNat_of_zero_le hn.1.1
  have := hn.1.2 (by omega)
  rw [hm]
  exact key _ m [] _ _ hn.2 (by simp; omega)
def good (room s r : Int) : Prop := -1 ≤ r ∧ r ≤ room ∧ (0 ≤ r → s ≤ room) ∧ (s = 0 → 0 ≤ r)
theorem bufGo_good {rate room : Int} (hr : 1 ≤ rate) (hm : 1 ≤ room) : ∀ (xs : List Int) (full : Int) (i : Nat), i < xs.length → 0 ≤ full → full ≤ room → good room (xs.getD i 0) ((bufGo rate room xs full).getD i 0)
  | [], _, _, h, _, _ => absurd h (by simp)
  | s :: ss, full, i, h, h0, h1 => by
    rw [bufGo]
    have m1 := mn_min (full - s + rate) room
    have m2 := mn_min (full + rate) room
    by_cases hf : s ≤ full
    · rw [if_pos hf]
      cases i with
      | zero =>
        show good room s (mn (full - s + rate) room)
        exact ⟨by omega, by omega, fun _ => by omega, fun _ => by omega⟩
      | succ i =>
        have hi : i < ss.length := by simpa using h
        simpa using bufGo_good hr hm ss (mn (full - s + rate) room) i hi (by omega) (by omega)
    · rw [if_neg hf]
      cases i with
      | zero =>
        show good room s (-1)
        exact ⟨by omega, by omega, fun h => by omega, fun h => by omega⟩
      | succ i =>
        have hi : i < ss.length := by simpa using h
        simpa using bufGo_good hr hm ss (mn (full + rate) room) i hi (by omega) (by omega)
theorem FnBuffered : laws_FnBuffered.Pure := by
  intro code _ _ _
  apply Ev.rounds
  apply evp_true
  simp only [laws_FnBuffered.f, laws_big.f, Option.bind_some]
  refine evp_ite (fun _ => evp_now rfl) (fun hb => ?_)
  have hc : code.length ≤ 4096 := by
    have := of_decide_eq_false (Bool.eq_false_iff.2 hb)
    omega
  refine evp_bind (DrawBuffer_ev code hc) (fun a ha => ?_)
  obtain ⟨xs, rate, room⟩ := a
  have hl : xs.length ≤ 1001 := ha
  refine evp_ebind (impl_Buffer_ev xs rate room) ?_
  refine evp_ebind (spec_Buffer_ev xs rate room) ?_
  have hlen := bufV_len xs rate room
  refine evp_ebind (sameInts_ev _ _ (by omega)) ?_
  simp only [decide_true, if_true]
  have hgood : ∀ i, i < (bufV xs rate room).length → i < xs.length ∧ good room (rd xs (i : Int)) (rd (bufV xs rate room) (i : Int)) := by
    intro i hi
    refine ⟨by omega, ?_⟩
    unfold bufV at hi ⊢
    by_cases hB : bufB xs rate room = true
    · rw [if_pos hB] at hi ⊢
      rw [bufB, Bool.and_eq_true] at hB
      have h1 := of_decide_eq_true hB.1
      exact bufGo_good h1.2.1.1 h1.2.2.1 xs room i (by rw [bufGo_len] at hi; exact hi) (by omega) (Int.le_refl _)
    · rw [if_neg hB] at hi
      exact absurd hi (by simp)
  generalize bufV xs rate room = ls at hgood hlen
  have key : ∀ d i, i + d = ls.length → EvP (fun k => laws_FnBuffered.l0 k xs room ls (i : Int)) (fun r => r = true) := by
    intro d
    induction d with
    | zero =>
      intro i hi
      refine evp_succ ?_
      have h1 : ¬ (i : Int) < (ls.length : Int) := by omega
      simp only [laws_FnBuffered.l0, h1, if_false]
      exact evp_now rfl
    | succ d ih =>
      intro i hi
      refine evp_succ ?_
      have h1 : (i : Int) < (ls.length : Int) := by omega
      have h2 : (0 : Int) ≤ (i : Int) := by omega
      have h4 := w64s (n := i) (by omega)
      obtain ⟨h5, g1, g2, g3, g4⟩ := hgood i (by omega)
      have h6 : (i : Int) < (xs.length : Int) := by omega
      have hih := ih (i + 1) (by omega)
      simp only [laws_FnBuffered.l0, h1, h2, h4, h6, if_true]
      refine evp_neg (by omega) (evp_neg (by omega) (evp_ite (fun h => ?_) (fun h => ?_)))
      · refine evp_neg (by have := g3 (by omega); omega) (evp_ite (fun h7 => evp_neg (by omega) hih) (fun _ => hih))
      · exact evp_ite (fun h7 => evp_neg (by have := g4 h7; omega) hih) (fun _ => hih)
  exact key ls.length 0 (by omega)
end Go.Proofs.Ytbdnpfjjaokdbaa.Pure
