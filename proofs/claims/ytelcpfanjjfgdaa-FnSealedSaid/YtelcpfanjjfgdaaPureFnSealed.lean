/-
  The plain statement of FnSealed: what is sealed opens in its time as it was, and at no other time; whatever the draw.
  Conditions: the statement's own.
-/
import Derived.Test.YtelcpfanjjfgdaaHFnSealedx0
import Derived.Test.YtelcpfanjjfgdaaHFnSealedx1
import Derived.Test.YtelcpfanjjfgdaaHFnSealedx2
import Derived.Test.YtelcpfanjjfgdaaHFnSealedx3
import Derived.Test.YtelcpfanjjfgdaaHFnSealedx4
import Derived.Test.YtelcpfanjjfgdaaPureBase
import Derived.Laws.BitsLemmas
namespace Go.Proofs.Ytelcpfanjjfgdaa.Pure
open Go.RowKit Go.Proofs.Ytelcpfanjjfgdaa.HFnSealed Go.Proofs.YtelcpfanjjfgdaaW.PrintWords Go.Proofs.YtelcpfanjjfgdaaW.PrintLast Go.Proofs.YtelcpfanjjfgdaaW.PrintMore Go.Proofs.Ytelcpfanjjfgdaa.PB
set_option linter.unusedVariables false
set_option linter.unusedSimpArgs false
theorem spec_in_eq (a lo hi : Int) : spec_l1In.f a lo hi = some (decide (lo ≤ a ∧ a ≤ hi)) := by
  unfold spec_l1In.f
  by_cases h : a ≥ lo
  · rw [if_pos h]; simp [show lo ≤ a from h]
  · rw [if_neg h]; simp; omega

theorem impl_in_eq (a lo hi : Int) : impl_in.f a lo hi = some (decide (lo ≤ a ∧ a ≤ hi)) := by
  unfold impl_in.f
  by_cases h : lo ≤ a
  · rw [if_pos h]; simp [h]
  · rw [if_neg h]; simp; omega

/-! #### Seal -/
def sl (s : Int) : List Int → List Int
  | [] => []
  | b :: bs => Go.bits .xor .u8 b ((Int.tmod (Int.tmod (wrap64 (s * 48271)) 1000000007) 256) % 256) :: sl (Int.tmod (wrap64 (s * 48271)) 1000000007) bs
theorem sl_len (xs : List Int) : ∀ s, (sl s xs).length = xs.length := by
  induction xs with
  | nil => intro s; rfl
  | cons b bs ih => intro s; simp [sl, ih]
def sealB (xs : List Int) (a : Int) : List Int := if 1 ≤ a ∧ a ≤ 1000000006 ∧ xs.length ≤ 40000 then sl a xs else []
theorem sealB_len (xs : List Int) (a : Int) : (sealB xs a).length ≤ xs.length := by
  unfold sealB
  split
  · rw [sl_len]; exact Nat.le_refl _
  · simp
theorem spec_Seal_ev (xs : List Int) (a : Int) : Ev (fun k => spec_Seal.f k xs a) (sealB xs a) := by
  have key : ∀ d i (out : List Int) (s : Int), xs.length ≤ 40000 → i + d = xs.length → out.length ≤ i → Ev (fun k => spec_Seal.l0 k xs out s (i : Int)) (out ++ sl s (xs.drop i)) := by
    intro d
    induction d with
    | zero =>
      intro i out s hl hi ho
      refine ev_succ ?_
      rw [drop_end (by omega)]
      have h1 : ¬ (i : Int) < (xs.length : Int) := by omega
      simp only [spec_Seal.l0, h1, if_false]
      exact ev_ret (by simp [sl])
    | succ d ih =>
      intro i out s hl hi ho
      refine ev_succ ?_
      have h1 : (i : Int) < (xs.length : Int) := by omega
      have h2 : (0 : Int) ≤ (i : Int) := by omega
      have h3 : out.length < 140737488355328 := by omega
      have h4 := w64s (n := i) (by omega)
      simp only [spec_Seal.l0, h1, h2, h3, if_true, h4]
      rw [drop_rd _ i (by omega)]
      exact ev_eq (ih (i + 1) _ _ hl (by omega) (by simp; omega)) (by simp [sl])
  have hin : spec_l1In.f a 1 1000000006 = some (decide (1 ≤ a ∧ a ≤ 1000000006)) := by
    unfold spec_l1In.f
    by_cases h : a ≥ 1
    · rw [if_pos h]; simp [show 1 ≤ a from h]
    · rw [if_neg h]; simp; omega
  simp only [spec_Seal.f, hin, Option.bind_some]
  by_cases h : 1 ≤ a ∧ a ≤ 1000000006
  · simp only [decide_eq_true h, if_true]
    refine ev_succ ?_
    by_cases hl : (xs.length : Int) > 40000
    · simp only [spec_Seal.j0, hl, decide_true, if_true]
      exact ev_ret (by unfold sealB; rw [if_neg (fun hh => by have := hh.2.2; omega)])
    · simp only [spec_Seal.j0, hl, decide_false, Bool.false_eq_true, if_false]
      exact ev_eq (key xs.length 0 [] a (by omega) (by omega) (by simp)) (by unfold sealB; rw [if_pos (by omega)]; simp)
  · simp only [decide_eq_false h, Bool.false_eq_true, if_false]
    refine ev_succ ?_
    simp only [spec_Seal.j0, if_true]
    exact ev_ret (by unfold sealB; rw [if_neg (by omega)])
theorem impl_Seal_ev (xs : List Int) (a : Int) : Ev (fun k => impl_Seal.f k xs a) (sealB xs a) := by
  have key : ∀ d i (out : List Int) (s : Int), xs.length ≤ 40000 → i + d = xs.length → out.length ≤ i → Ev (fun k => impl_Seal.l0 k s out xs (xs.length : Int) (i : Int)) (out ++ sl s (xs.drop i)) := by
    intro d
    induction d with
    | zero =>
      intro i out s hl hi ho
      refine ev_succ ?_
      rw [drop_end (by omega)]
      have h1 : ¬ (i : Int) < (xs.length : Int) := by omega
      simp only [impl_Seal.l0, h1, if_false]
      exact ev_ret (by simp [sl])
    | succ d ih =>
      intro i out s hl hi ho
      refine ev_succ ?_
      have h1 : (i : Int) < (xs.length : Int) := by omega
      have h2 : (0 : Int) ≤ (i : Int) := by omega
      have h3 : out.length < 140737488355328 := by omega
      have h4 := w64s (n := i) (by omega)
      simp only [impl_Seal.l0, h1, h2, h3, if_true, h4]
      rw [drop_rd _ i (by omega)]
      exact ev_eq (ih (i + 1) _ _ hl (by omega) (by simp; omega)) (by simp [sl])
  have hin : impl_in.f a 1 1000000006 = some (decide (1 ≤ a ∧ a ≤ 1000000006)) := by
    unfold impl_in.f
    by_cases h : 1 ≤ a
    · rw [if_pos h]; simp [h]
    · rw [if_neg h]; simp; omega
  simp only [impl_Seal.f, hin, Option.bind_some]
  by_cases h : 1 ≤ a ∧ a ≤ 1000000006
  · simp only [decide_eq_true h, if_true]
    refine ev_succ ?_
    by_cases hl : (xs.length : Int) > 40000
    · simp only [impl_Seal.j0, hl, decide_true, if_true]
      exact ev_ret (by unfold sealB; rw [if_neg (fun hh => by have := hh.2.2; omega)])
    · simp only [impl_Seal.j0, hl, decide_false, Bool.false_eq_true, if_false]
      exact ev_eq (key xs.length 0 [] a (by omega) (by omega) (by simp)) (by unfold sealB; rw [if_pos (by omega)]; simp)
  · simp only [decide_eq_false h, Bool.false_eq_true, if_false]
    refine ev_succ ?_
    simp only [impl_Seal.j0, if_true]
    exact ev_ret (by unfold sealB; rw [if_neg (by omega)])

/-! #### Open -/
def openR (f t s m : Int) (xs : List Int) : List Int × Bool := if (0 ≤ f ∧ f ≤ t ∧ t ≤ 1000000000) ∧ (1 ≤ s ∧ s ≤ 1000000006) ∧ (f ≤ m ∧ m ≤ t) ∧ xs.length ≤ 40000 then (sealB xs s, true) else ([], false)
theorem spec_Open_ev (f t s m : Int) (xs : List Int) : Ev (fun k => spec_Open.f k f t s m xs) (openR f t s m xs) := by
  unfold openR
  simp only [spec_Open.f, spec_in_eq, Option.bind_some]
  refine ev_ite (fun h1 => ev_ret (by rw [if_neg (fun hh => by have := hh.1.1; omega)])) (fun h1 => ?_)
  refine ev_ite (fun h2 => ev_ret (by rw [if_neg (fun hh => by have := hh.1.2.1; omega)])) (fun h2 => ?_)
  refine ev_ite (fun h3 => ev_ret (by rw [if_neg (fun hh => by have := hh.1.2.2; omega)])) (fun h3 => ?_)
  refine ev_ifb (fun h4 => ?_) (fun h4 => ev_ret (by rw [if_neg (fun hh => of_decide_eq_false h4 hh.2.1)]))
  refine ev_ifb (fun h5 => ?_) (fun h5 => ev_ret (by rw [if_neg (fun hh => of_decide_eq_false h5 hh.2.2.1)]))
  refine ev_ite (fun h6 => ev_ret (by rw [if_neg (fun hh => by have := hh.2.2.2; omega)])) (fun h6 => ?_)
  refine ev_bind (spec_Seal_ev xs s) ?_
  rw [if_pos ⟨⟨by omega, by omega, by omega⟩, of_decide_eq_true h4, of_decide_eq_true h5, by omega⟩]
  exact ev_ret rfl
theorem impl_Open_ev (f t s m : Int) (xs : List Int) : Ev (fun k => impl_Open.f k f t s m xs) (openR f t s m xs) := by
  have hok : impl_Lock_ok.f f t s = some (decide ((0 ≤ f ∧ f ≤ t ∧ t ≤ 1000000000) ∧ (1 ≤ s ∧ s ≤ 1000000006))) := by
    simp only [impl_Lock_ok.f, impl_in_eq, Option.bind_some]
    split
    · split
      · split
        · simp only [Option.some.injEq, decide_eq_decide]; omega
        · simp only [Option.some.injEq]; symm; rw [decide_eq_false_iff_not]; omega
      · simp only [Option.some.injEq]; symm; rw [decide_eq_false_iff_not]; omega
    · simp only [Option.some.injEq]; symm; rw [decide_eq_false_iff_not]; omega
  unfold openR
  simp only [impl_Open.f, hok, impl_in_eq, Option.bind_some]
  refine ev_ifb (fun h4 => ?_) (fun h4 => ev_ret (by rw [if_neg (fun hh => of_decide_eq_false h4 ⟨hh.1, hh.2.1⟩)]))
  refine ev_ifb (fun h5 => ?_) (fun h5 => ev_ret (by rw [if_neg (fun hh => of_decide_eq_false h5 hh.2.2.1)]))
  refine ev_ite (fun h6 => ev_ret (by rw [if_neg (fun hh => by have := hh.2.2.2; omega)])) (fun h6 => ?_)
  refine ev_bind (impl_Seal_ev xs s) ?_
  have h4' := of_decide_eq_true h4
  rw [if_pos ⟨h4'.1, h4'.2, of_decide_eq_true h5, by omega⟩]
  exact ev_ret rfl
theorem openR_len (f t s m : Int) (xs : List Int) : (openR f t s m xs).1.length ≤ xs.length := by
  unfold openR
  split
  · exact sealB_len xs s
  · simp

/-! #### the draws' cursor: where it stands (b: the bytes, i: how many are used) -/
def St (b : List Int) (i : Int) : Prop := 0 ≤ i ∧ i ≤ b.length ∧ b.length ≤ 4096
theorem and255 (x : Int) : 0 ≤ Go.bits .and .i64 x 255 ∧ Go.bits .and .i64 x 255 ≤ 255 := by
  have h : ((BitVec.ofInt 64 x) &&& (BitVec.ofInt 64 255)).toNat ≤ 255 := by
    rw [BitVec.toNat_and]
    exact Nat.le_trans Nat.and_le_right (by decide)
  have e : Go.bits .and .i64 x 255 = IntKind.i64.wrap (((BitVec.ofInt 64 x) &&& (BitVec.ofInt 64 255)).toNat : Int) := rfl
  rw [e, IntKind.wrap_i64]
  omega
theorem byte_some {b : List Int} {i : Int} (h : Int) (hs : St b i) : SomeP (spec_l1Byte.f b i h) (fun r => (0 ≤ r.1 ∧ r.1 ≤ 255) ∧ St b r.2.1) := by
  obtain ⟨h1, h2, h3⟩ := hs
  unfold spec_l1Byte.f
  refine somep_ite (fun hl => somep_pos h1 (somep_now ⟨and255 _, ?_⟩)) (fun hl => somep_now ⟨and255 _, h1, h2, h3⟩)
  show St b (wrap64 (i + 1))
  rw [w64 (by omega) (by omega)]
  exact ⟨by omega, by omega, h3⟩
theorem below_some {b : List Int} {i : Int} (h : Int) (n : Int) (hs : St b i) : SomeP (spec_l1Below.f b i h n) (fun r => (0 ≤ r.1 ∧ (0 < n → r.1 < n)) ∧ St b r.2.1) := by
  unfold spec_l1Below.f
  refine somep_ite (fun hn => somep_now ⟨⟨Int.le_refl _, fun h => by omega⟩, hs⟩) (fun hn => somep_ite (fun h2 => ?_) (fun h2 => ?_))
  · refine somep_bind (byte_some h hs) (fun a ha => somep_neg (by omega) (somep_now ⟨?_, ha.2⟩))
    have e : Int.tmod a.1 n = a.1 % n := Int.tmod_eq_emod_of_nonneg ha.1.1
    show 0 ≤ Int.tmod a.1 n ∧ (0 < n → Int.tmod a.1 n < n)
    rw [e]
    exact ⟨Int.emod_nonneg _ (by omega), fun h => Int.emod_lt_of_pos _ h⟩
  · refine somep_bind (byte_some h hs) (fun a ha => somep_bind (byte_some _ ha.2) (fun c hc => somep_bind (byte_some _ hc.2) (fun d hd => somep_bind (byte_some _ hd.2) (fun e he => somep_neg (by omega) (somep_now ⟨?_, he.2⟩)))))
    have h1 := ha.1; have h3 := hc.1; have h4 := hd.1; have h5 := he.1
    have w1 : wrap64 (a.1 * 16777216) = a.1 * 16777216 := w64 (by omega) (by omega)
    have w2 : wrap64 (c.1 * 65536) = c.1 * 65536 := w64 (by omega) (by omega)
    have w3 : wrap64 (d.1 * 256) = d.1 * 256 := w64 (by omega) (by omega)
    show 0 ≤ Int.tmod (wrap64 (wrap64 (wrap64 (wrap64 (a.1 * 16777216) + wrap64 (c.1 * 65536)) + wrap64 (d.1 * 256)) + e.1)) n ∧ (0 < n → Int.tmod (wrap64 (wrap64 (wrap64 (wrap64 (a.1 * 16777216) + wrap64 (c.1 * 65536)) + wrap64 (d.1 * 256)) + e.1)) n < n)
    rw [w1, w2, w3, w64 (x := a.1 * 16777216 + c.1 * 65536) (by omega) (by omega), w64 (x := a.1 * 16777216 + c.1 * 65536 + d.1 * 256) (by omega) (by omega), w64 (by omega) (by omega), Int.tmod_eq_emod_of_nonneg (by omega)]
    exact ⟨Int.emod_nonneg _ (by omega), fun h => Int.emod_lt_of_pos _ h⟩
theorem new_ev (code : List Int) (hc : code.length ≤ 4096) : EvP (fun k => spec_l1New.f k code) (fun r => r.1 = code ∧ St code r.2.1) := by
  have key : ∀ d i (h : Int), i + d = code.length → EvP (fun k => spec_l1New.l0 k code h (i : Int)) (fun r => r.1 = code ∧ St code r.2.1) := by
    intro d
    induction d with
    | zero =>
      intro i h hi
      refine evp_succ ?_
      have h1 : ¬ (i : Int) < (code.length : Int) := by omega
      simp only [spec_l1New.l0, h1, if_false]
      exact evp_now ⟨rfl, by refine ⟨Int.le_refl _, ?_, hc⟩; show (0 : Int) ≤ code.length; omega⟩
    | succ d ih =>
      intro i h hi
      refine evp_succ ?_
      have h1 : (i : Int) < (code.length : Int) := by omega
      have h2 : (0 : Int) ≤ (i : Int) := by omega
      have h4 := w64s (n := i) (by omega)
      simp only [spec_l1New.l0, h1, h2, h4, if_true]
      exact ih (i + 1) _ (by omega)
  exact key code.length 0 _ (by omega)

theorem once_some {b : List Int} {i : Int} (h : Int) (n : Int) (hs : St b i) : SomeP (spec_l1Once.f b i h n) (fun r => St b r.2.1) := by
  unfold spec_l1Once.f
  exact somep_bind (below_some h n hs) (fun a ha => somep_now ha.2)

theorem from_some {b : List Int} {i : Int} (h : Int) (lo hi : Int) (hs : St b i) (h1 : -1000000000000 ≤ lo) (h2 : lo ≤ hi) (h3 : hi ≤ 1000000000000) : SomeP (spec_l1From.f b i h lo hi) (fun r => (lo ≤ r.1 ∧ r.1 ≤ hi) ∧ St b r.2.1) := by
  unfold spec_l1From.f
  have e : wrap64 (wrap64 (hi - lo) + 1) = hi - lo + 1 := by rw [w64 (x := hi - lo) (by omega) (by omega), w64 (by omega) (by omega)]
  rw [e]
  refine somep_bind (below_some h _ hs) (fun a ha => somep_now ⟨?_, ha.2⟩)
  have := ha.1.2 (by omega)
  have := ha.1.1
  show lo ≤ wrap64 (lo + a.1) ∧ wrap64 (lo + a.1) ≤ hi
  rw [w64 (by omega) (by omega)]
  omega

theorem odd_some {b : List Int} {i : Int} (h : Int) (hs : St b i) : SomeP (spec_l1Odd.f b i h) (fun r => (-9223372036854775808 ≤ r.1 ∧ r.1 ≤ 9223372036854775807) ∧ St b r.2.1) := by
  unfold spec_l1Odd.f
  simp only [Option.bind_some]
  refine somep_bind (below_some h 10 hs) (fun a ha => somep_pos ha.1.1 (somep_pos ?_ (somep_now ⟨?_, ha.2⟩)))
  · have := ha.1.2 (by omega)
    simpa using this
  · have h1 := ha.1.2 (by omega)
    have h2 := ha.1.1
    have : ∀ n : Nat, n < 10 → -9223372036854775808 ≤ rd [(-1), 0, 1, 2147483648, (-2147483648), 1099511627776, 4611686018427387904, (-4611686018427387904), 9223372036854775807, (-9223372036854775808)] (n : Int) ∧ rd [(-1), 0, 1, 2147483648, (-2147483648), 1099511627776, 4611686018427387904, (-4611686018427387904), 9223372036854775807, (-9223372036854775808)] (n : Int) ≤ 9223372036854775807 := by decide
    have := this a.1.toNat (by omega)
    rw [Int.toNat_of_nonneg h2] at this
    exact this

theorem body_ev {b : List Int} {i : Int} (h : Int) (hs : St b i) : EvP (fun k => spec_l15DrawBody.f k b i h) (fun r => (r.1.length ≤ 40001 ∧ ∀ x ∈ r.1, 0 ≤ x ∧ x ≤ 255) ∧ St b r.2.1) := by
  have key : ∀ (d : Nat) (out : List Int) (i h : Int), St b i → out.length + d ≤ 10 → (∀ x ∈ out, 0 ≤ x ∧ x ≤ 255) → EvP (fun k => spec_l15DrawBody.l0 k out (d : Int) b i h) (fun r => (r.1.length ≤ 40001 ∧ ∀ x ∈ r.1, 0 ≤ x ∧ x ≤ 255) ∧ St b r.2.1) := by
    intro d
    induction d with
    | zero =>
      intro out i h hs ho hb
      refine evp_succ ?_
      have h1 : ¬ (((0 : Nat) : Int) > 0) := by omega
      simp only [spec_l15DrawBody.l0, h1, if_false]
      refine evp_some (once_some h 90 hs) (fun a ha => ?_)
      refine evp_ite (fun _ => ?_) (fun _ => evp_now ⟨⟨by show out.length ≤ 40001; omega, hb⟩, ha⟩)
      refine evp_some (below_some _ 2 ha) (fun c hc => ?_)
      have h2 := hc.1.1
      have h3 := hc.1.2 (by omega)
      have h4 : wrap64 (40000 + c.1) = 40000 + c.1 := w64 (by omega) (by omega)
      rw [h4]
      refine evp_pos (by omega) (evp_pos (by omega) (evp_now ⟨⟨?_, ?_⟩, hc.2⟩))
      · show (List.replicate (40000 + c.1).toNat (0 : Int)).length ≤ 40001
        rw [List.length_replicate]
        omega
      · intro x hx
        have := List.eq_of_mem_replicate hx
        omega
    | succ d ih =>
      intro out i h hs ho hb
      refine evp_succ ?_
      have h1 : (((d + 1 : Nat) : Int) > 0) := by omega
      have h2 : wrap64 (((d + 1 : Nat) : Int) - 1) = (d : Int) := by rw [w64 (by omega) (by omega)]; omega
      simp only [spec_l15DrawBody.l0, h1, h2, if_true]
      refine evp_some (byte_some h hs) (fun a ha => ?_)
      refine evp_pos (by omega) (ih _ _ _ ha.2 (by simp; omega) ?_)
      intro x hx
      rcases List.mem_append.1 hx with hx | hx
      · exact hb x hx
      · have := List.mem_singleton.1 hx
        omega
  unfold spec_l15DrawBody.f
  refine evp_some (below_some h 10 hs) (fun a ha => ?_)
  obtain ⟨n, hn⟩ := Int.eq_ofNat_of_zero_le ha.1.1
  have := ha.1.2 (by omega)
  rw [hn]
  exact key n [] _ _ ha.2 (by simp; omega) (fun x hx => by cases hx)

theorem secret_some {b : List Int} {i : Int} (h : Int) (hs : St b i) : SomeP (spec_l15DrawSecret.f b i h) (fun r => St b r.2.1) := by
  unfold spec_l15DrawSecret.f
  refine somep_bind (once_some h 12 hs) (fun a ha => somep_ite (fun _ => ?_) (fun _ => ?_))
  · simp only [Option.bind_some]
    refine somep_bind (below_some _ 5 ha) (fun c hc => somep_pos hc.1.1 (somep_pos ?_ (somep_now hc.2)))
    have := hc.1.2 (by omega)
    simpa using this
  · exact somep_bind (below_some _ _ ha) (fun c hc => somep_now hc.2)
def LockOk (r : Int × Int × Int × Int × List Int) : Prop := (-2 ≤ r.1 ∧ r.1 ≤ 1000) ∧ (-2 ≤ r.2.1 ∧ r.2.1 ≤ 1000000001) ∧ r.2.2.2.2.length ≤ 40001 ∧ ∀ x ∈ r.2.2.2.2, 0 ≤ x ∧ x ≤ 255
theorem DrawOpen_ev (code : List Int) (hc : code.length ≤ 4096) : EvP (fun k => spec_DrawOpen.f k code) LockOk := by
  unfold spec_DrawOpen.f
  refine evp_bind (new_ev code hc) (fun a ha => ?_)
  obtain ⟨c0, i0, h0⟩ := a
  obtain ⟨rfl, hs⟩ := ha
  refine evp_some (below_some h0 100 hs) (fun f hf => ?_)
  refine evp_some (secret_some _ hf.2) (fun s hs => ?_)
  refine evp_some (below_some _ 50 hs) (fun t ht => ?_)
  refine evp_some (from_some _ (-2) 52 ht.2 (by omega) (by omega) (by omega)) (fun m hm => ?_)
  refine evp_some (once_some _ 16 hm.2) (fun o ho => ?_)
  have f1 := hf.1.1; have f2 := hf.1.2 (by omega); have t1 := ht.1.1; have t2 := ht.1.2 (by omega)
  have e1 : wrap64 (f.1 + t.1) = f.1 + t.1 := w64 (by omega) (by omega)
  have e2 : wrap64 (f.1 + t.1 + 1) = f.1 + t.1 + 1 := w64 (by omega) (by omega)
  simp only [e1, e2, Option.bind_some]
  refine evp_ite (fun _ => ?_) (fun _ => ?_)
  · refine evp_some (below_some _ 3 ho) (fun z hz => ?_)
    refine evp_ite (fun _ => ?_) (fun _ => evp_ite (fun _ => ?_) (fun _ => evp_ite (fun _ => ?_) (fun _ => ?_)))
    · refine evp_some (below_some _ 3 hz.2) (fun y hy => evp_pos hy.1.1 (evp_pos ?_ ?_))
      · have := hy.1.2 (by omega)
        simpa using this
      · refine evp_bind (body_ev _ hy.2) (fun w hw => evp_now ⟨?_, ⟨by show -2 ≤ f.1 + t.1; omega, by show f.1 + t.1 ≤ 1000000001; omega⟩, hw.1⟩)
        have h1 := hy.1.1
        have h2 := hy.1.2 (by omega)
        obtain ⟨n, hn⟩ := Int.eq_ofNat_of_zero_le h1
        show -2 ≤ rd [-1, f.1 + t.1, f.1 + t.1 + 1] y.1 ∧ rd [-1, f.1 + t.1, f.1 + t.1 + 1] y.1 ≤ 1000
        rw [hn] at h2 ⊢
        match n, h2 with
        | 0, _ => show -2 ≤ (-1 : Int) ∧ (-1 : Int) ≤ 1000; omega
        | 1, _ => show -2 ≤ f.1 + t.1 ∧ f.1 + t.1 ≤ 1000; omega
        | 2, _ => show -2 ≤ f.1 + t.1 + 1 ∧ f.1 + t.1 + 1 ≤ 1000; omega
        | n + 3, h2 => exact absurd h2 (by omega)
    · refine evp_some (below_some _ 2 hz.2) (fun y hy => evp_pos hy.1.1 (evp_pos ?_ ?_))
      · have := hy.1.2 (by omega)
        simpa using this
      · refine evp_bind (body_ev _ hy.2) (fun w hw => evp_now ⟨⟨by show -2 ≤ f.1; omega, by show f.1 ≤ 1000; omega⟩, ?_, hw.1⟩)
        have h1 := hy.1.1
        have h2 := hy.1.2 (by omega)
        obtain ⟨n, hn⟩ := Int.eq_ofNat_of_zero_le h1
        show -2 ≤ rd [1000000000, 1000000001] y.1 ∧ rd [1000000000, 1000000001] y.1 ≤ 1000000001
        rw [hn] at h2 ⊢
        match n, h2 with
        | 0, _ => show -2 ≤ (1000000000 : Int) ∧ (1000000000 : Int) ≤ 1000000001; omega
        | 1, _ => show -2 ≤ (1000000001 : Int) ∧ (1000000001 : Int) ≤ 1000000001; omega
        | n + 2, h2 => exact absurd h2 (by omega)
    · refine evp_some (odd_some _ hz.2) (fun y hy => ?_)
      exact evp_bind (body_ev _ hy.2) (fun w hw => evp_now ⟨⟨by show -2 ≤ f.1; omega, by show f.1 ≤ 1000; omega⟩, ⟨by show -2 ≤ f.1 + t.1; omega, by show f.1 + t.1 ≤ 1000000001; omega⟩, hw.1⟩)
    · exact evp_bind (body_ev _ hz.2) (fun w hw => evp_now ⟨⟨by show -2 ≤ f.1; omega, by show f.1 ≤ 1000; omega⟩, ⟨by show -2 ≤ f.1 + t.1; omega, by show f.1 + t.1 ≤ 1000000001; omega⟩, hw.1⟩)
  · exact evp_bind (body_ev _ ho) (fun w hw => evp_now ⟨⟨by show -2 ≤ f.1; omega, by show f.1 ≤ 1000; omega⟩, ⟨by show -2 ≤ f.1 + t.1; omega, by show f.1 + t.1 ≤ 1000000001; omega⟩, hw.1⟩)

theorem xor_back {b c : Int} (h1 : 0 ≤ b) (h2 : b ≤ 255) : Go.bits .xor .u8 (Go.bits .xor .u8 b c) c = b := by
  have e : ∀ x y, Go.bits .xor .u8 x y = (((BitVec.ofInt 8 x) ^^^ (BitVec.ofInt 8 y)).toNat : Int) := by
    intro x y
    have h : ((BitVec.ofInt 8 x) ^^^ (BitVec.ofInt 8 y)).toNat < 256 := ((BitVec.ofInt 8 x) ^^^ (BitVec.ofInt 8 y)).isLt
    have e : Go.bits .xor .u8 x y = IntKind.u8.wrap (((BitVec.ofInt 8 x) ^^^ (BitVec.ofInt 8 y)).toNat : Int) := rfl
    rw [e, IntKind.wrap_u8]
    omega
  rw [e, e]
  have h3 : BitVec.ofInt 8 (((BitVec.ofInt 8 b) ^^^ (BitVec.ofInt 8 c)).toNat : Int) = (BitVec.ofInt 8 b) ^^^ (BitVec.ofInt 8 c) := by
    rw [BitVec.ofInt_natCast]
    exact BitVec.eq_of_toNat_eq (by rw [BitVec.toNat_ofNat]; exact Nat.mod_eq_of_lt ((BitVec.ofInt 8 b) ^^^ (BitVec.ofInt 8 c)).isLt)
  rw [h3, BitVec.xor_assoc, BitVec.xor_self, BitVec.xor_zero]
  obtain ⟨n, rfl⟩ := Int.eq_ofNat_of_zero_le h1
  rw [BitVec.ofInt_natCast, BitVec.toNat_ofNat]
  omega
theorem sl_back (xs : List Int) (h : ∀ x ∈ xs, 0 ≤ x ∧ x ≤ 255) : ∀ s, sl s (sl s xs) = xs := by
  induction xs with
  | nil => intro s; rfl
  | cons b bs ih =>
    intro s
    have hb := h b List.mem_cons_self
    simp only [sl]
    rw [xor_back hb.1 hb.2, ih (fun x hx => h x (List.mem_cons_of_mem _ hx))]
theorem FnSealed : laws_FnSealed.Pure := by
  intro code _ _ _
  apply Ev.rounds
  apply evp_true
  simp only [laws_FnSealed.f, laws_big.f, Option.bind_some]
  refine evp_ite (fun _ => evp_now rfl) (fun hb => ?_)
  have hc : code.length ≤ 4096 := by
    have := of_decide_eq_false (Bool.eq_false_iff.2 hb)
    omega
  refine evp_bind (DrawOpen_ev code hc) (fun a ha => ?_)
  obtain ⟨f, t, s, m, body⟩ := a
  obtain ⟨hf, ht, hl, hbytes⟩ := ha
  simp only at hf ht hl hbytes
  refine evp_ebind (impl_Seal_ev body s) ?_
  refine evp_ebind (impl_Open_ev f t s m _) ?_
  refine evp_ebind (spec_Seal_ev body s) ?_
  refine evp_ebind (spec_Open_ev f t s m _) ?_
  simp only [bne_self_eq_false, Bool.false_eq_true, if_false]
  refine evp_ebind (spec_Seal_ev body s) ?_
  simp only [bne_self_eq_false]
  refine evp_succ ?_
  simp only [laws_FnSealed.j0, Bool.false_eq_true, if_false]
  have late : ∀ x, (openR f t s (wrap64 (t + 1)) x).2 = false := by
    intro x
    rw [w64 (by omega) (by omega)]
    unfold openR
    rw [if_neg (fun hh => by have := hh.2.2.1.2; omega)]
  have soon : ∀ x, (openR f t s (wrap64 (f - 1)) x).2 = false := by
    intro x
    rw [w64 (by omega) (by omega)]
    unfold openR
    rw [if_neg (fun hh => by have := hh.2.2.1.1; omega)]
  have fin : ∀ b : Bool, (b = true → (openR f t s m (sealB body s)).1 = []) → (b = false → (openR f t s m (sealB body s)).1 = body ∧ f ≤ m ∧ m ≤ t) →
      EvP (fun k => laws_FnSealed.j1 k m body (sealB body s) (openR f t s m (sealB body s)).1 b f t s) (fun r => r = true) := by
    intro b h1 h2
    refine evp_succ ?_
    cases b with
    | true =>
      simp only [laws_FnSealed.j1, if_true]
      exact evp_now (by rw [h1 rfl]; rfl)
    | false =>
      obtain ⟨h3, h4, h5⟩ := h2 rfl
      simp only [laws_FnSealed.j1, Bool.false_eq_true, if_false]
      refine evp_ebind (impl_Open_ev f t s _ _) ?_
      refine evp_ebind (impl_Open_ev f t s _ _) ?_
      rw [h3]
      refine evp_pos rfl (evp_pos (by omega) (evp_pos h5 ?_))
      rw [late, soon]
      simp only [Bool.false_eq_true, if_false]
      exact evp_now rfl
  by_cases h : (0 ≤ f ∧ f ≤ t ∧ t ≤ 1000000000) ∧ (1 ≤ s ∧ s ≤ 1000000006) ∧ (f ≤ m ∧ m ≤ t)
  · have hS : (sealB body s).length ≤ 40000 := by
      unfold sealB
      split
      · rw [sl_len]
        rename_i hh
        exact hh.2.2
      · simp
    have hO : openR f t s m (sealB body s) = (sealB (sealB body s) s, true) := by
      unfold openR
      rw [if_pos ⟨h.1, h.2.1, h.2.2, hS⟩]
    rw [hO]
    simp only [if_true]
    rw [hO] at fin
    refine fin _ (fun hb => ?_) (fun hb => ?_)
    · have hb' := of_decide_eq_true hb
      have e : sealB body s = [] := by unfold sealB; rw [if_neg (fun hh => by have := hh.2.2; omega)]
      rw [e]
      unfold sealB
      split <;> rfl
    · have hb' := of_decide_eq_false hb
      have hl2 : body.length ≤ 40000 := by omega
      have e : sealB body s = sl s body := by unfold sealB; rw [if_pos ⟨h.2.1.1, h.2.1.2, hl2⟩]
      refine ⟨?_, h.2.2.1, h.2.2.2⟩
      show sealB (sealB body s) s = body
      rw [e]
      unfold sealB
      rw [if_pos ⟨h.2.1.1, h.2.1.2, by rw [sl_len]; exact hl2⟩, sl_back body hbytes]
  · have hO : openR f t s m (sealB body s) = ([], false) := by
      unfold openR
      rw [if_neg (fun hh => h ⟨hh.1, hh.2.1, hh.2.2.1⟩)]
    rw [hO]
    simp only [Bool.false_eq_true, if_false]
    rw [hO] at fin
    exact fin true (fun _ => rfl) (fun hh => by cases hh)
end Go.Proofs.Ytelcpfanjjfgdaa.Pure
