/-
  Exact laws of doubles (a number times 1, times 0, plus 0), and what it is for two doubles to be alike.
  Conditions: none beyond what each theorem names.
-/
import Ieee.Arith
import Ieee.Word
import Derived.Test.YtofiabjphjpglaaSoundMath
namespace Go.Proofs.Ytofiabjphjpglaa.FA
open Ieee
set_option linter.unusedVariables false
set_option linter.unusedSimpArgs false
theorem log2_shift (m j : Nat) (hm : m ≠ 0) : (m * 2 ^ j).log2 = m.log2 + j := by
  have h0 : m * 2 ^ j ≠ 0 := Nat.mul_ne_zero hm (Nat.pos_iff_ne_zero.1 (Nat.two_pow_pos j))
  have h1 := Nat.log2_self_le hm
  have h2 := Nat.lt_log2_self (n := m)
  rw [Nat.log2_eq_iff h0]
  refine ⟨?_, ?_⟩
  · rw [Nat.pow_add]; exact Nat.mul_le_mul_right _ h1
  · rw [show m.log2 + j + 1 = (m.log2 + 1) + j by omega, Nat.pow_add]; exact (Nat.mul_lt_mul_right (Nat.two_pow_pos j)).2 h2
theorem e_sw : double.signWeight = 9223372036854775808 := by decide
theorem e_bin : double.binade = 4503599627370496 := by decide
theorem e_inf : double.infRung = 9218868437227405312 := by decide
theorem e_least : double.leastPlace = -1074 := by decide
theorem cut_exact (neg : Bool) (m j : Nat) (hm : m ≠ 0) : Toward.even.cut neg (m * 2 ^ j) j = m := by
  have hl := log2_shift m j hm
  have hp := Nat.two_pow_pos j
  unfold Toward.cut
  simp only
  have e : 1 <<< min j ((m * 2 ^ j).log2 + 2) = 2 ^ j := by rw [hl, Nat.min_eq_left (by omega), Nat.one_shiftLeft]
  rw [e, Nat.mul_div_cancel _ hp, Nat.mul_mod_left]
  have h1 : (2 ^ j < 2 * 0) = False := by simp
  have h2 : ((2 ^ j == 2 * 0) : Bool) = false := by
    simp
  simp [h2]
theorem near1 (neg : Bool) (m j k : Nat) (hm : m < 2 ^ 53) (hk : k = 0 ∨ 2 ^ 52 ≤ m) (p : Int) (hp : p = -1074 + (k : Int) - (j : Int)) : double.nearest neg (m * 2 ^ j) p = double.word neg (min (if m = 0 then 0 else k * 4503599627370496 + m) 9218868437227405312) := by
  subst hp
  unfold Format.nearest
  by_cases h0 : m = 0
  · subst h0
    simp
  · have hne : m * 2 ^ j ≠ 0 := Nat.mul_ne_zero h0 (Nat.pos_iff_ne_zero.1 (Nat.two_pow_pos j))
    rw [if_neg hne, if_neg h0]
    simp only [e_least, e_bin, e_inf, log2_shift m j h0]
    have hf : double.fractionBits = 52 := rfl
    have hlog : m.log2 ≤ 52 := by
      have : m.log2 < 53 := (Nat.log2_lt h0).2 hm
      omega
    have hlog2 : k = 0 ∨ m.log2 = 52 := by
      rcases hk with h | h
      · exact .inl h
      · right
        have : 52 ≤ m.log2 := (Nat.le_log2 h0).2 h
        omega
    have hlast : max (-1074 + (k : Int) - (j : Int) + ((m.log2 + j : Nat) : Int) - (52 : Nat)) (-1074) = -1074 + (k : Int) := by
      rcases hlog2 with h | h <;> omega
    rw [hf, hlast]
    have e1 : (-1074 + (k : Int) - (j : Int) - (-1074 + (k : Int))).toNat = 0 := by omega
    have e2 : (-1074 + (k : Int) - (-1074 + (k : Int) - (j : Int))).toNat = j := by omega
    have e3 : (-1074 + (k : Int) - -1074).toNat = k := by omega
    rw [e1, e2, e3, Nat.shiftLeft_zero, cut_exact neg m j h0]
/-- What a word that is no NaN stands for. -/
inductive Rd (x : Nat) : Datum → Prop where
  | num (m k : Nat) (hm : m < 2 ^ 53) (hk : k = 0 ∨ 2 ^ 52 ≤ m) (he : double.word (x / 9223372036854775808 % 2 == 1) (min (if m = 0 then 0 else k * 4503599627370496 + m) 9218868437227405312) = x % 18446744073709551616) : Rd x (.number (x / 9223372036854775808 % 2 == 1) m (-1074 + (k : Int)))
  | inf (he : double.word (x / 9223372036854775808 % 2 == 1) 9218868437227405312 = x % 18446744073709551616) : Rd x (.infinity (x / 9223372036854775808 % 2 == 1))
theorem word_back (x r : Nat) (hr : x % 9223372036854775808 = r) : double.word (x / 9223372036854775808 % 2 == 1) r = x % 18446744073709551616 := by
  unfold Format.word
  rw [e_sw]
  by_cases h : x / 9223372036854775808 % 2 = 1
  · simp only [h, beq_self_eq_true, if_true]; omega
  · have : (x / 9223372036854775808 % 2 == 1) = false := by simpa using h
    rw [this]; simp only [Bool.false_eq_true, if_false]; omega
theorem read_rd (x : Nat) (hn : (double.read x).isNaN = false) : Rd x (double.read x) := by
  unfold Format.read at hn ⊢
  simp only [e_sw, e_bin, e_inf, e_least] at hn ⊢
  by_cases h1 : x % 9223372036854775808 < 4503599627370496
  · rw [if_pos h1]
    have := Rd.num (x := x) (x % 9223372036854775808) 0 (by omega) (.inl rfl) (word_back x _ (by split <;> omega))
    simpa using this
  · rw [if_neg h1] at hn ⊢
    by_cases h2 : x % 9223372036854775808 < 9218868437227405312
    · rw [if_pos h2]
      refine Rd.num (x := x) _ (x % 9223372036854775808 / 4503599627370496 - 1) (by omega) (.inr (by omega)) (word_back x _ ?_)
      rw [if_neg (by omega)]; omega
    · rw [if_neg h2] at hn ⊢
      by_cases h3 : x % 9223372036854775808 = 9218868437227405312
      · rw [if_pos h3]
        exact Rd.inf (word_back x _ h3)
      · rw [if_neg h3] at hn
        simp [Datum.isNaN] at hn
theorem read_mod (x : Nat) : double.read (x % 18446744073709551616) = double.read x := by
  unfold Format.read
  simp only [e_sw]
  have h1 : x % 18446744073709551616 / 9223372036854775808 % 2 = x / 9223372036854775808 % 2 := by omega
  have h2 : x % 18446744073709551616 % 9223372036854775808 = x % 9223372036854775808 := by omega
  rw [h1, h2]
theorem read_one : double.read 4607182418800017408 = .number false (2 ^ 52) (-52) := by decide
theorem read_zero : double.read 0 = .number false 0 (-1074) := by decide
theorem mul_one_r (x : Nat) (hn : (double.read x).isNaN = false) : double.mul x 4607182418800017408 = some (x % 18446744073709551616) := by
  unfold Format.mul
  rw [read_one]
  have hc := read_rd x hn
  generalize double.read x = d at hc
  cases hc with
  | num m k hm hk he =>
    simp only [Datum.product, Option.map_some, Format.write, Bool.xor_false]
    rw [near1 _ m 52 k hm hk _ (by omega), he]
  | inf he =>
    simp only [Datum.product, Option.map_some, Format.write, Bool.xor_false, e_inf]
    rw [if_neg (by decide)]
    simp only [Option.map_some, Format.write, Bool.xor_false, e_inf]
    rw [he]
theorem product_comm (a b : Datum) : a.product b = b.product a := by
  cases a <;> cases b <;> simp [Datum.product, Bool.xor_comm, Nat.mul_comm, Int.add_comm]
theorem sum_comm (a b : Datum) : a.sum b = b.sum a := by
  cases a with
  | nan => cases b <;> rfl
  | infinity s =>
    cases b with
    | nan => rfl
    | infinity t => simp only [Datum.sum]; by_cases h : s = t <;> simp [h, eq_comm]
    | number => rfl
  | number s m i =>
    cases b with
    | nan => rfl
    | infinity t => rfl
    | number t n j =>
      simp only [Datum.sum]
      rw [Int.min_comm i j, Int.add_comm, Bool.and_comm]
theorem mul_comm' (x y : Nat) : double.mul x y = double.mul y x := by unfold Format.mul; rw [product_comm]
theorem add_comm' (x y : Nat) : double.add x y = double.add y x := by unfold Format.add; rw [sum_comm]
/-- A finite double. -/
def fin (x : Nat) : Prop := ∃ m k : Nat, m < 2 ^ 53 ∧ (k = 0 ∨ 2 ^ 52 ≤ m) ∧ double.read x = .number (x / 9223372036854775808 % 2 == 1) m (-1074 + (k : Int)) ∧ double.word (x / 9223372036854775808 % 2 == 1) (min (if m = 0 then 0 else k * 4503599627370496 + m) 9218868437227405312) = x % 18446744073709551616
theorem read_szero (s : Bool) : double.read (double.word s 0) = .number s 0 (-1074) := by cases s <;> decide
theorem order_zero (s : Bool) (j : Int) (t : Bool) (i : Int) : (Datum.number s 0 i).order (.number t 0 j) = some .eq := by
  have hz : ∀ (s : Bool) (n : Nat), signed s 0 n = 0 := by
    intro s n
    unfold signed
    cases s <;> simp
  simp only [Datum.order, hz]
  rfl
theorem mul_zero_r (x : Nat) (hf : fin x) : ∃ s, double.mul x 0 = some (double.word s 0) := by
  obtain ⟨m, k, hm, hk, hr, _⟩ := hf
  unfold Format.mul
  rw [read_zero, hr]
  simp only [Datum.product, Option.map_some, Format.write, Nat.mul_zero]
  refine ⟨_, rfl⟩
theorem signed_abs (s : Bool) (m k : Nat) : (signed s m k).natAbs = m * 2 ^ k := by
  unfold signed
  rw [Nat.shiftLeft_eq]
  generalize m * 2 ^ k = n
  cases s <;> simp
theorem signed_lt (s : Bool) (m k : Nat) (h : m ≠ 0) : signed s m k ≠ 0 ∧ (decide (signed s m k < 0) = s) := by
  have hp : 0 < m * 2 ^ k := Nat.mul_pos (Nat.pos_of_ne_zero h) (Nat.two_pow_pos k)
  unfold signed
  rw [Nat.shiftLeft_eq]
  generalize m * 2 ^ k = n at *
  cases s
  · simp only [Bool.false_eq_true, if_false]; refine ⟨by omega, decide_eq_false (by omega)⟩
  · simp only [if_true]; refine ⟨by omega, decide_eq_true (by omega)⟩
/-- 'x + 0' is x by value. -/
theorem add_zero_r (x : Nat) (hn : (double.read x).isNaN = false) : ∃ z, double.add x 0 = some z ∧ (double.read z).order (double.read x) = some .eq := by
  unfold Format.add
  rw [read_zero]
  have hself : (double.read (x % 18446744073709551616)).order (double.read x) = some .eq := by
    rw [read_mod]
    cases hd : double.read x with
    | number s m i => simp only [Datum.order]; congr 1; simp [compare, compareOfLessAndEq]
    | infinity s => cases s <;> rfl
    | nan => rw [hd] at hn; simp [Datum.isNaN] at hn
  generalize hd : double.read x = d at *
  have hc := read_rd x (by rw [hd]; exact hn)
  rw [hd] at hc
  cases hc with
  | num m k hm hk he =>
    have hb : min (-1074 + (k : Int)) (-1074) = -1074 := by omega
    simp only [Datum.sum, hb, Option.map_some, Format.write]
    have e1 : (-1074 + (k : Int) - -1074).toNat = k := by omega
    have e2 : signed false 0 (-1074 - -1074 : Int).toNat = 0 := by decide
    rw [e1, e2, Int.add_zero, signed_abs]
    by_cases h0 : m = 0
    · subst h0
      refine ⟨_, rfl, ?_⟩
      have e3 : signed (x / 9223372036854775808 % 2 == 1) 0 k = 0 := by unfold signed; split <;> simp
      rw [e3, if_pos rfl, Bool.and_false, Nat.zero_mul]
      exact order_zero ..
    · obtain ⟨h1, h2⟩ := signed_lt (x / 9223372036854775808 % 2 == 1) m k h0
      rw [if_neg h1, h2, near1 _ m k k hm hk _ (by omega), he]
      exact ⟨_, rfl, hself⟩
  | inf he =>
    simp only [Datum.sum, Option.map_some, Format.write, e_inf]
    rw [he]
    exact ⟨_, rfl, hself⟩
/-- 'x - x' is a number where x is a finite number, and none else. -/
theorem sub_self_fin (x z : Nat) (h : double.sub x x = some z) : fin x := by
  have hn : (double.read x).isNaN = false := by
    cases hd : double.read x with
    | number => rfl
    | infinity => rfl
    | nan => unfold Format.sub at h; rw [hd] at h; simp [Datum.opposite, Datum.sum] at h
  cases hc : double.read x with
  | number s m i =>
    have hr := read_rd x hn
    rw [hc] at hr
    cases hr with
    | num m k hm hk he => exact ⟨m, k, hm, hk, hc, he⟩
  | infinity s => unfold Format.sub at h; rw [hc] at h; cases s <;> simp [Datum.opposite, Datum.sum] at h
  | nan => rw [hc] at hn; simp [Datum.isNaN] at hn
end Go.Proofs.Ytofiabjphjpglaa.FA
namespace Go.Proofs.Ytofiabjphjpglaa.Fl
open Go Ieee
open Go.RowKit Go.Proofs.YtofiabjphjpglaaW.PrintWords Go.Proofs.YtofiabjphjpglaaW.PrintLast Go.Proofs.YtofiabjphjpglaaW.PrintMore
set_option linter.unusedVariables false
set_option linter.unusedSimpArgs false
/-! #### doubles alike, and what the laws of sound ask of the arithmetic -/
def Like (a b : Nat) : Prop := isN a = isN b ∧ (isN a = false → double.read a = double.read b)
theorem Like.of_cv {a b : Nat} (h : cv a = cv b) : Like a b := by
  unfold cv at h
  unfold Like
  by_cases ha : isN a = true <;> by_cases hb : isN b = true <;> simp_all
theorem opF_mul_comm (x y : Fl) : opF .mul x y = opF .mul y x := by
  cases x <;> cases y <;> simp [opF]
  exact FA.mul_comm' _ _
theorem opF_add_comm (x y : Fl) : opF .add x y = opF .add y x := by
  cases x <;> cases y <;> simp [opF]
  exact FA.add_comm' _ _
theorem isN_mod (b : Nat) : isN (b % 18446744073709551616) = isN b := by unfold isN; rw [FA.read_mod]
theorem cv_one : cv 4607182418800017408 = some 4607182418800017408 := by unfold cv isN; rw [FA.read_one]; rfl
theorem cv_zero : cv 0 = some 0 := by unfold cv isN; rw [FA.read_zero]; rfl
/-- x * 1 is like x. -/
theorem like_mul_one {b c : Nat} (h : cv c = opF .mul (cv b) one) : Like c b := by
  unfold one at h
  rw [cv_one] at h
  by_cases hb : isN b = true
  · have : cv b = none := by unfold cv; rw [if_pos hb]
    rw [this] at h
    have hc : isN c = true := cv_none h
    exact ⟨by rw [hb, hc], fun h0 => by rw [hc] at h0; cases h0⟩
  · have hb' : isN b = false := by simpa using hb
    have : cv b = some b := by unfold cv; rw [hb']; rfl
    rw [this] at h
    have h1 : cv c = some (b % 18446744073709551616) := h.trans (FA.mul_one_r b hb')
    obtain ⟨rfl, hn⟩ := cv_some h1
    exact ⟨isN_mod b, fun _ => FA.read_mod b⟩
theorem ord_like {a b : Nat} (h : Like a b) (hn : isN a = false) : FloatKind.f64.format.order a b = some .eq := by
  show double.order a b = _
  have h1 : double.order a b = (double.read a).order (double.read b) := rfl
  rw [h1, ← h.2 hn]
  exact order_self _ hn
theorem quo_one (a : Nat) (hn : isN a = false) : ∃ z, opB .quo 4607182418800017408 a = some z := by
  have h : opB .quo 4607182418800017408 a = double.div 4607182418800017408 a := rfl
  rw [h]
  unfold Format.div
  rw [FA.read_one]
  unfold isN at hn
  cases hd : double.read a with
  | number s m i => simp [Datum.quotient]; split <;> exact ⟨_, _, rfl, rfl⟩
  | infinity s => exact ⟨_, rfl⟩
  | nan s t => rw [hd] at hn; simp [Datum.isNaN] at hn
theorem quo_like {a b : Nat} (h : Like a b) (hn : isN a = false) (w1 w2 : World) : FloatKind.f64.format.order (bits .quo w1 4607182418800017408 a) (bits .quo w2 4607182418800017408 b) = some .eq := by
  obtain ⟨z, hz⟩ := quo_one a hn
  have hz2 : opB .quo 4607182418800017408 b = some z := by
    rw [← hz]
    show double.div _ b = double.div _ a
    unfold Format.div
    rw [h.2 hn]
  have e1 : bits .quo w1 4607182418800017408 a = z := by unfold bits; rw [hz]
  have e2 : bits .quo w2 4607182418800017408 b = z := by unfold bits; rw [hz2]
  rw [e1, e2]
  exact order_self _ (opB_nn hz)
theorem half_other : opF .sub one (cv 4602678819172646912) = cv 4602678819172646912 := by decide +kernel
theorem one_other : opF .sub one (cv 4607182418800017408) = some 0 := by decide +kernel
/-- x * 0 is 0, or x is no whole number's worth: x - x is a NaN. -/
theorem zero_or {b c : Nat} (h : cv c = opF .mul (cv b) (some 0)) : FloatKind.f64.format.order c 0 = some .eq ∨ (FloatKind.f64.format.order c 0 ≠ some .eq ∧ opF .sub (cv b) (cv b) = none) := by
  by_cases hz : opF .sub (cv b) (cv b) = none
  · by_cases ho : FloatKind.f64.format.order c 0 = some .eq
    · exact .inl ho
    · exact .inr ⟨ho, hz⟩
  · left
    cases hb : cv b with
    | none => rw [hb] at hz; exact absurd rfl hz
    | some b' =>
      rw [hb] at hz h
      obtain ⟨z, hz'⟩ := Option.ne_none_iff_exists'.1 hz
      obtain ⟨s, hs⟩ := FA.mul_zero_r b' (FA.sub_self_fin b' z hz')
      have h1 : cv c = some (double.word s 0) := h.trans hs
      obtain ⟨rfl, hn⟩ := cv_some h1
      show double.order _ _ = _
      have h2 : double.order (double.word s 0) 0 = (double.read (double.word s 0)).order (double.read 0) := rfl
      rw [h2, FA.read_szero, FA.read_zero]
      exact FA.order_zero _ _ _ _
theorem ord_none {a b : Nat} (h : cv a = none) : FloatKind.f64.format.order a b = none := by
  rw [order_cv, h]; rfl
end Go.Proofs.Ytofiabjphjpglaa.Fl
