/-
  Floats: what an operation gives where the language fixes it, and what a double is worth (its bits, or none at a NaN); rows of doubles.
  Conditions: none beyond what each theorem names.
-/
import Derived.Test.YtmmonaiokageeaaWWords
import Derived.Test.YtmmonaiokageeaaWLast
import Derived.Test.YtmmonaiokageeaaWMore
import Derived.Test.YtmmonaiokageeaaWFour
import Derived.Test.YtmmonaiokageeaaWZeros
import Derived.Laws.FloatArith
import Derived.Deep.Draws
namespace Go.Proofs.Ytmmonaiokageeaa.Fl
open Go Ieee
open Go.RowKit Go.Proofs.YtmmonaiokageeaaW.PrintWords Go.Proofs.YtmmonaiokageeaaW.PrintLast Go.Proofs.YtmmonaiokageeaaW.PrintMore
set_option linter.unusedVariables false
set_option linter.unusedSimpArgs false
/-- The value of a double: its bits, or none at a NaN. -/
abbrev Fl := Option Nat
def isN (b : Nat) : Bool := (Ieee.double.read b).isNaN
def cv (b : Nat) : Fl := if isN b then none else some b
def opB (op : BinOp) (x y : Nat) : Option Nat := floatBits op .f64 x y
/-- What an operation gives: the bits, where the language fixes them; else a NaN from the tape. -/
def bits (op : BinOp) (w : World) (x y : Nat) : Nat := match opB op x y with | some r => r | none => Question.cut (.nanBits .f64 x y) (w.tape w.drawn (.nanBits .f64 x y))
def cost (op : BinOp) (x y : Nat) : Nat := match opB op x y with | some _ => 0 | none => 1
def opF (op : BinOp) (x y : Fl) : Fl := x.bind fun a => y.bind fun b => opB op a b
section
variable {P : Program} (w : World) (t : TypeId) (x y : Nat)
theorem run_op (op : BinOp) (hop : op = .add ∨ op = .sub ∨ op = .mul ∨ op = .quo) : (binOp op t (.float .f64 x) (.float .f64 y)).run P w = .ok (.float .f64 (bits op w x y)) (w.drewN (cost op x y)) := by
  cases h : opB op x y with
  | some r =>
    have := run_float_arith (P := P) w op t .f64 x y r h
    rw [this]
    simp only [bits, cost, h]
    rfl
  | none =>
    simp only [bits, cost, h]
    unfold opB floatBits at h
    rcases hop with rfl | rfl | rfl | rfl <;> simp only at h <;> simp [binOp, Op.floatArith, h, choose, Sem.run, World.drewN] <;> (intro hf; simp [Question.forced] at hf)
@[go_sem] theorem run_add : (binOp .add t (.float .f64 x) (.float .f64 y)).run P w = .ok (.float .f64 (bits .add w x y)) (w.drewN (cost .add x y)) := run_op w t x y .add (by simp)
@[go_sem] theorem run_sub : (binOp .sub t (.float .f64 x) (.float .f64 y)).run P w = .ok (.float .f64 (bits .sub w x y)) (w.drewN (cost .sub x y)) := run_op w t x y .sub (by simp)
@[go_sem] theorem run_mul : (binOp .mul t (.float .f64 x) (.float .f64 y)).run P w = .ok (.float .f64 (bits .mul w x y)) (w.drewN (cost .mul x y)) := run_op w t x y .mul (by simp)
@[go_sem] theorem run_quo : (binOp .quo t (.float .f64 x) (.float .f64 y)).run P w = .ok (.float .f64 (bits .quo w x y)) (w.drewN (cost .quo x y)) := run_op w t x y .quo (by simp)
end
theorem word_read_nn (neg : Bool) (rung : Nat) (h : rung ≤ double.infRung) : (double.read (double.word neg rung)).isNaN = false := by
  have h1 : double.infRung < double.signWeight := double.infRung_lt
  have e : (double.word neg rung) % double.signWeight = rung := by
    unfold Format.word
    cases neg
    · simp only [Bool.false_eq_true, if_false]; exact Nat.mod_eq_of_lt (by omega)
    · simp only [if_true, Nat.add_mod_left]; exact Nat.mod_eq_of_lt (by omega)
  unfold Format.read
  simp only [e]
  split
  · rfl
  · split
    · rfl
    · split
      · rfl
      · omega
theorem nearest_nn (neg : Bool) (mag : Nat) (place : Int) : (double.read (double.nearest neg mag place)).isNaN = false := by
  unfold Format.nearest
  dsimp only
  split
  · exact word_read_nn _ _ (Nat.zero_le _)
  · exact word_read_nn _ _ (Nat.min_le_right ..)
theorem write_nn (d : Datum) (h : d.isNaN = false) : isN (double.write d) = false := by
  cases d with
  | number neg mag place => exact nearest_nn neg mag place
  | infinity neg => exact word_read_nn _ _ (Nat.le_refl _)
  | nan neg fraction => simp [Datum.isNaN] at h
theorem sum_nn {a b d : Datum} (h : a.sum b = some d) : d.isNaN = false := by
  unfold Datum.sum at h
  split at h <;> first | (cases h; done) | (split at h <;> first | (cases h; done) | (cases h; rfl)) | (cases h; rfl)
theorem product_nn {a b d : Datum} (h : a.product b = some d) : d.isNaN = false := by
  unfold Datum.product at h
  split at h <;> first | (cases h; done) | (split at h <;> first | (cases h; done) | (cases h; rfl)) | (cases h; rfl)
theorem quotient_nn {n : Nat} {a b d : Datum} (h : a.quotient n b = some d) : d.isNaN = false := by
  unfold Datum.quotient at h
  split at h <;> first | (cases h; done) | (cases h; rfl) | (split at h; (split at h <;> first | (cases h; done) | (cases h; rfl)); (cases h; rfl))
theorem opB_nn {op : BinOp} {x y r : Nat} (h : opB op x y = some r) : isN r = false := by
  unfold opB floatBits at h
  have key : ∀ {o : Option Datum}, (∀ d, o = some d → d.isNaN = false) → ∀ {r}, o.map double.write = some r → isN r = false := by
    intro o ho r hr
    cases o with
    | none => cases hr
    | some d => cases hr; exact write_nn d (ho d rfl)
  cases op <;> simp only at h <;> first | (cases h; done) | skip
  · exact key (fun d hd => sum_nn hd) h
  · exact key (fun d hd => sum_nn hd) h
  · exact key (fun d hd => product_nn hd) h
  · exact key (fun d hd => quotient_nn hd) h
theorem opB_nan {op : BinOp} {x y : Nat} (h : isN x = true ∨ isN y = true) : opB op x y = none := by
  have hx : ∀ z, isN z = true → ∃ s t, double.read z = .nan s t := by
    intro z hz
    unfold isN at hz
    cases e : double.read z <;> rw [e] at hz <;> first | (exact ⟨_, _, rfl⟩) | (exact absurd hz (by simp [Datum.isNaN]))
  have e0 : (FloatKind.f64).format = double := rfl
  unfold opB floatBits
  rcases h with h | h <;> obtain ⟨s, t, e⟩ := hx _ h <;> cases op <;> simp only [e0, Format.add, Format.sub, Format.mul, Format.div, e, Datum.opposite] <;> first | rfl | (cases (double.read x) <;> rfl) 
theorem nan_cut (x y t : Nat) : isN (Question.cut (.nanBits .f64 x y) t) = true := by
  have hm : t / 2 % (2 ^ 52 - 1) < 2 ^ 52 - 1 := Nat.mod_lt _ (by decide)
  have h2 : t % 2 < 2 := Nat.mod_lt _ (by decide)
  have e : Question.cut (.nanBits .f64 x y) t = (t % 2) * 2 ^ 63 + 0x7ff0000000000000 + 1 + (t / 2) % (2 ^ 52 - 1) := rfl
  generalize t / 2 % (2 ^ 52 - 1) = m at *
  generalize t % 2 = s at *
  rw [e]
  unfold isN Format.read
  have e1 : double.signWeight = 2 ^ 63 := rfl
  have e2 : double.binade = 2 ^ 52 := rfl
  have e3 : double.infRung = 0x7ff0000000000000 := by decide
  simp only [e1, e2, e3]
  have e4 : (s * 2 ^ 63 + 0x7ff0000000000000 + 1 + m) % 2 ^ 63 = 0x7ff0000000000000 + 1 + m := by omega
  rw [e4, if_neg (by omega), if_neg (by omega), if_neg (by omega)]
  rfl
theorem cv_bits (op : BinOp) (w : World) (x y : Nat) : cv (bits op w x y) = opF op (cv x) (cv y) := by
  unfold bits
  cases h : opB op x y with
  | some r =>
    have hx : isN x = false := by cases e : isN x; rfl; rw [opB_nan (.inl e)] at h; cases h
    have hy : isN y = false := by cases e : isN y; rfl; rw [opB_nan (.inr e)] at h; cases h
    simp [cv, hx, hy, opB_nn h, opF, h]
  | none =>
    simp only [cv, nan_cut, if_true]
    by_cases hx : isN x = true
    · simp [hx, opF]
    · by_cases hy : isN y = true
      · simp [hx, hy, opF]
      · simp [hx, hy, opF, h]

/-! #### order -/
def ordF (x y : Fl) : Option Ordering := x.bind fun a => y.bind fun b => double.order a b
theorem order_nan {x y : Nat} (h : isN x = true ∨ isN y = true) : double.order x y = none := by
  have hx : ∀ z, isN z = true → ∃ s t, double.read z = .nan s t := by
    intro z hz
    unfold isN at hz
    cases e : double.read z <;> rw [e] at hz <;> first | (exact ⟨_, _, rfl⟩) | (exact absurd hz (by simp [Datum.isNaN]))
  unfold Format.order
  rcases h with h | h <;> obtain ⟨s, t, e⟩ := hx _ h <;> rw [e]
  · rfl
  · cases (double.read x) <;> rfl
theorem order_cv (x y : Nat) : FloatKind.f64.format.order x y = ordF (cv x) (cv y) := by
  show double.order x y = _
  by_cases hx : isN x = true
  · rw [order_nan (.inl hx)]; simp [cv, hx, ordF]
  · by_cases hy : isN y = true
    · rw [order_nan (.inr hy)]; simp [cv, hx, hy, ordF]
    · simp [cv, hx, hy, ordF]
theorem compare_self_int (n : Int) : compare n n = Ordering.eq := by simp [compare, compareOfLessAndEq]
theorem order_self (d : Datum) (h : d.isNaN = false) : d.order d = some .eq := by
  cases d with
  | number s m i => simp only [Datum.order]; rw [compare_self_int]
  | infinity s => cases s <;> rfl
  | nan s t => simp [Datum.isNaN] at h
theorem ordF_self {b : Nat} (h : isN b = false) : ordF (some b) (some b) = some .eq := order_self _ h
theorem cv_some {b r : Nat} (h : cv b = some r) : b = r ∧ isN b = false := by
  unfold cv at h
  split at h
  · cases h
  · rename_i hn
    cases h
    exact ⟨rfl, Bool.eq_false_iff.2 hn⟩
theorem cv_none {b : Nat} (h : cv b = none) : isN b = true := by
  unfold cv at h
  split at h
  · rename_i hn; exact hn
  · cases h
theorem ordF_cv_self (b : Nat) : ordF (cv b) (cv b) = if cv b = none then none else some .eq := by
  cases h : cv b with
  | none => rfl
  | some r =>
    obtain ⟨rfl, hn⟩ := cv_some h
    exact ordF_self hn
def ofI (n : Int) : Fl := cv (floatOfInt .f64 n)
theorem ofI_nn (n : Int) : isN (floatOfInt .f64 n) = false := write_nn (.number (n < 0) n.natAbs 0) rfl
theorem ofI_eq (n : Int) : ofI n = some (floatOfInt .f64 n) := by unfold ofI cv; rw [ofI_nn]; rfl
/-! #### the kind -/
def Kf : Kd Fl where
  sz := 1
  E := []
  K := fun _ x cs => ∃ b, cs = [.float .f64 b] ∧ cv b = x
  M := fun _ _ _ x cs => ∃ b, cs = [.float .f64 b] ∧ cv b = x
  K_len := by
    rintro w x cs ⟨b, rfl, _⟩
    rfl
  K_one := by
    rintro w x cs ⟨b, rfl, _⟩ u hu
    rw [List.mem_singleton.1 hu]
    rfl
  K_below := fun _ h => h
  K_of_M := fun h => h
  M_mono := fun _ h => h
  M_bound := fun h => h
  M_move := fun _ h => h
  M_lower := fun _ h => h
def Kb : Kd Nat := Kd.scalar (Value.float .f64) (fun _ => rfl)
def rf (xs : List Fl) (i : Int) : Fl := xs.getD i.toNat none
theorem at_f {w : World} {A : Option Addr} {n : Nat} {xs : List Fl} (h : Kf.C w A n xs) (i : Int) (h0 : 0 ≤ i) (h1 : i < n) : ∃ ad b, A = some ad ∧ w.cell? (ad.add i.toNat) = some (.float .f64 b) ∧ cv b = rf xs i := by
  obtain ⟨ad, c, e, hs, ⟨b, rfl, hb⟩, hc⟩ := Kd.C_get h none i h0 h1
  have := hc 0 _ rfl
  simp only [Kf, Nat.mul_one, Nat.add_zero] at this
  exact ⟨ad, b, e, this, hb⟩
def bitsOf : Value → Nat
  | .float _ b => b
  | _ => 0
/-- A row of doubles by their bits. -/
theorem R_bits {e : Nat} {w : World} {base : Nat} {ok : Nat → Prop} {v : Value} {xs : List Fl} (h : Kf.R e w base ok v xs) : ∃ ys, Kb.R e w base ok v ys ∧ ys.map cv = xs := by
  obtain ⟨h0, inner, ho, hl, hr⟩ := h
  have hl' : inner.length = xs.length := by rw [hl]; exact Nat.mul_one _
  have hcell : ∀ (j : Nat) (p : Fl), xs[j]? = some p → ∃ b, inner[j]? = some (Value.float .f64 b) ∧ cv b = p := by
    intro j p hj
    obtain ⟨b, hb, hc⟩ := hr j p hj
    refine ⟨b, ?_, hc⟩
    have h1 := congrArg (fun l => l[0]?) hb
    simpa [Kf, List.getElem?_take] using h1
  refine ⟨inner.map bitsOf, ⟨h0, inner, ?_, ?_, ?_⟩, ?_⟩
  · rw [List.length_map, hl']; exact ho
  · rw [List.length_map]; exact (Nat.mul_one _).symm
  · intro j p hj
    show ((inner.drop (j * 1)).take 1) = [Value.float .f64 p]
    rw [List.getElem?_map] at hj
    obtain ⟨u, hu, rfl⟩ := Option.map_eq_some_iff.1 hj
    have hlt : j < xs.length := by rw [← hl']; exact (List.getElem?_eq_some_iff.1 hu).1
    obtain ⟨b, hb, _⟩ := hcell j _ (List.getElem?_eq_getElem hlt)
    have : u = .float .f64 b := Option.some.inj (hu.symm.trans hb)
    subst this
    obtain ⟨hj2, he⟩ := List.getElem?_eq_some_iff.1 hu
    rw [Nat.mul_one, List.drop_eq_getElem_cons hj2, he]
    rfl
  · refine List.ext_getElem? fun j => ?_
    rw [List.getElem?_map, List.getElem?_map]
    cases hx : xs[j]? with
    | none =>
      have : inner[j]? = none := List.getElem?_eq_none (by rw [hl']; exact List.getElem?_eq_none_iff.1 hx)
      rw [this]; rfl
    | some p =>
      obtain ⟨b, hb, hc⟩ := hcell j p hx
      rw [hb]
      exact congrArg some hc
theorem R_of_bits {e : Nat} {w : World} {base : Nat} {ok : Nat → Prop} {v : Value} {ys : List Nat} (h : Kb.R e w base ok v ys) : Kf.R e w base ok v (ys.map cv) := by
  obtain ⟨h0, inner, ho, hl, hr⟩ := h
  refine ⟨h0, inner, by rw [List.length_map]; exact ho, by rw [List.length_map]; exact hl, ?_⟩
  intro j p hj
  rw [List.getElem?_map] at hj
  obtain ⟨b, hb, rfl⟩ := Option.map_eq_some_iff.1 hj
  exact ⟨b, hr j b hb, rfl⟩
/-- A store into a row of doubles. -/
theorem R_putf {e base g n cap : Nat} {ok : Nat → Prop} {W : World} {xs : List Fl} (h : Kf.R e W base ok (.slice (some ⟨g, 0, none⟩) n cap) xs) (i : Int) (b : Nat) :
    Kf.R e (W.setCell ⟨g, i.toNat, none⟩ (.float .f64 b)) base ok (.slice (some ⟨g, 0, none⟩) n cap) (xs.set i.toNat (cv b)) ∧ W.grownBy (W.setCell ⟨g, i.toNat, none⟩ (.float .f64 b)) (some g) := by
  obtain ⟨ys, hy, rfl⟩ := R_bits h
  obtain ⟨h1, h2⟩ := Kd.R_putg (enc := Value.float .f64) (h1 := fun _ => rfl) hy i b
  refine ⟨?_, h2⟩
  rw [← List.map_set]
  exact R_of_bits h1
theorem R_cellf {e base g n cap : Nat} {ok : Nat → Prop} {W : World} {xs : List Fl} (h : Kf.R e W base ok (.slice (some ⟨g, 0, none⟩) n cap) xs) (i : Int) (h0 : 0 ≤ i) (hi : i < n) :
    ∃ b, W.cell? ⟨g, i.toNat, none⟩ = some (.float .f64 b) ∧ cv b = rf xs i ∧ W.frozen? ⟨g, i.toNat, none⟩ = false := by
  obtain ⟨ys, hy, rfl⟩ := R_bits h
  obtain ⟨h1, h2⟩ := Kd.R_celln (enc := Value.float .f64) (h1 := fun _ => rfl) 0 hy i h0 hi
  refine ⟨_, h1, ?_, h2⟩
  have hl : n = ys.length := (Kd.R_reads' hy).1
  have hlt : i.toNat < ys.length := by omega
  simp [rf, rdOf, List.getD_eq_getElem?_getD, List.getElem?_map, List.getElem?_eq_getElem hlt]
end Go.Proofs.Ytmmonaiokageeaa.Fl
