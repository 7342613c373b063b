/-
  The sound functions as plain functions on lists of doubles' worths.
  Conditions: none beyond what each theorem names.
-/
import Derived.Test.YtofiabjphjpglaaFloatBase
namespace Go.Proofs.Ytofiabjphjpglaa.Fl
open Go Ieee
open Go.RowKit Go.Proofs.YtofiabjphjpglaaW.PrintWords Go.Proofs.YtofiabjphjpglaaW.PrintLast Go.Proofs.YtofiabjphjpglaaW.PrintMore
set_option linter.unusedVariables false
set_option linter.unusedSimpArgs false
abbrev fadd (x y : Fl) : Fl := opF .add x y
abbrev fsub (x y : Fl) : Fl := opF .sub x y
abbrev fmul (x y : Fl) : Fl := opF .mul x y
abbrev fquo (x y : Fl) : Fl := opF .quo x y
/-- The double 1. -/
def one : Fl := cv 4607182418800017408
/-- The double 0. -/
def zero : Fl := cv 0
/-! #### Pan -/
def panG (xs : List Fl) (a : Fl) (i : Nat) : List Fl := (List.range i).flatMap fun (j : Nat) => [fmul (rf xs j) (fsub one a), fmul (rf xs j) a]
def panF (xs : List Fl) (a : Fl) : List Fl := if xs.length ≤ 2048 then panG xs a xs.length else []
theorem panG_succ (xs : List Fl) (a : Fl) (i : Nat) : panG xs a (i + 1) = panG xs a i ++ [fmul (rf xs i) (fsub one a), fmul (rf xs i) a] := by
  simp [panG, List.range_succ]
theorem panG_len (xs : List Fl) (a : Fl) (i : Nat) : (panG xs a i).length = 2 * i := by
  induction i with
  | zero => rfl
  | succ i ih => rw [panG_succ, List.length_append, ih]; simp; omega
/-! #### Mix -/
def mixE (xs ys : List Fl) (ga gb : Fl) (i : Nat) : Fl :=
  if ys.length ≤ i then fmul (rf xs i) ga else if xs.length ≤ i then fmul (rf ys i) gb else fadd (fmul (rf xs i) ga) (fmul (rf ys i) gb)
def mixG (xs ys : List Fl) (ga gb : Fl) (i : Nat) : List Fl := (List.range i).map (mixE xs ys ga gb)
def mixF (xs ys : List Fl) (ga gb : Fl) : List Fl := if xs.length ≤ 4096 ∧ ys.length ≤ 4096 then mixG xs ys ga gb (max xs.length ys.length) else []
theorem mixG_succ (xs ys : List Fl) (ga gb : Fl) (i : Nat) : mixG xs ys ga gb (i + 1) = mixG xs ys ga gb i ++ [mixE xs ys ga gb i] := by simp [mixG, List.range_succ]
theorem mixG_len (xs ys : List Fl) (ga gb : Fl) (i : Nat) : (mixG xs ys ga gb i).length = i := by simp [mixG]
/-! #### Convolve -/
def convS (xs hs : List Fl) (n : Nat) : Nat → Fl
  | 0 => zero
  | k + 1 => if k ≤ n ∧ n - k < xs.length then fadd (convS xs hs n k) (fmul (rf hs k) (rf xs ((n - k : Nat) : Int))) else convS xs hs n k
def convG (xs hs : List Fl) (i : Nat) : List Fl := (List.range i).map fun n => convS xs hs n hs.length
def convF (xs hs : List Fl) : List Fl := if xs.length = 0 ∨ hs.length = 0 ∨ 4096 < xs.length + hs.length - 1 then [] else convG xs hs (xs.length + hs.length - 1)
theorem convG_succ (xs hs : List Fl) (i : Nat) : convG xs hs (i + 1) = convG xs hs i ++ [convS xs hs i hs.length] := by simp [convG, List.range_succ]
theorem convG_len (xs hs : List Fl) (i : Nat) : (convG xs hs i).length = i := by simp [convG]
theorem convS_low (xs hs : List Fl) (n k : Nat) (h : k + xs.length ≤ n + 1) : convS xs hs n k = zero := by
  induction k with
  | zero => rfl
  | succ k ih => rw [convS, if_neg (by omega), ih (by omega)]
theorem convS_high (xs hs : List Fl) (n k m : Nat) (h : n < k) (hm : k ≤ m) : convS xs hs n m = convS xs hs n k := by
  induction m with
  | zero => rw [show k = 0 by omega]
  | succ m ih =>
    rcases Nat.lt_or_ge k (m + 1) with h1 | h1
    · rw [convS, if_neg (by omega), ih (by omega)]
    · rw [show m + 1 = k by omega]
/-! #### Squares -/
def sqS (xs : List Fl) : Nat → Fl
  | 0 => zero
  | k + 1 => fadd (sqS xs k) (fmul (rf xs k) (rf xs k))
def sqG (xs : List Fl) (n : Nat) (i : Nat) : List Fl := (List.range i).map fun j => fquo (sqS (xs.drop (j * n)) n) (ofI n)
def sqF (xs : List Fl) (n : Int) : List Fl := if xs.length ≤ 4096 ∧ 1 ≤ n ∧ n ≤ 4096 then sqG xs n.toNat (xs.length / n.toNat) else []
theorem sqG_succ (xs : List Fl) (n i : Nat) : sqG xs n (i + 1) = sqG xs n i ++ [fquo (sqS (xs.drop (i * n)) n) (ofI n)] := by simp [sqG, List.range_succ]
theorem sqG_len (xs : List Fl) (n i : Nat) : (sqG xs n i).length = i := by simp [sqG]
/-! #### above, mean, Loud -/
def gtF (x y : Fl) : Bool := ordF x y == some .gt
def aboveG (xs : List Fl) (low : Fl) (i : Nat) : List Fl := (xs.take i).filter fun x => gtF x low
def aboveF (xs : List Fl) (low : Fl) : List Fl := xs.filter fun x => gtF x low
def sumG (xs : List Fl) : Nat → Fl
  | 0 => zero
  | k + 1 => fadd (sumG xs k) (rf xs k)
def meanF (xs : List Fl) : Fl := fquo (sumG xs xs.length) (ofI xs.length)
def loudF (xs : List Fl) (low share : Fl) : Fl :=
  if xs.length ≤ 4096 then (if (aboveF xs low).length = 0 then zero else if (aboveF (aboveF xs low) (fmul share (meanF (aboveF xs low)))).length = 0 then zero else meanF (aboveF (aboveF xs low) (fmul share (meanF (aboveF xs low))))) else zero
theorem take_rf (xs : List Fl) (i : Nat) (h : i < xs.length) : xs.take (i + 1) = xs.take i ++ [rf xs i] := by
  rw [List.take_add_one]
  simp [rf, List.getD_eq_getElem?_getD, List.getElem?_eq_getElem h]
theorem aboveG_succ (xs : List Fl) (low : Fl) (i : Nat) (h : i < xs.length) : aboveG xs low (i + 1) = aboveG xs low i ++ (if gtF (rf xs i) low = true then [rf xs i] else []) := by
  unfold aboveG
  rw [take_rf xs i h, List.filter_append]
  congr 1
  by_cases hg : gtF (rf xs i) low = true
  · simp [hg]
  · simp [hg]
theorem aboveG_all (xs : List Fl) (low : Fl) : aboveG xs low xs.length = aboveF xs low := by unfold aboveG aboveF; rw [List.take_length]
theorem aboveG_len (xs : List Fl) (low : Fl) (i : Nat) : (aboveG xs low i).length ≤ i := by
  unfold aboveG
  have h1 := List.length_filter_le (fun x => gtF x low) (xs.take i)
  have h2 : (xs.take i).length ≤ i := by rw [List.length_take]; omega
  omega
theorem aboveF_len (xs : List Fl) (low : Fl) : (aboveF xs low).length ≤ xs.length := List.length_filter_le _ _
/-! #### Fader -/
def faderE (xs : List Fl) (f t : Int) (i : Nat) : Fl := if (i : Int) < f then zero else if t ≤ (i : Int) then rf xs i else fmul (rf xs i) (fquo (ofI ((i : Int) - f)) (ofI (t - f)))
def faderG (xs : List Fl) (f t : Int) (i : Nat) : List Fl := (List.range i).map (faderE xs f t)
def faderF (xs : List Fl) (f t : Int) : List Fl := if xs.length ≤ 4096 ∧ 0 ≤ f ∧ f < t ∧ t ≤ xs.length then faderG xs f t xs.length else []
theorem faderG_succ (xs : List Fl) (f t : Int) (i : Nat) : faderG xs f t (i + 1) = faderG xs f t i ++ [faderE xs f t i] := by simp [faderG, List.range_succ]
theorem faderG_len (xs : List Fl) (f t : Int) (i : Nat) : (faderG xs f t i).length = i := by simp [faderG]
/-! #### the laws' own: copies, marks -/
def markG (k : Int) (n : Nat) : List Fl := (List.range n).map fun i => ofI (k + (i : Nat))
theorem markG_succ (k : Int) (n : Nat) : markG k (n + 1) = markG k n ++ [ofI (k + (n : Nat))] := by simp [markG, List.range_succ]
theorem markG_len (k : Int) (n : Nat) : (markG k n).length = n := by simp [markG]
/-- A row filled from the front. -/
theorem fill_set {α : Type} (a b : List α) (x y : α) (i : Nat) (ha : a.length = i) : (a ++ y :: b).set i x = (a ++ [x]) ++ b := by
  subst ha
  simp [List.set_append]
end Go.Proofs.Ytofiabjphjpglaa.Fl
