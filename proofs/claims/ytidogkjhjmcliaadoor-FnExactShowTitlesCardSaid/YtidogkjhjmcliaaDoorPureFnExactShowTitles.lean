/-
  The plain statement of FnExactShowTitles: the program's titles and the reference's are one text, title by title.
  Conditions: the statement's own.
-/
import Derived.Test.YtidogkjhjmcliaaDoorHFnExactShowTitlesx0
import Derived.Test.YtidogkjhjmcliaaDoorHFnExactShowTitlesx1
import Derived.Test.YtidogkjhjmcliaaDoorHFnExactShowTitlesx2
import Derived.Test.YtidogkjhjmcliaaDoorHFnExactShowTitlesx3
import Derived.Test.YtidogkjhjmcliaaDoorHFnExactShowTitlesx4
import Derived.Test.YtidogkjhjmcliaaDoorHFnExactShowTitlesx5
import Derived.Test.YtidogkjhjmcliaaDoorHFnExactShowTitlesx6
import Derived.Test.YtidogkjhjmcliaaDoorHFnExactShowTitlesx7
import Derived.Test.YtidogkjhjmcliaaDoorPureBase
import Derived.Laws.BitsLemmas
import Derived.Test.YtidogkjhjmcliaaDoorTMath
namespace Go.Proofs.YtidogkjhjmcliaaDoor.Pure
open Go.RowKit Go.Proofs.YtidogkjhjmcliaaDoor.HFnExactShowTitles Go.Proofs.YtidogkjhjmcliaaDoorW.PrintWords Go.Proofs.YtidogkjhjmcliaaDoorW.PrintLast Go.Proofs.YtidogkjhjmcliaaDoorW.PrintMore Go.Proofs.YtidogkjhjmcliaaDoor.PB Go.Lib Go.Proofs.YtidogkjhjmcliaaDoor.TM
set_option linter.unusedVariables false
set_option linter.unusedSimpArgs false
/-! #### byte strings and their lists -/

def bL (s : ByteArray) : List UInt8 := s.data.toList
def mkB (l : List UInt8) : ByteArray := ⟨l.toArray⟩
theorem bL_mkB (l : List UInt8) : bL (mkB l) = l := rfl
theorem mkB_bL (s : ByteArray) : mkB (bL s) = s := rfl
theorem str_inj {a b : ByteArray} (h : bL a = bL b) : a = b := ByteArray.ext (Array.toList_inj.mp h)
theorem toList_bL (s : ByteArray) : s.toList = bL s := by rw [ByteArray.toList_eq]; rfl
theorem bL_size (s : ByteArray) : s.size = (bL s).length := size_eq s
theorem mkB_size (l : List UInt8) : (mkB l).size = l.length := by rw [bL_size, bL_mkB]
theorem mkB_append (a b : List UInt8) : mkB a ++ mkB b = mkB (a ++ b) := str_inj (by
  show (mkB a ++ mkB b).data.toList = a ++ b
  rw [ByteArray.data_append, Array.toList_append]
  rfl)
theorem bL_append (a b : ByteArray) : bL (a ++ b) = bL a ++ bL b := by
  show (a ++ b).data.toList = _
  rw [ByteArray.data_append, Array.toList_append]
  rfl
theorem bt_bL (s : ByteArray) (i : Nat) (h : i < (bL s).length) : bt s (i : Int) = (((bL s).getD i 0).toNat : Int) := by
  have h' : (i : Int).toNat < s.size := by rw [bL_size]; simpa using h
  rw [← bt_at s (i : Int) h', List.getD_eq_getElem?_getD, List.getElem?_eq_getElem h]
  rfl
theorem bt_mkB (l : List UInt8) (i : Nat) (h : i < l.length) : bt (mkB l) (i : Int) = ((l.getD i 0).toNat : Int) := bt_bL (mkB l) i h
theorem extract_bL (s : ByteArray) (a b : Nat) : bL (s.extract a b) = ((bL s).drop a).take (b - a) := extract_data s a b
theorem extract_mkB (l : List UInt8) (a b : Nat) : (mkB l).extract a b = mkB ((l.drop a).take (b - a)) := str_inj (by rw [extract_bL]; rfl)
theorem mkB_inj {a b : List UInt8} (h : mkB a = mkB b) : a = b := by rw [← bL_mkB a, h, bL_mkB]
theorem mkB_toList (l : List UInt8) : (mkB l).toList = l := by rw [toList_bL, bL_mkB]
/-! #### a number in digits -/
theorem digit_byte (n : Nat) : strOfNums [(wrap64 (48 + (Int.tmod (n : Int) 10))) % 256] = mkB [UInt8.ofNat (48 + n % 10)] := by
  have e : Int.tmod (n : Int) 10 = ((n % 10 : Nat) : Int) := by rw [Int.tmod_eq_emod_of_nonneg (by omega)]; omega
  rw [e, w64 (by omega) (by omega)]
  have e2 : (((48 : Int) + ((n % 10 : Nat) : Int)) % 256).toNat = 48 + n % 10 := by omega
  unfold strOfNums mkB
  simp only [List.map_cons, List.map_nil, e2]
theorem tdiv_nat (n m : Nat) : Int.tdiv (n : Int) (m : Int) = ((n / m : Nat) : Int) := by
  rw [Int.tdiv_eq_ediv_of_nonneg (by omega)]
  rfl
theorem tmod_nat (n m : Nat) : Int.tmod (n : Int) (m : Int) = ((n % m : Nat) : Int) := by
  rw [Int.tmod_eq_emod_of_nonneg (by omega)]
  rfl
theorem w64n {n : Nat} (h : n < 9223372036854775808) : wrap64 (n : Int) = (n : Int) := w64 (by omega) (by omega)
theorem l1Int_l0 : ∀ (d n : Nat) (l : List UInt8), n < 10 ^ d → n < 4611686018427387904 → l.length + d ≤ 1000 → l ≠ [] → Ev (fun k => spec_l1Int.l0 k (n : Int) (mkB l)) (mkB (if n = 0 then l else decDigits n ++ l)) := by
  intro d
  induction d with
  | zero =>
    intro n l h1 h2 h3 h4
    have hn : n = 0 := by simpa using h1
    subst hn
    refine ev_succ ?_
    have h5 : ¬ ((0 : Int) > 0) := by omega
    simp only [spec_l1Int.l0, mkB_toList, h4, if_false, Int.natCast_zero, h5, if_true]
    exact ev_ret rfl
  | succ d ih =>
    intro n l h1 h2 h3 h4
    refine ev_succ ?_
    simp only [spec_l1Int.l0, mkB_toList, h4, if_false, digit_byte, Option.bind_some]
    by_cases hn : n = 0
    · subst hn
      have h5 : ¬ (((0 : Nat) : Int) > 0) := by omega
      simp only [h5, if_false, if_true]
      exact ev_ret rfl
    · have h5 : ((n : Nat) : Int) > 0 := by omega
      have hd : n / 10 < 10 ^ d := by
        have : 10 ^ (d + 1) = 10 ^ d * 10 := Nat.pow_succ _ _
        omega
      have hw : wrap64 (Int.tdiv (n : Int) 10) = ((n / 10 : Nat) : Int) := by rw [show (10 : Int) = ((10 : Nat) : Int) from rfl, tdiv_nat, w64n (by omega)]
      have hz : (mkB [UInt8.ofNat (48 + n % 10)]).size + (mkB l).size ≤ 9223372036854775807 := by
        rw [mkB_size, mkB_size]
        simp only [List.length_singleton]
        omega
      simp only [h5, if_true, hw, mkB_append, hz]
      refine ev_eq (ih (n / 10) ([UInt8.ofNat (48 + n % 10)] ++ l) hd (by omega) (by simp; omega) (by simp)) ?_
      congr 1
      rw [if_neg hn]
      by_cases h6 : n < 10
      · have : n / 10 = 0 := by omega
        rw [if_pos this, decDigits_one h6]
        have : n % 10 = n := by omega
        rw [this]
      · rw [if_neg (by omega)]
        conv => rhs; rw [decDigits, dif_neg h6]
        simp
theorem l1Int_ev (n : Nat) (h : n < 1000000000000000000) : Ev (fun k => spec_l1Int.f k (n : Int)) (mkB (decDigits n)) := by
  refine ev_succ ?_
  have h1 : ¬ ((n : Int) < 0) := by omega
  simp only [spec_l1Int.f, h1, if_false]
  refine ev_succ ?_
  have he : (⟨#[]⟩ : ByteArray).toList = [] := mkB_toList []
  have hw : wrap64 (Int.tdiv (n : Int) 10) = ((n / 10 : Nat) : Int) := by rw [show (10 : Int) = ((10 : Nat) : Int) from rfl, tdiv_nat, w64n (by omega)]
  have hz : (mkB [UInt8.ofNat (48 + n % 10)]).size + (⟨#[]⟩ : ByteArray).size ≤ 9223372036854775807 := by
    rw [mkB_size]
    have : (⟨#[]⟩ : ByteArray).size = 0 := rfl
    rw [this]
    simp
  simp only [spec_l1Int.l0, he, if_true, digit_byte, Option.bind_some, hz, hw]
  have e : mkB [UInt8.ofNat (48 + n % 10)] ++ (⟨#[]⟩ : ByteArray) = mkB [UInt8.ofNat (48 + n % 10)] := mkB_append _ []
  rw [e]
  refine ev_eq (l1Int_l0 18 (n / 10) [UInt8.ofNat (48 + n % 10)] (by omega) (by omega) (by simp) (by simp)) ?_
  congr 1
  by_cases h6 : n < 10
  · have h7 : n / 10 = 0 := by omega
    have h8 : n % 10 = n := by omega
    rw [if_pos h7, decDigits_one h6, h8]
  · rw [if_neg (by omega)]
    conv => rhs; rw [decDigits, dif_neg h6]
theorem l1Wide_l0 : ∀ (d w : Nat) (l : List UInt8), w - l.length = d → w ≤ 100 → Ev (fun k => spec_l1Wide.l0 k (w : Int) (mkB l)) (mkB (List.replicate (w - l.length) 48 ++ l)) := by
  intro d
  induction d with
  | zero =>
    intro w l hd hw
    refine ev_succ ?_
    have h1 : ¬ (((mkB l).size : Int) < (w : Int)) := by rw [mkB_size]; omega
    simp only [spec_l1Wide.l0, h1, if_false]
    rw [hd]
    exact ev_ret rfl
  | succ d ih =>
    intro w l hd hw
    refine ev_succ ?_
    have h1 : ((mkB l).size : Int) < (w : Int) := by rw [mkB_size]; omega
    have h2 : 1 + (mkB l).size ≤ 9223372036854775807 := by rw [mkB_size]; omega
    have e : (⟨#[48]⟩ : ByteArray) ++ mkB l = mkB (48 :: l) := mkB_append [48] l
    simp only [spec_l1Wide.l0, h1, h2, if_true, e]
    refine ev_eq (ih w (48 :: l) (by simp; omega) hw) ?_
    congr 1
    have : w - l.length = (w - (48 :: l).length) + 1 := by simp; omega
    rw [this, List.replicate_succ']
    simp
theorem l1Wide_ev (n w : Nat) (h : n < 1000000000000000000) (hw : w ≤ 100) : Ev (fun k => spec_l1Wide.f k (n : Int) (w : Int)) (mkB (pad w n)) := by
  unfold spec_l1Wide.f
  exact ev_bind (l1Int_ev n h) (l1Wide_l0 _ w (decDigits n) rfl hw)
theorem itoa_nat (n : Nat) : itoa (n : Int) = decDigits n := by
  unfold itoa
  rw [if_neg (by omega)]
  rfl
theorem repeat_one (c : UInt8) : ∀ n, repeatL [c] n = List.replicate n c
  | 0 => rfl
  | n + 1 => by rw [repeatL, repeat_one c n, List.replicate_succ]; rfl
theorem padded_some (n w : Nat) (h : n < 1000000000000000000) (hw : w ≤ 100) : impl_padded.f (n : Int) (w : Int) = some (mkB (pad w n)) := by
  have hl : (decDigits n).length ≤ 18 := digits_small (by decide) (by omega)
  have h1 : strconv_FormatInt_56.f (n : Int) 10 = some (mkB (decDigits n)) := by
    unfold strconv_FormatInt_56.f
    rw [if_pos ⟨rfl, by omega, by omega⟩, itoa_nat]
    rfl
  have hm : mx (wrap64 ((w : Int) - ((mkB (decDigits n)).size : Int))) 0 = ((w - (decDigits n).length : Nat) : Int) := by
    rw [mkB_size, w64 (by omega) (by omega)]
    unfold mx
    split <;> omega
  have h2 : strings_Repeat.f (⟨#[48]⟩ : ByteArray) ((w - (decDigits n).length : Nat) : Int) = some (mkB (List.replicate (w - (decDigits n).length) 48)) := by
    unfold strings_Repeat.f
    have hs : (⟨#[48]⟩ : ByteArray).size = 1 := rfl
    rw [if_pos ⟨by omega, by omega, by rw [hs]; omega⟩]
    have : (⟨#[48]⟩ : ByteArray).data.toList = [48] := rfl
    rw [this, repeat_one]
    rfl
  unfold impl_padded.f
  rw [h1, Option.bind_some, hm, h2, Option.bind_some, if_pos (by rw [mkB_size, mkB_size]; simp only [List.length_replicate]; omega), mkB_append]
  rfl
theorem pad_len (w u : Nat) (h : u < 1000000000000000000) (hw : w ≤ 100) : (pad w u).length ≤ 118 := by
  have hl : (decDigits u).length ≤ 18 := digits_small (by decide) (by omega)
  rw [pad_length_eq]
  omega
theorem ap_one (l : List UInt8) (c : UInt8) : mkB l ++ (⟨#[c]⟩ : ByteArray) = mkB (l ++ [c]) := mkB_append l [c]
theorem one_le (a b : List UInt8) (ha : a.length ≤ 2000) (hb : b.length ≤ 2000) : (mkB a).size + (mkB b).size ≤ 9223372036854775807 := by rw [mkB_size, mkB_size]; omega
theorem one_le1 (a : List UInt8) (ha : a.length ≤ 2000) : (mkB a).size + 1 ≤ 9223372036854775807 := by rw [mkB_size]; omega
theorem time_shape (a b c d : List UInt8) : ((((((a ++ [58]) ++ b) ++ [58]) ++ c) ++ [44]) ++ d) = a ++ (58 :: (b ++ (58 :: (c ++ (44 :: d))))) := by simp
theorem l12Time_ev (m : Nat) (h : m < 1000000000000000000) : Ev (fun k => spec_l12Time.f k (m : Int)) (mkB (timeL m)) := by
  have e1 : wrap64 (Int.tdiv (m : Int) 3600000) = ((m / 3600000 : Nat) : Int) := by rw [show (3600000 : Int) = ((3600000 : Nat) : Int) from rfl, tdiv_nat, w64n (by omega)]
  have e2 : Int.tmod (wrap64 (Int.tdiv (m : Int) 60000)) 60 = ((m / 60000 % 60 : Nat) : Int) := by rw [show (60000 : Int) = ((60000 : Nat) : Int) from rfl, tdiv_nat, w64n (by omega), show (60 : Int) = ((60 : Nat) : Int) from rfl, tmod_nat]
  have e3 : Int.tmod (wrap64 (Int.tdiv (m : Int) 1000)) 60 = ((m / 1000 % 60 : Nat) : Int) := by rw [show (1000 : Int) = ((1000 : Nat) : Int) from rfl, tdiv_nat, w64n (by omega), show (60 : Int) = ((60 : Nat) : Int) from rfl, tmod_nat]
  have e4 : Int.tmod (m : Int) 1000 = ((m % 1000 : Nat) : Int) := by rw [show (1000 : Int) = ((1000 : Nat) : Int) from rfl, tmod_nat]
  have l1 := pad_len 2 (m / 3600000) (by omega) (by omega)
  have l2 := pad_len 2 (m / 60000 % 60) (by omega) (by omega)
  have l3 := pad_len 2 (m / 1000 % 60) (by omega) (by omega)
  have l4 := pad_len 3 (m % 1000) (by omega) (by omega)
  unfold spec_l12Time.f
  rw [e1, e2, e3, e4]
  refine ev_bind (l1Wide_ev (m / 3600000) 2 (by omega) (by omega)) (ev_pos (one_le1 _ (by omega)) ?_)
  refine ev_bind (l1Wide_ev (m / 60000 % 60) 2 (by omega) (by omega)) ?_
  simp only [ap_one, mkB_append]
  refine ev_pos (one_le _ _ (by simp; omega) (by omega)) (ev_pos (one_le1 _ (by simp; omega)) ?_)
  refine ev_bind (l1Wide_ev (m / 1000 % 60) 2 (by omega) (by omega)) ?_
  simp only [ap_one, mkB_append]
  refine ev_pos (one_le _ _ (by simp; omega) (by omega)) (ev_pos (one_le1 _ (by simp; omega)) ?_)
  refine ev_bind (l1Wide_ev (m % 1000) 3 (by omega) (by omega)) ?_
  simp only [ap_one, mkB_append]
  refine ev_pos (one_le _ _ (by simp; omega) (by omega)) ?_
  rw [time_shape]
  exact ev_ret rfl
theorem milliText_some (m : Nat) (h : m < 1000000000000000000) : impl_milliText.f (m : Int) = some (mkB (timeL m)) := by
  have e0 : wrap64 (Int.tdiv (m : Int) 1000) = ((m / 1000 : Nat) : Int) := by rw [show (1000 : Int) = ((1000 : Nat) : Int) from rfl, tdiv_nat, w64n (by omega)]
  have e1 : wrap64 (Int.tdiv ((m / 1000 : Nat) : Int) 3600) = ((m / 3600000 : Nat) : Int) := by rw [show (3600 : Int) = ((3600 : Nat) : Int) from rfl, tdiv_nat, w64n (by omega), Nat.div_div_eq_div_mul]
  have e2 : Int.tmod (wrap64 (Int.tdiv ((m / 1000 : Nat) : Int) 60)) 60 = ((m / 60000 % 60 : Nat) : Int) := by rw [show (60 : Int) = ((60 : Nat) : Int) from rfl, tdiv_nat, w64n (by omega), tmod_nat, Nat.div_div_eq_div_mul]
  have e3 : Int.tmod ((m / 1000 : Nat) : Int) 60 = ((m / 1000 % 60 : Nat) : Int) := by rw [show (60 : Int) = ((60 : Nat) : Int) from rfl, tmod_nat]
  have e4 : Int.tmod (m : Int) 1000 = ((m % 1000 : Nat) : Int) := by rw [show (1000 : Int) = ((1000 : Nat) : Int) from rfl, tmod_nat]
  have l1 := pad_len 2 (m / 3600000) (by omega) (by omega)
  have l2 := pad_len 2 (m / 60000 % 60) (by omega) (by omega)
  have l3 := pad_len 2 (m / 1000 % 60) (by omega) (by omega)
  have l4 := pad_len 3 (m % 1000) (by omega) (by omega)
  have p1 := padded_some (m / 3600000) 2 (by omega) (by omega)
  have p2 := padded_some (m / 60000 % 60) 2 (by omega) (by omega)
  have p3 := padded_some (m / 1000 % 60) 2 (by omega) (by omega)
  have p4 := padded_some (m % 1000) 3 (by omega) (by omega)
  unfold impl_milliText.f
  rw [e0, e1, e2, e3, e4]
  rw [show (2 : Int) = ((2 : Nat) : Int) from rfl, show (3 : Int) = ((3 : Nat) : Int) from rfl, p1, Option.bind_some, if_pos (one_le1 _ (by omega)), p2, Option.bind_some]
  simp only [ap_one, mkB_append]
  rw [if_pos (one_le _ _ (by simp; omega) (by omega)), if_pos (one_le1 _ (by simp; omega)), p3, Option.bind_some]
  simp only [ap_one, mkB_append]
  rw [if_pos (one_le _ _ (by simp; omega) (by omega)), if_pos (one_le1 _ (by simp; omega)), p4, Option.bind_some]
  simp only [ap_one, mkB_append]
  rw [if_pos (one_le _ _ (by simp; omega) (by omega)), time_shape]
  rfl
theorem beq_dec (a b : List UInt8) : (a == b) = decide (a = b) := by
  by_cases h : a = b <;> simp [h]


/-! #### texts -/
theorem byte_eq {c : UInt8} {n : Nat} (hn : n < 256) : ((c.toNat : Int) = (n : Int)) ↔ c = UInt8.ofNat n := by
  constructor
  · intro h
    have h1 : c.toNat = n := by omega
    apply UInt8.toNat_inj.1
    rw [h1, UInt8.toNat_ofNat']
    omega
  · intro h
    subst h
    rw [UInt8.toNat_ofNat']
    omega
theorem byte_ten {c : UInt8} : ((c.toNat : Int) = 10) ↔ c = 10 := byte_eq (n := 10) (by decide)
theorem byte_del {c : UInt8} : ((c.toNat : Int) = 127) ↔ c = 127 := byte_eq (n := 127) (by decide)
theorem byte_low {c : UInt8} : ((c.toNat : Int) < 32) ↔ c < 32 := by
  rw [UInt8.lt_iff_toNat_lt]
  have : (32 : UInt8).toNat = 32 := rfl
  omega
theorem text_l0 (l : List UInt8) (hl : l.length < 4611686018427387904) (h0 : l.head? ≠ some 10) : ∀ (d i : Nat), i + d = l.length → Ev (fun k => spec_l12Text.l0 k (mkB l) (l.length : Int) (i : Int)) (scan (if i = 0 then 0 else l.getD (i - 1) 0) (l.drop i)) := by
  intro d
  induction d with
  | zero =>
    intro i hi
    refine ev_succ ?_
    have h1 : ¬ ((i : Int) < (l.length : Int)) := by omega
    simp only [spec_l12Text.l0, h1, if_false]
    rw [drop_end (by omega)]
    exact ev_ret rfl
  | succ d ih =>
    intro i hi
    refine ev_succ ?_
    have h1 : (i : Int) < (l.length : Int) := by omega
    have h2 : (0 : Int) ≤ (i : Int) := by omega
    have h3 : (i : Int) < ((mkB l).size : Int) := by rw [mkB_size]; omega
    have hb := bt_mkB l i (by omega)
    have hn := ih (i + 1) (by omega)
    rw [if_neg (by omega), Nat.add_sub_cancel] at hn
    rw [drop_getD 0 l i (by omega), scan]
    simp only [spec_l12Text.l0, h1, h2, h3, if_true, hb, w64s (n := i) (by omega)]
    generalize hcc : l.getD i 0 = c at hb hn ⊢
    have hg : good c = true ↔ c = 10 ∨ (¬ (c < 32) ∧ ¬ (c = 127)) := by unfold good; simp
    by_cases hc : c = 10
    · subst hc
      have hi0 : i ≠ 0 := by
        rintro rfl
        cases l with
        | nil => simp at hi
        | cons z l => exact h0 (by rw [← hcc]; rfl)
      obtain ⟨j, rfl⟩ : ∃ j, i = j + 1 := ⟨i - 1, by omega⟩
      have hw : wrap64 (((j + 1 : Nat) : Int) - 1) = (j : Int) := by rw [w64 (by omega) (by omega)]; omega
      have hb2 := bt_mkB l j (by omega)
      have h4 : (0 : Int) ≤ (j : Int) := by omega
      have h5 : (j : Int) < ((mkB l).size : Int) := by rw [mkB_size]; omega
      refine ev_pos (byte_ten.2 rfl) ?_
      simp only [hw, hb2, h4, h5, if_true, Nat.succ_ne_zero, if_false, Nat.add_sub_cancel]
      refine ev_ite (fun e => ?_) (fun e => ?_)
      · rw [if_pos (by first | exact ⟨rfl, byte_ten.1 e⟩ | exact ⟨trivial, byte_ten.1 e⟩)]
        exact ev_ret rfl
      · rw [if_neg (fun h => e (byte_ten.2 h.2)), if_pos (by decide)]
        refine ev_neg (by decide) ?_
        exact hn
    · refine ev_neg (fun e => hc (byte_ten.1 e)) ?_
      rw [if_neg (fun h => hc h.1)]
      refine ev_ite (fun e => ?_) (fun e => ?_)
      · rw [if_neg (fun h => by rcases hg.1 h with h | h; exact hc h; exact h.1 (byte_low.1 e))]
        exact ev_ret rfl
      · refine ev_ite (fun e2 => ?_) (fun e2 => ?_)
        · rw [if_neg (fun h => by rcases hg.1 h with h | h; exact hc h; exact h.2 (byte_del.1 e2))]
          exact ev_ret rfl
        · rw [if_pos (hg.2 (Or.inr ⟨fun h => e (byte_low.2 h), fun h => e2 (byte_del.2 h)⟩))]
          exact hn
theorem head_getD {l : List UInt8} (h : 1 ≤ l.length) : (l.head? = some 10) ↔ l.getD 0 0 = 10 := by
  cases l with
  | nil => simp at h
  | cons z l => simp
theorem last_getD {l : List UInt8} (h : 1 ≤ l.length) : (l.getLast? = some 10) ↔ l.getD (l.length - 1) 0 = 10 := by
  rw [List.getLast?_eq_getElem?, List.getD_eq_getElem?_getD, List.getElem?_eq_getElem (by omega)]
  simp
theorem okText_scan {l : List UInt8} (h1 : 1 ≤ l.length) (h2 : l.length ≤ 200) (h3 : l.head? ≠ some 10) (h4 : l.getLast? ≠ some 10) : okText l = scan 0 l := by
  rw [scan_eq]
  unfold okText
  have e3 : (l.head? != some 10) = true := by simpa using h3
  have e4 : (l.getLast? != some 10) = true := by simpa using h4
  rw [decide_eq_true h1, decide_eq_true h2, e3, e4]
  simp
theorem okText_no {l : List UInt8} (h : ¬ (1 ≤ l.length ∧ l.length ≤ 200 ∧ l.head? ≠ some 10 ∧ l.getLast? ≠ some 10)) : okText l = false := by
  cases hk : okText l with
  | false => rfl
  | true =>
    obtain ⟨a, b, c, d, _⟩ := okText_parts hk
    exact absurd ⟨a, b, c, d⟩ h
theorem l12Text_ev (l : List UInt8) (hl : l.length < 4611686018427387904) : Ev (fun k => spec_l12Text.f k (mkB l)) (okText l) := by
  have hj : ∀ x, x = true → Ev (fun k => spec_l12Text.j0 k (mkB l) ((mkB l).size : Int) x) false := fun x hx => by
    subst hx
    refine ev_succ ?_
    simp only [spec_l12Text.j0, if_true]
    exact ev_ret rfl
  unfold spec_l12Text.f
  refine ev_ite (fun h => ?_) (fun h1 => ?_)
  · rw [mkB_size] at h
    rw [okText_no (fun e => by omega)]
    exact hj true rfl
  rw [mkB_size] at h1
  refine ev_ite (fun h => ?_) (fun h2 => ?_)
  · rw [mkB_size] at h
    rw [okText_no (fun e => by omega)]
    exact hj true rfl
  rw [mkB_size] at h2
  refine ev_pos (by rw [mkB_size]; omega) ?_
  have hb0 := bt_mkB l 0 (by omega)
  have hb1 := bt_mkB l (l.length - 1) (by omega)
  have hw : wrap64 (((mkB l).size : Int) - 1) = ((l.length - 1 : Nat) : Int) := by rw [mkB_size, w64 (by omega) (by omega)]; omega
  have hd0 := head_getD (l := l) (by omega)
  have hd1 := last_getD (l := l) (by omega)
  rw [show ((0 : Nat) : Int) = 0 from rfl] at hb0
  simp only [hw, hb0, hb1]
  refine ev_ite (fun h => ?_) (fun h3 => ?_)
  · rw [okText_no (fun e => e.2.2.1 (hd0.2 (byte_ten.1 h)))]
    exact hj true rfl
  refine ev_pos (by omega) (ev_pos (by rw [mkB_size]; omega) ?_)
  by_cases h4 : l.getLast? = some 10
  · rw [okText_no (fun e => e.2.2.2 h4)]
    refine hj _ ?_
    rw [beq_iff_eq]
    exact byte_ten.2 (hd1.1 h4)
  · have hf : ((((l.getD (l.length - 1) 0).toNat : Nat) : Int) == 10) = false := by
      rw [beq_eq_false_iff_ne]
      exact fun e => h4 (hd1.2 (byte_ten.1 e))
    have h3' : l.head? ≠ some 10 := fun e => h3 (byte_ten.2 (hd0.1 e))
    rw [hf, okText_scan (by omega) (by omega) h3' h4, mkB_size]
    refine ev_succ ?_
    simp only [spec_l12Text.j0, Bool.false_eq_true, if_false]
    exact text_l0 l hl h3' l.length 0 (by omega)
theorem good_l0 (l : List UInt8) (hl : l.length < 4611686018427387904) : ∀ (d i : Nat), i + d = l.length → Ev (fun k => impl_textOk.l0 k (mkB l) (l.length : Int) (i : Int)) ((l.drop i).all good) := by
  intro d
  induction d with
  | zero =>
    intro i hi
    refine ev_succ ?_
    have h1 : ¬ ((i : Int) < (l.length : Int)) := by omega
    simp only [impl_textOk.l0, h1, if_false]
    rw [drop_end (by omega)]
    exact ev_ret rfl
  | succ d ih =>
    intro i hi
    refine ev_succ ?_
    have h1 : (i : Int) < (l.length : Int) := by omega
    have h2 : (0 : Int) ≤ (i : Int) := by omega
    have h3 : (i : Int) < ((mkB l).size : Int) := by rw [mkB_size]; omega
    have hb := bt_mkB l i (by omega)
    have hn := ih (i + 1) (by omega)
    rw [drop_getD 0 l i (by omega), List.all_cons]
    simp only [impl_textOk.l0, h1, h2, h3, if_true, hb, w64s (n := i) (by omega)]
    generalize l.getD i 0 = c at hb ⊢
    have hg : good c = true ↔ c = 10 ∨ (¬ (c < 32) ∧ ¬ (c = 127)) := by unfold good; simp
    by_cases hc : c = 10
    · rw [hg.2 (Or.inl hc), Bool.true_and]
      exact ev_pos (byte_ten.2 hc) hn
    · refine ev_neg (fun e => hc (byte_ten.1 e)) ?_
      cases hgc : good c with
      | true =>
        rcases hg.1 hgc with h | h
        · exact absurd h hc
        · rw [Bool.true_and]
          exact ev_neg (fun e => h.1 (byte_low.1 e)) (ev_neg (fun e => h.2 (byte_del.1 e)) hn)
      | false =>
        rw [Bool.false_and]
        refine ev_ite (fun e => ev_ret rfl) (fun e => ?_)
        refine ev_ite (fun e2 => ev_ret rfl) (fun e2 => ?_)
        have := hg.2 (Or.inr ⟨fun h => e (byte_low.2 h), fun h => e2 (byte_del.2 h)⟩)
        rw [hgc] at this
        cases this
theorem hasPrefix_ten (l : List UInt8) : strings_HasPrefix.f (mkB l) (⟨#[10]⟩ : ByteArray) = some (decide (l.head? = some 10)) := by
  have h1 : (⟨#[10]⟩ : ByteArray).size = 1 := rfl
  have h2 : (⟨#[10]⟩ : ByteArray).toList = [10] := mkB_toList [10]
  unfold strings_HasPrefix.f stringslite_HasPrefix.f
  rw [h1, h2, mkB_size]
  cases l with
  | nil => rfl
  | cons z l =>
    have h3 : (((z :: l).length : Nat) : Int) ≥ ((1 : Nat) : Int) := by simp only [List.length_cons]; omega
    have h4 : (0 : Int) ≤ ((1 : Nat) : Int) := by omega
    rw [if_pos h3, if_pos h4, if_pos h3, Option.bind_some]
    have h5 : ((1 : Nat) : Int).toNat = 1 := rfl
    rw [h5, extract_mkB, mkB_toList]
    simp only [List.drop_zero, List.take_succ_cons, List.take_zero, List.head?_cons, Nat.sub_zero, beq_dec]
    congr 1
    by_cases hz : z = 10 <;> simp [hz]
theorem hasSuffix_ten (l : List UInt8) (hl : l.length < 4611686018427387904) : strings_HasSuffix.f (mkB l) (⟨#[10]⟩ : ByteArray) = some (decide (l.getLast? = some 10)) := by
  have h1 : (⟨#[10]⟩ : ByteArray).size = 1 := rfl
  have h2 : (⟨#[10]⟩ : ByteArray).toList = [10] := mkB_toList [10]
  unfold strings_HasSuffix.f stringslite_HasSuffix.f
  rw [h1, h2, mkB_size]
  by_cases h0 : l = []
  · subst h0
    rfl
  · have hp : 1 ≤ l.length := List.length_pos_iff.2 h0
    have hw : wrap64 ((l.length : Int) - ((1 : Nat) : Int)) = ((l.length - 1 : Nat) : Int) := by rw [w64 (by omega) (by omega)]; omega
    rw [hw, if_pos (by omega), if_pos (by omega), if_pos (by omega), Option.bind_some, Int.toNat_natCast, extract_mkB, mkB_toList]
    have hd : (l.drop (l.length - 1)).take (l.length - (l.length - 1)) = [l.getD (l.length - 1) 0] := by
      rw [drop_getD 0 l (l.length - 1) (by omega), show l.length - (l.length - 1) = 1 by omega]
      rfl
    rw [hd, beq_dec]
    congr 1
    have := last_getD (l := l) hp
    by_cases hz : l.getD (l.length - 1) 0 = 10
    · rw [decide_eq_true (this.2 hz), hz]; rfl
    · rw [decide_eq_false (fun e => hz (this.1 e))]
      simp only [List.cons.injEq, hz, false_and, decide_false]
theorem contains_two (l : List UInt8) (hl : l.length < 4294967281) : strings_Contains.f (mkB l) (⟨#[10, 10]⟩ : ByteArray) = some (cutG [10, 10] l).isSome := by
  unfold strings_Contains.f
  rw [if_pos (by rw [mkB_size]; exact hl), ← contains_cutG (by simp)]
  rfl
theorem textOk_ev (l : List UInt8) (hl : l.length < 4294967281) : Ev (fun k => impl_textOk.f k (mkB l)) (okText l) := by
  have hj : Ev (fun k => impl_textOk.j0 k (mkB l) true) false := by
    refine ev_succ ?_
    simp only [impl_textOk.j0, if_true]
    exact ev_ret rfl
  unfold impl_textOk.f impl_in.f
  rw [mkB_size, hasPrefix_ten, hasSuffix_ten l (by omega), contains_two l hl]
  simp only [Option.bind_some]
  by_cases h1 : (1 : Int) ≤ (l.length : Int)
  · simp only [h1, if_true, Option.bind_some]
    refine ev_ifb (fun h2 => ?_) (fun h2 => ?_)
    · have h2' : (l.length : Int) ≤ 200 := by simpa using h2
      refine ev_ifb (fun h3 => ?_) (fun h3 => ?_)
      · rw [okText_no (fun e => e.2.2.1 (by simpa using h3))]
        exact hj
      · refine ev_ifb (fun h4 => ?_) (fun h4 => ?_)
        · rw [okText_no (fun e => e.2.2.2 (by simpa using h4))]
          exact hj
        · have e3 : l.head? ≠ some 10 := by simpa using h3
          have e4 : l.getLast? ≠ some 10 := by simpa using h4
          rw [okText_scan (by omega) (by omega) e3 e4, scan_eq]
          have e0 : ((0 : UInt8) != 10) = true := by decide
          rw [e0, Bool.true_or, Bool.true_and]
          cases hc : cutG [10, 10] l with
          | some x => exact hj
          | none =>
            refine ev_succ ?_
            simp only [impl_textOk.j0, Option.isSome_none, Bool.false_eq_true, if_false, Option.isNone_none, Bool.true_and]
            rw [mkB_size]
            exact good_l0 l (by omega) l.length 0 (by omega)
    · have h2' : ¬ ((l.length : Int) ≤ 200) := by simpa using h2
      rw [okText_no (fun e => by omega)]
      exact hj
  · simp only [h1, if_false, Option.bind_some, Bool.false_eq_true]
    rw [okText_no (fun e => by omega)]
    exact hj


/-! #### titles as the program holds them -/
def sT (t : T3) : S40 := ⟨t.1, t.2.1, mkB t.2.2⟩
theorem last_f1 {out : List T3} (h : 0 < out.length) : lastTo out = some ((rd_T40 (out.map sT) ((out.length - 1 : Nat) : Int)).f1) := by
  unfold lastTo rd_T40
  rw [List.getLast?_eq_getElem?, Int.toNat_natCast, List.getD_eq_getElem?_getD, List.getElem?_map, List.getElem?_eq_getElem (by omega)]
  rfl
theorem itoa_some (n : Nat) (h : n ≤ 1000) : strconv_Itoa_26.f (wrap64 ((n : Int) + 1)) = some (mkB (decDigits (n + 1))) := by
  rw [w64s (by omega)]
  unfold strconv_Itoa_26.f
  rw [if_pos ⟨by omega, by omega⟩, itoa_nat]
  rfl


/-! #### titles shown -/
def tS (s : S40) : T3 := (s.f0, s.f1, bL s.f2)
theorem sT_tS (xs : List S40) : (xs.map tS).map sT = xs := by
  rw [List.map_map]
  exact List.map_id'' (fun s => rfl) xs
theorem rd_sT (ts : List T3) (i : Nat) (h : i < ts.length) : rd_T40 (ts.map sT) (i : Int) = sT ts[i] := by
  unfold rd_T40
  rw [Int.toNat_natCast, List.getD_eq_getElem?_getD, List.getElem?_map, List.getElem?_eq_getElem h]
  rfl
def prevOf (ts : List T3) (i : Nat) : Option Int := if i = 0 then none else (ts[i - 1]?).map fun t => t.2.1
theorem prevOf_succ (ts : List T3) (i : Nat) (h : i < ts.length) : prevOf ts (i + 1) = some (ts[i]).2.1 := by
  unfold prevOf
  rw [if_neg (by omega), Nat.add_sub_cancel, List.getElem?_eq_getElem h]
  rfl
theorem prevOf_rd (ts : List T3) (i : Nat) (h0 : i ≠ 0) (h : i < ts.length) : prevOf ts i = some ((rd_T40 (ts.map sT) ((i - 1 : Nat) : Int)).f1) := by
  unfold prevOf
  rw [if_neg h0, List.getElem?_eq_getElem (by omega), rd_sT ts (i - 1) (by omega)]
  rfl
theorem titleOk_no {p : Option Int} {t : T3} (h : ¬ (0 ≤ t.1 ∧ t.1 < t.2.1 ∧ t.2.1 ≤ 359999999 ∧ okText t.2.2 = true ∧ orderBad p t.1 = false)) : titleOk p t = false := by
  cases hk : titleOk p t with
  | false => rfl
  | true =>
    unfold titleOk at hk
    simp only [Bool.and_eq_true, decide_eq_true_eq, Bool.not_eq_true'] at hk
    exact absurd ⟨hk.1.1.1.1, hk.1.1.1.2, hk.1.1.2, hk.1.2, hk.2⟩ h
theorem titleOk_yes {p : Option Int} {t : T3} (h1 : 0 ≤ t.1) (h2 : t.1 < t.2.1) (h3 : t.2.1 ≤ 359999999) (h4 : okText t.2.2 = true) (h5 : orderBad p t.1 = false) : titleOk p t = true := by
  unfold titleOk
  simp only [Bool.and_eq_true, decide_eq_true_eq, Bool.not_eq_true']
  exact ⟨⟨⟨⟨h1, h2⟩, h3⟩, h4⟩, h5⟩
theorem titleOk_get {p : Option Int} {t : T3} (hk : titleOk p t = true) : 0 ≤ t.1 ∧ t.1 < t.2.1 ∧ t.2.1 ≤ 359999999 ∧ okText t.2.2 = true := by
  unfold titleOk at hk
  simp only [Bool.and_eq_true, decide_eq_true_eq, Bool.not_eq_true'] at hk
  exact ⟨hk.1.1.1.1, hk.1.1.1.2, hk.1.1.2, hk.1.2⟩
theorem spec_ok_l0 (ts : List T3) (hl : ts.length ≤ 1048576) (hx : ∀ t ∈ ts, t.2.2.length ≤ 1048576) : ∀ (d i : Nat), i + d = ts.length → Ev (fun k => spec_TitlesOk.l0 k (ts.map sT) (i : Int)) (okFrom (prevOf ts i) (ts.drop i)) := by
  intro d
  induction d with
  | zero =>
    intro i hi
    refine ev_succ ?_
    have h1 : ¬ ((i : Int) < (((ts.map sT).length : Nat) : Int)) := by rw [List.length_map]; omega
    simp only [spec_TitlesOk.l0, h1, if_false]
    rw [drop_end (by omega)]
    exact ev_ret rfl
  | succ d ih =>
    intro i hi
    refine ev_succ ?_
    have hlt : i < ts.length := by omega
    have h1 : (i : Int) < (((ts.map sT).length : Nat) : Int) := by rw [List.length_map]; omega
    have h2 : (0 : Int) ≤ (i : Int) := by omega
    have hn := ih (i + 1) (by omega)
    rw [prevOf_succ ts i hlt] at hn
    have hpr : i ≠ 0 → prevOf ts i = some ((rd_T40 (ts.map sT) ((i - 1 : Nat) : Int)).f1) := fun h0 => prevOf_rd ts i h0 hlt
    rw [List.drop_eq_getElem_cons hlt, okFrom]
    simp only [spec_TitlesOk.l0, h1, h2, if_true, rd_sT ts i hlt, w64s (n := i) (by omega)]
    have hm := hx _ (List.getElem_mem hlt)
    have hp0 : i = 0 → prevOf ts i = none := fun h => by unfold prevOf; rw [if_pos h]
    generalize ts[i] = t at hn hm ⊢
    have hno : titleOk (prevOf ts i) t = false → Ev (fun _ => some false) (titleOk (prevOf ts i) t && okFrom (some t.2.1) (ts.drop (i + 1))) := fun h => by
      rw [h, Bool.false_and]
      exact ev_ret rfl
    refine ev_ite (fun c => hno (titleOk_no fun h => ?_)) (fun c1 => ?_)
    · have : t.1 < 0 := c
      omega
    refine ev_ite (fun c => hno (titleOk_no fun h => ?_)) (fun c2 => ?_)
    · have : t.1 ≥ t.2.1 := c
      omega
    refine ev_ite (fun c => hno (titleOk_no fun h => ?_)) (fun c3 => ?_)
    · have : t.2.1 > 359999999 := c
      omega
    refine ev_bind (l12Text_ev t.2.2 (by omega)) (ev_ifb (fun c4 => ?_) (fun c4 => ?_))
    · refine ev_ite (fun c5 => ?_) (fun c5 => ?_)
      · have hw : wrap64 ((i : Int) - 1) = ((i - 1 : Nat) : Int) := by rw [w64 (by omega) (by omega)]; omega
        rw [hw]
        refine ev_pos (by omega) (ev_pos (by rw [List.length_map]; omega) ?_)
        have hp := hpr (by omega)
        refine ev_ite (fun c6 => ?_) (fun c6 => ?_)
        · refine hno (titleOk_no fun h => ?_)
          have := h.2.2.2.2
          rw [hp] at this
          simp only [orderBad, decide_eq_false_iff_not] at this
          exact this c6
        · rw [titleOk_yes (p := prevOf ts i) (by have : ¬ (t.1 < 0) := c1; omega) (by have : ¬ (t.1 ≥ t.2.1) := c2; omega) (by have : ¬ (t.2.1 > 359999999) := c3; omega) c4 (by rw [hp]; simp only [orderBad, decide_eq_false_iff_not]; exact c6), Bool.true_and]
          exact hn
      · rw [titleOk_yes (p := prevOf ts i) (by have : ¬ (t.1 < 0) := c1; omega) (by have : ¬ (t.1 ≥ t.2.1) := c2; omega) (by have : ¬ (t.2.1 > 359999999) := c3; omega) c4 (by rw [hp0 (by omega)]; rfl), Bool.true_and]
        exact hn
    · refine hno (titleOk_no fun h => ?_)
      rw [h.2.2.2.1] at c4
      cases c4
theorem spec_TitlesOk_ev (ts : List T3) (hl : ts.length ≤ 1048576) (hx : ∀ t ∈ ts, t.2.2.length ≤ 1048576) : Ev (fun k => spec_TitlesOk.f k (ts.map sT)) (okList ts) := by
  unfold spec_TitlesOk.f okList
  rw [List.length_map]
  refine ev_ite (fun h => ?_) (fun h => ?_)
  · rw [decide_eq_false (show ¬ (ts.length ≤ 200) by omega), Bool.false_and]
    exact ev_ret rfl
  · rw [decide_eq_true (show ts.length ≤ 200 by omega), Bool.true_and]
    exact spec_ok_l0 ts hl hx ts.length 0 (by omega)
theorem impl_ok_l0 (ts : List T3) (hl : ts.length ≤ 1048576) (hx : ∀ t ∈ ts, t.2.2.length ≤ 1048576) : ∀ (d i : Nat), i + d = ts.length → Ev (fun k => impl_TitlesOk.l0 k (ts.map sT) (ts.map sT) (ts.length : Int) (i : Int)) (okFrom (prevOf ts i) (ts.drop i) && decide (ts.length ≤ 200)) := by
  intro d
  induction d with
  | zero =>
    intro i hi
    refine ev_succ ?_
    have h1 : ¬ ((i : Int) < (ts.length : Int)) := by omega
    simp only [impl_TitlesOk.l0, h1, if_false]
    rw [drop_end (by omega), List.length_map]
    refine ev_ret ?_
    have : decide ((ts.length : Int) ≤ 200) = decide (ts.length ≤ 200) := by
      by_cases h : ts.length ≤ 200
      · rw [decide_eq_true h, decide_eq_true (by omega)]
      · rw [decide_eq_false h, decide_eq_false (by omega)]
    rw [this]
    rfl
  | succ d ih =>
    intro i hi
    refine ev_succ ?_
    have hlt : i < ts.length := by omega
    have h0 : (i : Int) < (ts.length : Int) := by omega
    have h1 : (i : Int) < (((ts.map sT).length : Nat) : Int) := by rw [List.length_map]; omega
    have h2 : (0 : Int) ≤ (i : Int) := by omega
    have hn := ih (i + 1) (by omega)
    rw [prevOf_succ ts i hlt] at hn
    have hpr : i ≠ 0 → prevOf ts i = some ((rd_T40 (ts.map sT) ((i - 1 : Nat) : Int)).f1) := fun h0 => prevOf_rd ts i h0 hlt
    rw [List.drop_eq_getElem_cons hlt, okFrom]
    simp only [impl_TitlesOk.l0, h0, h1, h2, if_true, rd_sT ts i hlt, w64s (n := i) (by omega)]
    have hm := hx _ (List.getElem_mem hlt)
    have hp0 : i = 0 → prevOf ts i = none := fun h => by unfold prevOf; rw [if_pos h]
    generalize ts[i] = t at hn hm ⊢
    have hno : titleOk (prevOf ts i) t = false → Ev (fun _ => some false) ((titleOk (prevOf ts i) t && okFrom (some t.2.1) (ts.drop (i + 1))) && decide (ts.length ≤ 200)) := fun h => by
      rw [h, Bool.false_and, Bool.false_and]
      exact ev_ret rfl
    have htm : impl_Title_timesOk.f (sT t).f0 (sT t).f1 (sT t).f2 = some (decide (0 ≤ t.1 ∧ t.1 < t.2.1 ∧ t.2.1 ≤ 359999999)) := by
      unfold impl_Title_timesOk.f
      show (if 0 ≤ t.1 then (if t.1 < t.2.1 then (some (decide (t.2.1 ≤ 359999999))) else (some false)) else (some false)) = _
      by_cases q1 : 0 ≤ t.1
      · by_cases q2 : t.1 < t.2.1
        · rw [if_pos q1, if_pos q2]
          simp [q1, q2]
        · rw [if_pos q1, if_neg q2]
          simp [q2]
      · rw [if_neg q1]
        simp [q1]
    refine ev_some htm (ev_ifb (fun c => ?_) (fun c => ?_))
    · obtain ⟨c1, c2, c3⟩ := of_decide_eq_true c
      refine ev_bind (textOk_ev t.2.2 (by omega)) (ev_ifb (fun c4 => ?_) (fun c4 => ?_))
      · refine ev_ite (fun c5 => ?_) (fun c5 => ?_)
        · have hw : wrap64 ((i : Int) - 1) = ((i - 1 : Nat) : Int) := by rw [w64 (by omega) (by omega)]; omega
          rw [hw]
          refine ev_pos (by omega) (ev_pos (by rw [List.length_map]; omega) ?_)
          have hp := hpr (by omega)
          refine ev_ite (fun c6 => ?_) (fun c6 => ?_)
          · refine hno (titleOk_no fun h => ?_)
            have := h.2.2.2.2
            rw [hp] at this
            simp only [orderBad, decide_eq_false_iff_not] at this
            exact this c6
          · rw [titleOk_yes (p := prevOf ts i) c1 c2 c3 c4 (by rw [hp]; simp only [orderBad, decide_eq_false_iff_not]; exact c6), Bool.true_and]
            exact hn
        · rw [titleOk_yes (p := prevOf ts i) c1 c2 c3 c4 (by rw [hp0 (by omega)]; rfl), Bool.true_and]
          exact hn
      · refine hno (titleOk_no fun h => ?_)
        rw [h.2.2.2.1] at c4
        cases c4
    · refine hno (titleOk_no fun h => ?_)
      exact absurd ⟨h.1, h.2.1, h.2.2.1⟩ (of_decide_eq_false c)
theorem impl_TitlesOk_ev (ts : List T3) (hl : ts.length ≤ 1048576) (hx : ∀ t ∈ ts, t.2.2.length ≤ 1048576) : Ev (fun k => impl_TitlesOk.f k (ts.map sT)) (okList ts) := by
  unfold impl_TitlesOk.f
  rw [List.length_map]
  refine ev_eq (impl_ok_l0 ts hl hx ts.length 0 (by omega)) ?_
  unfold okList
  rw [Bool.and_comm]
  rfl
theorem bytes_back (l : List UInt8) : strOfNums (bytesOf (mkB l)) = mkB l := by
  refine str_inj ?_
  show (strOfNums (bytesOf (mkB l))).data.toList = l
  rw [strOfNums_data]
  unfold bytesOf
  rw [List.map_map]
  refine List.map_id'' (fun b => ?_) l
  simp
theorem bytes_app (a b : List UInt8) : bytesOf (mkB a) ++ bytesOf (mkB b) = bytesOf (mkB (a ++ b)) := by
  unfold bytesOf mkB
  simp
theorem bytes_len (a : List UInt8) : (bytesOf (mkB a)).length = a.length := by
  unfold bytesOf mkB
  simp
theorem ap_two (l : List UInt8) (c d : UInt8) : mkB l ++ (⟨#[c, d]⟩ : ByteArray) = mkB (l ++ [c, d]) := mkB_append l [c, d]
theorem ap_five (l : List UInt8) : mkB l ++ (⟨#[32, 45, 45, 62, 32]⟩ : ByteArray) = mkB (l ++ arrowL) := mkB_append l arrowL
theorem block_shape (n : Nat) (t : T3) : (((((((decDigits (n + 1) ++ [10]) ++ timeL t.1.toNat) ++ arrowL) ++ timeL t.2.1.toNat) ++ [10]) ++ t.2.2) ++ [10, 10]) = block n t := by simp [block]
theorem decDigits_len (n : Nat) (h : n ≤ 1048576) : (decDigits n).length ≤ 7 := digits_small (by decide) (by omega)
theorem timeL_len {x : Int} (h0 : 0 ≤ x) (h : x ≤ 359999999) : (timeL x.toNat).length = 12 := by
  rw [timeL_length, pad_two _ (by omega)]
  rfl
theorem block_len {n : Nat} {p : Option Int} {t : T3} (hn : n ≤ 200) (h : titleOk p t = true) : (block n t).length ≤ 240 := by
  obtain ⟨h1, h2, h3, h4⟩ := titleOk_get h
  have := (okText_parts h4).2.1
  have e1 := timeL_len h1 (by omega)
  have e2 := timeL_len (show 0 ≤ t.2.1 by omega) h3
  have e3 := decDigits_len (n + 1) (by omega)
  unfold block
  simp only [List.length_append, List.length_cons, List.length_nil, e1, e2]
  have e4 : arrowL.length = 5 := rfl
  omega
theorem okFrom_at : ∀ (i : Nat) (p : Option Int) (ts : List T3) (h : i < ts.length), okFrom p ts = true → ∃ q, titleOk q ts[i] = true
  | 0, p, t :: ts, _, h => by
    unfold okFrom at h
    simp only [Bool.and_eq_true] at h
    exact ⟨p, h.1⟩
  | i + 1, p, t :: ts, hi, h => by
    unfold okFrom at h
    simp only [Bool.and_eq_true] at h
    exact okFrom_at i _ ts (by simpa using hi) h.2
theorem okList_at {ts : List T3} (h : okList ts = true) (i : Nat) (hi : i < ts.length) : ∃ q, titleOk q ts[i] = true := by
  unfold okList at h
  simp only [Bool.and_eq_true] at h
  exact okFrom_at i _ ts hi h.2
theorem okList_len {ts : List T3} (h : okList ts = true) : ts.length ≤ 200 := by
  unfold okList at h
  simp only [Bool.and_eq_true, decide_eq_true_eq] at h
  exact h.1
theorem small_le (l : List UInt8) (n : Nat) (h : l.length ≤ 100000) (hn : n ≤ 100000) : (mkB l).size + n ≤ 9223372036854775807 := by rw [mkB_size]; omega
theorem small_le2 (a b : List UInt8) (h : a.length ≤ 100000) (hn : b.length ≤ 100000) : (mkB a).size + (mkB b).size ≤ 9223372036854775807 := by rw [mkB_size, mkB_size]; omega
theorem small_add (p b : List UInt8) (h : p.length ≤ 100000) (hb : b.length ≤ 100000) : (bytesOf (mkB p)).length + (mkB b).size < 140737488355328 := by rw [bytes_len, mkB_size]; omega
theorem spec_show_l0 (ts : List T3) (hk : okList ts = true) (hx : ∀ t ∈ ts, t.2.2.length ≤ 1048576) : ∀ (d i : Nat) (p : List UInt8), i + d = ts.length → p.length ≤ 240 * i → Ev (fun k => spec_ShowTitles.l0 k (ts.map sT) (bytesOf (mkB p)) (i : Int)) (mkB (p ++ showFrom i (ts.drop i))) := by
  have hl := okList_len hk
  have hT := spec_TitlesOk_ev ts (by omega) hx
  rw [hk] at hT
  intro d
  induction d with
  | zero =>
    intro i p hi hp
    refine ev_succ ?_
    have h1 : ¬ ((i : Int) < (((ts.map sT).length : Nat) : Int)) := by rw [List.length_map]; omega
    simp only [spec_ShowTitles.l0, h1, if_false]
    refine ev_succ ?_
    simp only [spec_ShowTitles.j1, Bool.false_eq_true, if_false, bytes_back]
    rw [drop_end (by omega), showFrom, List.append_nil]
    exact ev_ret rfl
  | succ d ih =>
    intro i p hi hp
    refine ev_succ ?_
    have hlt : i < ts.length := by omega
    have h1 : (i : Int) < (((ts.map sT).length : Nat) : Int) := by rw [List.length_map]; omega
    have h2 : (0 : Int) ≤ (i : Int) := by omega
    simp only [spec_ShowTitles.l0, h1, if_true]
    refine ev_bind hT ?_
    refine ev_succ ?_
    simp only [spec_ShowTitles.j1, h1, h2, if_true, rd_sT ts i hlt]
    obtain ⟨q, hq⟩ := okList_at hk i hlt
    rw [List.drop_eq_getElem_cons hlt, showFrom]
    generalize ts[i] = t at hq ⊢
    obtain ⟨g1, g2, g3, g4⟩ := titleOk_get hq
    have g5 := (okText_parts g4).2.1
    have e1 := timeL_len g1 (by omega)
    have e2 := timeL_len (show 0 ≤ t.2.1 by omega) g3
    have e3 := decDigits_len (i + 1) (by omega)
    have e4 : arrowL.length = 5 := rfl
    have f0 : (sT t).f0 = ((t.1.toNat : Nat) : Int) := by show t.1 = _; omega
    have f1 : (sT t).f1 = ((t.2.1.toNat : Nat) : Int) := by show t.2.1 = _; omega
    have f2 : (sT t).f2 = mkB t.2.2 := rfl
    rw [f0, f1, f2, w64s (n := i) (by omega)]
    refine ev_bind (l1Int_ev (i + 1) (by omega)) (ev_pos (small_le _ _ (by omega) (by decide)) ?_)
    refine ev_bind (l12Time_ev t.1.toNat (by omega)) ?_
    simp only [ap_one, ap_two, ap_five, mkB_append]
    refine ev_pos (small_le2 _ _ (by simp; omega) (by omega)) (ev_pos (small_le _ _ (by simp; omega) (by decide)) ?_)
    refine ev_bind (l12Time_ev t.2.1.toNat (by omega)) ?_
    simp only [ap_one, ap_two, ap_five, mkB_append]
    refine ev_pos (small_le2 _ _ (by simp; omega) (by omega)) (ev_pos (small_le _ _ (by simp; omega) (by decide)) (ev_pos (small_le2 _ _ (by simp; omega) (by omega)) (ev_pos (small_le _ _ (by simp; omega) (by decide)) ?_)))
    rw [block_shape]
    have hb := block_len (n := i) (by omega) hq
    refine ev_pos (small_add _ _ (by omega) (by omega)) ?_
    rw [bytes_app]
    refine ev_eq (ih (i + 1) (p ++ block i t) (by omega) (by rw [List.length_append]; omega)) ?_
    rw [List.append_assoc]
theorem impl_show_l0 (ts : List T3) (hk : okList ts = true) : ∀ (d i : Nat) (p : List UInt8), i + d = ts.length → p.length ≤ 240 * i → Ev (fun k => impl_ShowTitles.l0 k (bytesOf (mkB p)) (ts.map sT) (ts.length : Int) (i : Int)) (mkB (p ++ showFrom i (ts.drop i))) := by
  have hl := okList_len hk
  intro d
  induction d with
  | zero =>
    intro i p hi hp
    refine ev_succ ?_
    have h1 : ¬ ((i : Int) < (ts.length : Int)) := by omega
    simp only [impl_ShowTitles.l0, h1, if_false, bytes_back]
    rw [drop_end (by omega), showFrom, List.append_nil]
    exact ev_ret rfl
  | succ d ih =>
    intro i p hi hp
    refine ev_succ ?_
    have hlt : i < ts.length := by omega
    have h0 : (i : Int) < (ts.length : Int) := by omega
    have h1 : (i : Int) < (((ts.map sT).length : Nat) : Int) := by rw [List.length_map]; omega
    have h2 : (0 : Int) ≤ (i : Int) := by omega
    simp only [impl_ShowTitles.l0, h0, h1, h2, if_true, rd_sT ts i hlt]
    obtain ⟨q, hq⟩ := okList_at hk i hlt
    rw [List.drop_eq_getElem_cons hlt, showFrom]
    generalize ts[i] = t at hq ⊢
    obtain ⟨g1, g2, g3, g4⟩ := titleOk_get hq
    have g5 := (okText_parts g4).2.1
    have e1 := timeL_len g1 (by omega)
    have e2 := timeL_len (show 0 ≤ t.2.1 by omega) g3
    have e3 := decDigits_len (i + 1) (by omega)
    have e4 : arrowL.length = 5 := rfl
    have f0 : (sT t).f0 = ((t.1.toNat : Nat) : Int) := by show t.1 = _; omega
    have f1 : (sT t).f1 = ((t.2.1.toNat : Nat) : Int) := by show t.2.1 = _; omega
    have f2 : (sT t).f2 = mkB t.2.2 := rfl
    rw [f0, f1, f2]
    refine ev_some (itoa_some i (by omega)) (ev_pos (small_le _ _ (by omega) (by decide)) ?_)
    refine ev_some (milliText_some t.1.toNat (by omega)) ?_
    simp only [ap_one, ap_two, ap_five, mkB_append]
    refine ev_pos (small_le2 _ _ (by simp; omega) (by omega)) (ev_pos (small_le _ _ (by simp; omega) (by decide)) ?_)
    refine ev_some (milliText_some t.2.1.toNat (by omega)) ?_
    simp only [ap_one, ap_two, ap_five, mkB_append]
    refine ev_pos (small_le2 _ _ (by simp; omega) (by omega)) (ev_pos (small_le _ _ (by simp; omega) (by decide)) (ev_pos (small_le2 _ _ (by simp; omega) (by omega)) (ev_pos (small_le _ _ (by simp; omega) (by decide)) ?_)))
    rw [block_shape]
    have hb := block_len (n := i) (by omega) hq
    refine ev_pos (small_add _ _ (by omega) (by omega)) ?_
    rw [bytes_app, w64s (n := i) (by omega)]
    refine ev_eq (ih (i + 1) (p ++ block i t) (by omega) (by rw [List.length_append]; omega)) ?_
    rw [List.append_assoc]
theorem spec_ShowTitles_ev (ts : List T3) (hl : ts.length ≤ 1048576) (hx : ∀ t ∈ ts, t.2.2.length ≤ 1048576) : Ev (fun k => spec_ShowTitles.f k (ts.map sT)) (mkB (showV ts)) := by
  unfold spec_ShowTitles.f showV
  have e : (([] : List Int)) = bytesOf (mkB []) := rfl
  rw [e]
  cases hk : okList ts with
  | true =>
    rw [if_pos rfl]
    exact spec_show_l0 ts hk hx ts.length 0 [] (by omega) (by simp)
  | false =>
    rw [if_neg (by simp)]
    have hT := spec_TitlesOk_ev ts hl hx
    rw [hk] at hT
    refine ev_succ ?_
    have hj : Ev (fun k => spec_ShowTitles.j1 k (ts.map sT) (bytesOf (mkB [])) 0 false) (mkB []) := by
      refine ev_succ ?_
      simp only [spec_ShowTitles.j1, Bool.false_eq_true, if_false, bytes_back]
      exact ev_ret rfl
    simp only [spec_ShowTitles.l0]
    refine ev_ite (fun _ => ?_) (fun _ => hj)
    exact ev_bind hT hj
theorem impl_ShowTitles_ev (ts : List T3) (hl : ts.length ≤ 1048576) (hx : ∀ t ∈ ts, t.2.2.length ≤ 1048576) : Ev (fun k => impl_ShowTitles.f k (ts.map sT)) (mkB (showV ts)) := by
  unfold impl_ShowTitles.f showV
  refine ev_bind (impl_TitlesOk_ev ts hl hx) ?_
  cases hk : okList ts with
  | true =>
    rw [if_pos rfl]
    refine ev_pos rfl ?_
    rw [List.length_map]
    exact impl_show_l0 ts hk ts.length 0 [] (by omega) (by simp)
  | false =>
    rw [if_neg (by simp)]
    exact ev_neg (by simp) (ev_ret rfl)

/-! #### laws_szTitleS: where it is not below 0, all is small -/
theorem szTitleS_ev (xs : List S44) (hw : xs.length ≤ maxLen) (hx : ∀ x ∈ xs, x.f2.size ≤ maxLen) :
    ∃ r, Ev (fun k => laws_szTitleS.f k xs 1048576) r ∧ (0 ≤ r → xs.length ≤ 1048576 ∧ ∀ x ∈ xs, x.f2.size ≤ 1048576) := by
  unfold maxLen at hw hx
  have key : ∀ d i (left : Int), i + d = xs.length → 0 ≤ left → left ≤ 1048576 → ∃ r, Ev (fun k => laws_szTitleS.l0 k xs left (i : Int)) r ∧ (0 ≤ r → ∀ x ∈ xs.drop i, x.f2.size ≤ 1048576) := by
    intro d
    induction d with
    | zero =>
      intro i left hi h0 hl
      have h1 : ¬ ((i : Int) < (xs.length : Int)) := by omega
      refine ⟨left, ev_succ ?_, fun _ x hx => by rw [drop_end (by omega)] at hx; cases hx⟩
      simp only [laws_szTitleS.l0, h1, if_false]
      exact ev_ret rfl
    | succ d ih =>
      intro i left hi h0 hl
      have h1 : (i : Int) < (xs.length : Int) := by omega
      have h2 : (0 : Int) ≤ (i : Int) := by omega
      have h4 := w64s (n := i) (by omega)
      have hm : rd_T44 xs (i : Int) ∈ xs := getD_mem _ (by omega)
      have hb := hx _ hm
      generalize hx0 : rd_T44 xs (i : Int) = x at hm hb
      have h5 : wrap64 (left - (x.f2.size : Int)) = left - (x.f2.size : Int) := w64 (by omega) (by omega)
      have hd : xs.drop i = x :: xs.drop (i + 1) := by rw [drop_getD z44 xs i (by omega), ← hx0]; rfl
      by_cases h6 : left - (x.f2.size : Int) < 0
      · refine ⟨-1, ev_succ ?_, fun h => by omega⟩
        simp [laws_szTitleS.l0, laws_szTitle.f, hx0, h1, h2, h5, h6]
        exact ev_ret rfl
      · obtain ⟨r, hr, hp⟩ := ih (i + 1) (left - (x.f2.size : Int)) (by omega) (by omega) (by omega)
        refine ⟨r, ev_succ ?_, fun h y hy => ?_⟩
        · simp only [laws_szTitleS.l0, laws_szTitle.f, hx0, h1, h2, h4, h5, h6, if_true, if_false, Option.bind_some]
          exact hr
        · rw [hd] at hy
          rcases List.mem_cons.1 hy with rfl | hy
          · omega
          · exact hp h y hy
  have h5 : wrap64 (1048576 - (xs.length : Int)) = 1048576 - (xs.length : Int) := w64 (by omega) (by omega)
  by_cases h6 : 1048576 - (xs.length : Int) < 0
  · refine ⟨-1, ?_, fun h => by omega⟩
    simp only [laws_szTitleS.f, h5, h6, if_true]
    exact ev_ret rfl
  · obtain ⟨r, hr, hp⟩ := key xs.length 0 (1048576 - (xs.length : Int)) (by omega) (by omega) (by omega)
    refine ⟨r, ?_, fun h => ⟨by omega, by simpa using hp h⟩⟩
    simp only [laws_szTitleS.f, h5, h6, if_false]
    exact hr

/-! #### laws_toTitleS -/
def cvTitle (a : S44) : S40 := ⟨a.f0, a.f1, a.f2⟩
theorem toTitleS_ev (xs : List S44) (h : xs.length ≤ 1048576) : Ev (fun k => laws_toTitleS.f k xs) (xs.map cvTitle) := by
  have key : ∀ d i, i + d = xs.length → Ev (fun k => laws_toTitleS.l0 k xs ((xs.take i).map cvTitle ++ List.replicate (xs.length - i) z40) (i : Int)) (xs.map cvTitle) := by
    intro d
    induction d with
    | zero =>
      intro i hi
      refine ev_succ ?_
      have h1 : ¬ ((i : Int) < (xs.length : Int)) := by omega
      simp only [laws_toTitleS.l0, h1, if_false]
      obtain rfl : i = xs.length := by omega
      exact ev_ret (by rw [fill_all])
    | succ d ih =>
      intro i hi
      have hlt : i < xs.length := by omega
      refine ev_succ ?_
      have h1 : (i : Int) < (xs.length : Int) := by omega
      have h2 : (0 : Int) ≤ (i : Int) := by omega
      have h3 : (i : Int) < ((((xs.take i).map cvTitle ++ List.replicate (xs.length - i) z40).length : Nat) : Int) := by rw [fill_len _ _ _ _ (by omega)]; omega
      have h4 := w64s (n := i) (by omega)
      simp only [laws_toTitleS.l0, laws_toTitle.f, h1, h2, h3, if_true, h4, Option.bind_some]
      have := ih (i + 1) (by omega)
      rw [← fill_set cvTitle z44 z40 xs i hlt] at this
      exact this
  have h1 : (0 : Int) ≤ (xs.length : Int) := by omega
  have h2 : xs.length ≤ 8796093022208 := by omega
  simp only [laws_toTitleS.f, h1, Int.toNat_natCast, h2, if_true]
  have := key xs.length 0 (by omega)
  rw [← fill_none cvTitle z40 xs] at this
  exact this

/-! #### laws_eqTitleS at one list twice -/
theorem eqTitleS_refl (xs : List S40) (h : xs.length ≤ 4611686018427387904) : Ev (fun k => laws_eqTitleS.f k xs xs) true := by
  have key : ∀ d i, i + d = xs.length → Ev (fun k => laws_eqTitleS.l0 k xs xs (i : Int)) true := by
    intro d
    induction d with
    | zero =>
      intro i hi
      refine ev_succ ?_
      have h1 : ¬ ((i : Int) < (xs.length : Int)) := by omega
      simp only [laws_eqTitleS.l0, h1, if_false]
      exact ev_ret rfl
    | succ d ih =>
      intro i hi
      refine ev_succ ?_
      have h1 : (i : Int) < (xs.length : Int) := by omega
      have h2 : (0 : Int) ≤ (i : Int) := by omega
      have h4 := w64s (n := i) (by omega)
      simp only [laws_eqTitleS.l0, laws_eqTitle.f, h1, h2, if_true, h4, Option.bind_some]
      exact ih (i + 1) (by omega)
  simp only [laws_eqTitleS.f, if_true]
  exact key xs.length 0 (by omega)

theorem FnExactShowTitles : ∀ (l0 : List (S44)), (l0.length ≤ maxLen ∧ ∀ y1 ∈ l0, ((Lit.int .i64 y1.f0).wf = true ∧ ((Lit.int .i64 y1.f1).wf = true ∧ y1.f2.size ≤ maxLen))) → ∃ k, laws_FnExactShowTitles.f k l0 = some true := by
  intro l0 ⟨hl0, hw0⟩
  apply Ev.rounds
  simp only [laws_FnExactShowTitles.f]
  obtain ⟨r0, q0, p0⟩ := szTitleS_ev l0 hl0 (fun x hx => (hw0 x hx).2.2)
  refine ev_bind q0 ?_
  refine ev_ite (fun _ => ev_ret rfl) (fun n0 => ?_)
  obtain ⟨s0, z0⟩ := p0 (by omega)
  have ht := toTitleS_ev l0 s0
  have hs := spec_ShowTitles_ev ((l0.map cvTitle).map tS) (by simpa using s0) (fun t ht => by
    obtain ⟨x, hx, rfl⟩ := List.mem_map.1 ht
    obtain ⟨y, hy, rfl⟩ := List.mem_map.1 hx
    have := z0 y hy
    show (bL y.f2).length ≤ 1048576
    rw [← bL_size]
    exact this)
  have hi := impl_ShowTitles_ev ((l0.map cvTitle).map tS) (by simpa using s0) (fun t ht => by
    obtain ⟨x, hx, rfl⟩ := List.mem_map.1 ht
    obtain ⟨y, hy, rfl⟩ := List.mem_map.1 hx
    have := z0 y hy
    show (bL y.f2).length ≤ 1048576
    rw [← bL_size]
    exact this)
  rw [sT_tS] at hs hi
  refine ev_bind ht (ev_bind hs (ev_bind ht (ev_bind hi (ev_pos rfl (ev_bind ht ?_)))))
  have hq := eqTitleS_refl (l0.map cvTitle) (by rw [List.length_map]; omega)
  exact ev_bind hq (ev_pos rfl (ev_ret rfl))
end Go.Proofs.YtidogkjhjmcliaaDoor.Pure
