/-
 The plain statement of FnTitlesBack: titles shown are read back as they were; a text that is read is the one text of its titles.
 Conditions: none.
-/
import Derived.Test.YtidogkjhjmcliaaDoorHFnTitlesBackx0
import Derived.Test.YtidogkjhjmcliaaDoorHFnTitlesBackx1
import Derived.Test.YtidogkjhjmcliaaDoorHFnTitlesBackx2
import Derived.Test.YtidogkjhjmcliaaDoorHFnTitlesBackx3
import Derived.Test.YtidogkjhjmcliaaDoorHFnTitlesBackx4
import Derived.Test.YtidogkjhjmcliaaDoorHFnTitlesBackx5
import Derived.Test.YtidogkjhjmcliaaDoorHFnTitlesBackx6
import Derived.Test.YtidogkjhjmcliaaDoorHFnTitlesBackx7
import Derived.Test.YtidogkjhjmcliaaDoorHFnTitlesBackx8
import Derived.Test.YtidogkjhjmcliaaDoorHFnTitlesBackx9
import Derived.Test.YtidogkjhjmcliaaDoorHFnTitlesBackx10
import Derived.Test.YtidogkjhjmcliaaDoorHFnTitlesBackx11
import Derived.Test.YtidogkjhjmcliaaDoorHFnTitlesBackx12
import Derived.Test.YtidogkjhjmcliaaDoorHFnTitlesBackx13
import Derived.Test.YtidogkjhjmcliaaDoorHFnTitlesBackx14
import Derived.Test.YtidogkjhjmcliaaDoorHFnTitlesBackx15
import Derived.Test.YtidogkjhjmcliaaDoorHFnTitlesBackx16
import Derived.Test.YtidogkjhjmcliaaDoorHFnTitlesBackx17
import Derived.Test.YtidogkjhjmcliaaDoorPureBase
import Derived.Laws.BitsLemmas
import Derived.Test.YtidogkjhjmcliaaDoorTMath
namespace Go.Proofs.YtidogkjhjmcliaaDoor.Pure
open Go.RowKit Go.Proofs.YtidogkjhjmcliaaDoor.HFnTitlesBack Go.Proofs.YtidogkjhjmcliaaDoorW.PrintWords Go.Proofs.YtidogkjhjmcliaaDoorW.PrintLast Go.Proofs.YtidogkjhjmcliaaDoorW.PrintMore Go.Proofs.YtidogkjhjmcliaaDoor.PB Go.Lib Go.Proofs.YtidogkjhjmcliaaDoor.TM
set_option linter.unusedVariables false
set_option linter.unusedSimpArgs false
/-! #### byte strings and their lists -/

def bL (s : ByteArray) : List UInt8 := s.data.toList
def mkB (l : List UInt8) : ByteArray := ⟨l.toArray⟩
theorem bL_mkB (l : List UInt8) : bL (mkB l) = l := rfl
theorem mkB_bL (s : ByteArray) : mkB (bL s) = s := rfl
theorem str_inj {a b : ByteArray} (h : bL a = bL b) : a = b := ByteArray.ext (Array.toList_inj.mp h)
theorem toList_bL (s : ByteArray) : s.toList = bL s := by rw [ByteArray.toList_eq]; rfl
theorem bL_size (s : ByteArray) : s.size = (bL s).length := size_eq s
theorem mkB_size (l : List UInt8) : (mkB l).size = l.length := by rw [bL_size, bL_mkB]
theorem mkB_append (a b : List UInt8) : mkB a ++ mkB b = mkB (a ++ b) := str_inj (by
 show(mkB a ++ mkB b).data.toList=a ++ b
 rw [ByteArray.data_append,Array.toList_append]
 rfl)
theorem bt_bL (s : ByteArray) (i : Nat) (h : i < (bL s).length) : bt s (i : Int) = (((bL s).getD i 0).toNat : Int) := by
 have h':(i:Int).toNat < s.size:=by rw [bL_size];simpa using h
 rw [← bt_at s (i:Int) h',List.getD_eq_getElem?_getD,List.getElem?_eq_getElem h]
 rfl
theorem bt_mkB (l : List UInt8) (i : Nat) (h : i < l.length) : bt (mkB l) (i : Int) = ((l.getD i 0).toNat : Int) := bt_bL (mkB l) i h
theorem extract_bL (s : ByteArray) (a b : Nat) : bL (s.extract a b) = ((bL s).drop a).take (b - a) := extract_data s a b
theorem extract_mkB (l : List UInt8) (a b : Nat) : (mkB l).extract a b = mkB ((l.drop a).take (b - a)) := str_inj (by rw [extract_bL]; rfl)
theorem mkB_toList (l : List UInt8) : (mkB l).toList = l := by rw [toList_bL, bL_mkB]
/-! #### a number in digits -/
theorem digit_byte (n : Nat) : strOfNums [(wrap64 (48 + (Int.tmod (n : Int) 10))) % 256] = mkB [UInt8.ofNat (48 + n % 10)] := by
 have e:Int.tmod (n:Int) 10=((n % 10:Nat):Int):=by rw [Int.tmod_eq_emod_of_nonneg (by omega)];omega
 rw [e,w64 (by omega) (by omega)]
 have e2:(((48:Int)+((n % 10:Nat):Int)) % 256).toNat=48+n % 10:=by omega
 unfold strOfNums mkB
 simp only [List.map_cons,List.map_nil,e2]
theorem tdiv_nat (n m : Nat) : Int.tdiv (n : Int) (m : Int) = ((n / m : Nat) : Int) := by
 rw [Int.tdiv_eq_ediv_of_nonneg (by omega)]
 rfl
theorem tmod_nat (n m : Nat) : Int.tmod (n : Int) (m : Int) = ((n % m : Nat) : Int) := by
 rw [Int.tmod_eq_emod_of_nonneg (by omega)]
 rfl
theorem w64n {n : Nat} (h : n < 9223372036854775808) : wrap64 (n : Int) = (n : Int) := w64 (by omega) (by omega)
theorem l1Int_l0 : ∀ (d n : Nat) (l : List UInt8), n < 10 ^ d → n < 4611686018427387904 → l.length + d ≤ 1000 → l ≠ [] → Ev (fun k => spec_l1Int.l0 k (n : Int) (mkB l)) (mkB (if n = 0 then l else decDigits n ++ l)) := by
 intro d
 induction d with
 | zero =>
  intro n l h1 h2 h3 h4
  have hn:n=0:=by simpa using h1
  subst hn
  refine ev_succ ?_
  have h5 : ¬ ((0:Int) > 0):=by omega
  simp only [spec_l1Int.l0,mkB_toList,h4,if_false,Int.natCast_zero,h5,if_true]
  exact ev_ret rfl
 | succ d ih =>
  intro n l h1 h2 h3 h4
  refine ev_succ ?_
  simp only [spec_l1Int.l0,mkB_toList,h4,if_false,digit_byte,Option.bind_some]
  by_cases hn:n=0
  ·subst hn
   have h5 : ¬ (((0:Nat):Int) > 0):=by omega
   simp only [h5,if_false,if_true]
   exact ev_ret rfl
  ·have h5:((n:Nat):Int) > 0:=by omega
   have hd:n / 10 < 10 ^ d:=by
    have:10 ^ (d+1)=10 ^ d*10:=Nat.pow_succ _ _
    omega
   have hw:wrap64 (Int.tdiv (n:Int) 10)=((n / 10:Nat):Int):=by rw [show(10:Int)=((10:Nat):Int) from rfl,tdiv_nat,w64n (by omega)]
   have hz:(mkB [UInt8.ofNat (48+n % 10)]).size+(mkB l).size≤9223372036854775807:=by
    rw [mkB_size,mkB_size]
    simp only [List.length_singleton]
    omega
   simp only [h5,if_true,hw,mkB_append,hz]
   refine ev_eq (ih (n / 10) ([UInt8.ofNat (48+n % 10)] ++ l) hd (by omega) (by simp;omega) (by simp)) ?_
   congr 1
   rw [if_neg hn]
   by_cases h6:n < 10
   ·have:n / 10=0:=by omega
    rw [if_pos this,decDigits_one h6]
    have:n % 10=n:=by omega
    rw [this]
   ·rw [if_neg (by omega)]
    conv=>rhs;rw [decDigits,dif_neg h6]
    simp
theorem l1Int_ev (n : Nat) (h : n < 1000000000000000000) : Ev (fun k => spec_l1Int.f k (n : Int)) (mkB (decDigits n)) := by
 refine ev_succ ?_
 have h1 : ¬ ((n:Int) < 0):=by omega
 simp only [spec_l1Int.f,h1,if_false]
 refine ev_succ ?_
 have he:(⟨#[]⟩:ByteArray).toList = []:=mkB_toList []
 have hw:wrap64 (Int.tdiv (n:Int) 10)=((n / 10:Nat):Int):=by rw [show(10:Int)=((10:Nat):Int) from rfl,tdiv_nat,w64n (by omega)]
 have hz:(mkB [UInt8.ofNat (48+n % 10)]).size+(⟨#[]⟩:ByteArray).size≤9223372036854775807:=by
  rw [mkB_size]
  have:(⟨#[]⟩:ByteArray).size=0:=rfl
  rw [this]
  simp
 simp only [spec_l1Int.l0,he,if_true,digit_byte,Option.bind_some,hz,hw]
 have e:mkB [UInt8.ofNat (48+n % 10)] ++ (⟨#[]⟩:ByteArray)=mkB [UInt8.ofNat (48+n % 10)]:=mkB_append _ []
 rw [e]
 refine ev_eq (l1Int_l0 18 (n / 10) [UInt8.ofNat (48+n % 10)] (by omega) (by omega) (by simp) (by simp)) ?_
 congr 1
 by_cases h6:n < 10
 ·have h7:n / 10=0:=by omega
  have h8:n % 10=n:=by omega
  rw [if_pos h7,decDigits_one h6,h8]
 ·rw [if_neg (by omega)]
  conv=>rhs;rw [decDigits,dif_neg h6]
theorem l1Wide_l0 : ∀ (d w : Nat) (l : List UInt8), w - l.length = d → w ≤ 100 → Ev (fun k => spec_l1Wide.l0 k (w : Int) (mkB l)) (mkB (List.replicate (w - l.length) 48 ++ l)) := by
 intro d
 induction d with
 | zero =>
  intro w l hd hw
  refine ev_succ ?_
  have h1 : ¬ (((mkB l).size:Int) < (w:Int)):=by rw [mkB_size];omega
  simp only [spec_l1Wide.l0,h1,if_false]
  rw [hd]
  exact ev_ret rfl
 | succ d ih =>
  intro w l hd hw
  refine ev_succ ?_
  have h1:((mkB l).size:Int) < (w:Int):=by rw [mkB_size];omega
  have h2:1+(mkB l).size≤9223372036854775807:=by rw [mkB_size];omega
  have e:(⟨#[48]⟩:ByteArray) ++ mkB l=mkB (48 :: l):=mkB_append [48] l
  simp only [spec_l1Wide.l0,h1,h2,if_true,e]
  refine ev_eq (ih w (48 :: l) (by simp;omega) hw) ?_
  congr 1
  have:w - l.length=(w - (48 :: l).length)+1:=by simp;omega
  rw [this,List.replicate_succ']
  simp
theorem l1Wide_ev (n w : Nat) (h : n < 1000000000000000000) (hw : w ≤ 100) : Ev (fun k => spec_l1Wide.f k (n : Int) (w : Int)) (mkB (pad w n)) := by
 unfold spec_l1Wide.f
 exact ev_bind (l1Int_ev n h) (l1Wide_l0 _ w (decDigits n) rfl hw)
theorem itoa_nat (n : Nat) : itoa (n : Int) = decDigits n := by
 unfold itoa
 rw [if_neg (by omega)]
 rfl
theorem repeat_one (c : UInt8) : ∀ n, repeatL [c] n = List.replicate n c
 | 0 => rfl
 | n + 1 => by rw [repeatL, repeat_one c n, List.replicate_succ]; rfl
theorem padded_some (n w : Nat) (h : n < 1000000000000000000) (hw : w ≤ 100) : impl_padded.f (n : Int) (w : Int) = some (mkB (pad w n)) := by
 have hl:(decDigits n).length≤18:=digits_small (by decide) (by omega)
 have h1:strconv_FormatInt_56.f (n:Int) 10=some (mkB (decDigits n)):=by
  unfold strconv_FormatInt_56.f
  rw [if_pos ⟨rfl,by omega,by omega⟩,itoa_nat]
  rfl
 have hm:mx (wrap64 ((w:Int) - ((mkB (decDigits n)).size:Int))) 0=((w - (decDigits n).length:Nat):Int):=by
  rw [mkB_size,w64 (by omega) (by omega)]
  unfold mx
  split <;> omega
 have h2:strings_Repeat.f (⟨#[48]⟩:ByteArray) ((w - (decDigits n).length:Nat):Int)=some (mkB (List.replicate (w - (decDigits n).length) 48)):=by
  unfold strings_Repeat.f
  have hs:(⟨#[48]⟩:ByteArray).size=1:=rfl
  rw [if_pos ⟨by omega,by omega,by rw [hs];omega⟩]
  have:(⟨#[48]⟩:ByteArray).data.toList = [48]:=rfl
  rw [this,repeat_one]
  rfl
 unfold impl_padded.f
 rw [h1,Option.bind_some,hm,h2,Option.bind_some,if_pos (by rw [mkB_size,mkB_size];simp only [List.length_replicate];omega),mkB_append]
 rfl
theorem pad_len (w u : Nat) (h : u < 1000000000000000000) (hw : w ≤ 100) : (pad w u).length ≤ 118 := by
 have hl:(decDigits u).length≤18:=digits_small (by decide) (by omega)
 rw [pad_length_eq]
 omega
theorem ap_one (l : List UInt8) (c : UInt8) : mkB l ++ (⟨#[c]⟩ : ByteArray) = mkB (l ++ [c]) := mkB_append l [c]
theorem one_le (a b : List UInt8) (ha : a.length ≤ 2000) (hb : b.length ≤ 2000) : (mkB a).size + (mkB b).size ≤ 9223372036854775807 := by rw [mkB_size, mkB_size]; omega
theorem one_le1 (a : List UInt8) (ha : a.length ≤ 2000) : (mkB a).size + 1 ≤ 9223372036854775807 := by rw [mkB_size]; omega
theorem time_shape (a b c d : List UInt8) : ((((((a ++ [58]) ++ b) ++ [58]) ++ c) ++ [44]) ++ d) = a ++ (58 :: (b ++ (58 :: (c ++ (44 :: d))))) := by simp
theorem l12Time_ev (m : Nat) (h : m < 1000000000000000000) : Ev (fun k => spec_l12Time.f k (m : Int)) (mkB (timeL m)) := by
 have e1:wrap64 (Int.tdiv (m:Int) 3600000)=((m / 3600000:Nat):Int):=by rw [show(3600000:Int)=((3600000:Nat):Int) from rfl,tdiv_nat,w64n (by omega)]
 have e2:Int.tmod (wrap64 (Int.tdiv (m:Int) 60000)) 60=((m / 60000 % 60:Nat):Int):=by rw [show(60000:Int)=((60000:Nat):Int) from rfl,tdiv_nat,w64n (by omega),show(60:Int)=((60:Nat):Int) from rfl,tmod_nat]
 have e3:Int.tmod (wrap64 (Int.tdiv (m:Int) 1000)) 60=((m / 1000 % 60:Nat):Int):=by rw [show(1000:Int)=((1000:Nat):Int) from rfl,tdiv_nat,w64n (by omega),show(60:Int)=((60:Nat):Int) from rfl,tmod_nat]
 have e4:Int.tmod (m:Int) 1000=((m % 1000:Nat):Int):=by rw [show(1000:Int)=((1000:Nat):Int) from rfl,tmod_nat]
 have l1:=pad_len 2 (m / 3600000) (by omega) (by omega)
 have l2:=pad_len 2 (m / 60000 % 60) (by omega) (by omega)
 have l3:=pad_len 2 (m / 1000 % 60) (by omega) (by omega)
 have l4:=pad_len 3 (m % 1000) (by omega) (by omega)
 unfold spec_l12Time.f
 rw [e1,e2,e3,e4]
 refine ev_bind (l1Wide_ev (m / 3600000) 2 (by omega) (by omega)) (ev_pos (one_le1 _ (by omega)) ?_)
 refine ev_bind (l1Wide_ev (m / 60000 % 60) 2 (by omega) (by omega)) ?_
 simp only [ap_one,mkB_append]
 refine ev_pos (one_le _ _ (by simp;omega) (by omega)) (ev_pos (one_le1 _ (by simp;omega)) ?_)
 refine ev_bind (l1Wide_ev (m / 1000 % 60) 2 (by omega) (by omega)) ?_
 simp only [ap_one,mkB_append]
 refine ev_pos (one_le _ _ (by simp;omega) (by omega)) (ev_pos (one_le1 _ (by simp;omega)) ?_)
 refine ev_bind (l1Wide_ev (m % 1000) 3 (by omega) (by omega)) ?_
 simp only [ap_one,mkB_append]
 refine ev_pos (one_le _ _ (by simp;omega) (by omega)) ?_
 rw [time_shape]
 exact ev_ret rfl
theorem milliText_some (m : Nat) (h : m < 1000000000000000000) : impl_milliText.f (m : Int) = some (mkB (timeL m)) := by
 have e0:wrap64 (Int.tdiv (m:Int) 1000)=((m / 1000:Nat):Int):=by rw [show(1000:Int)=((1000:Nat):Int) from rfl,tdiv_nat,w64n (by omega)]
 have e1:wrap64 (Int.tdiv ((m / 1000:Nat):Int) 3600)=((m / 3600000:Nat):Int):=by rw [show(3600:Int)=((3600:Nat):Int) from rfl,tdiv_nat,w64n (by omega),Nat.div_div_eq_div_mul]
 have e2:Int.tmod (wrap64 (Int.tdiv ((m / 1000:Nat):Int) 60)) 60=((m / 60000 % 60:Nat):Int):=by rw [show(60:Int)=((60:Nat):Int) from rfl,tdiv_nat,w64n (by omega),tmod_nat,Nat.div_div_eq_div_mul]
 have e3:Int.tmod ((m / 1000:Nat):Int) 60=((m / 1000 % 60:Nat):Int):=by rw [show(60:Int)=((60:Nat):Int) from rfl,tmod_nat]
 have e4:Int.tmod (m:Int) 1000=((m % 1000:Nat):Int):=by rw [show(1000:Int)=((1000:Nat):Int) from rfl,tmod_nat]
 have l1:=pad_len 2 (m / 3600000) (by omega) (by omega)
 have l2:=pad_len 2 (m / 60000 % 60) (by omega) (by omega)
 have l3:=pad_len 2 (m / 1000 % 60) (by omega) (by omega)
 have l4:=pad_len 3 (m % 1000) (by omega) (by omega)
 have p1:=padded_some (m / 3600000) 2 (by omega) (by omega)
 have p2:=padded_some (m / 60000 % 60) 2 (by omega) (by omega)
 have p3:=padded_some (m / 1000 % 60) 2 (by omega) (by omega)
 have p4:=padded_some (m % 1000) 3 (by omega) (by omega)
 unfold impl_milliText.f
 rw [e0,e1,e2,e3,e4]
 rw [show(2:Int)=((2:Nat):Int) from rfl,show(3:Int)=((3:Nat):Int) from rfl,p1,Option.bind_some,if_pos (one_le1 _ (by omega)),p2,Option.bind_some]
 simp only [ap_one,mkB_append]
 rw [if_pos (one_le _ _ (by simp;omega) (by omega)),if_pos (one_le1 _ (by simp;omega)),p3,Option.bind_some]
 simp only [ap_one,mkB_append]
 rw [if_pos (one_le _ _ (by simp;omega) (by omega)),if_pos (one_le1 _ (by simp;omega)),p4,Option.bind_some]
 simp only [ap_one,mkB_append]
 rw [if_pos (one_le _ _ (by simp;omega) (by omega)),time_shape]
 rfl
theorem beq_dec (a b : List UInt8) : (a == b) = decide (a = b) := by
 by_cases h:a=b <;> simp [h]


/-! #### a time read -/
theorem dig_lt {b : UInt8} (h : dig b = true) : 48 ≤ b.toNat ∧ b.toNat ≤ 57 := by
 unfold dig at h
 simpa using h
theorem dig_not {b : UInt8} (h : dig b = false) : b.toNat < 48 ∨ 57 < b.toNat := by
 unfold dig at h
 simp at h
 omega
def digV : Nat → List UInt8 → Int × Bool
 | acc, [] => ((acc : Int), true)
 | acc, c :: l => if dig c then digV (10 * acc + (c.toNat - 48)) l else (0, false)
def bnd : Nat → Nat
 | 0 => 0
 | i + 1 => 10 * bnd i + 9
theorem bnd_le {i : Nat} (h : i ≤ 9) : bnd i ≤ 999999999 := by
 have key:∀ i:Fin 10,bnd i.val≤999999999:=by decide
 exact key ⟨i,by omega⟩
theorem dig_word {b a : Nat} (h1 : 48 ≤ b) (h2 : b ≤ 57) (ha : a ≤ 999999999) : wrap64 (wrap64 (10 * (a : Int)) + ((b : Int) - 48) % 256) = ((10 * a + (b - 48) : Nat) : Int) := by
 have e1:((b:Int) - 48) % 256=((b - 48:Nat):Int):=by omega
 have e2:wrap64 (10*(a:Int))=((10*a:Nat):Int):=by rw [w64 (by omega) (by omega)];omega
 rw [e1,e2,w64 (by omega) (by omega)]
 omega
theorem digits_l0 (l : List UInt8) (hl : l.length ≤ 9) : ∀ (d i acc : Nat), i + d = l.length → acc ≤ bnd i → Ev (fun k => impl_digits.l0 k (mkB l) (acc : Int) (l.length : Int) (i : Int)) (digV acc (l.drop i)) := by
 intro d
 induction d with
 | zero =>
  intro i acc hi ha
  refine ev_succ ?_
  have h1 : ¬ ((i:Int) < (l.length:Int)):=by omega
  simp only [impl_digits.l0,h1,if_false]
  rw [drop_end (by omega)]
  exact ev_ret rfl
 | succ d ih =>
  intro i acc hi ha
  refine ev_succ ?_
  have h1:(i:Int) < (l.length:Int):=by omega
  have h2:(0:Int)≤(i:Int):=by omega
  have h3:(i:Int) < ((mkB l).size:Int):=by rw [mkB_size];omega
  have hb:=bt_mkB l i (by omega)
  rw [drop_getD 0 l i (by omega),digV]
  simp only [impl_digits.l0,h1,h2,h3,if_true,hb]
  cases hd:dig (l.getD i 0) with
  | false =>
   rcases dig_not hd with h|h
   ·exact ev_pos (by omega) (ev_ret rfl)
   ·exact ev_neg (by omega) (ev_pos (by omega) (ev_ret rfl))
  | true =>
   obtain⟨h4,h5⟩:=dig_lt hd
   refine ev_neg (by omega) (ev_neg (by omega) ?_)
   have hB:=bnd_le (i:=i) (by omega)
   rw [dig_word h4 h5 (by omega),w64s (n:=i) (by omega)]
   have hs:bnd (i+1)=10*bnd i+9:=rfl
   exact ih (i+1) _ (by omega) (by omega)
theorem digits_ev (l : List UInt8) (h1 : l ≠ []) (h2 : l.length ≤ 9) : Ev (fun k => impl_digits.f k (mkB l)) (digV 0 l) := by
 have h3 : ¬ ((mkB l).toList=([]:List UInt8)):=by rw [mkB_toList];exact h1
 have h4:decide (((mkB l).size:Int) > 9)=false:=by rw [mkB_size];simp;omega
 simp only [impl_digits.f,h3,if_false,h4]
 refine ev_succ ?_
 have h5 : ¬ (false=true):=by simp
 simp only [impl_digits.j0,h5,if_false]
 rw [mkB_size]
 exact digits_l0 l h2 l.length 0 0 (by omega) (Nat.le_refl _)
theorem twelve {l : List UInt8} (h : l.length = 12) : ∃ a b c d e f g h i j k m, l = [a, b, c, d, e, f, g, h, i, j, k, m] := by
 match l,h with
 | [a, b, c, d, e, f, g, h, i, j, k, m], _ => exact ⟨a, b, c, d, e, f, g, h, i, j, k, m, rfl⟩
theorem readL_short {l : List UInt8} (h : l.length ≠ 12) : readL l = (0, false) := by
 unfold readL
 split
 ·exact absurd rfl h
 ·rfl
theorem digV_two (a b : UInt8) : digV 0 [a, b] = if dig a && dig b then ((((a.toNat - 48) * 10 + (b.toNat - 48) : Nat) : Int), true) else (0, false) := by
 unfold digV
 cases dig a
 ·rfl
 ·unfold digV
  cases dig b
  ·rfl
  ·simp only [if_true,Bool.and_self,digV]
   congr 2
   omega
theorem digV_three (a b c : UInt8) : digV 0 [a, b, c] = if dig a && dig b && dig c then (((((a.toNat - 48) * 10 + (b.toNat - 48)) * 10 + (c.toNat - 48) : Nat) : Int), true) else (0, false) := by
 unfold digV
 cases dig a
 ·rfl
 ·unfold digV
  cases dig b
  ·rfl
  ·unfold digV
   cases dig c
   ·rfl
   ·simp only [if_true,Bool.and_self,digV]
    congr 2
    omega
theorem milli_step (z : ByteArray) (x0 : ByteArray) (m : Int) (xs : List ByteArray) (i : Nat) (f : Int) (l : List UInt8) (r : Int × Bool) (hl : l ≠ [] ∧ l.length ≤ 9) (hi : i < 4) (hxs : xs.length = 4) (hx : rdOf ByteArray.empty xs (i : Int) = mkB l) (hf : rd ([1, 60, 60, 1000] : List Int) (i : Int) = f)
  (hno:(digV 0 l).2=false→r=(0,false)) (hyes:(digV 0 l).2=true→Ev (fun k=>impl_milliOf.l0 k x0 (wrap64 (wrap64 (m*f)+(digV 0 l).1)) xs 4 ((i+1:Nat):Int)) r):Ev (fun k=>impl_milliOf.l0 k x0 m xs 4 (i:Int)) r:=by
 refine ev_succ ?_
 have h1:(i:Int) < 4:=by omega
 have h2:(0:Int)≤(i:Int):=by omega
 have h3:(i:Int) < ((xs.length:Nat):Int):=by omega
 have h4:(i:Int) < ((([1,60,60,1000]:List Int).length:Nat):Int):=by simp only [List.length_cons,List.length_nil];omega
 simp only [impl_milliOf.l0,h1,h2,h3,if_true,hx]
 refine ev_bind (digits_ev l hl.1 hl.2) ?_
 refine ev_ifb (fun hy=>?_) (fun hn=>ev_ret (by rw [hno hn]))
 simp only [Option.bind_some,h4,if_true,hf,w64s (n:=i) (by omega)]
 exact hyes hy
theorem val_words {A B C D : Nat} (hA : A ≤ 99) (hB : B ≤ 99) (hC : C ≤ 99) (hD : D ≤ 999) : wrap64 (wrap64 (wrap64 (wrap64 (wrap64 (wrap64 (wrap64 (wrap64 (0 * 1) + (A : Int)) * 60) + (B : Int)) * 60) + (C : Int)) * 1000) + (D : Int)) = ((((A * 60 + B) * 60 + C) * 1000 + D : Nat) : Int) := by
 have e0:wrap64 (0*1)=0:=by rw [w64 (by omega) (by omega)];rfl
 have e1:wrap64 (0+(A:Int))=(A:Int):=by rw [w64 (by omega) (by omega)];omega
 have e2:wrap64 ((A:Int)*60)=((A*60:Nat):Int):=by rw [w64 (by omega) (by omega)];omega
 have e3:wrap64 (((A*60:Nat):Int)+(B:Int))=((A*60+B:Nat):Int):=by rw [w64 (by omega) (by omega)];omega
 have e4:wrap64 (((A*60+B:Nat):Int)*60)=(((A*60+B)*60:Nat):Int):=by rw [w64 (by omega) (by omega)];omega
 have e5:wrap64 ((((A*60+B)*60:Nat):Int)+(C:Int))=(((A*60+B)*60+C:Nat):Int):=by rw [w64 (by omega) (by omega)];omega
 have e6:wrap64 ((((A*60+B)*60+C:Nat):Int)*1000)=((((A*60+B)*60+C)*1000:Nat):Int):=by rw [w64 (by omega) (by omega)];omega
 rw [e0,e1,e2,e3,e4,e5,e6,w64 (by omega) (by omega)]
 omega
theorem val9_eq (a b d e g h j k l : Nat) : val9 a b d e g h j k l = ((((a - 48) * 10 + (b - 48)) * 60 + ((d - 48) * 10 + (e - 48))) * 60 + ((g - 48) * 10 + (h - 48))) * 1000 + (((j - 48) * 10 + (k - 48)) * 10 + (l - 48)) := by
 unfold val9
 omega
theorem two_le {a b : Nat} (ha : 48 ≤ a ∧ a ≤ 57) (hb : 48 ≤ b ∧ b ≤ 57) : (a - 48) * 10 + (b - 48) ≤ 99 := by omega
theorem three_le {a b c : Nat} (ha : 48 ≤ a ∧ a ≤ 57) (hb : 48 ≤ b ∧ b ≤ 57) (hc : 48 ≤ c ∧ c ≤ 57) : ((a - 48) * 10 + (b - 48)) * 10 + (c - 48) ≤ 999 := by omega
theorem val9_le (a b d e g h j k l : Nat) (ha : 48 ≤ a ∧ a ≤ 57) (hb : 48 ≤ b ∧ b ≤ 57) (hd : 48 ≤ d ∧ d ≤ 57) (he : 48 ≤ e ∧ e ≤ 57) (hg : 48 ≤ g ∧ g ≤ 57) (hh : 48 ≤ h ∧ h ≤ 57) (hj : 48 ≤ j ∧ j ≤ 57) (hk : 48 ≤ k ∧ k ≤ 57) (hl : 48 ≤ l ∧ l ≤ 57) : val9 a b d e g h j k l < 1000000000 := by
 have h1:=two_le ha hb
 have h2:=two_le hd he
 have h3:=two_le hg hh
 have h4:=three_le hj hk hl
 rw [val9_eq]
 omega
theorem milliOf_ev (l : List UInt8) : Ev (fun k => impl_milliOf.f k (mkB l)) (readL l) := by
 by_cases h12:l.length=12
 ·obtain⟨a,b,c,d,e,f,g,h,i,j,k,m,rfl⟩:=twelve h12
  have hz:(mkB [a,b,c,d,e,f,g,h,i,j,k,m]).size=12:=by rw [mkB_size];rfl
  have x1:(mkB [a,b,c,d,e,f,g,h,i,j,k,m]).extract 0 2=mkB [a,b]:=by rw [extract_mkB];rfl
  have x2:(mkB [a,b,c,d,e,f,g,h,i,j,k,m]).extract 3 5=mkB [d,e]:=by rw [extract_mkB];rfl
  have x3:(mkB [a,b,c,d,e,f,g,h,i,j,k,m]).extract 6 8=mkB [g,h]:=by rw [extract_mkB];rfl
  have x4:(mkB [a,b,c,d,e,f,g,h,i,j,k,m]).extract 9 12=mkB [j,k,m]:=by rw [extract_mkB];rfl
  simp only [impl_milliOf.f,hz,x1,x2,x3,x4,Option.bind_some]
  refine ev_pos (by omega) (ev_pos (by omega) (ev_pos (by omega) (ev_pos (by omega) (ev_pos (by omega) (ev_pos (by omega) (ev_pos (by omega) (ev_pos (by omega) ?_)))))))
  rw [readL_twelve]
  refine milli_step ByteArray.empty _ 0 _ 0 1 [a,b] _ (by simp) (by omega) rfl rfl rfl ?_ ?_
  ·rw [digV_two];cases dig a <;> cases dig b <;> simp
  rw [digV_two]
  intro q1
  obtain⟨da,db⟩:dig a=true∧dig b=true:=by revert q1;cases dig a <;> cases dig b <;> simp
  rw [da,db]
  refine milli_step ByteArray.empty _ _ _ 1 60 [d,e] _ (by simp) (by omega) rfl rfl rfl ?_ ?_
  ·rw [digV_two];cases dig d <;> cases dig e <;> simp
  rw [digV_two]
  intro q2
  obtain⟨dd,de⟩:dig d=true∧dig e=true:=by revert q2;cases dig d <;> cases dig e <;> simp
  rw [dd,de]
  refine milli_step ByteArray.empty _ _ _ 2 60 [g,h] _ (by simp) (by omega) rfl rfl rfl ?_ ?_
  ·rw [digV_two];cases dig g <;> cases dig h <;> simp
  rw [digV_two]
  intro q3
  obtain⟨dg,dh⟩:dig g=true∧dig h=true:=by revert q3;cases dig g <;> cases dig h <;> simp
  rw [dg,dh]
  refine milli_step ByteArray.empty _ _ _ 3 1000 [j,k,m] _ (by simp) (by omega) rfl rfl rfl ?_ ?_
  ·rw [digV_three];cases dig j <;> cases dig k <;> cases dig m <;> simp
  rw [digV_three]
  intro q4
  obtain⟨dj,dk,dm⟩:dig j=true∧dig k=true∧dig m=true:=by revert q4;cases dig j <;> cases dig k <;> cases dig m <;> simp
  rw [dj,dk,dm]
  have ba:=dig_lt da
  have bb:=dig_lt db
  have bd:=dig_lt dd
  have be:=dig_lt de
  have bg:=dig_lt dg
  have bh:=dig_lt dh
  have bj:=dig_lt dj
  have bk:=dig_lt dk
  have bm:=dig_lt dm
  simp only [Bool.and_self,if_true]
  rw [val_words (two_le ba bb) (two_le bd be) (two_le bg bh) (three_le bj bk bm),← val9_eq]
  have hlt:=val9_le _ _ _ _ _ _ _ _ _ ba bb bd be bg bh bj bk bm
  refine ev_succ ?_
  have h4 : ¬ (((3+1:Nat):Int) < 4):=by omega
  simp only [impl_milliOf.l0,h4,if_false,milliText_some _ (Nat.lt_trans hlt (by decide)),Option.bind_some]
  refine ev_ret ?_
  rw [mkB_toList,mkB_toList,beq_dec]
 ·have hz : ¬ (((mkB l).size:Int)=12):=by rw [mkB_size];omega
  simp only [impl_milliOf.f,hz,if_false]
  rw [readL_short h12]
  exact ev_ret rfl
theorem read_skip (x0 : ByteArray) (n : List Int) (i : Nat) (r : Int × Bool) (hi : i < 9) (hm : i % 3 = 2) (h : Ev (fun k => spec_l12Read.l0 k x0 n ((i + 1 : Nat) : Int)) r) : Ev (fun k => spec_l12Read.l0 k x0 n (i : Int)) r := by
 refine ev_succ ?_
 have h1:(i:Int) < 12:=by omega
 have h2:(i:Int) < 9:=by omega
 have h3:(Int.tmod (i:Int) 3 == 2)=true:=by rw [show(3:Int)=((3:Nat):Int) from rfl,tmod_nat,hm];rfl
 simp only [spec_l12Read.l0,h1,h2,if_true,h3]
 refine ev_succ ?_
 simp only [spec_l12Read.j1,if_true,w64s (n:=i) (by omega)]
 exact h
theorem read_word {b v : Nat} (h1 : 48 ≤ b) (h2 : b ≤ 57) (hv : v ≤ 99) : wrap64 (wrap64 ((v : Int) * 10) + ((b : Int) - 48) % 256) = ((v * 10 + (b - 48) : Nat) : Int) := by
 have e1:((b:Int) - 48) % 256=((b - 48:Nat):Int):=by omega
 have e2:wrap64 ((v:Int)*10)=((v*10:Nat):Int):=by rw [w64 (by omega) (by omega)];omega
 rw [e1,e2,w64 (by omega) (by omega)]
 omega
theorem read_dig (l : List UInt8) (n : List Int) (i j v : Nat) (c : UInt8) (r : Int × Bool) (hl : l.length = 12) (hi : i < 12) (hs : ¬ (i < 9 ∧ i % 3 = 2)) (hn : n.length = 4) (hj : (if 3 < i / 3 then 3 else i / 3) = j) (hc : l.getD i 0 = c) (hv : rd n (j : Int) = (v : Int)) (hle : dig c = true → v ≤ 99)
  (hno:dig c=false→r=(0,false)) (hyes:dig c=true→Ev (fun k=>spec_l12Read.l0 k (mkB l) (n.set j ((v*10+(c.toNat - 48):Nat):Int)) ((i+1:Nat):Int)) r):Ev (fun k=>spec_l12Read.l0 k (mkB l) n (i:Int)) r:=by
 refine ev_succ ?_
 have h1:(i:Int) < 12:=by omega
 have hb:=bt_mkB l i (by omega)
 rw [hc] at hb
 have h2:(0:Int)≤(i:Int):=by omega
 have h3:(i:Int) < ((mkB l).size:Int):=by rw [mkB_size];omega
 have hmin:spec_l1Min.f 3 (wrap64 (Int.tdiv (i:Int) 3))=some (j:Int):=by
  rw [show(3:Int)=((3:Nat):Int) from rfl,tdiv_nat,w64n (by omega),← hj]
  unfold spec_l1Min.f
  by_cases h:3 < i / 3
  ·rw [if_pos h,if_pos (by omega)]
  ·rw [if_neg h,if_neg (by omega)]
 have hjl:j < 4:=by rw [← hj];split <;> omega
 have h4:(0:Int)≤(j:Int):=by omega
 have h5:(j:Int) < ((n.length:Nat):Int):=by omega
 have key:Ev (fun k=>spec_l12Read.j1 k (mkB l) n (i:Int) false) r:=by
  refine ev_succ ?_
  simp only [spec_l12Read.j1,Bool.false_eq_true,if_false,h2,h3,if_true,hb]
  cases hd:dig c with
  | false =>
   rw [hno hd]
   rcases dig_not hd with h|h
   ·exact ev_pos (by omega) (ev_ret rfl)
   ·exact ev_neg (by omega) (ev_pos (by omega) (ev_ret rfl))
  | true =>
   obtain⟨h6,h7⟩:=dig_lt hd
   refine ev_neg (by omega) (ev_neg (by omega) ?_)
   simp only [hmin,Option.bind_some,h4,h5,if_true,hv,read_word h6 h7 (hle hd),w64s (n:=i) (by omega),Int.toNat_natCast]
   exact hyes hd
 simp only [spec_l12Read.l0,h1,if_true]
 by_cases h9:i < 9
 ·have h10:(i:Int) < 9:=by omega
  have h11:(Int.tmod (i:Int) 3 == 2)=false:=by
   rw [show(3:Int)=((3:Nat):Int) from rfl,tmod_nat]
   have:i % 3≠2:=fun e=>hs ⟨h9,e⟩
   rw [beq_eq_false_iff_ne]
   omega
  simp only [h10,if_true,h11]
  exact key
 ·have h10 : ¬ ((i:Int) < 9):=by omega
  simp only [h10,if_false]
  exact key
theorem read_words {A B C D : Nat} (hA : A ≤ 99) (hB : B ≤ 99) (hC : C ≤ 99) (hD : D ≤ 999) : wrap64 (wrap64 (wrap64 (wrap64 (wrap64 (wrap64 ((A : Int) * 60) + (B : Int)) * 60) + (C : Int)) * 1000) + (D : Int)) = ((((A * 60 + B) * 60 + C) * 1000 + D : Nat) : Int) := by
 have h:=val_words hA hB hC hD
 have e1:wrap64 (wrap64 (0*1)+(A:Int))=(A:Int):=by
  rw [w64 (x:=0*1) (by omega) (by omega),w64 (by omega) (by omega)]
  omega
 rw [e1] at h
 exact h
theorem val_le {A B C D : Nat} (hA : A ≤ 99) (hB : B ≤ 99) (hC : C ≤ 99) (hD : D ≤ 999) : ((A * 60 + B) * 60 + C) * 1000 + D < 1000000000 := by omega
theorem read_end (l : List UInt8) (A B C D : Nat) (hA : A ≤ 99) (hB : B ≤ 99) (hC : C ≤ 99) (hD : D ≤ 999) (h12 : l.length = 12) :
  Ev (fun k=>spec_l12Read.l0 k (mkB l) [(A:Int),(B:Int),(C:Int),(D:Int)] ((12:Nat):Int)) (((((A*60+B)*60+C)*1000+D:Nat):Int),decide (timeL (((A*60+B)*60+C)*1000+D)=l)):=by
 have hw:=read_words hA hB hC hD
 have hm:=val_le hA hB hC hD
 generalize ((A*60+B)*60+C)*1000+D=M at hw hm ⊢
 refine ev_succ ?_
 have r0:rd [(A:Int),(B:Int),(C:Int),(D:Int)] 0=(A:Int):=rfl
 have r1:rd [(A:Int),(B:Int),(C:Int),(D:Int)] 1=(B:Int):=rfl
 have r2:rd [(A:Int),(B:Int),(C:Int),(D:Int)] 2=(C:Int):=rfl
 have r3:rd [(A:Int),(B:Int),(C:Int),(D:Int)] 3=(D:Int):=rfl
 have hlen:(([(A:Int),(B:Int),(C:Int),(D:Int)]:List Int).length:Int)=4:=rfl
 have h0 : ¬ (((12:Nat):Int) < 12):=by decide
 simp only [spec_l12Read.l0,h0,if_false,hlen,r0,r1,r2,r3,hw]
 clear hw r0 r1 r2 r3
 refine ev_pos (by decide) (ev_pos (by decide) (ev_pos (by decide) (ev_pos (by decide) ?_)))
 refine ev_ite (fun h=>?_) (fun h=>?_)
 ·refine ev_bind (l12Time_ev M (Nat.lt_trans hm (by decide))) (ev_ret ?_)
  rw [mkB_toList,mkB_toList,beq_dec]
 ·refine ev_ret ?_
  have : ¬ (timeL M=l):=fun e=>h (by
   have:=timeL_bound (m:=M) (by rw [e];exact h12)
   omega)
  rw [decide_eq_false this]
theorem dv2 {a b : Nat} (ha : 48 ≤ a ∧ a ≤ 57) (hb : 48 ≤ b ∧ b ≤ 57) : (0 * 10 + (a - 48)) * 10 + (b - 48) ≤ 99 := by omega
theorem dv1 {a : Nat} (ha : 48 ≤ a ∧ a ≤ 57) : 0 * 10 + (a - 48) ≤ 99 := by omega
theorem dv3 {a b c : Nat} (ha : 48 ≤ a ∧ a ≤ 57) (hb : 48 ≤ b ∧ b ≤ 57) (hc : 48 ≤ c ∧ c ≤ 57) : ((0 * 10 + (a - 48)) * 10 + (b - 48)) * 10 + (c - 48) ≤ 999 := by omega
theorem l12Read_ev (l : List UInt8) : Ev (fun k => spec_l12Read.f k (mkB l)) (readL l) := by
 by_cases h12:l.length=12
 ·obtain⟨a,b,c,d,e,f,g,h,i,j,k,m,rfl⟩:=twelve h12
  have hz:((mkB [a,b,c,d,e,f,g,h,i,j,k,m]).size:Int)=12:=by rw [mkB_size];rfl
  simp only [spec_l12Read.f,hz,if_true]
  rw [readL_twelve]
  refine read_dig _ [0,0,0,0] 0 0 0 a _ h12 (by decide) (by decide) rfl rfl rfl rfl (fun _=>by decide) (fun q=>by simp [q]) (fun qa=>?_)
  have ba:=dig_lt qa
  refine read_dig _ _ 1 0 (0*10+(a.toNat - 48)) b _ h12 (by decide) (by decide) rfl rfl rfl rfl (fun _=>dv1 ba) (fun q=>by simp [q]) (fun qb=>?_)
  have bb:=dig_lt qb
  refine read_skip _ _ 2 _ (by decide) (by decide) ?_
  refine read_dig _ _ 3 1 0 d _ h12 (by decide) (by decide) rfl rfl rfl rfl (fun _=>by decide) (fun q=>by simp [q]) (fun qd=>?_)
  have bd:=dig_lt qd
  refine read_dig _ _ 4 1 (0*10+(d.toNat - 48)) e _ h12 (by decide) (by decide) rfl rfl rfl rfl (fun _=>dv1 bd) (fun q=>by simp [q]) (fun qe=>?_)
  have be:=dig_lt qe
  refine read_skip _ _ 5 _ (by decide) (by decide) ?_
  refine read_dig _ _ 6 2 0 g _ h12 (by decide) (by decide) rfl rfl rfl rfl (fun _=>by decide) (fun q=>by simp [q]) (fun qg=>?_)
  have bg:=dig_lt qg
  refine read_dig _ _ 7 2 (0*10+(g.toNat - 48)) h _ h12 (by decide) (by decide) rfl rfl rfl rfl (fun _=>dv1 bg) (fun q=>by simp [q]) (fun qh=>?_)
  have bh:=dig_lt qh
  refine read_skip _ _ 8 _ (by decide) (by decide) ?_
  refine read_dig _ _ 9 3 0 j _ h12 (by decide) (by decide) rfl rfl rfl rfl (fun _=>by decide) (fun q=>by simp [q]) (fun qj=>?_)
  have bj:=dig_lt qj
  refine read_dig _ _ 10 3 (0*10+(j.toNat - 48)) k _ h12 (by decide) (by decide) rfl rfl rfl rfl (fun _=>dv1 bj) (fun q=>by simp [q]) (fun qk=>?_)
  have bk:=dig_lt qk
  refine read_dig _ _ 11 3 ((0*10+(j.toNat - 48))*10+(k.toNat - 48)) m _ h12 (by decide) (by decide) rfl rfl rfl rfl (fun _=>dv2 bj bk) (fun q=>by simp [q]) (fun qm=>?_)
  have bm:=dig_lt qm
  have en:=read_end [a,b,c,d,e,f,g,h,i,j,k,m] ((0*10+(a.toNat - 48))*10+(b.toNat - 48)) ((0*10+(d.toNat - 48))*10+(e.toNat - 48)) ((0*10+(g.toNat - 48))*10+(h.toNat - 48)) (((0*10+(j.toNat - 48))*10+(k.toNat - 48))*10+(m.toNat - 48)) (dv2 ba bb) (dv2 bd be) (dv2 bg bh) (dv3 bj bk bm) h12
  refine ev_eq en ?_
  simp only [qa,qb,qd,qe,qg,qh,qj,qk,qm,Bool.and_self,if_true,val9_eq,Nat.zero_mul,Nat.zero_add]
 ·have hz : ¬ (((mkB l).size:Int)=12):=by rw [mkB_size];omega
  simp only [spec_l12Read.f,hz,if_false]
  rw [readL_short h12]
  exact ev_ret rfl


/-! #### texts -/
theorem byte_eq {c : UInt8} {n : Nat} (hn : n < 256) : ((c.toNat : Int) = (n : Int)) ↔ c = UInt8.ofNat n := by
 constructor
 ·intro h
  have h1:c.toNat=n:=by omega
  apply UInt8.toNat_inj.1
  rw [h1,UInt8.toNat_ofNat']
  omega
 ·intro h
  subst h
  rw [UInt8.toNat_ofNat']
  omega
theorem byte_ten {c : UInt8} : ((c.toNat : Int) = 10) ↔ c = 10 := byte_eq (n := 10) (by decide)
theorem byte_del {c : UInt8} : ((c.toNat : Int) = 127) ↔ c = 127 := byte_eq (n := 127) (by decide)
theorem byte_low {c : UInt8} : ((c.toNat : Int) < 32) ↔ c < 32 := by
 rw [UInt8.lt_iff_toNat_lt]
 have:(32:UInt8).toNat=32:=rfl
 omega
theorem text_l0 (l : List UInt8) (hl : l.length < 4611686018427387904) (h0 : l.head? ≠ some 10) : ∀ (d i : Nat), i + d = l.length → Ev (fun k => spec_l12Text.l0 k (mkB l) (l.length : Int) (i : Int)) (scan (if i = 0 then 0 else l.getD (i - 1) 0) (l.drop i)) := by
 intro d
 induction d with
 | zero =>
  intro i hi
  refine ev_succ ?_
  have h1 : ¬ ((i:Int) < (l.length:Int)):=by omega
  simp only [spec_l12Text.l0,h1,if_false]
  rw [drop_end (by omega)]
  exact ev_ret rfl
 | succ d ih =>
  intro i hi
  refine ev_succ ?_
  have h1:(i:Int) < (l.length:Int):=by omega
  have h2:(0:Int)≤(i:Int):=by omega
  have h3:(i:Int) < ((mkB l).size:Int):=by rw [mkB_size];omega
  have hb:=bt_mkB l i (by omega)
  have hn:=ih (i+1) (by omega)
  rw [if_neg (by omega),Nat.add_sub_cancel] at hn
  rw [drop_getD 0 l i (by omega),scan]
  simp only [spec_l12Text.l0,h1,h2,h3,if_true,hb,w64s (n:=i) (by omega)]
  generalize hcc:l.getD i 0=c at hb hn ⊢
  have hg:good c=true ↔ c=10∨(¬ (c < 32) ∧ ¬ (c=127)):=by unfold good;simp
  by_cases hc:c=10
  ·subst hc
   have hi0:i≠0:=by
    rintro rfl
    cases l with
    | nil => simp at hi
    | cons z l => exact h0 (by rw [← hcc]; rfl)
   obtain⟨j,rfl⟩:∃ j,i=j+1:=⟨i - 1,by omega⟩
   have hw:wrap64 (((j+1:Nat):Int) - 1)=(j:Int):=by rw [w64 (by omega) (by omega)];omega
   have hb2:=bt_mkB l j (by omega)
   have h4:(0:Int)≤(j:Int):=by omega
   have h5:(j:Int) < ((mkB l).size:Int):=by rw [mkB_size];omega
   refine ev_pos (byte_ten.2 rfl) ?_
   simp only [hw,hb2,h4,h5,if_true,Nat.succ_ne_zero,if_false,Nat.add_sub_cancel]
   refine ev_ite (fun e=>?_) (fun e=>?_)
   ·rw [if_pos (by first|exact⟨rfl,byte_ten.1 e⟩|exact⟨trivial,byte_ten.1 e⟩)]
    exact ev_ret rfl
   ·rw [if_neg (fun h=>e (byte_ten.2 h.2)),if_pos (by decide)]
    refine ev_neg (by decide) ?_
    exact hn
  ·refine ev_neg (fun e=>hc (byte_ten.1 e)) ?_
   rw [if_neg (fun h=>hc h.1)]
   refine ev_ite (fun e=>?_) (fun e=>?_)
   ·rw [if_neg (fun h=>by rcases hg.1 h with h|h;exact hc h;exact h.1 (byte_low.1 e))]
    exact ev_ret rfl
   ·refine ev_ite (fun e2=>?_) (fun e2=>?_)
    ·rw [if_neg (fun h=>by rcases hg.1 h with h|h;exact hc h;exact h.2 (byte_del.1 e2))]
     exact ev_ret rfl
    ·rw [if_pos (hg.2 (Or.inr ⟨fun h=>e (byte_low.2 h),fun h=>e2 (byte_del.2 h)⟩))]
     exact hn
theorem head_getD {l : List UInt8} (h : 1 ≤ l.length) : (l.head? = some 10) ↔ l.getD 0 0 = 10 := by
 cases l with
 | nil => simp at h
 | cons z l => simp
theorem last_getD {l : List UInt8} (h : 1 ≤ l.length) : (l.getLast? = some 10) ↔ l.getD (l.length - 1) 0 = 10 := by
 rw [List.getLast?_eq_getElem?,List.getD_eq_getElem?_getD,List.getElem?_eq_getElem (by omega)]
 simp
theorem okText_scan {l : List UInt8} (h1 : 1 ≤ l.length) (h2 : l.length ≤ 200) (h3 : l.head? ≠ some 10) (h4 : l.getLast? ≠ some 10) : okText l = scan 0 l := by
 rw [scan_eq]
 unfold okText
 have e3:(l.head? != some 10)=true:=by simpa using h3
 have e4:(l.getLast? != some 10)=true:=by simpa using h4
 rw [decide_eq_true h1,decide_eq_true h2,e3,e4]
 simp
theorem okText_no {l : List UInt8} (h : ¬ (1 ≤ l.length ∧ l.length ≤ 200 ∧ l.head? ≠ some 10 ∧ l.getLast? ≠ some 10)) : okText l = false := by
 cases hk:okText l with
 | false => rfl
 | true =>
  obtain⟨a,b,c,d,_⟩:=okText_parts hk
  exact absurd ⟨a,b,c,d⟩ h
theorem l12Text_ev (l : List UInt8) (hl : l.length < 4611686018427387904) : Ev (fun k => spec_l12Text.f k (mkB l)) (okText l) := by
 have hj:∀ x,x=true→Ev (fun k=>spec_l12Text.j0 k (mkB l) ((mkB l).size:Int) x) false:=fun x hx=>by
  subst hx
  refine ev_succ ?_
  simp only [spec_l12Text.j0,if_true]
  exact ev_ret rfl
 unfold spec_l12Text.f
 refine ev_ite (fun h=>?_) (fun h1=>?_)
 ·rw [mkB_size] at h
  rw [okText_no (fun e=>by omega)]
  exact hj true rfl
 rw [mkB_size] at h1
 refine ev_ite (fun h=>?_) (fun h2=>?_)
 ·rw [mkB_size] at h
  rw [okText_no (fun e=>by omega)]
  exact hj true rfl
 rw [mkB_size] at h2
 refine ev_pos (by rw [mkB_size];omega) ?_
 have hb0:=bt_mkB l 0 (by omega)
 have hb1:=bt_mkB l (l.length - 1) (by omega)
 have hw:wrap64 (((mkB l).size:Int) - 1)=((l.length - 1:Nat):Int):=by rw [mkB_size,w64 (by omega) (by omega)];omega
 have hd0:=head_getD (l:=l) (by omega)
 have hd1:=last_getD (l:=l) (by omega)
 rw [show((0:Nat):Int)=0 from rfl] at hb0
 simp only [hw,hb0,hb1]
 refine ev_ite (fun h=>?_) (fun h3=>?_)
 ·rw [okText_no (fun e=>e.2.2.1 (hd0.2 (byte_ten.1 h)))]
  exact hj true rfl
 refine ev_pos (by omega) (ev_pos (by rw [mkB_size];omega) ?_)
 by_cases h4:l.getLast? = some 10
 ·rw [okText_no (fun e=>e.2.2.2 h4)]
  refine hj _ ?_
  rw [beq_iff_eq]
  exact byte_ten.2 (hd1.1 h4)
 ·have hf:((((l.getD (l.length - 1) 0).toNat:Nat):Int) == 10)=false:=by
   rw [beq_eq_false_iff_ne]
   exact fun e=>h4 (hd1.2 (byte_ten.1 e))
  have h3':l.head? ≠ some 10:=fun e=>h3 (byte_ten.2 (hd0.1 e))
  rw [hf,okText_scan (by omega) (by omega) h3' h4,mkB_size]
  refine ev_succ ?_
  simp only [spec_l12Text.j0,Bool.false_eq_true,if_false]
  exact text_l0 l hl h3' l.length 0 (by omega)
theorem good_l0 (l : List UInt8) (hl : l.length < 4611686018427387904) : ∀ (d i : Nat), i + d = l.length → Ev (fun k => impl_textOk.l0 k (mkB l) (l.length : Int) (i : Int)) ((l.drop i).all good) := by
 intro d
 induction d with
 | zero =>
  intro i hi
  refine ev_succ ?_
  have h1 : ¬ ((i:Int) < (l.length:Int)):=by omega
  simp only [impl_textOk.l0,h1,if_false]
  rw [drop_end (by omega)]
  exact ev_ret rfl
 | succ d ih =>
  intro i hi
  refine ev_succ ?_
  have h1:(i:Int) < (l.length:Int):=by omega
  have h2:(0:Int)≤(i:Int):=by omega
  have h3:(i:Int) < ((mkB l).size:Int):=by rw [mkB_size];omega
  have hb:=bt_mkB l i (by omega)
  have hn:=ih (i+1) (by omega)
  rw [drop_getD 0 l i (by omega),List.all_cons]
  simp only [impl_textOk.l0,h1,h2,h3,if_true,hb,w64s (n:=i) (by omega)]
  generalize l.getD i 0=c at hb ⊢
  have hg:good c=true ↔ c=10∨(¬ (c < 32) ∧ ¬ (c=127)):=by unfold good;simp
  by_cases hc:c=10
  ·rw [hg.2 (Or.inl hc),Bool.true_and]
   exact ev_pos (byte_ten.2 hc) hn
  ·refine ev_neg (fun e=>hc (byte_ten.1 e)) ?_
   cases hgc:good c with
   | true =>
    rcases hg.1 hgc with h|h
    ·exact absurd h hc
    ·rw [Bool.true_and]
     exact ev_neg (fun e=>h.1 (byte_low.1 e)) (ev_neg (fun e=>h.2 (byte_del.1 e)) hn)
   | false =>
    rw [Bool.false_and]
    refine ev_ite (fun e=>ev_ret rfl) (fun e=>?_)
    refine ev_ite (fun e2=>ev_ret rfl) (fun e2=>?_)
    have:=hg.2 (Or.inr ⟨fun h=>e (byte_low.2 h),fun h=>e2 (byte_del.2 h)⟩)
    rw [hgc] at this
    cases this
theorem hasPrefix_ten (l : List UInt8) : strings_HasPrefix.f (mkB l) (⟨#[10]⟩ : ByteArray) = some (decide (l.head? = some 10)) := by
 have h1:(⟨#[10]⟩:ByteArray).size=1:=rfl
 have h2:(⟨#[10]⟩:ByteArray).toList = [10]:=mkB_toList [10]
 unfold strings_HasPrefix.f stringslite_HasPrefix.f
 rw [h1,h2,mkB_size]
 cases l with
 | nil => rfl
 | cons z l =>
  have h3:(((z :: l).length:Nat):Int) ≥ ((1:Nat):Int):=by simp only [List.length_cons];omega
  have h4:(0:Int)≤((1:Nat):Int):=by omega
  rw [if_pos h3,if_pos h4,if_pos h3,Option.bind_some]
  have h5:((1:Nat):Int).toNat=1:=rfl
  rw [h5,extract_mkB,mkB_toList]
  simp only [List.drop_zero,List.take_succ_cons,List.take_zero,List.head?_cons,Nat.sub_zero,beq_dec]
  congr 1
  by_cases hz:z=10 <;> simp [hz]
theorem hasSuffix_ten (l : List UInt8) (hl : l.length < 4611686018427387904) : strings_HasSuffix.f (mkB l) (⟨#[10]⟩ : ByteArray) = some (decide (l.getLast? = some 10)) := by
 have h1:(⟨#[10]⟩:ByteArray).size=1:=rfl
 have h2:(⟨#[10]⟩:ByteArray).toList = [10]:=mkB_toList [10]
 unfold strings_HasSuffix.f stringslite_HasSuffix.f
 rw [h1,h2,mkB_size]
 by_cases h0:l = []
 ·subst h0
  rfl
 ·have hp:1≤l.length:=List.length_pos_iff.2 h0
  have hw:wrap64 ((l.length:Int) - ((1:Nat):Int))=((l.length - 1:Nat):Int):=by rw [w64 (by omega) (by omega)];omega
  rw [hw,if_pos (by omega),if_pos (by omega),if_pos (by omega),Option.bind_some,Int.toNat_natCast,extract_mkB,mkB_toList]
  have hd:(l.drop (l.length - 1)).take (l.length - (l.length - 1)) = [l.getD (l.length - 1) 0]:=by
   rw [drop_getD 0 l (l.length - 1) (by omega),show l.length - (l.length - 1)=1 by omega]
   rfl
  rw [hd,beq_dec]
  congr 1
  have:=last_getD (l:=l) hp
  by_cases hz:l.getD (l.length - 1) 0=10
  ·rw [decide_eq_true (this.2 hz),hz];rfl
  ·rw [decide_eq_false (fun e=>hz (this.1 e))]
   simp only [List.cons.injEq,hz,false_and,decide_false]
theorem contains_two (l : List UInt8) (hl : l.length < 4294967281) : strings_Contains.f (mkB l) (⟨#[10, 10]⟩ : ByteArray) = some (cutG [10, 10] l).isSome := by
 unfold strings_Contains.f
 rw [if_pos (by rw [mkB_size];exact hl),← contains_cutG (by simp)]
 rfl
theorem textOk_ev (l : List UInt8) (hl : l.length < 4294967281) : Ev (fun k => impl_textOk.f k (mkB l)) (okText l) := by
 have hj:Ev (fun k=>impl_textOk.j0 k (mkB l) true) false:=by
  refine ev_succ ?_
  simp only [impl_textOk.j0,if_true]
  exact ev_ret rfl
 unfold impl_textOk.f impl_in.f
 rw [mkB_size,hasPrefix_ten,hasSuffix_ten l (by omega),contains_two l hl]
 simp only [Option.bind_some]
 by_cases h1:(1:Int)≤(l.length:Int)
 ·simp only [h1,if_true,Option.bind_some]
  refine ev_ifb (fun h2=>?_) (fun h2=>?_)
  ·have h2':(l.length:Int)≤200:=by simpa using h2
   refine ev_ifb (fun h3=>?_) (fun h3=>?_)
   ·rw [okText_no (fun e=>e.2.2.1 (by simpa using h3))]
    exact hj
   ·refine ev_ifb (fun h4=>?_) (fun h4=>?_)
    ·rw [okText_no (fun e=>e.2.2.2 (by simpa using h4))]
     exact hj
    ·have e3:l.head? ≠ some 10:=by simpa using h3
     have e4:l.getLast? ≠ some 10:=by simpa using h4
     rw [okText_scan (by omega) (by omega) e3 e4,scan_eq]
     have e0:((0:UInt8) != 10)=true:=by decide
     rw [e0,Bool.true_or,Bool.true_and]
     cases hc:cutG [10,10] l with
     | some x => exact hj
     | none =>
      refine ev_succ ?_
      simp only [impl_textOk.j0,Option.isSome_none,Bool.false_eq_true,if_false,Option.isNone_none,Bool.true_and]
      rw [mkB_size]
      exact good_l0 l (by omega) l.length 0 (by omega)
  ·have h2' : ¬ ((l.length:Int)≤200):=by simpa using h2
   rw [okText_no (fun e=>by omega)]
   exact hj
 ·simp only [h1,if_false,Option.bind_some,Bool.false_eq_true]
  rw [okText_no (fun e=>by omega)]
  exact hj


/-! #### lines -/
theorem line_l0 (l : List UInt8) (hl : l.length < 4611686018427387904) (at_ : Nat) : ∀ (d i : Nat), i + d = l.length → at_ ≤ i → Ev (fun k => spec_l12Line.l0 k (mkB l) (at_ : Int) (i : Int)) (match cutG [10] (l.drop i) with
  | some x => (mkB ((l.drop at_).take (i - at_) ++ x.1), ((l.length - x.2.length : Nat) : Int), true)
  | none => (mkB [], (at_ : Int), false)) := by
 intro d
 induction d with
 | zero =>
  intro i hi ha
  refine ev_succ ?_
  have h1 : ¬ ((i:Int) < ((mkB l).size:Int)):=by rw [mkB_size];omega
  simp only [spec_l12Line.l0,h1,if_false]
  rw [drop_end (by omega),line_nil]
  exact ev_ret rfl
 | succ d ih =>
  intro i hi ha
  refine ev_succ ?_
  have h1:(i:Int) < ((mkB l).size:Int):=by rw [mkB_size];omega
  have h2:(0:Int)≤(i:Int):=by omega
  have hb:=bt_mkB l i (by omega)
  have hd:=drop_getD 0 l i (by omega)
  simp only [spec_l12Line.l0,h1,h2,if_true,hb]
  generalize l.getD i 0=c at hb hd ⊢
  by_cases hc:c=10
  ·subst hc
   rw [hd,line_ten]
   refine ev_pos (byte_ten.2 rfl) ?_
   refine ev_pos (by omega) (ev_pos (by omega) (ev_pos (by omega) (ev_ret ?_)))
   rw [w64s (n:=i) (by omega),Int.toNat_natCast,Int.toNat_natCast,extract_mkB]
   simp only [List.append_nil,List.length_drop]
   have:l.length - (l.length - (i+1))=i+1:=by omega
   rw [this]
  ·refine ev_neg (fun e=>hc (byte_ten.1 e)) ?_
   rw [w64s (n:=i) (by omega)]
   refine ev_eq (ih (i+1) (by omega) (by omega)) ?_
   rw [hd,line_cons hc]
   cases cutG [10] (l.drop (i+1)) with
   | none => rfl
   | some x =>
    simp only [Option.map_some]
    congr 2
    have e1:i+1 - at_=(i - at_)+1:=by omega
    have e2:(l.drop at_).drop (i - at_)=c :: l.drop (i+1):=by
     rw [List.drop_drop,show at_+(i - at_)=i by omega]
     exact hd
    have e3:(l.drop at_).take (i - at_+1)=(l.drop at_).take (i - at_) ++ [c]:=by
     rw [List.take_add,e2]
     rfl
    rw [e1,e3]
    simp
theorem l12Line_ev (l : List UInt8) (hl : l.length < 4611686018427387904) (at_ : Nat) (ha : at_ ≤ l.length) : Ev (fun k => spec_l12Line.f k (mkB l) (at_ : Int)) (match cutG [10] (l.drop at_) with
  | some x => (mkB x.1, ((l.length - x.2.length : Nat) : Int), true)
  | none => (mkB [], (at_ : Int), false)) := by
 have:=line_l0 l hl at_ (l.length - at_) at_ (by omega) (Nat.le_refl _)
 unfold spec_l12Line.f
 refine ev_eq this ?_
 cases cutG [10] (l.drop at_) with
 | none => rfl
 | some x => simp


/-! #### titles as the program holds them -/
def sT (t : T3) : S40 := ⟨t.1, t.2.1, mkB t.2.2⟩
theorem last_f1 {out : List T3} (h : 0 < out.length) : lastTo out = some ((rd_T40 (out.map sT) ((out.length - 1 : Nat) : Int)).f1) := by
 unfold lastTo rd_T40
 rw [List.getLast?_eq_getElem?,Int.toNat_natCast,List.getD_eq_getElem?_getD,List.getElem?_map,List.getElem?_eq_getElem (by omega)]
 rfl
theorem itoa_some (n : Nat) (h : n ≤ 1000) : strconv_Itoa_26.f (wrap64 ((n : Int) + 1)) = some (mkB (decDigits (n + 1))) := by
 rw [w64s (by omega)]
 unfold strconv_Itoa_26.f
 rw [if_pos ⟨by omega,by omega⟩,itoa_nat]
 rfl


/-! #### one title, read by the program -/
def cutL (sep r : List UInt8) : List UInt8 × List UInt8 × Bool := match cutG sep r with | some x => (x.1, x.2, true) | none => (r, [], false)
theorem cut_some (sep r : List UInt8) (hs : sep ≠ []) (hr : r.length < 4294967281) : strings_Cut.f (mkB r) (mkB sep) = some (mkB (cutL sep r).1, mkB (cutL sep r).2.1, (cutL sep r).2.2) := by
 unfold strings_Cut.f
 rw [if_pos (by rw [mkB_size];exact hr)]
 have:cut (mkB r).data.toList (mkB sep).data.toList=cutL sep r:=by
  show cut r sep=_
  rw [cut_cutG hs]
  unfold cutL
  cases cutG sep r <;> rfl
 rw [this]
 rfl
theorem cutL_len (sep r : List UInt8) : (cutL sep r).1.length ≤ r.length ∧ (cutL sep r).2.1.length ≤ r.length := by
 unfold cutL
 cases h:cutG sep r with
 | none => simp
 | some x =>
  have:=cutG_split (a:=x.1) (b:=x.2) h
  simp only
  rw [this]
  simp only [List.length_append]
  omega
def resI (x : Int ⊕ (T3 × List UInt8)) : Int × Int × ByteArray × ByteArray × Int := match x with
 | .inl c => (0, 0, mkB [], mkB [], c)
 | .inr y => (y.1.1, y.1.2.1, mkB y.1.2.2, mkB y.2, 0)
theorem impl_j3 (out : List T3) (ho : out.length ≤ 200) (rest t : List UInt8) (x y : Int) (b : Bool) : Ev (fun k => impl_readTitle.j3 k (out.map sT) (mkB rest) b x y (mkB t)) (resI (if b then .inl 5 else if out.length = 200 then .inl 6 else .inr ((x, y, t), rest))) := by
 refine ev_succ ?_
 cases b with
 | true =>
  simp only [impl_readTitle.j3,if_true]
  exact ev_ret rfl
 | false =>
  simp only [impl_readTitle.j3,Bool.false_eq_true,if_false]
  rw [List.length_map]
  refine ev_ite (fun h=>?_) (fun h=>?_)
  ·rw [if_pos (by omega)]
   exact ev_ret rfl
  ·rw [if_neg (by omega)]
   exact ev_ret rfl
theorem impl_j2 (out : List T3) (ho : out.length ≤ 200) (body : List UInt8) (hb : body.length < 4294967281) (x y : Int) (b : Bool) : Ev (fun k => impl_readTitle.j2 k (out.map sT) (mkB (cutL [10, 10] body).2.1) (mkB body) b x y (mkB (cutL [10, 10] body).1)) (resI (if b then .inl 4 else bodyV out.length x y body)) := by
 refine ev_succ ?_
 cases b with
 | true =>
  simp only [impl_readTitle.j2,if_true]
  exact ev_ret rfl
 | false =>
  unfold bodyV
  simp only [impl_readTitle.j2,Bool.false_eq_true,if_false,contains_two body hb,Option.bind_some,hasPrefix_ten]
  have hlen:=(cutL_len [10,10] body).1
  cases hc:cutG [10,10] body with
  | none =>
   simp only [Option.isSome_none,Bool.false_eq_true,if_false]
   refine ev_eq (impl_j3 out ho _ _ x y true) ?_
   rw [if_pos rfl]
   by_cases hh:body.head? = some 10
   ·rw [if_pos hh]
   ·rw [if_neg hh]
  | some z =>
   have e:cutL [10,10] body=(z.1,z.2,true):=by unfold cutL;rw [hc]
   rw [e] at hlen ⊢
   simp only [Option.isSome_some,if_true]
   refine ev_ifb (fun h=>?_) (fun h=>?_)
   ·rw [if_pos (by simpa using h)]
    exact ev_eq (impl_j3 out ho _ _ x y true) rfl
   ·rw [if_neg (by simpa using h)]
    refine ev_bind (textOk_ev z.1 (Nat.lt_of_le_of_lt hlen hb)) ?_
    refine ev_eq (impl_j3 out ho _ _ x y (!okText z.1)) ?_
    cases okText z.1 <;> rfl
theorem impl_j1 (out : List T3) (ho : out.length ≤ 200) (body : List UInt8) (hb : body.length < 4294967281) (m n : Nat) (hm : m ≤ 359999999) (hn : n ≤ 359999999) : Ev (fun k => impl_readTitle.j1 k (out.map sT) (mkB (cutL [10, 10] body).2.1) (mkB body) false (m : Int) (n : Int) (mkB (cutL [10, 10] body).1)) (resI (if (m : Int) ≥ (n : Int) ∨ orderBad (lastTo out) (m : Int) = true then .inl 4 else bodyV out.length (m : Int) (n : Int) body)) := by
 refine ev_succ ?_
 simp only [impl_readTitle.j1,Bool.false_eq_true,if_false]
 unfold impl_Title_timesOk.f
 have h0:(0:Int)≤(m:Int):=by omega
 simp only [h0,if_true]
 by_cases hmn:(m:Int) < (n:Int)
 ·have h1:decide ((n:Int)≤359999999)=true:=by simp;omega
  simp only [hmn,if_true,h1,Option.bind_some]
  have h2 : ¬ ((m:Int) ≥ (n:Int)):=by omega
  simp only [h2,false_or]
  rw [List.length_map]
  refine ev_ite (fun h3=>?_) (fun h3=>?_)
  ·have hw:wrap64 ((out.length:Int) - 1)=((out.length - 1:Nat):Int):=by rw [w64 (by omega) (by omega)];omega
   rw [hw]
   refine ev_pos (by omega) (ev_pos (by omega) ?_)
   have hl:=last_f1 (out:=out) (by omega)
   refine ev_eq (impl_j2 out ho body hb m n _) ?_
   rw [hl]
   rfl
  ·have hl:out = []:=List.length_eq_zero_iff.1 (by omega)
   subst hl
   exact impl_j2 [] ho body hb m n false
 ·simp only [hmn,if_false,Option.bind_some,Bool.false_eq_true]
  have h2:(m:Int) ≥ (n:Int):=by omega
  simp only [h2,true_or,if_true]
  exact impl_j2 out ho body hb m n true
theorem impl_j1t (out : List T3) (z b t : ByteArray) (x y : Int) : Ev (fun k => impl_readTitle.j1 k (out.map sT) z b true x y t) (resI (.inl 3)) := by
 refine ev_succ ?_
 simp only [impl_readTitle.j1,if_true]
 exact ev_ret rfl
theorem impl_readTitle_ev (out : List T3) (r : List UInt8) (hr : r.length ≤ 40000) (ho : out.length ≤ 200) : Ev (fun k => impl_readTitle.f k (out.map sT) (mkB r)) (resI (stepV out.length (lastTo out) r)) := by
 have l1:=cutL_len [10] r
 have l2:=cutL_len [10] (cutL [10] r).2.1
 have l3:=cutL_len arrowL (cutL [10] (cutL [10] r).2.1).1
 simp only [impl_readTitle.f]
 refine ev_some (cut_some [10] r (by simp) (by omega)) ?_
 refine ev_some (cut_some [10] (cutL [10] r).2.1 (by simp) (by omega)) ?_
 refine ev_some (cut_some arrowL (cutL [10] (cutL [10] r).2.1).1 (by simp [arrowL]) (by omega)) ?_
 refine ev_bind (milliOf_ev _) ?_
 refine ev_bind (milliOf_ev _) ?_
 refine ev_some (cut_some [10,10] (cutL [10] (cutL [10] r).2.1).2.1 (by simp) (by omega)) ?_
 rw [List.length_map,itoa_some out.length (by omega)]
 simp only [Option.bind_some]
 unfold stepV
 cases h1:cutG [10] r with
 | none =>
  have e:cutL [10] r=(r,[],false):=by unfold cutL;rw [h1]
  simp only [e,Bool.false_eq_true,if_false]
  refine ev_succ ?_
  simp only [impl_readTitle.j0,if_true]
  exact ev_ret rfl
 | some y =>
  obtain⟨first,r1⟩:=y
  have e:cutL [10] r=(first,r1,true):=by unfold cutL;rw [h1]
  rw [e] at l1 l2 l3
  simp only [e,if_true]
  refine ev_succ ?_
  rw [mkB_toList,mkB_toList]
  simp only [impl_readTitle.j0]
  by_cases hf:first=decDigits (out.length+1)
  ·have hf2:(first != decDigits (out.length+1))=false:=by simpa using hf
   simp only [hf2,Bool.false_eq_true,if_false]
   rw [if_pos hf]
   cases h2:cutG [10] r1 with
   | none =>
    have e2:cutL [10] r1=(r1,[],false):=by unfold cutL;rw [h2]
    simp only [e2,Bool.false_eq_true,if_false]
    exact impl_j1t out _ _ _ _ _
   | some y2 =>
    obtain⟨second,body⟩:=y2
    have e2:cutL [10] r1=(second,body,true):=by unfold cutL;rw [h2]
    simp only at l2 l3
    rw [e2] at l2 l3
    simp only [e2,if_true]
    rw [times_cut]
    cases h3:cutG arrowL second with
    | none =>
     have e3:cutL arrowL second=(second,[],false):=by unfold cutL;rw [h3]
     have e4:readL []=(0,false):=rfl
     simp only [e3,e4,Bool.not_false]
     refine ev_ite (fun _=>?_) (fun _=>?_)
     ·exact impl_j1t out _ _ _ _ _
     ·exact impl_j1t out _ _ _ _ _
    | some y3 =>
     obtain⟨a,b⟩:=y3
     have e3:cutL arrowL second=(a,b,true):=by unfold cutL;rw [h3]
     simp only [e3]
     cases ha:(readL a).2 with
     | false =>
      simp only [Bool.false_eq_true,if_false,false_and]
      exact impl_j1t out _ _ _ _ _
     | true =>
      cases hb:(readL b).2 with
      | false =>
       simp only [Bool.false_eq_true,if_false,and_false,if_true,Bool.not_false]
       exact impl_j1t out _ _ _ _ _
      | true =>
       obtain⟨m,ea,_,_,hm⟩:=readL_snd ha
       obtain⟨n,eb,_,_,hn⟩:=readL_snd hb
       simp only [if_true,and_self,Bool.not_true,ea,eb]
       exact impl_j1 out ho body (by simp only at l1 l2;omega) m n hm hn
  ·have hf2:(first != decDigits (out.length+1))=true:=by simpa using hf
   simp only [hf2,if_true]
   rw [if_neg hf]
   exact ev_ret rfl
theorem impl_loop : ∀ (f : Nat) (out : List T3) (r : List UInt8), r.length < f → r.length ≤ 40000 → out.length ≤ 200 → Ev (fun k => impl_ReadTitles.l0 k (mkB r) (out.map sT)) ((readV f out r).1.map sT, (readV f out r).2.1, (readV f out r).2.2)
 | 0, _, _, h, _, _ => by omega
 | f + 1, out, r, h, hr, ho => by
  refine ev_succ ?_
  simp only [impl_ReadTitles.l0,mkB_toList]
  by_cases h0:r = []
  ·subst h0
   rw [readV_nil]
   exact ev_pos rfl (ev_ret rfl)
  ·simp only [h0,if_false]
   refine ev_bind (impl_readTitle_ev out r hr ho) ?_
   cases hs:stepV out.length (lastTo out) r with
   | inl c =>
    have hc:=step_code hs
    rw [readV_inl h0 hs]
    simp only [resI,hc,if_false]
    rw [List.length_map]
    exact ev_ret rfl
   | inr y =>
    obtain⟨t,rest⟩:=y
    obtain⟨hrr,_,hn⟩:=step_some hs
    have hp:=List.length_pos_iff.2 (block_pos out.length t)
    have hlen:rest.length < r.length:=by rw [hrr,List.length_append];omega
    rw [readV_inr h0 hs]
    simp only [resI,if_true]
    rw [List.length_map]
    refine ev_pos (by omega) ?_
    have:=impl_loop f (out ++ [t]) rest (by omega) (by omega) (by simp;omega)
    rw [List.map_append] at this
    exact this
theorem impl_ReadTitles_ev (r : List UInt8) (hr : r.length ≤ 40000) : Ev (fun k => impl_ReadTitles.f k (mkB r)) ((readV (r.length + 1) [] r).1.map sT, (readV (r.length + 1) [] r).2.1, (readV (r.length + 1) [] r).2.2) := by
 unfold impl_ReadTitles.f
 refine ev_neg (by rw [mkB_size];omega) ?_
 exact impl_loop (r.length+1) [] r (by omega) hr (by simp)


/-! #### one title, read by the reference -/
theorem spec_j6_no (l : List UInt8) (out : List S40) (x5 x6 x9 x14 c no x y : Int) (z : ByteArray) : Ev (fun k => spec_ReadTitles.j6 k (mkB l) out x5 x6 x9 x14 true c no x y z) ([], c, no) := by
 refine ev_succ ?_
 simp only [spec_ReadTitles.j6,if_true]
 exact ev_ret rfl
theorem spec_l1 (l : List UInt8) (hl : l.length ≤ 40000) (out : List S40) (no x y : Int) (z : ByteArray) (from_ : Nat) (R : List S40 × Int × Int) : ∀ (f nx : Nat), (l.drop nx).length < f → from_ ≤ nx → nx ≤ l.length →
  (match para f (l.drop nx) with
   | none => R = ([], 5, no)
   | some t => Ev (fun k => if ((nx + t.1.length : Nat) : Int) = (from_ : Int) then spec_ReadTitles.j6 k (mkB l) out ((l.length - t.2.length : Nat) : Int) no ((nx + t.1.length : Nat) : Int) (from_ : Int) true 5 no x y z
     else (if 0≤(from_:Int) then (if (from_:Int)≤wrap64 (((nx+t.1.length:Nat):Int) - 1) then (if wrap64 (((nx+t.1.length:Nat):Int) - 1)≤((mkB l).size:Int) then ((spec_l12Text.f k ((mkB l).extract (from_:Int).toNat (wrap64 (((nx+t.1.length:Nat):Int) - 1):Int).toNat)).bind fun t168=>spec_ReadTitles.j6 k (mkB l) out ((l.length - t.2.length:Nat):Int) no ((nx+t.1.length:Nat):Int) (from_:Int) (!t168) 5 no x y z) else none) else none) else none)) R) →
  Ev (fun k=>spec_ReadTitles.l1 k (mkB l) out no (nx:Int) (from_:Int) 5 no x y z) R
 | 0, nx, h, _, _, _ => by omega
 | f + 1, nx, h, h1, h2, hR => by
  refine ev_succ ?_
  simp only [spec_ReadTitles.l1]
  refine ev_bind (l12Line_ev l (by omega) nx h2) ?_
  unfold para at hR
  cases hc:cutG [10] (l.drop nx) with
  | none =>
   rw [hc] at hR
   simp only at hR ⊢
   subst hR
   simp only [Bool.false_eq_true,if_false]
   exact ev_ret rfl
  | some v =>
   obtain⟨a,b⟩:=v
   rw [hc] at hR
   obtain⟨hs,hn⟩:=line_some hc
   have hlen:(l.drop nx).length=a.length+1+b.length:=by rw [hs];simp;omega
   rw [List.length_drop] at hlen
   simp only [if_true,mkB_toList]
   by_cases ha:a = []
   ·subst ha
    simp only [if_true,List.length_nil,Nat.add_zero] at hR ⊢
    exact hR
   ·simp only [ha,if_false] at hR ⊢
    have hb:l.drop (l.length - b.length)=b:=by
     have e:l.length - b.length=nx+(a.length+1):=by omega
     rw [e,← List.drop_drop,hs,← List.singleton_append,← List.append_assoc]
     have e2:(a ++ [10]).length=a.length+1:=by simp
     rw [List.drop_append_of_le_length (by omega),List.drop_of_length_le (by omega),List.nil_append]
    refine spec_l1 l hl out no x y z from_ R f (l.length - b.length) (by rw [List.length_drop] at h ⊢;omega) (by omega) (by omega) ?_
    rw [hb]
    cases hp:para f b with
    | none => rw [hp] at hR; exact hR
    | some t =>
     rw [hp] at hR
     simp only [Option.map_some,List.length_append,List.length_cons] at hR ⊢
     have e:nx+(a.length+(t.1.length+1))=l.length - b.length+t.1.length:=by omega
     rw [e] at hR
     exact hR
theorem spec_j4 (l : List UInt8) (hl : l.length ≤ 40000) (out : List T3) (ho : out.length ≤ 200) (x y : Int) (from_ : Nat) (hf : from_ ≤ l.length) (c0 : Int) (b : Bool) (R : List S40 × Int × Int)
  (hb:b=true→R=([],c0,(out.length:Int)))
  (hR:b=false→match bodyV out.length x y (l.drop from_) with
   | .inl c => R = ([], c, (out.length : Int))
   | .inr w => Ev (fun k => spec_ReadTitles.l0 k (mkB l) ((out ++ [w.1]).map sT) ((l.length - w.2.length : Nat) : Int)) R) :
  Ev (fun k=>spec_ReadTitles.j4 k (mkB l) (out.map sT) (out.length:Int) (from_:Int) b c0 (out.length:Int) x y (mkB [])) R:=by
 refine ev_succ ?_
 cases b with
 | true =>
  simp only [spec_ReadTitles.j4,if_true]
  rw [hb rfl]
  exact ev_ret rfl
 | false =>
  have hR:=hR rfl
  unfold bodyV at hR
  simp only [spec_ReadTitles.j4,Bool.false_eq_true,if_false]
  refine spec_l1 l hl (out.map sT) (out.length:Int) x y (mkB []) from_ R (l.length+1) from_ (by rw [List.length_drop];omega) (Nat.le_refl _) hf ?_
  by_cases hh:(l.drop from_).head? = some 10
  ·rw [if_pos hh] at hR
   simp only at hR
   obtain⟨w,hw⟩:∃ w,l.drop from_=10 :: w:=by
    cases hd:l.drop from_ with
    | nil => rw [hd] at hh; cases hh
    | cons z w => rw [hd] at hh; exact ⟨w, by rw [show z = 10 by simpa using hh]⟩
   rw [hw,para_ten]
   simp only [List.length_nil,Nat.add_zero,if_true]
   rw [hR]
   exact spec_j6_no _ _ _ _ _ _ _ _ _ _ _
  ·rw [if_neg hh] at hR
   rw [para_two (l.length+1) _ (by rw [List.length_drop];omega) hh]
   cases hc:cutG [10,10] (l.drop from_) with
   | none =>
    rw [hc] at hR
    exact hR
   | some v =>
    obtain⟨t,rest⟩:=v
    rw [hc] at hR
    have hs:=cutG_split hc
    have hlen:(l.drop from_).length=t.length+2+rest.length:=by rw [hs];simp;omega
    rw [List.length_drop] at hlen
    simp only [Option.map_some,List.length_append,List.length_singleton] at hR ⊢
    have hw:wrap64 (((from_+(t.length+1):Nat):Int) - 1)=((from_+t.length:Nat):Int):=by rw [w64 (by omega) (by omega)];omega
    refine ev_neg (by omega) (ev_pos (by omega) ?_)
    rw [hw]
    refine ev_pos (by omega) (ev_pos (by rw [mkB_size];omega) ?_)
    rw [Int.toNat_natCast,Int.toNat_natCast,extract_mkB]
    have ht:(l.drop from_).take (from_+t.length - from_)=t:=by
     rw [show from_+t.length - from_=t.length by omega,hs,List.append_assoc,List.take_append_of_le_length (Nat.le_refl _),List.take_length]
    rw [ht]
    refine ev_bind (l12Text_ev t (by omega)) ?_
    cases hk:okText t with
    | false =>
     rw [hk] at hR
     simp only [Bool.false_eq_true,if_false] at hR
     rw [hR]
     exact spec_j6_no _ _ _ _ _ _ _ _ _ _ _
    | true =>
     rw [hk] at hR
     simp only [if_true] at hR
     refine ev_succ ?_
     simp only [spec_ReadTitles.j6,Bool.not_true,Bool.false_eq_true,if_false,hw]
     refine ev_pos (by omega) (ev_pos (by omega) (ev_pos (by rw [mkB_size];omega) ?_))
     refine ev_ite (fun h=>?_) (fun h=>?_)
     ·rw [if_pos (by omega)] at hR
      simp only at hR
      rw [hR]
      exact ev_ret rfl
     ·rw [if_neg (by omega)] at hR
      simp only at hR
      rw [List.length_map]
      refine ev_pos (by omega) ?_
      rw [Int.toNat_natCast,Int.toNat_natCast,extract_mkB,ht]
      rw [List.map_append] at hR
      exact hR
theorem spec_round (l : List UInt8) (hl : l.length ≤ 40000) (out : List T3) (ho : out.length ≤ 200) (at_ : Nat) (ha : at_ < l.length) (R : List S40 × Int × Int)
  (hR:match stepV out.length (lastTo out) (l.drop at_) with
   | .inl c => R = ([], c, (out.length : Int))
   | .inr w => Ev (fun k => spec_ReadTitles.l0 k (mkB l) ((out ++ [w.1]).map sT) ((l.length - w.2.length : Nat) : Int)) R) :
  Ev (fun k=>spec_ReadTitles.l0 k (mkB l) (out.map sT) (at_:Int)) R:=by
 refine ev_succ ?_
 have h1:(at_:Int) < ((mkB l).size:Int):=by rw [mkB_size];omega
 simp only [spec_ReadTitles.l0,h1,if_true]
 rw [List.length_map]
 refine ev_bind (l12Line_ev l (by omega) at_ (by omega)) ?_
 unfold stepV at hR
 have fault2:∀ x9:Int,Ev (fun k=>spec_ReadTitles.j1 k (mkB l) (out.map sT) (out.length:Int) x9 true 0 (out.length:Int)) ([],2,(out.length:Int)):=fun x9=>by
  refine ev_succ ?_
  simp only [spec_ReadTitles.j1,if_true]
  exact ev_ret rfl
 have fault3:∀ (x8:ByteArray) (x9:Int),Ev (fun k=>spec_ReadTitles.j2 k (mkB l) (out.map sT) (out.length:Int) x8 x9 true 3 (out.length:Int)) ([],3,(out.length:Int)):=fun x8 x9=>by
  refine ev_succ ?_
  simp only [spec_ReadTitles.j2,if_true]
  exact ev_ret rfl
 cases hc1:cutG [10] (l.drop at_) with
 | none =>
  rw [hc1] at hR
  simp only at hR
  simp only [Bool.false_eq_true,if_false]
  rw [hR]
  exact fault2 _
 | some v1 =>
  obtain⟨first,r1⟩:=v1
  rw [hc1] at hR
  simp only at hR
  have hs1:=(line_some hc1).1
  have hlen1:(l.drop at_).length=first.length+1+r1.length:=by rw [hs1];simp;omega
  rw [List.length_drop] at hlen1
  have hd1:l.drop (l.length - r1.length)=r1:=by
   have e:l.length - r1.length=at_+(first.length+1):=by omega
   rw [e,← List.drop_drop,hs1,← List.singleton_append,← List.append_assoc]
   have e2:(first ++ [10]).length=first.length+1:=by simp
   rw [List.drop_append_of_le_length (by omega),List.drop_of_length_le (by omega),List.nil_append]
  simp only [if_true]
  refine ev_bind (by rw [w64s (n:=out.length) (by omega)];exact l1Int_ev (out.length+1) (by omega)) ?_
  rw [mkB_toList,mkB_toList]
  by_cases hf:first=decDigits (out.length+1)
  ·have hf2:(first != decDigits (out.length+1))=false:=by simpa using hf
   rw [hf2]
   rw [if_pos hf] at hR
   refine ev_succ ?_
   simp only [spec_ReadTitles.j1,Bool.false_eq_true,if_false]
   refine ev_bind (l12Line_ev l (by omega) (l.length - r1.length) (by omega)) ?_
   rw [hd1]
   cases hc2:cutG [10] r1 with
   | none =>
    rw [hc2] at hR
    simp only at hR
    simp only [Bool.false_eq_true,if_false]
    rw [hR]
    exact fault3 _ _
   | some v2 =>
    obtain⟨second,body⟩:=v2
    rw [hc2] at hR
    simp only at hR
    have hs2:=(line_some hc2).1
    have hlen2:r1.length=second.length+1+body.length:=by rw [hs2];simp;omega
    have hd2:l.drop (l.length - body.length)=body:=by
     have e:l.length - body.length=(l.length - r1.length)+(second.length+1):=by omega
     rw [e,← List.drop_drop,hd1,hs2,← List.singleton_append,← List.append_assoc]
     have e2:(second ++ [10]).length=second.length+1:=by simp
     rw [List.drop_append_of_le_length (by omega),List.drop_of_length_le (by omega),List.nil_append]
    simp only [if_true]
    rw [mkB_size]
    unfold times at hR
    by_cases h29:second.length=29
    ·refine ev_pos (by omega) (ev_pos (by omega) (ev_pos (by omega) ?_))
     rw [extract_mkB,mkB_toList]
     have e17:(second.drop 12).take (17 - 12)=(second.drop 12).take 5:=rfl
     rw [e17]
     by_cases harr:(second.drop 12).take 5=arrowL
     ·have harr2:((second.drop 12).take 5 != ([32,45,45,62,32]:List UInt8))=false:=by
       rw [bne_eq_false_iff_eq]
       exact harr
      rw [harr2]
      refine ev_succ ?_
      simp only [spec_ReadTitles.j2,Bool.false_eq_true,if_false]
      refine ev_pos (by omega) (ev_pos (by rw [mkB_size];omega) ?_)
      have x1:(mkB second).extract 0 12=mkB (second.take 12):=by rw [extract_mkB];rfl
      have x2:(mkB second).extract 17 (mkB second).size=mkB (second.drop 17):=by
       rw [extract_mkB,mkB_size,List.take_of_length_le (by rw [List.length_drop];omega)]
      rw [x1]
      refine ev_bind (l12Read_ev _) (ev_pos (by rw [mkB_size];omega) ?_)
      rw [x2]
      refine ev_bind (l12Read_ev _) ?_
      have hj3:∀ x y:Int,Ev (fun k=>spec_ReadTitles.j3 k (mkB l) (out.map sT) (out.length:Int) ((l.length - body.length:Nat):Int) true 3 (out.length:Int) x y (⟨#[]⟩:ByteArray)) ([],3,(out.length:Int)):=fun x y=>by
       refine ev_succ ?_
       simp only [spec_ReadTitles.j3,if_true]
       exact ev_ret rfl
      cases ha:(readL (second.take 12)).2 with
      | false =>
       rw [if_neg (by rw [ha];simp)] at hR
       simp only at hR
       rw [hR]
       simp only [Bool.false_eq_true,if_false]
       exact hj3 _ _
      | true =>
       simp only [if_true]
       cases hb:(readL (second.drop 17)).2 with
       | false =>
        rw [if_neg (by rw [hb];simp)] at hR
        simp only at hR
        rw [hR]
        exact hj3 _ _
       | true =>
        rw [if_pos ⟨h29,harr,ha,hb⟩] at hR
        simp only at hR
        simp only [Bool.not_true]
        generalize (readL (second.take 12)).1=x at hR ⊢
        generalize (readL (second.drop 17)).1=y at hR ⊢
        refine ev_succ ?_
        simp only [spec_ReadTitles.j3,Bool.false_eq_true,if_false]
        refine ev_ite (fun hxy=>?_) (fun hxy=>?_)
        ·rw [if_pos (Or.inl hxy)] at hR
         exact spec_j4 l hl out ho x y (l.length - body.length) (by omega) 4 true R (fun _=>hR) (fun h=>by cases h)
        ·refine ev_ite (fun h0=>?_) (fun h0=>?_)
         ·have hw:wrap64 ((out.length:Int) - 1)=((out.length - 1:Nat):Int):=by rw [w64 (by omega) (by omega)];omega
          rw [hw,List.length_map]
          refine ev_pos (by omega) (ev_pos (by omega) ?_)
          have hl1:=last_f1 (out:=out) (by omega)
          refine spec_j4 l hl out ho x y (l.length - body.length) (by omega) 4 _ R (fun h=>?_) (fun h=>?_)
          ·rw [if_pos (Or.inr (by rw [hl1];exact h))] at hR
           exact hR
          ·rw [if_neg (by rw [hl1];rintro(h2|h2);exact hxy h2;rw [show orderBad (some _) x=false from h] at h2;cases h2)] at hR
           rw [hd2]
           exact hR
         ·have ho0:out = []:=List.length_eq_zero_iff.1 (by omega)
          subst ho0
          refine spec_j4 l hl [] ho x y (l.length - body.length) (by omega) 4 false R (fun h=>by cases h) (fun _=>?_)
          rw [if_neg (by rintro(h2|h2);exact hxy h2;cases h2)] at hR
          rw [hd2]
          exact hR
     ·have harr2:((second.drop 12).take 5 != ([32,45,45,62,32]:List UInt8))=true:=by
       rw [bne_iff_ne]
       exact harr
      rw [harr2]
      rw [if_neg (fun h=>harr h.2.1)] at hR
      simp only at hR
      rw [hR]
      exact fault3 _ _
    ·refine ev_neg (by omega) ?_
     rw [if_neg (fun h=>h29 h.1)] at hR
     simp only at hR
     rw [hR]
     exact fault3 _ _
  ·have hf2:(first != decDigits (out.length+1))=true:=by simpa using hf
   rw [hf2]
   rw [if_neg hf] at hR
   simp only at hR
   rw [hR]
   exact fault2 _
theorem spec_loop (l : List UInt8) (hl : l.length ≤ 40000) : ∀ (f : Nat) (out : List T3) (at_ : Nat), (l.drop at_).length < f → at_ ≤ l.length → out.length ≤ 200 → Ev (fun k => spec_ReadTitles.l0 k (mkB l) (out.map sT) (at_ : Int)) ((readV f out (l.drop at_)).1.map sT, (readV f out (l.drop at_)).2.1, (readV f out (l.drop at_)).2.2)
 | 0, _, _, h, _, _ => by omega
 | f + 1, out, at_, h, ha, ho => by
  by_cases h0:at_=l.length
  ·subst h0
   rw [drop_end (Nat.le_refl _),readV_nil]
   refine ev_succ ?_
   have h1 : ¬ (((l.length:Nat):Int) < ((mkB l).size:Int)):=by rw [mkB_size];omega
   simp only [spec_ReadTitles.l0,h1,if_false]
   exact ev_ret rfl
  ·have hne:l.drop at_ ≠ []:=fun e=>by
    have:=congrArg List.length e
    rw [List.length_drop] at this
    simp at this
    omega
   refine spec_round l hl out ho at_ (by omega) _ ?_
   cases hs:stepV out.length (lastTo out) (l.drop at_) with
   | inl c =>
    simp only
    rw [readV_inl hne hs]
    rfl
   | inr w =>
    obtain⟨t,rest⟩:=w
    obtain⟨hrr,_,hn⟩:=step_some hs
    have hp:=List.length_pos_iff.2 (block_pos out.length t)
    have hlen:(l.drop at_).length=(block out.length t).length+rest.length:=by rw [hrr,List.length_append]
    rw [readV_inr hne hs]
    have hd:l.drop (l.length - rest.length)=rest:=by
     have hl2:=hlen
     rw [List.length_drop] at hl2
     have e:l.length - rest.length=at_+(block out.length t).length:=by omega
     rw [e,← List.drop_drop,hrr,List.drop_append_of_le_length (Nat.le_refl _),List.drop_length,List.nil_append]
    have:=spec_loop l hl f (out ++ [t]) (l.length - rest.length) (by rw [hd];omega) (by omega) (by simp;omega)
    rw [hd] at this
    exact this
theorem spec_ReadTitles_ev (r : List UInt8) (hr : r.length ≤ 40000) : Ev (fun k => spec_ReadTitles.f k (mkB r)) ((readV (r.length + 1) [] r).1.map sT, (readV (r.length + 1) [] r).2.1, (readV (r.length + 1) [] r).2.2) := by
 unfold spec_ReadTitles.f
 refine ev_neg (by rw [mkB_size];omega) ?_
 exact spec_loop r hr (r.length+1) [] 0 (by simp) (by omega) (by simp)


/-! #### titles read, of whatever text -/
def RV (r : List UInt8) : List S40 × Int × Int := if r.length ≤ 40000 then ((readV (r.length + 1) [] r).1.map sT, (readV (r.length + 1) [] r).2.1, (readV (r.length + 1) [] r).2.2) else ([], 1, 0)
theorem RV_len (r : List UInt8) : (RV r).1.length ≤ 200 := by
 unfold RV
 split
 ·simp only [List.length_map]
  exact readV_len _ _ _ (by simp)
 ·simp
theorem impl_RV (r : List UInt8) : Ev (fun k => impl_ReadTitles.f k (mkB r)) (RV r) := by
 unfold RV
 split
 ·rename_i h
  exact impl_ReadTitles_ev r h
 ·rename_i h
  unfold impl_ReadTitles.f
  exact ev_pos (by rw [mkB_size];omega) (ev_ret rfl)
theorem spec_RV (r : List UInt8) : Ev (fun k => spec_ReadTitles.f k (mkB r)) (RV r) := by
 unfold RV
 split
 ·rename_i h
  exact spec_ReadTitles_ev r h
 ·rename_i h
  unfold spec_ReadTitles.f
  exact ev_pos (by rw [mkB_size];omega) (ev_ret rfl)


/-! #### titles shown -/
def tS (s : S40) : T3 := (s.f0, s.f1, bL s.f2)
theorem sT_tS (xs : List S40) : (xs.map tS).map sT = xs := by
 rw [List.map_map]
 exact List.map_id'' (fun s=>rfl) xs
theorem rd_sT (ts : List T3) (i : Nat) (h : i < ts.length) : rd_T40 (ts.map sT) (i : Int) = sT ts[i] := by
 unfold rd_T40
 rw [Int.toNat_natCast,List.getD_eq_getElem?_getD,List.getElem?_map,List.getElem?_eq_getElem h]
 rfl
def prevOf (ts : List T3) (i : Nat) : Option Int := if i = 0 then none else (ts[i - 1]?).map fun t => t.2.1
theorem prevOf_succ (ts : List T3) (i : Nat) (h : i < ts.length) : prevOf ts (i + 1) = some (ts[i]).2.1 := by
 unfold prevOf
 rw [if_neg (by omega),Nat.add_sub_cancel,List.getElem?_eq_getElem h]
 rfl
theorem prevOf_rd (ts : List T3) (i : Nat) (h0 : i ≠ 0) (h : i < ts.length) : prevOf ts i = some ((rd_T40 (ts.map sT) ((i - 1 : Nat) : Int)).f1) := by
 unfold prevOf
 rw [if_neg h0,List.getElem?_eq_getElem (by omega),rd_sT ts (i - 1) (by omega)]
 rfl
theorem titleOk_no {p : Option Int} {t : T3} (h : ¬ (0 ≤ t.1 ∧ t.1 < t.2.1 ∧ t.2.1 ≤ 359999999 ∧ okText t.2.2 = true ∧ orderBad p t.1 = false)) : titleOk p t = false := by
 cases hk:titleOk p t with
 | false => rfl
 | true =>
  unfold titleOk at hk
  simp only [Bool.and_eq_true,decide_eq_true_eq,Bool.not_eq_true'] at hk
  exact absurd ⟨hk.1.1.1.1,hk.1.1.1.2,hk.1.1.2,hk.1.2,hk.2⟩ h
theorem titleOk_yes {p : Option Int} {t : T3} (h1 : 0 ≤ t.1) (h2 : t.1 < t.2.1) (h3 : t.2.1 ≤ 359999999) (h4 : okText t.2.2 = true) (h5 : orderBad p t.1 = false) : titleOk p t = true := by
 unfold titleOk
 simp only [Bool.and_eq_true,decide_eq_true_eq,Bool.not_eq_true']
 exact⟨⟨⟨⟨h1,h2⟩,h3⟩,h4⟩,h5⟩
theorem titleOk_get {p : Option Int} {t : T3} (hk : titleOk p t = true) : 0 ≤ t.1 ∧ t.1 < t.2.1 ∧ t.2.1 ≤ 359999999 ∧ okText t.2.2 = true := by
 unfold titleOk at hk
 simp only [Bool.and_eq_true,decide_eq_true_eq,Bool.not_eq_true'] at hk
 exact⟨hk.1.1.1.1,hk.1.1.1.2,hk.1.1.2,hk.1.2⟩
theorem spec_ok_l0 (ts : List T3) (hl : ts.length ≤ 1048576) (hx : ∀ t ∈ ts, t.2.2.length ≤ 1048576) : ∀ (d i : Nat), i + d = ts.length → Ev (fun k => spec_TitlesOk.l0 k (ts.map sT) (i : Int)) (okFrom (prevOf ts i) (ts.drop i)) := by
 intro d
 induction d with
 | zero =>
  intro i hi
  refine ev_succ ?_
  have h1 : ¬ ((i:Int) < (((ts.map sT).length:Nat):Int)):=by rw [List.length_map];omega
  simp only [spec_TitlesOk.l0,h1,if_false]
  rw [drop_end (by omega)]
  exact ev_ret rfl
 | succ d ih =>
  intro i hi
  refine ev_succ ?_
  have hlt:i < ts.length:=by omega
  have h1:(i:Int) < (((ts.map sT).length:Nat):Int):=by rw [List.length_map];omega
  have h2:(0:Int)≤(i:Int):=by omega
  have hn:=ih (i+1) (by omega)
  rw [prevOf_succ ts i hlt] at hn
  have hpr:i≠0→prevOf ts i=some ((rd_T40 (ts.map sT) ((i - 1:Nat):Int)).f1):=fun h0=>prevOf_rd ts i h0 hlt
  rw [List.drop_eq_getElem_cons hlt,okFrom]
  simp only [spec_TitlesOk.l0,h1,h2,if_true,rd_sT ts i hlt,w64s (n:=i) (by omega)]
  have hm:=hx _ (List.getElem_mem hlt)
  have hp0:i=0→prevOf ts i=none:=fun h=>by unfold prevOf;rw [if_pos h]
  generalize ts[i]=t at hn hm ⊢
  have hno:titleOk (prevOf ts i) t=false→Ev (fun _=>some false) (titleOk (prevOf ts i) t && okFrom (some t.2.1) (ts.drop (i+1))):=fun h=>by
   rw [h,Bool.false_and]
   exact ev_ret rfl
  refine ev_ite (fun c=>hno (titleOk_no fun h=>?_)) (fun c1=>?_)
  ·have:t.1 < 0:=c
   omega
  refine ev_ite (fun c=>hno (titleOk_no fun h=>?_)) (fun c2=>?_)
  ·have:t.1 ≥ t.2.1:=c
   omega
  refine ev_ite (fun c=>hno (titleOk_no fun h=>?_)) (fun c3=>?_)
  ·have:t.2.1 > 359999999:=c
   omega
  refine ev_bind (l12Text_ev t.2.2 (by omega)) (ev_ifb (fun c4=>?_) (fun c4=>?_))
  ·refine ev_ite (fun c5=>?_) (fun c5=>?_)
   ·have hw:wrap64 ((i:Int) - 1)=((i - 1:Nat):Int):=by rw [w64 (by omega) (by omega)];omega
    rw [hw]
    refine ev_pos (by omega) (ev_pos (by rw [List.length_map];omega) ?_)
    have hp:=hpr (by omega)
    refine ev_ite (fun c6=>?_) (fun c6=>?_)
    ·refine hno (titleOk_no fun h=>?_)
     have:=h.2.2.2.2
     rw [hp] at this
     simp only [orderBad,decide_eq_false_iff_not] at this
     exact this c6
    ·rw [titleOk_yes (p:=prevOf ts i) (by have : ¬ (t.1 < 0):=c1;omega) (by have : ¬ (t.1 ≥ t.2.1):=c2;omega) (by have : ¬ (t.2.1 > 359999999):=c3;omega) c4 (by rw [hp];simp only [orderBad,decide_eq_false_iff_not];exact c6),Bool.true_and]
     exact hn
   ·rw [titleOk_yes (p:=prevOf ts i) (by have : ¬ (t.1 < 0):=c1;omega) (by have : ¬ (t.1 ≥ t.2.1):=c2;omega) (by have : ¬ (t.2.1 > 359999999):=c3;omega) c4 (by rw [hp0 (by omega)];rfl),Bool.true_and]
    exact hn
  ·refine hno (titleOk_no fun h=>?_)
   rw [h.2.2.2.1] at c4
   cases c4
theorem spec_TitlesOk_ev (ts : List T3) (hl : ts.length ≤ 1048576) (hx : ∀ t ∈ ts, t.2.2.length ≤ 1048576) : Ev (fun k => spec_TitlesOk.f k (ts.map sT)) (okList ts) := by
 unfold spec_TitlesOk.f okList
 rw [List.length_map]
 refine ev_ite (fun h=>?_) (fun h=>?_)
 ·rw [decide_eq_false (show ¬ (ts.length≤200) by omega),Bool.false_and]
  exact ev_ret rfl
 ·rw [decide_eq_true (show ts.length≤200 by omega),Bool.true_and]
  exact spec_ok_l0 ts hl hx ts.length 0 (by omega)
theorem impl_ok_l0 (ts : List T3) (hl : ts.length ≤ 1048576) (hx : ∀ t ∈ ts, t.2.2.length ≤ 1048576) : ∀ (d i : Nat), i + d = ts.length → Ev (fun k => impl_TitlesOk.l0 k (ts.map sT) (ts.map sT) (ts.length : Int) (i : Int)) (okFrom (prevOf ts i) (ts.drop i) && decide (ts.length ≤ 200)) := by
 intro d
 induction d with
 | zero =>
  intro i hi
  refine ev_succ ?_
  have h1 : ¬ ((i:Int) < (ts.length:Int)):=by omega
  simp only [impl_TitlesOk.l0,h1,if_false]
  rw [drop_end (by omega),List.length_map]
  refine ev_ret ?_
  have:decide ((ts.length:Int)≤200)=decide (ts.length≤200):=by
   by_cases h:ts.length≤200
   ·rw [decide_eq_true h,decide_eq_true (by omega)]
   ·rw [decide_eq_false h,decide_eq_false (by omega)]
  rw [this]
  rfl
 | succ d ih =>
  intro i hi
  refine ev_succ ?_
  have hlt:i < ts.length:=by omega
  have h0:(i:Int) < (ts.length:Int):=by omega
  have h1:(i:Int) < (((ts.map sT).length:Nat):Int):=by rw [List.length_map];omega
  have h2:(0:Int)≤(i:Int):=by omega
  have hn:=ih (i+1) (by omega)
  rw [prevOf_succ ts i hlt] at hn
  have hpr:i≠0→prevOf ts i=some ((rd_T40 (ts.map sT) ((i - 1:Nat):Int)).f1):=fun h0=>prevOf_rd ts i h0 hlt
  rw [List.drop_eq_getElem_cons hlt,okFrom]
  simp only [impl_TitlesOk.l0,h0,h1,h2,if_true,rd_sT ts i hlt,w64s (n:=i) (by omega)]
  have hm:=hx _ (List.getElem_mem hlt)
  have hp0:i=0→prevOf ts i=none:=fun h=>by unfold prevOf;rw [if_pos h]
  generalize ts[i]=t at hn hm ⊢
  have hno:titleOk (prevOf ts i) t=false→Ev (fun _=>some false) ((titleOk (prevOf ts i) t && okFrom (some t.2.1) (ts.drop (i+1))) && decide (ts.length≤200)):=fun h=>by
   rw [h,Bool.false_and,Bool.false_and]
   exact ev_ret rfl
  have htm:impl_Title_timesOk.f (sT t).f0 (sT t).f1 (sT t).f2=some (decide (0≤t.1∧t.1 < t.2.1∧t.2.1≤359999999)):=by
   unfold impl_Title_timesOk.f
   show(if 0≤t.1 then (if t.1 < t.2.1 then (some (decide (t.2.1≤359999999))) else (some false)) else (some false))=_
   by_cases q1:0≤t.1
   ·by_cases q2:t.1 < t.2.1
    ·rw [if_pos q1,if_pos q2]
     simp [q1,q2]
    ·rw [if_pos q1,if_neg q2]
     simp [q2]
   ·rw [if_neg q1]
    simp [q1]
  refine ev_some htm (ev_ifb (fun c=>?_) (fun c=>?_))
  ·obtain⟨c1,c2,c3⟩:=of_decide_eq_true c
   refine ev_bind (textOk_ev t.2.2 (by omega)) (ev_ifb (fun c4=>?_) (fun c4=>?_))
   ·refine ev_ite (fun c5=>?_) (fun c5=>?_)
    ·have hw:wrap64 ((i:Int) - 1)=((i - 1:Nat):Int):=by rw [w64 (by omega) (by omega)];omega
     rw [hw]
     refine ev_pos (by omega) (ev_pos (by rw [List.length_map];omega) ?_)
     have hp:=hpr (by omega)
     refine ev_ite (fun c6=>?_) (fun c6=>?_)
     ·refine hno (titleOk_no fun h=>?_)
      have:=h.2.2.2.2
      rw [hp] at this
      simp only [orderBad,decide_eq_false_iff_not] at this
      exact this c6
     ·rw [titleOk_yes (p:=prevOf ts i) c1 c2 c3 c4 (by rw [hp];simp only [orderBad,decide_eq_false_iff_not];exact c6),Bool.true_and]
      exact hn
    ·rw [titleOk_yes (p:=prevOf ts i) c1 c2 c3 c4 (by rw [hp0 (by omega)];rfl),Bool.true_and]
     exact hn
   ·refine hno (titleOk_no fun h=>?_)
    rw [h.2.2.2.1] at c4
    cases c4
  ·refine hno (titleOk_no fun h=>?_)
   exact absurd ⟨h.1,h.2.1,h.2.2.1⟩ (of_decide_eq_false c)
theorem impl_TitlesOk_ev (ts : List T3) (hl : ts.length ≤ 1048576) (hx : ∀ t ∈ ts, t.2.2.length ≤ 1048576) : Ev (fun k => impl_TitlesOk.f k (ts.map sT)) (okList ts) := by
 unfold impl_TitlesOk.f
 rw [List.length_map]
 refine ev_eq (impl_ok_l0 ts hl hx ts.length 0 (by omega)) ?_
 unfold okList
 rw [Bool.and_comm]
 rfl
theorem bytes_back (l : List UInt8) : strOfNums (bytesOf (mkB l)) = mkB l := by
 refine str_inj ?_
 show(strOfNums (bytesOf (mkB l))).data.toList=l
 rw [strOfNums_data]
 unfold bytesOf
 rw [List.map_map]
 refine List.map_id'' (fun b=>?_) l
 simp
theorem bytes_app (a b : List UInt8) : bytesOf (mkB a) ++ bytesOf (mkB b) = bytesOf (mkB (a ++ b)) := by
 unfold bytesOf mkB
 simp
theorem bytes_len (a : List UInt8) : (bytesOf (mkB a)).length = a.length := by
 unfold bytesOf mkB
 simp
theorem ap_two (l : List UInt8) (c d : UInt8) : mkB l ++ (⟨#[c, d]⟩ : ByteArray) = mkB (l ++ [c, d]) := mkB_append l [c, d]
theorem ap_five (l : List UInt8) : mkB l ++ (⟨#[32, 45, 45, 62, 32]⟩ : ByteArray) = mkB (l ++ arrowL) := mkB_append l arrowL
theorem block_shape (n : Nat) (t : T3) : (((((((decDigits (n + 1) ++ [10]) ++ timeL t.1.toNat) ++ arrowL) ++ timeL t.2.1.toNat) ++ [10]) ++ t.2.2) ++ [10, 10]) = block n t := by simp [block]
theorem decDigits_len (n : Nat) (h : n ≤ 1048576) : (decDigits n).length ≤ 7 := digits_small (by decide) (by omega)
theorem timeL_len {x : Int} (h0 : 0 ≤ x) (h : x ≤ 359999999) : (timeL x.toNat).length = 12 := by
 rw [timeL_length,pad_two _ (by omega)]
 rfl
theorem block_len {n : Nat} {p : Option Int} {t : T3} (hn : n ≤ 200) (h : titleOk p t = true) : (block n t).length ≤ 240 := by
 obtain⟨h1,h2,h3,h4⟩:=titleOk_get h
 have:=(okText_parts h4).2.1
 have e1:=timeL_len h1 (by omega)
 have e2:=timeL_len (show 0≤t.2.1 by omega) h3
 have e3:=decDigits_len (n+1) (by omega)
 unfold block
 simp only [List.length_append,List.length_cons,List.length_nil,e1,e2]
 have e4:arrowL.length=5:=rfl
 omega
theorem okFrom_at : ∀ (i : Nat) (p : Option Int) (ts : List T3) (h : i < ts.length), okFrom p ts = true → ∃ q, titleOk q ts[i] = true
 | 0, p, t :: ts, _, h => by
  unfold okFrom at h
  simp only [Bool.and_eq_true] at h
  exact⟨p,h.1⟩
 | i + 1, p, t :: ts, hi, h => by
  unfold okFrom at h
  simp only [Bool.and_eq_true] at h
  exact okFrom_at i _ ts (by simpa using hi) h.2
theorem okList_at {ts : List T3} (h : okList ts = true) (i : Nat) (hi : i < ts.length) : ∃ q, titleOk q ts[i] = true := by
 unfold okList at h
 simp only [Bool.and_eq_true] at h
 exact okFrom_at i _ ts hi h.2
theorem okList_len {ts : List T3} (h : okList ts = true) : ts.length ≤ 200 := by
 unfold okList at h
 simp only [Bool.and_eq_true,decide_eq_true_eq] at h
 exact h.1
theorem small_le (l : List UInt8) (n : Nat) (h : l.length ≤ 100000) (hn : n ≤ 100000) : (mkB l).size + n ≤ 9223372036854775807 := by rw [mkB_size]; omega
theorem small_le2 (a b : List UInt8) (h : a.length ≤ 100000) (hn : b.length ≤ 100000) : (mkB a).size + (mkB b).size ≤ 9223372036854775807 := by rw [mkB_size, mkB_size]; omega
theorem small_add (p b : List UInt8) (h : p.length ≤ 100000) (hb : b.length ≤ 100000) : (bytesOf (mkB p)).length + (mkB b).size < 140737488355328 := by rw [bytes_len, mkB_size]; omega
theorem spec_show_l0 (ts : List T3) (hk : okList ts = true) (hx : ∀ t ∈ ts, t.2.2.length ≤ 1048576) : ∀ (d i : Nat) (p : List UInt8), i + d = ts.length → p.length ≤ 240 * i → Ev (fun k => spec_ShowTitles.l0 k (ts.map sT) (bytesOf (mkB p)) (i : Int)) (mkB (p ++ showFrom i (ts.drop i))) := by
 have hl:=okList_len hk
 have hT:=spec_TitlesOk_ev ts (by omega) hx
 rw [hk] at hT
 intro d
 induction d with
 | zero =>
  intro i p hi hp
  refine ev_succ ?_
  have h1 : ¬ ((i:Int) < (((ts.map sT).length:Nat):Int)):=by rw [List.length_map];omega
  simp only [spec_ShowTitles.l0,h1,if_false]
  refine ev_succ ?_
  simp only [spec_ShowTitles.j1,Bool.false_eq_true,if_false,bytes_back]
  rw [drop_end (by omega),showFrom,List.append_nil]
  exact ev_ret rfl
 | succ d ih =>
  intro i p hi hp
  refine ev_succ ?_
  have hlt:i < ts.length:=by omega
  have h1:(i:Int) < (((ts.map sT).length:Nat):Int):=by rw [List.length_map];omega
  have h2:(0:Int)≤(i:Int):=by omega
  simp only [spec_ShowTitles.l0,h1,if_true]
  refine ev_bind hT ?_
  refine ev_succ ?_
  simp only [spec_ShowTitles.j1,h1,h2,if_true,rd_sT ts i hlt]
  obtain⟨q,hq⟩:=okList_at hk i hlt
  rw [List.drop_eq_getElem_cons hlt,showFrom]
  generalize ts[i]=t at hq ⊢
  obtain⟨g1,g2,g3,g4⟩:=titleOk_get hq
  have g5:=(okText_parts g4).2.1
  have e1:=timeL_len g1 (by omega)
  have e2:=timeL_len (show 0≤t.2.1 by omega) g3
  have e3:=decDigits_len (i+1) (by omega)
  have e4:arrowL.length=5:=rfl
  have f0:(sT t).f0=((t.1.toNat:Nat):Int):=by show t.1=_;omega
  have f1:(sT t).f1=((t.2.1.toNat:Nat):Int):=by show t.2.1=_;omega
  have f2:(sT t).f2=mkB t.2.2:=rfl
  rw [f0,f1,f2,w64s (n:=i) (by omega)]
  refine ev_bind (l1Int_ev (i+1) (by omega)) (ev_pos (small_le _ _ (by omega) (by decide)) ?_)
  refine ev_bind (l12Time_ev t.1.toNat (by omega)) ?_
  simp only [ap_one,ap_two,ap_five,mkB_append]
  refine ev_pos (small_le2 _ _ (by simp;omega) (by omega)) (ev_pos (small_le _ _ (by simp;omega) (by decide)) ?_)
  refine ev_bind (l12Time_ev t.2.1.toNat (by omega)) ?_
  simp only [ap_one,ap_two,ap_five,mkB_append]
  refine ev_pos (small_le2 _ _ (by simp;omega) (by omega)) (ev_pos (small_le _ _ (by simp;omega) (by decide)) (ev_pos (small_le2 _ _ (by simp;omega) (by omega)) (ev_pos (small_le _ _ (by simp;omega) (by decide)) ?_)))
  rw [block_shape]
  have hb:=block_len (n:=i) (by omega) hq
  refine ev_pos (small_add _ _ (by omega) (by omega)) ?_
  rw [bytes_app]
  refine ev_eq (ih (i+1) (p ++ block i t) (by omega) (by rw [List.length_append];omega)) ?_
  rw [List.append_assoc]
theorem impl_show_l0 (ts : List T3) (hk : okList ts = true) : ∀ (d i : Nat) (p : List UInt8), i + d = ts.length → p.length ≤ 240 * i → Ev (fun k => impl_ShowTitles.l0 k (bytesOf (mkB p)) (ts.map sT) (ts.length : Int) (i : Int)) (mkB (p ++ showFrom i (ts.drop i))) := by
 have hl:=okList_len hk
 intro d
 induction d with
 | zero =>
  intro i p hi hp
  refine ev_succ ?_
  have h1 : ¬ ((i:Int) < (ts.length:Int)):=by omega
  simp only [impl_ShowTitles.l0,h1,if_false,bytes_back]
  rw [drop_end (by omega),showFrom,List.append_nil]
  exact ev_ret rfl
 | succ d ih =>
  intro i p hi hp
  refine ev_succ ?_
  have hlt:i < ts.length:=by omega
  have h0:(i:Int) < (ts.length:Int):=by omega
  have h1:(i:Int) < (((ts.map sT).length:Nat):Int):=by rw [List.length_map];omega
  have h2:(0:Int)≤(i:Int):=by omega
  simp only [impl_ShowTitles.l0,h0,h1,h2,if_true,rd_sT ts i hlt]
  obtain⟨q,hq⟩:=okList_at hk i hlt
  rw [List.drop_eq_getElem_cons hlt,showFrom]
  generalize ts[i]=t at hq ⊢
  obtain⟨g1,g2,g3,g4⟩:=titleOk_get hq
  have g5:=(okText_parts g4).2.1
  have e1:=timeL_len g1 (by omega)
  have e2:=timeL_len (show 0≤t.2.1 by omega) g3
  have e3:=decDigits_len (i+1) (by omega)
  have e4:arrowL.length=5:=rfl
  have f0:(sT t).f0=((t.1.toNat:Nat):Int):=by show t.1=_;omega
  have f1:(sT t).f1=((t.2.1.toNat:Nat):Int):=by show t.2.1=_;omega
  have f2:(sT t).f2=mkB t.2.2:=rfl
  rw [f0,f1,f2]
  refine ev_some (itoa_some i (by omega)) (ev_pos (small_le _ _ (by omega) (by decide)) ?_)
  refine ev_some (milliText_some t.1.toNat (by omega)) ?_
  simp only [ap_one,ap_two,ap_five,mkB_append]
  refine ev_pos (small_le2 _ _ (by simp;omega) (by omega)) (ev_pos (small_le _ _ (by simp;omega) (by decide)) ?_)
  refine ev_some (milliText_some t.2.1.toNat (by omega)) ?_
  simp only [ap_one,ap_two,ap_five,mkB_append]
  refine ev_pos (small_le2 _ _ (by simp;omega) (by omega)) (ev_pos (small_le _ _ (by simp;omega) (by decide)) (ev_pos (small_le2 _ _ (by simp;omega) (by omega)) (ev_pos (small_le _ _ (by simp;omega) (by decide)) ?_)))
  rw [block_shape]
  have hb:=block_len (n:=i) (by omega) hq
  refine ev_pos (small_add _ _ (by omega) (by omega)) ?_
  rw [bytes_app,w64s (n:=i) (by omega)]
  refine ev_eq (ih (i+1) (p ++ block i t) (by omega) (by rw [List.length_append];omega)) ?_
  rw [List.append_assoc]
theorem spec_ShowTitles_ev (ts : List T3) (hl : ts.length ≤ 1048576) (hx : ∀ t ∈ ts, t.2.2.length ≤ 1048576) : Ev (fun k => spec_ShowTitles.f k (ts.map sT)) (mkB (showV ts)) := by
 unfold spec_ShowTitles.f showV
 have e:(([]:List Int))=bytesOf (mkB []):=rfl
 rw [e]
 cases hk:okList ts with
 | true =>
  rw [if_pos rfl]
  exact spec_show_l0 ts hk hx ts.length 0 [] (by omega) (by simp)
 | false =>
  rw [if_neg (by simp)]
  have hT:=spec_TitlesOk_ev ts hl hx
  rw [hk] at hT
  refine ev_succ ?_
  have hj:Ev (fun k=>spec_ShowTitles.j1 k (ts.map sT) (bytesOf (mkB [])) 0 false) (mkB []):=by
   refine ev_succ ?_
   simp only [spec_ShowTitles.j1,Bool.false_eq_true,if_false,bytes_back]
   exact ev_ret rfl
  simp only [spec_ShowTitles.l0]
  refine ev_ite (fun _=>?_) (fun _=>hj)
  exact ev_bind hT hj
theorem impl_ShowTitles_ev (ts : List T3) (hl : ts.length ≤ 1048576) (hx : ∀ t ∈ ts, t.2.2.length ≤ 1048576) : Ev (fun k => impl_ShowTitles.f k (ts.map sT)) (mkB (showV ts)) := by
 unfold impl_ShowTitles.f showV
 refine ev_bind (impl_TitlesOk_ev ts hl hx) ?_
 cases hk:okList ts with
 | true =>
  rw [if_pos rfl]
  refine ev_pos rfl ?_
  rw [List.length_map]
  exact impl_show_l0 ts hk ts.length 0 [] (by omega) (by simp)
 | false =>
  rw [if_neg (by simp)]
  exact ev_neg (by simp) (ev_ret rfl)

/-! #### the draws' cursor: where it stands (b: the bytes, i: how many are used) -/
def St (b : List Int) (i : Int) : Prop := 0 ≤ i ∧ i ≤ b.length ∧ b.length ≤ 4096
theorem and255 (x : Int) : 0 ≤ Go.bits .and .i64 x 255 ∧ Go.bits .and .i64 x 255 ≤ 255 := by
 have h:((BitVec.ofInt 64 x) &&& (BitVec.ofInt 64 255)).toNat≤255:=by
  rw [BitVec.toNat_and]
  exact Nat.le_trans Nat.and_le_right (by decide)
 have e:Go.bits .and .i64 x 255=IntKind.i64.wrap (((BitVec.ofInt 64 x) &&& (BitVec.ofInt 64 255)).toNat:Int):=rfl
 rw [e,IntKind.wrap_i64]
 omega
theorem byte_some {b : List Int} {i : Int} (h : Int) (hs : St b i) : SomeP (spec_l1Byte.f b i h) (fun r => (0 ≤ r.1 ∧ r.1 ≤ 255) ∧ St b r.2.1) := by
 obtain⟨h1,h2,h3⟩:=hs
 unfold spec_l1Byte.f
 refine somep_ite (fun hl=>somep_pos h1 (somep_now ⟨and255 _,?_⟩)) (fun hl=>somep_now ⟨and255 _,h1,h2,h3⟩)
 show St b (wrap64 (i+1))
 rw [w64 (by omega) (by omega)]
 exact⟨by omega,by omega,h3⟩
theorem below_some {b : List Int} {i : Int} (h : Int) (n : Int) (hs : St b i) : SomeP (spec_l1Below.f b i h n) (fun r => (0 ≤ r.1 ∧ (0 < n → r.1 < n)) ∧ St b r.2.1) := by
 unfold spec_l1Below.f
 refine somep_ite (fun hn=>somep_now ⟨⟨Int.le_refl _,fun h=>by omega⟩,hs⟩) (fun hn=>somep_ite (fun h2=>?_) (fun h2=>?_))
 ·refine somep_bind (byte_some h hs) (fun a ha=>somep_neg (by omega) (somep_now ⟨?_,ha.2⟩))
  have e:Int.tmod a.1 n=a.1 % n:=Int.tmod_eq_emod_of_nonneg ha.1.1
  show 0≤Int.tmod a.1 n∧(0 < n→Int.tmod a.1 n < n)
  rw [e]
  exact⟨Int.emod_nonneg _ (by omega),fun h=>Int.emod_lt_of_pos _ h⟩
 ·refine somep_bind (byte_some h hs) (fun a ha=>somep_bind (byte_some _ ha.2) (fun c hc=>somep_bind (byte_some _ hc.2) (fun d hd=>somep_bind (byte_some _ hd.2) (fun e he=>somep_neg (by omega) (somep_now ⟨?_,he.2⟩)))))
  have h1:=ha.1;have h3:=hc.1;have h4:=hd.1;have h5:=he.1
  have w1:wrap64 (a.1*16777216)=a.1*16777216:=w64 (by omega) (by omega)
  have w2:wrap64 (c.1*65536)=c.1*65536:=w64 (by omega) (by omega)
  have w3:wrap64 (d.1*256)=d.1*256:=w64 (by omega) (by omega)
  show 0≤Int.tmod (wrap64 (wrap64 (wrap64 (wrap64 (a.1*16777216)+wrap64 (c.1*65536))+wrap64 (d.1*256))+e.1)) n∧(0 < n→Int.tmod (wrap64 (wrap64 (wrap64 (wrap64 (a.1*16777216)+wrap64 (c.1*65536))+wrap64 (d.1*256))+e.1)) n < n)
  rw [w1,w2,w3,w64 (x:=a.1*16777216+c.1*65536) (by omega) (by omega),w64 (x:=a.1*16777216+c.1*65536+d.1*256) (by omega) (by omega),w64 (by omega) (by omega),Int.tmod_eq_emod_of_nonneg (by omega)]
  exact⟨Int.emod_nonneg _ (by omega),fun h=>Int.emod_lt_of_pos _ h⟩
theorem new_ev (code : List Int) (hc : code.length ≤ 4096) : EvP (fun k => spec_l1New.f k code) (fun r => r.1 = code ∧ St code r.2.1) := by
 have key:∀ d i (h:Int),i+d=code.length→EvP (fun k=>spec_l1New.l0 k code h (i:Int)) (fun r=>r.1=code∧St code r.2.1):=by
  intro d
  induction d with
  | zero =>
   intro i h hi
   refine evp_succ ?_
   have h1 : ¬ (i:Int) < (code.length:Int):=by omega
   simp only [spec_l1New.l0,h1,if_false]
   exact evp_now ⟨rfl,by refine⟨Int.le_refl _,?_,hc⟩;show(0:Int)≤code.length;omega⟩
  | succ d ih =>
   intro i h hi
   refine evp_succ ?_
   have h1:(i:Int) < (code.length:Int):=by omega
   have h2:(0:Int)≤(i:Int):=by omega
   have h4:=w64s (n:=i) (by omega)
   simp only [spec_l1New.l0,h1,h2,h4,if_true]
   exact ih (i+1) _ (by omega)
 exact key code.length 0 _ (by omega)

theorem once_some {b : List Int} {i : Int} (h : Int) (n : Int) (hs : St b i) : SomeP (spec_l1Once.f b i h n) (fun r => St b r.2.1) := by
 unfold spec_l1Once.f
 exact somep_bind (below_some h n hs) (fun a ha=>somep_now ha.2)


/-! #### titles drawn -/
def TQ (xs : List S40) : Prop := xs.length ≤ 300 ∧ ∀ x ∈ xs, x.f2.size ≤ 100
theorem TQ.snoc {xs : List S40} (h : TQ xs) (hl : xs.length < 300) {x : S40} (hx : x.f2.size ≤ 100) : TQ (xs ++ [x]) := by
 refine⟨by simp;omega,fun y hy=>?_⟩
 rcases List.mem_append.1 hy with hy|hy
 ·exact h.2 y hy
 ·rw [List.mem_singleton.1 hy];exact hx
theorem TQ.set {xs : List S40} (h : TQ xs) (i : Nat) {x : S40} (hx : x.f2.size ≤ 100) : TQ (xs.set i x) := by
 refine⟨by rw [List.length_set];exact h.1,fun y hy=>?_⟩
 rcases List.mem_or_eq_of_mem_set hy with hy|hy
 ·exact h.2 y hy
 ·rw [hy];exact hx
theorem TQ.rd {xs : List S40} (h : TQ xs) (i : Int) : (rd_T40 xs i).f2.size ≤ 100 := by
 unfold rd_T40
 rcases Nat.lt_or_ge i.toNat xs.length with h1|h1
 ·exact h.2 _ (getD_mem _ h1)
 ·rw [List.getD_eq_getElem?_getD,List.getElem?_eq_none h1]
  decide
theorem TQ.nil : TQ [] := ⟨by simp, fun x hx => by cases hx⟩
theorem l2_evp (b : List Int) : ∀ (d n : Nat) (xs : List S40) (i h : Int), n + d = 202 → xs.length = n → TQ xs → St b i → EvP (fun k => spec_l12DrawTitles.l2 k xs (n : Int) b i h) (fun r => TQ r.1 ∧ St b r.2.1) := by
 intro d
 induction d with
 | zero =>
  intro n xs i h hn hl hq hs
  refine evp_succ ?_
  simp only [spec_l12DrawTitles.l2]
  refine evp_some (below_some h 2 hs) (fun a ha=>?_)
  have h1:=ha.1.2 (by decide)
  have h2:=ha.1.1
  have e:wrap64 (200+a.1)=200+a.1:=w64 (by omega) (by omega)
  rw [e]
  exact evp_neg (by omega) (evp_now ⟨hq,ha.2⟩)
 | succ d ih =>
  intro n xs i h hn hl hq hs
  refine evp_succ ?_
  simp only [spec_l12DrawTitles.l2]
  refine evp_some (below_some h 2 hs) (fun a ha=>?_)
  refine evp_ite (fun _=>?_) (fun _=>evp_now ⟨hq,ha.2⟩)
  refine evp_pos (by omega) ?_
  rw [w64s (n:=n) (by omega)]
  exact ih (n+1) _ _ _ (by omega) (by simp;omega) (hq.snoc (by omega) (show(⟨#[116]⟩:ByteArray).size≤100 by decide)) ha.2
theorem j4_evp (b : List Int) (xs : List S40) (i h : Int) (hq : TQ xs) (hs : St b i) : EvP (fun k => spec_l12DrawTitles.j4 k xs b i h) (fun r => TQ r.1 ∧ St b r.2.1) := by
 refine evp_succ ?_
 simp only [spec_l12DrawTitles.j4]
 refine evp_some (once_some h 60 hs) (fun a ha=>?_)
 refine evp_ite (fun _=>?_) (fun _=>evp_now ⟨hq,ha⟩)
 exact l2_evp b 202 0 [] _ _ rfl rfl TQ.nil ha
theorem small_rd (l : List ByteArray) (hl : ∀ x ∈ l, x.size ≤ 5) (i : Int) : (rdOf ByteArray.empty l i).size ≤ 5 := by
 unfold rdOf
 rcases Nat.lt_or_ge i.toNat l.length with h1|h1
 ·exact hl _ (getD_mem _ h1)
 ·rw [List.getD_eq_getElem?_getD,List.getElem?_eq_none h1]
  decide
theorem j3_evp (b : List Int) (xs : List S40) (f : Bool) (i h : Int) (hq : TQ xs) (hs : St b i) (hf : f = true → 0 < xs.length) : EvP (fun k => spec_l12DrawTitles.j3 k xs f b i h) (fun r => TQ r.1 ∧ St b r.2.1) := by
 refine evp_succ ?_
 simp only [spec_l12DrawTitles.j3]
 refine evp_ite (fun hft=>?_) (fun _=>j4_evp b xs _ _ hq hs)
 have hx:=hf hft
 refine evp_some (below_some h (xs.length:Int) hs) (fun a ha=>?_)
 have ha1:=ha.1.2 (by omega)
 refine evp_pos ha.1.1 (evp_pos ha1 ?_)
 refine evp_some (below_some _ 3 ha.2) (fun c hc=>?_)
 simp only [Option.bind_some]
 refine evp_ite (fun _=>?_) (fun _=>evp_ite (fun _=>?_) (fun _=>evp_ite (fun _=>?_) (fun _=>j4_evp b xs _ _ hq hc.2)))
 ·refine evp_some (below_some _ 7 hc.2) (fun e he=>?_)
  have h1:=he.1.2 (by decide)
  refine evp_pos he.1.1 (evp_pos h1 ?_)
  exact j4_evp b _ _ _ (hq.set _ (Nat.le_trans (small_rd _ (by decide) _) (by decide))) he.2
 ·refine evp_some (below_some _ 3 hc.2) (fun e he=>?_)
  have h1:=he.1.2 (by decide)
  refine evp_pos he.1.1 (evp_pos h1 ?_)
  exact j4_evp b _ _ _ (hq.set _ (hq.rd _)) he.2
 ·refine evp_some (below_some _ 3 hc.2) (fun e he=>?_)
  have h1:=he.1.2 (by decide)
  refine evp_pos he.1.1 (evp_pos h1 ?_)
  exact j4_evp b _ _ _ (hq.set _ (hq.rd _)) he.2
theorem l0_evp (b : List Int) : ∀ (n : Nat) (xs : List S40) (x4 i h : Int), n ≤ 6 → xs.length + n ≤ 20 → TQ xs → St b i → EvP (fun k => spec_l12DrawTitles.l0 k xs x4 (n : Int) b i h) (fun r => TQ r.1 ∧ St b r.2.1) := by
 intro n
 induction n with
 | zero =>
  intro xs x4 i h hn hl hq hs
  refine evp_succ ?_
  simp only [spec_l12DrawTitles.l0]
  refine evp_neg (by omega) (evp_some (once_some h 14 hs) (fun a ha=>?_))
  refine evp_ite (fun _=>?_) (fun _=>?_)
  ·exact j3_evp b xs _ _ _ hq ha (fun e=>by have:=of_decide_eq_true e;omega)
  ·exact j3_evp b xs false _ _ hq ha (fun e=>by cases e)
 | succ n ih =>
  intro xs x4 i h hn hl hq hs
  have key:∀ (m:Nat) (t:ByteArray) (f0 f1 i h:Int),m≤5→t.size+5*m≤50→St b i→EvP (fun k=>spec_l12DrawTitles.l1 k xs ((n+1:Nat):Int) (m:Int) b i h f0 f1 t) (fun r=>TQ r.1∧St b r.2.1):=by
   intro m
   induction m with
   | zero =>
    intro t f0 f1 i h hm ht hs
    refine evp_succ ?_
    simp only [spec_l12DrawTitles.l1]
    refine evp_neg (by omega) (evp_pos (by omega) ?_)
    refine evp_some (below_some _ 200 hs) (fun a ha=>?_)
    have e:wrap64 (((n+1:Nat):Int) - 1)=(n:Int):=by rw [w64 (by omega) (by omega)];omega
    rw [e]
    exact ih _ _ _ _ (by omega) (by simp;omega) (hq.snoc (by omega) (show t.size≤100 by omega)) ha.2
   | succ m ihm =>
    intro t f0 f1 i h hm ht hs
    refine evp_succ ?_
    simp only [spec_l12DrawTitles.l1,Option.bind_some]
    refine evp_pos (by omega) (evp_some (below_some _ 8 hs) (fun a ha=>?_))
    have h1:=ha.1.2 (by decide)
    refine evp_pos ha.1.1 (evp_pos h1 ?_)
    have hz:=small_rd [(⟨#[87,97,115,63]⟩:ByteArray),(⟨#[101,105,110,32]⟩:ByteArray),(⟨#[87,111,114,116]⟩:ByteArray),(⟨#[195,169,116,195,169]⟩:ByteArray),(⟨#[49,10,50]⟩:ByteArray),(⟨#[45,45,62]⟩:ByteArray),(⟨#[120,10,121]⟩:ByteArray),(⟨#[255]⟩:ByteArray)] (by decide) a.1
    refine evp_pos (by omega) ?_
    have e:wrap64 (((m+1:Nat):Int) - 1)=(m:Int):=by rw [w64 (by omega) (by omega)];omega
    rw [e]
    exact ihm _ _ _ _ _ (by omega) (by rw [ByteArray.size_append];omega) ha.2
  refine evp_succ ?_
  simp only [spec_l12DrawTitles.l0]
  refine evp_pos (by omega) (evp_some (below_some h 2500 hs) (fun a ha=>evp_some (below_some _ 5 ha.2) (fun c hc=>?_)))
  have h1:=hc.1.2 (by decide)
  have h2:=hc.1.1
  obtain⟨m,hm⟩:=Int.eq_ofNat_of_zero_le h2
  have e:wrap64 (1+c.1)=((m+1:Nat):Int):=by rw [w64 (by omega) (by omega)];omega
  rw [e]
  exact key (m+1) _ _ _ _ _ (by omega) (by have:(⟨#[]⟩:ByteArray).size=0:=rfl;omega) hc.2
theorem drawTitles_evp (b : List Int) (i h : Int) (hs : St b i) : EvP (fun k => spec_l12DrawTitles.f k b i h) (fun r => TQ r.1 ∧ St b r.2.1) := by
 have hj:∀ (x4 i h:Int),St b i→EvP (fun k=>spec_l12DrawTitles.j0 k [] x4 b i h) (fun r=>TQ r.1∧St b r.2.1):=fun x4 i h hs=>by
  refine evp_succ ?_
  simp only [spec_l12DrawTitles.j0]
  refine evp_some (below_some h 6 hs) (fun a ha=>?_)
  have h1:=ha.1.2 (by decide)
  obtain⟨m,hm⟩:=Int.eq_ofNat_of_zero_le ha.1.1
  rw [hm]
  exact l0_evp b m [] _ _ _ (by omega) (by simp;omega) TQ.nil ha.2
 simp only [spec_l12DrawTitles.f,Option.bind_some]
 refine evp_some (below_some h 3000 hs) (fun a ha=>evp_some (once_some _ 16 ha.2) (fun c hc=>?_))
 exact evp_ite (fun _=>hj _ _ _ hc) (fun _=>hj _ _ _ hc)
theorem tq_ts {xs : List S40} (h : TQ xs) : (xs.map tS).length ≤ 1048576 ∧ ∀ t ∈ xs.map tS, t.2.2.length ≤ 1048576 := by
 refine⟨by rw [List.length_map];have:=h.1;omega,fun t ht=>?_⟩
 obtain⟨x,hx,rfl⟩:=List.mem_map.1 ht
 have:=h.2 x hx
 show(bL x.f2).length≤1048576
 rw [← bL_size]
 omega
theorem showFrom_len : ∀ (l : List T3) (n : Nat) (p : Option Int), okFrom p l = true → n + l.length ≤ 200 → (showFrom n l).length ≤ 240 * l.length ∧ l.length ≤ (showFrom n l).length
 | [], _, _, _, _ => by simp [showFrom]
 | t :: l, n, p, h, hn => by
  unfold okFrom at h
  simp only [Bool.and_eq_true] at h
  simp only [List.length_cons] at hn
  have h1:=block_len (n:=n) (by omega) h.1
  have h2:=List.length_pos_iff.2 (block_pos n t)
  obtain⟨h3,h4⟩:=showFrom_len l (n+1) _ h.2 (by omega)
  rw [showFrom,List.length_append,List.length_cons]
  omega
theorem showV_len (l : List T3) : (showV l).length ≤ 48000 := by
 unfold showV
 split
 ·rename_i h
  have hl:=okList_len h
  unfold okList at h
  simp only [Bool.and_eq_true] at h
  have:=(showFrom_len l 0 none h.2 (by omega)).1
  omega
 ·simp
theorem drawRead_l0 (b : List Int) : ∀ (n : Nat) (xs : List Int) (i h : Int), n ≤ 3 → xs.length + n ≤ 60000 → St b i → EvP (fun k => spec_DrawReadTitles.l0 k b i h xs (n : Int)) (fun _ => True) := by
 intro n
 induction n with
 | zero =>
  intro xs i h hn hl hs
  refine evp_succ ?_
  simp only [spec_DrawReadTitles.l0]
  exact evp_neg (by omega) (evp_now trivial)
 | succ n ih =>
  intro xs i h hn hl hs
  refine evp_succ ?_
  simp only [spec_DrawReadTitles.l0]
  have e:wrap64 (((n+1:Nat):Int) - 1)=(n:Int):=by rw [w64 (by omega) (by omega)];omega
  refine evp_pos (by omega) (evp_ite (fun hx=>?_) (fun _=>evp_now trivial))
  refine evp_some (below_some h _ hs) (fun a ha=>evp_some (below_some _ 4 ha.2) (fun c hc=>?_))
  have h1:=ha.1.2 (by omega)
  have h2:=hc.1.2 (by decide)
  have h3:=hc.1.1
  have h4:=ha.1.1
  refine evp_pos h4 (evp_pos h1 (evp_pos (by omega) ?_))
  rw [e]
  refine evp_ite (fun _=>?_) (fun q0=>evp_ite (fun _=>?_) (fun q1=>evp_ite (fun _=>?_) (fun q2=>evp_pos (by omega) ?_)))
  ·refine evp_some (below_some _ 12 hc.2) (fun u hu=>?_)
   refine evp_pos hu.1.1 (evp_pos (hu.1.2 (by decide)) ?_)
   exact ih _ _ _ (by omega) (by rw [List.length_set];omega) hu.2
  ·exact ih _ _ _ (by omega) (by rw [List.length_take];omega) hc.2
  ·exact ih _ _ _ (by omega) (by rw [List.length_append,List.length_take,List.length_drop];omega) hc.2
  ·exact ih _ _ _ (by omega) (by rw [List.length_append,List.length_append,List.length_take,List.length_drop,List.length_singleton];omega) hc.2
theorem drawRead_evp (code : List Int) (hc : code.length ≤ 4096) : EvP (fun k => spec_DrawReadTitles.f k code) (fun _ => True) := by
 unfold spec_DrawReadTitles.f
 refine evp_bind (new_ev code hc) (fun c hc1=>?_)
 obtain⟨c1,c2,c3⟩:=c
 obtain⟨rfl,hs⟩:=hc1
 refine evp_bind (drawTitles_evp _ _ _ hs) (fun t ht=>?_)
 obtain⟨a1,a2⟩:=tq_ts ht.1
 have hsh:=spec_ShowTitles_ev (t.1.map tS) a1 a2
 rw [sT_tS] at hsh
 have hz:=showV_len (t.1.map tS)
 refine evp_ebind hsh (evp_pos (by rw [mkB_size];omega) ?_)
 refine evp_some (below_some _ 3 ht.2) (fun n hn=>?_)
 have h1:=hn.1.2 (by decide)
 obtain⟨m,hm⟩:=Int.eq_ofNat_of_zero_le hn.1.1
 rw [hm]
 exact drawRead_l0 _ m _ _ _ (by omega) (by rw [bytes_len];omega) hn.2

theorem back_loop (code : List Int) (r : Bool) (hj : Ev (fun k => laws_FnTitlesBack.j3 k code) r) (xs : List S40) (hl : xs.length ≤ 300) : ∀ (d i : Nat), i + d = xs.length → Ev (fun k => laws_FnTitlesBack.l0 k code xs xs (i : Int)) r := by
 intro d
 induction d with
 | zero =>
  intro i hi
  refine ev_succ ?_
  simp only [laws_FnTitlesBack.l0]
  exact ev_neg (by omega) hj
 | succ d ih =>
  intro i hi
  refine ev_succ ?_
  simp only [laws_FnTitlesBack.l0]
  refine ev_pos (by omega) (ev_pos (by omega) (ev_pos (by omega) (ev_neg (by simp) ?_)))
  rw [w64s (n:=i) (by omega)]
  exact ih (i+1) (by omega)
theorem RV_back (ts : List S40) (h : showV (ts.map tS) ≠ []) (hz : (showV (ts.map tS)).length ≤ 40000) : RV (showV (ts.map tS)) = (ts, 0, 0) := by
 have hk:okList (ts.map tS)=true:=by
  cases hk:okList (ts.map tS) with
  | true => rfl
  | false =>
   unfold showV at h
   rw [hk] at h
   exact absurd rfl h
 have hl:=okList_len hk
 have hf:=hk
 unfold okList at hf
 simp only [Bool.and_eq_true] at hf
 have hge:=(showFrom_len (ts.map tS) 0 none hf.2 (by omega)).2
 have e:showV (ts.map tS)=showFrom 0 (ts.map tS):=by unfold showV;rw [if_pos hk]
 unfold RV
 rw [if_pos hz]
 have hr:=readV_show (ts.map tS) ((showV (ts.map tS)).length+1) [] (by rw [e];omega) (by simpa using hl) hf.2
 rw [List.nil_append,List.length_nil,← e] at hr
 rw [hr,sT_tS]
theorem back_j3 (code : List Int) (hc : code.length ≤ 4096) : Ev (fun k => laws_FnTitlesBack.j3 k code) true := by
 refine ev_succ ?_
 simp only [laws_FnTitlesBack.j3]
 refine evp_true (evp_bind (drawRead_evp code hc) (fun t _=>?_))
 have hi:=impl_RV (bL t)
 have hs:=spec_RV (bL t)
 rw [mkB_bL] at hi hs
 refine evp_ebind hi (evp_ebind hs (evp_neg (by simp) ?_))
 have hlen:=RV_len (bL t)
 refine evp_ite (fun h0=>?_) (fun h0=>?_)
 ·have hz:(bL t).length≤40000:=by
   unfold RV at h0
   split at h0
   ·assumption
   ·simp at h0
  have e:RV (bL t)=((readV ((bL t).length+1) [] (bL t)).1.map sT,(readV ((bL t).length+1) [] (bL t)).2.1,(readV ((bL t).length+1) [] (bL t)).2.2):=by unfold RV;rw [if_pos hz]
  rw [e] at h0 hlen ⊢
  obtain⟨hk,hsh⟩:=readV_shown (Nat.lt_succ_self _) h0
  generalize (readV ((bL t).length+1) [] (bL t)).1=L at hk hsh hlen ⊢
  have hx:∀ t ∈ L,t.2.2.length≤1048576:=fun t ht=>by
   obtain⟨i,hi,rfl⟩:=List.mem_iff_getElem.1 ht
   obtain⟨q,hq⟩:=okList_at hk i hi
   have:=(okText_parts (titleOk_get hq).2.2.2).2.1
   omega
  have hl:L.length≤1048576:=by rw [List.length_map] at hlen;omega
  have h1:=impl_TitlesOk_ev L hl hx
  rw [hk] at h1
  have h2:=impl_ShowTitles_ev L hl hx
  rw [hsh] at h2
  refine evp_ebind h1 (evp_pos rfl (evp_ebind h2 (evp_now ?_)))
  rw [mkB_bL]
  simp
 ·refine evp_now ?_
  have:(RV (bL t)).1 = []:=by
   unfold RV at h0 ⊢
   split at h0
   ·rename_i hz
    rw [if_pos hz]
    simp only
    rw [readV_code _ _ _ h0]
    rfl
   ·rename_i hz
    rw [if_neg hz]
  rw [this]
  rfl
theorem FnTitlesBack : ∀ (l0 : List Int), (l0.length ≤ maxLen ∧ ∀ y1 ∈ l0, (Lit.int .u8 y1).wf = true) → ∃ k, laws_FnTitlesBack.f k l0 = some true := by
 intro l0 _
 apply Ev.rounds
 simp only [laws_FnTitlesBack.f,laws_big.f,Option.bind_some]
 refine ev_ifb (fun _=>ev_ret rfl) (fun hb=>?_)
 have hc:l0.length≤4096:=by
  have:=of_decide_eq_false hb
  omega
 have hj:=back_j3 l0 hc
 refine evp_true ?_
 have hd:EvP (fun k=>spec_DrawShowTitles.f k l0) (fun r=>TQ r):=by
  unfold spec_DrawShowTitles.f spec_DrawTitlesOk.f
  refine evp_bind (Q:=fun r=>TQ r) ?_ (fun r hr=>evp_now hr)
  refine evp_bind (new_ev l0 hc) (fun c hc1=>?_)
  refine evp_bind (drawTitles_evp _ _ _ (by rw [hc1.1];exact hc1.2)) (fun t ht=>evp_now ht.1)
 refine evp_bind hd (fun ts ht=>?_)
 obtain⟨a1,a2⟩:=tq_ts ht
 have h1:=impl_ShowTitles_ev (ts.map tS) a1 a2
 have h2:=spec_ShowTitles_ev (ts.map tS) a1 a2
 rw [sT_tS] at h1 h2
 refine evp_ebind h1 (evp_ebind h2 (evp_pos rfl ?_))
 have hj0:∀ f:Bool,(f=true→showV (ts.map tS) ≠ []∧(showV (ts.map tS)).length≤40000)→EvP (fun k=>laws_FnTitlesBack.j0 k l0 ts (mkB (showV (ts.map tS))) f) (fun r=>r=true):=fun f hf=>by
  refine evp_succ ?_
  simp only [laws_FnTitlesBack.j0]
  refine evp_ite (fun hft=>?_) (fun _=>evp_of hj rfl)
  obtain⟨g1,g2⟩:=hf hft
  have hr:=impl_RV (showV (ts.map tS))
  rw [RV_back ts g1 g2] at hr
  refine evp_ebind hr (evp_pos rfl ?_)
  refine evp_succ ?_
  simp only [laws_FnTitlesBack.j1]
  refine evp_neg (by simp) ?_
  exact evp_of (back_loop l0 true hj ts ht.1 ts.length 0 (by omega)) rfl
 refine evp_ite (fun _=>hj0 false (fun e=>by cases e)) (fun hne=>hj0 _ (fun e=>?_))
 rw [mkB_toList] at hne
 have:=of_decide_eq_true e
 rw [mkB_size] at this
 exact⟨hne,by omega⟩
end Go.Proofs.YtidogkjhjmcliaaDoor.Pure
