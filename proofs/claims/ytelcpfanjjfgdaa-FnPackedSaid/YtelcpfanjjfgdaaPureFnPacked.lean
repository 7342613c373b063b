/-
  The plain statement of FnPacked: what was made of names and bodies verifies them; of one byte turned the update and the verification tell the one name.
  Conditions: the statement's own.
-/
import Derived.Test.YtelcpfanjjfgdaaHFnPackedx0
import Derived.Test.YtelcpfanjjfgdaaHFnPackedx1
import Derived.Test.YtelcpfanjjfgdaaHFnPackedx2
import Derived.Test.YtelcpfanjjfgdaaHFnPackedx3
import Derived.Test.YtelcpfanjjfgdaaHFnPackedx4
import Derived.Test.YtelcpfanjjfgdaaHFnPackedx5
import Derived.Test.YtelcpfanjjfgdaaHFnPackedx6
import Derived.Test.YtelcpfanjjfgdaaHFnPackedx7
import Derived.Test.YtelcpfanjjfgdaaHFnPackedx8
import Derived.Test.YtelcpfanjjfgdaaHFnPackedx9
import Derived.Test.YtelcpfanjjfgdaaHFnPackedx10
import Derived.Test.YtelcpfanjjfgdaaHFnPackedx11
import Derived.Test.YtelcpfanjjfgdaaHFnPackedx12
import Derived.Test.YtelcpfanjjfgdaaHFnPackedx13
import Derived.Test.YtelcpfanjjfgdaaHFnPackedx14
import Derived.Test.YtelcpfanjjfgdaaPureBase
import Derived.Laws.BitsLemmas
namespace Go.Proofs.Ytelcpfanjjfgdaa.Pure
open Go.RowKit Go.Proofs.Ytelcpfanjjfgdaa.HFnPacked Go.Proofs.YtelcpfanjjfgdaaW.PrintWords Go.Proofs.YtelcpfanjjfgdaaW.PrintLast Go.Proofs.YtelcpfanjjfgdaaW.PrintMore Go.Proofs.Ytelcpfanjjfgdaa.PB
set_option linter.unusedVariables false
set_option linter.unusedSimpArgs false
theorem impl_in_eq (a lo hi : Int) : impl_in.f a lo hi = some (decide (lo ≤ a ∧ a ≤ hi)) := by
  unfold impl_in.f
  by_cases h:lo≤a
  · rw [if_pos h];simp [h]
  · rw [if_neg h];simp;omega

/-! #### bytes of a string, by their index -/
theorem drop_bt (s : ByteArray) (i : Nat) (h : i < s.size) : (bytesOf s).drop i = bt s (i : Int) :: (bytesOf s).drop (i + 1) := by
  rw [drop_rd _ i (by rw [bytesOf_length];exact h),rd_bytesOf]
def lexB : List Int → List Int → Bool
  | _, [] => false
  | [], _ :: _ => true
  | a :: x, b :: y => if a = b then lexB x y else decide (a < b)
theorem bytesLess_lex : ∀ x y : List UInt8, Op.bytesLess x y = lexB (x.map fun b => (b.toNat : Int)) (y.map fun b => (b.toNat : Int))
  | [], [] => by simp [Op.bytesLess, lexB]
  | _ :: _, [] => by simp [Op.bytesLess, lexB]
  | [], _ :: _ => by simp [Op.bytesLess, lexB]
  | a :: x, b :: y => by
    rw [Op.bytesLess,bytesLess_lex x y]
    simp only [List.map_cons,lexB]
    by_cases h:a=b
    · subst h
      simp
    · have h1 : ¬ ((a.toNat:Int)=(b.toNat:Int)):=fun e=>h (UInt8.toNat_inj.1 (by omega))
      rw [if_neg h1]
      simp only [h,beq_eq_false_iff_ne.2 h,Bool.false_and,Bool.or_false]
      rw [decide_eq_decide]
      rw [UInt8.lt_iff_toNat_lt]
      omega
theorem bytesLess_bytesOf (a b : ByteArray) : Op.bytesLess a.toList b.toList = lexB (bytesOf a) (bytesOf b) := by
  rw [bytesLess_lex,ByteArray.toList_eq,ByteArray.toList_eq]
  rfl

def allFrom (p : Nat → Bool) : Nat → Nat → Bool
  | 0, _ => true
  | d + 1, i => p i && allFrom p d (i + 1)
theorem allFrom_at {p : Nat → Bool} : ∀ {d i : Nat}, allFrom p d i = true → ∀ j, i ≤ j → j < i + d → p j = true
  | 0, i, _, j, h1, h2 => absurd h2 (by omega)
  | d + 1, i, h, j, h1, h2 => by
    rw [allFrom,Bool.and_eq_true] at h
    rcases Nat.eq_or_lt_of_le h1 with rfl|h3
    · exact h.1
    · exact allFrom_at h.2 j (by omega) (by omega)

/-! #### PackOk -/
def okc (c : Int) : Bool := decide ((48 ≤ c ∧ c ≤ 57) ∨ (97 ≤ c ∧ c ≤ 122) ∨ (65 ≤ c ∧ c ≤ 90) ∨ c = 95 ∨ c = 46)
def nameB (s : ByteArray) : Bool := decide (1 ≤ s.size ∧ s.size ≤ 40) && (bytesOf s).all okc
theorem spec_Name_ev (s : ByteArray) : Ev (fun k => spec_l15Name.f k s) (nameB s) := by
  have key:∀ d i,s.size≤40→i+d=s.size→Ev (fun k=>spec_l15Name.l0 k s (i:Int)) (((bytesOf s).drop i).all okc):=by
    intro d
    induction d with
    | zero =>
      intro i hs hi
      refine ev_succ ?_
      have h1 : ¬ (i:Int) < (s.size:Int):=by omega
      simp only [spec_l15Name.l0,h1,if_false]
      exact ev_ret (by rw [drop_end (by rw [bytesOf_length];omega)];rfl)
    | succ d ih =>
      intro i hs hi
      refine ev_succ ?_
      have h1:(i:Int) < (s.size:Int):=by omega
      have h2:(0:Int)≤(i:Int):=by omega
      have h4:=w64s (n:=i) (by omega)
      have hih:=ih (i+1) hs (by omega)
      simp only [spec_l15Name.l0,h1,h2,h4,if_true]
      rw [drop_bt s i (by omega),List.all_cons]
      generalize bt s (i:Int)=c
      have yes:okc c=true→Ev (fun k=>spec_l15Name.l0 k s ((i+1:Nat):Int)) (okc c && ((bytesOf s).drop (i+1)).all okc):=fun h=>by rw [h,Bool.true_and];exact hih
      have no:okc c=false→Ev (fun _=>some false) (okc c && ((bytesOf s).drop (i+1)).all okc):=fun h=>by rw [h,Bool.false_and];exact ev_ret rfl
      repeat' (refine ev_ite (fun _=>?_) (fun _=>?_))
      all_goals first|exact yes (decide_eq_true (by omega))|exact no (decide_eq_false (by omega))
  unfold nameB
  simp only [spec_l15Name.f]
  refine ev_ite (fun h=>?_) (fun h=>?_)
  · refine ev_succ ?_
    simp only [spec_l15Name.j0,if_true]
    exact ev_ret (by rw [decide_eq_false (by omega)];rfl)
  · refine ev_succ ?_
    by_cases h2:(s.size:Int) > 40
    · simp only [spec_l15Name.j0,decide_eq_true h2,if_true]
      exact ev_ret (by rw [decide_eq_false (by omega)];rfl)
    · simp only [spec_l15Name.j0,decide_eq_false h2,Bool.false_eq_true,if_false]
      exact ev_eq (key s.size 0 (by omega) (by omega)) (by rw [decide_eq_true (by omega)];simp)
theorem impl_Name_ev (s : ByteArray) : Ev (fun k => impl_assetName.f k s) (nameB s) := by
  have hle:∀ c,impl_isLetter.f c=some (decide ((97≤c∧c≤122)∨(65≤c∧c≤90))):=by
    intro c
    unfold impl_isLetter.f
    repeat' split
    all_goals (congr 1;first|(rw [decide_eq_decide];omega)|(symm;first|exact decide_eq_true (by omega)|exact decide_eq_false (by omega)))
  have hdi:∀ c,impl_isDigit.f c=some (decide (48≤c∧c≤57)):=by
    intro c
    unfold impl_isDigit.f
    split
    all_goals (congr 1;first|(rw [decide_eq_decide];omega)|(symm;first|exact decide_eq_true (by omega)|exact decide_eq_false (by omega)))
  have key:∀ d i,s.size≤40→i+d=s.size→Ev (fun k=>impl_assetName.l0 k s (s.size:Int) (i:Int)) (((bytesOf s).drop i).all okc):=by
    intro d
    induction d with
    | zero =>
      intro i hs hi
      refine ev_succ ?_
      have h1 : ¬ (i:Int) < (s.size:Int):=by omega
      simp only [impl_assetName.l0,h1,if_false]
      exact ev_ret (by rw [drop_end (by rw [bytesOf_length];omega)];rfl)
    | succ d ih =>
      intro i hs hi
      refine ev_succ ?_
      have h1:(i:Int) < (s.size:Int):=by omega
      have h2:(0:Int)≤(i:Int):=by omega
      have h4:=w64s (n:=i) (by omega)
      have hih:=ih (i+1) hs (by omega)
      simp only [impl_assetName.l0,h1,h2,h4,if_true,hle,hdi,Option.bind_some,decide_eq_true_eq]
      rw [drop_bt s i (by omega),List.all_cons]
      generalize bt s (i:Int)=c
      have yes:okc c=true→Ev (fun k=>impl_assetName.l0 k s (s.size:Int) ((i+1:Nat):Int)) (okc c && ((bytesOf s).drop (i+1)).all okc):=fun h=>by rw [h,Bool.true_and];exact hih
      have no:okc c=false→Ev (fun _=>some false) (okc c && ((bytesOf s).drop (i+1)).all okc):=fun h=>by rw [h,Bool.false_and];exact ev_ret rfl
      repeat' (refine ev_ite (fun _=>?_) (fun _=>?_))
      all_goals first|exact yes (decide_eq_true (by omega))|exact no (decide_eq_false (by omega))
  unfold nameB
  simp only [impl_assetName.f,impl_in_eq,Option.bind_some]
  refine ev_ifb (fun h=>?_) (fun h=>?_)
  · have h':=of_decide_eq_true h
    exact ev_eq (key s.size 0 (by omega) (by omega)) (by rw [decide_eq_true (by omega)];simp)
  · have h':=of_decide_eq_false h
    exact ev_ret (by rw [decide_eq_false (by omega)];rfl)
theorem spec_Before_ev (a b : ByteArray) (ha : a.size ≤ 4611686018427387904) : Ev (fun k => spec_l15Before.f k a b) (lexB (bytesOf a) (bytesOf b)) := by
  have key:∀ d i,i+d=a.size→i≤b.size→Ev (fun k=>spec_l15Before.l0 k a b (i:Int)) (lexB ((bytesOf a).drop i) ((bytesOf b).drop i)):=by
    intro d
    induction d with
    | zero =>
      intro i hi hb
      refine ev_succ ?_
      have h1 : ¬ (i:Int) < (a.size:Int):=by omega
      simp only [spec_l15Before.l0,h1,if_false]
      refine ev_succ ?_
      simp only [spec_l15Before.j1,Bool.false_eq_true,if_false]
      refine ev_ret ?_
      rw [drop_end (by rw [bytesOf_length];omega)]
      by_cases h2:i < b.size
      · rw [drop_bt b i h2,decide_eq_true (by omega)];rfl
      · rw [drop_end (by rw [bytesOf_length];omega),decide_eq_false (by omega)];rfl
    | succ d ih =>
      intro i hi hb
      refine ev_succ ?_
      have h1:(i:Int) < (a.size:Int):=by omega
      have h3:(0:Int)≤(i:Int):=by omega
      have h4:=w64s (n:=i) (by omega)
      simp only [spec_l15Before.l0,h1,if_true]
      refine ev_succ ?_
      by_cases h2:(i:Int) < (b.size:Int)
      · simp only [spec_l15Before.j1,decide_eq_true h2,if_true,h1,h2,h3,h4]
        rw [drop_bt a i (by omega),drop_bt b i (by omega),lexB]
        by_cases he:bt a (i:Int)=bt b (i:Int)
        · simp only [he,if_true]
          exact ih (i+1) (by omega) (by omega)
        · simp only [he,if_false]
          exact ev_ret rfl
      · simp only [spec_l15Before.j1,decide_eq_false h2,Bool.false_eq_true,if_false]
        refine ev_ret ?_
        rw [drop_end (xs:=bytesOf b) (by rw [bytesOf_length];omega),decide_eq_false (by omega)]
        cases (bytesOf a).drop i <;> rfl
  exact key a.size 0 (by omega) (by omega)
def assetB (xs : List S71) (i : Nat) : Bool :=
  nameB (rd_T71 xs (i : Int)).f0 && decide (0 ≤ (rd_T71 xs (i : Int)).f1 ∧ (rd_T71 xs (i : Int)).f1 ≤ 40000) && decide (0 ≤ (rd_T71 xs (i : Int)).f2 ∧ (rd_T71 xs (i : Int)).f2 ≤ 1000000006)
    && (decide (i = 0) || lexB (bytesOf (rd_T71 xs ((i - 1 : Nat) : Int)).f0) (bytesOf (rd_T71 xs (i : Int)).f0))
def packB (xs : List S71) : Bool := decide (xs.length ≤ 100) && allFrom (assetB xs) xs.length 0
theorem impl_PackOk_ev (xs : List S71) (hl : xs.length ≤ 4611686018427387904) : Ev (fun k => impl_PackOk.f k xs) (packB xs) := by
  have key:∀ d i,i+d=xs.length→Ev (fun k=>impl_PackOk.l0 k xs xs (xs.length:Int) (i:Int)) (decide (xs.length≤100) && allFrom (assetB xs) d i):=by
    intro d
    induction d with
    | zero =>
      intro i hi
      refine ev_succ ?_
      have h1 : ¬ (i:Int) < (xs.length:Int):=by omega
      simp only [impl_PackOk.l0,h1,if_false]
      exact ev_ret (by rw [allFrom,Bool.and_true];congr 1;rw [decide_eq_decide];omega)
    | succ d ih =>
      intro i hi
      refine ev_succ ?_
      have h1:(i:Int) < (xs.length:Int):=by omega
      have h2:(0:Int)≤(i:Int):=by omega
      have h4:=w64s (n:=i) (by omega)
      simp only [impl_PackOk.l0,h1,h2,h4,if_true]
      rw [allFrom,assetB]
      have no:∀ b:Bool,b=false→Ev (fun k=>some false) (decide (xs.length≤100) && (b && allFrom (assetB xs) d (i+1))):=fun b hb=>by rw [hb,Bool.false_and,Bool.and_false];exact ev_ret rfl
      refine ev_bind (impl_Name_ev _) ?_
      refine ev_ifb (fun e1=>?_) (fun e1=>no _ (by rw [e1];rfl))
      rw [e1,Bool.true_and]
      simp only [impl_in_eq,Option.bind_some]
      refine ev_ifb (fun e2=>?_) (fun e2=>no _ (by rw [e2];rfl))
      rw [e2,Bool.true_and]
      refine ev_ifb (fun e3=>?_) (fun e3=>no _ (by rw [e3];rfl))
      rw [e3,Bool.true_and]
      refine ev_ite (fun h5=>?_) (fun h5=>?_)
      · have h6:wrap64 ((i:Int) - 1)=((i - 1:Nat):Int):=by rw [w64 (by omega) (by omega)];omega
        have h7:(0:Int)≤((i - 1:Nat):Int):=by omega
        have h8:((i - 1:Nat):Int) < (xs.length:Int):=by omega
        simp only [h6,h7,h8,if_true,bytesLess_bytesOf]
        rw [decide_eq_false (show ¬ i=0 by omega),Bool.false_or]
        refine ev_ifb (fun e4=>?_) (fun e4=>no _ e4)
        rw [e4,Bool.true_and]
        exact ih (i+1) (by omega)
      · rw [decide_eq_true (show i=0 by omega),Bool.true_or,Bool.true_and]
        exact ih (i+1) (by omega)
  exact key xs.length 0 (by omega)

/-! #### Digest -/
def dstep (h x : Int) : Int := Int.tmod (wrap64 ((wrap64 ((wrap64 (h * 257)) + (wrap64 x))) + 1)) 1000000007
def dig (xs : List Int) : Int := (xs.take 40000).foldl dstep 0
theorem spec_Digest_ev (xs : List Int) : Ev (fun k => spec_Digest.f k xs) (dig xs) := by
  have key:∀ d i (h:Int),i+d=(xs.take 40000).length→Ev (fun k=>spec_Digest.l0 k xs h (i:Int)) (((xs.take 40000).drop i).foldl dstep h):=by
    intro d
    induction d with
    | zero =>
      intro i h hi
      refine ev_succ ?_
      rw [drop_end (by omega)]
      by_cases h1:(i:Int) < (xs.length:Int)
      · have h2 : ¬ (i:Int) < 40000:=by rw [List.length_take] at hi;omega
        simp only [spec_Digest.l0,h1,h2,if_true,if_false]
        exact ev_ret rfl
      · simp only [spec_Digest.l0,h1,if_false]
        exact ev_ret rfl
    | succ d ih =>
      intro i h hi
      refine ev_succ ?_
      have h0:i < (xs.take 40000).length:=by omega
      rw [List.length_take] at hi
      have h1:(i:Int) < (xs.length:Int):=by omega
      have h2:(i:Int) < 40000:=by omega
      have h3:(0:Int)≤(i:Int):=by omega
      have h4:=w64s (n:=i) (by omega)
      simp only [spec_Digest.l0,h1,h2,h3,if_true,h4]
      rw [drop_rd _ i h0,List.foldl_cons]
      have he:rd (xs.take 40000) (i:Int)=rd xs (i:Int):=by
        simp only [rd_nat,List.getD_eq_getElem?_getD]
        rw [List.getElem?_take_of_lt (by omega)]
      rw [he]
      exact ih (i+1) _ (by rw [List.length_take];omega)
  exact key (xs.take 40000).length 0 0 (by omega)
theorem impl_Digest_ev (xs : List Int) : Ev (fun k => impl_Digest.f k xs) (dig xs) := by
  have key:∀ (ys:List Int) d i (h:Int),ys.length≤40000→i+d=ys.length→Ev (fun k=>impl_Digest.l0 k h ys (ys.length:Int) (i:Int)) ((ys.drop i).foldl dstep h):=by
    intro ys d
    induction d with
    | zero =>
      intro i h hl hi
      refine ev_succ ?_
      rw [drop_end (by omega)]
      have h1 : ¬ (i:Int) < (ys.length:Int):=by omega
      simp only [impl_Digest.l0,h1,if_false]
      exact ev_ret rfl
    | succ d ih =>
      intro i h hl hi
      refine ev_succ ?_
      have h1:(i:Int) < (ys.length:Int):=by omega
      have h3:(0:Int)≤(i:Int):=by omega
      have h4:=w64s (n:=i) (by omega)
      simp only [impl_Digest.l0,h1,h3,if_true,h4,impl_stepped.f,Option.bind_some]
      rw [drop_rd _ i (by omega),List.foldl_cons]
      exact ih (i+1) _ hl (by omega)
  have hm:mn (xs.length:Int) 40000=((xs.take 40000).length:Int):=by unfold mn;rw [List.length_take];split <;> omega
  have h0:(0:Int)≤((xs.take 40000).length:Int):=by omega
  have h1:((xs.take 40000).length:Int)≤(xs.length:Int):=by rw [List.length_take];omega
  have h2:xs.take (xs.take 40000).length=xs.take 40000:=by
    rw [List.length_take]
    rcases Nat.le_total 40000 xs.length with h|h
    · rw [Nat.min_eq_left h]
    · rw [Nat.min_eq_right h,List.take_of_length_le (Nat.le_refl _),List.take_of_length_le h]
  simp only [impl_Digest.f,hm,h0,h1,if_true,Int.toNat_natCast,h2]
  exact key (xs.take 40000) (xs.take 40000).length 0 0 (by rw [List.length_take];omega) (by omega)

/-! #### strings: equal to themselves, marked -/
theorem str_inj {a b : ByteArray} (h : a.toList = b.toList) : a = b := by
  rw [ByteArray.toList_eq,ByteArray.toList_eq] at h
  exact ByteArray.ext (Array.toList_inj.mp h)

/-! #### strictly in order -/
theorem lexB_irrefl : ∀ a : List Int, lexB a a = false
  | [] => rfl
  | a :: x => by rw [lexB, if_pos rfl]; exact lexB_irrefl x
theorem lexB_trans : ∀ a b c : List Int, lexB a b = true → lexB b c = true → lexB a c = true
  | _, [], _, h, _ => by simp [lexB] at h
  | a, b :: y, [], _, h => by simp [lexB] at h
  | [], b :: y, c :: z, _, _ => rfl
  | a :: x, b :: y, c :: z, h1, h2 => by
    rw [lexB] at h1 h2 ⊢
    by_cases e1:a=b
    · rw [if_pos e1] at h1
      by_cases e2:b=c
      · rw [if_pos e2] at h2
        rw [if_pos (e1.trans e2)]
        exact lexB_trans x y z h1 h2
      · rw [if_neg e2] at h2
        rw [if_neg (by omega),e1]
        exact h2
    · rw [if_neg e1] at h1
      have l1:=of_decide_eq_true h1
      by_cases e2:b=c
      · rw [if_neg (by omega)]
        exact decide_eq_true (by omega)
      · rw [if_neg e2] at h2
        have l2:=of_decide_eq_true h2
        rw [if_neg (by omega)]
        exact decide_eq_true (by omega)
def nmAt (xs : List S71) (i : Nat) : ByteArray := (rd_T71 xs (i : Int)).f0
theorem pack_lt {xs : List S71} (h : packB xs = true) : ∀ (d i : Nat), 0 < d → i + d < xs.length → lexB (bytesOf (nmAt xs i)) (bytesOf (nmAt xs (i + d))) = true := by
  rw [packB,Bool.and_eq_true] at h
  have one:∀ i,0 < i→i < xs.length→lexB (bytesOf (nmAt xs (i - 1))) (bytesOf (nmAt xs i))=true:=by
    intro i h0 hi
    have:=allFrom_at h.2 i (by omega) (by omega)
    rw [assetB,Bool.and_eq_true] at this
    have h2:=this.2
    rw [decide_eq_false (show ¬ i=0 by omega),Bool.false_or] at h2
    exact h2
  intro d
  induction d with
  | zero => intro i h0; omega
  | succ d ih =>
    intro i _ hi
    have h1:=one (i+(d+1)) (by omega) hi
    rw [show i+(d+1) - 1=i+d by omega] at h1
    rcases Nat.eq_zero_or_pos d with h0|h0
    · subst h0;exact h1
    · exact lexB_trans _ _ _ (ih i h0 (by omega)) h1
/-! #### lists in order -/
def LL (x y : S71) : Prop := lexB (bytesOf x.f0) (bytesOf y.f0) = true
theorem LL_trans {x y z : S71} (h1 : LL x y) (h2 : LL y z) : LL x z := lexB_trans _ _ _ h1 h2
theorem LL_irr {x y : S71} (h : LL x y) : x.f0 ≠ y.f0 := by
  intro e
  unfold LL at h
  rw [e,lexB_irrefl] at h
  cases h
theorem LL_less (x y : S71) : Op.bytesLess x.f0.toList y.f0.toList = true ↔ LL x y := by rw [bytesLess_bytesOf]; exact Iff.rfl
theorem LL_tot {x y : S71} (h : ¬ LL x y) (hn : x.f0 ≠ y.f0) : LL y x := by
  rw [← LL_less] at h ⊢
  have t:=less_or x.f0.toList y.f0.toList
  have h0:Op.bytesLess x.f0.toList y.f0.toList=false:=by simpa using h
  have h1:(x.f0.toList == y.f0.toList)=false:=by
    rw [beq_eq_false_iff_ne]
    exact fun e=>hn (str_inj e)
  rw [h0,h1] at t
  simpa using t
theorem strict_unique : ∀ {X S : List S71}, X.Perm S → S.Pairwise LL → X.Pairwise LL → X = S
  | [], S, hp, _, _ => (List.nil_perm.1 hp).symm ▸ rfl
  | b :: X, [], hp, _, _ => by simpa using hp.length_eq
  | b :: X, a :: S, hp, hS, hX => by
    have ha:a ∈ b :: X:=hp.symm.subset (List.mem_cons_self)
    have hb:b ∈ a :: S:=hp.subset (List.mem_cons_self)
    have e:a=b:=by
      rcases List.mem_cons.1 ha with h|h
      · exact h
      · rcases List.mem_cons.1 hb with h2|h2
        · exact h2.symm
        · exact absurd rfl (LL_irr (LL_trans ((List.pairwise_cons.1 hX).1 a h) ((List.pairwise_cons.1 hS).1 b h2)))
    subst e
    rw [strict_unique hp.cons_inv (List.pairwise_cons.1 hS).2 (List.pairwise_cons.1 hX).2]
theorem allFrom_of {p : Nat → Bool} : ∀ {d i : Nat}, (∀ j, i ≤ j → j < i + d → p j = true) → allFrom p d i = true
  | 0, _, _ => rfl
  | d + 1, i, h => by
    rw [allFrom,h i (by omega) (by omega),Bool.true_and]
    exact allFrom_of (fun j h1 h2=>h j (by omega) (by omega))
def okA (x : S71) : Prop := nameB x.f0 = true ∧ (0 ≤ x.f1 ∧ x.f1 ≤ 40000) ∧ 0 ≤ x.f2 ∧ x.f2 ≤ 1000000006
theorem rd_get {X : List S71} {i : Nat} (hi : i < X.length) : rd_T71 X (i : Int) = X[i] := by simp [rd_T71, hi]
theorem packB_iff (X : List S71) : packB X = true ↔ X.length ≤ 100 ∧ (∀ x ∈ X, okA x) ∧ X.Pairwise LL := by
  constructor
  · intro h
    refine⟨?_,fun x hx=>?_,?_⟩
    · rw [packB,Bool.and_eq_true] at h
      exact of_decide_eq_true h.1
    · obtain⟨i,hi,rfl⟩:=List.getElem_of_mem hx
      rw [packB,Bool.and_eq_true] at h
      have:=allFrom_at h.2 i (by omega) (by omega)
      simp only [assetB,Bool.and_eq_true,decide_eq_true_eq,rd_get hi] at this
      exact⟨this.1.1.1,this.1.1.2,this.1.2⟩
    · rw [List.pairwise_iff_getElem]
      intro i j hi hj hlt
      have:=pack_lt h (j - i) i (by omega) (by omega)
      rw [show i+(j - i)=j by omega,nmAt,nmAt,rd_get hi,rd_get hj] at this
      exact this
  · rintro⟨hl,hv,hp⟩
    rw [packB,decide_eq_true hl,Bool.true_and]
    refine allFrom_of fun j _ hj=>?_
    have hj2:j < X.length:=by omega
    obtain⟨h1,h2,h3⟩:=hv _ (List.getElem_mem hj2)
    simp only [assetB,Bool.and_eq_true,decide_eq_true_eq,rd_get hj2,Bool.or_eq_true]
    refine⟨⟨⟨h1,h2⟩,h3⟩,?_⟩
    by_cases h0:j=0
    · exact .inl h0
    · have hj3:j - 1 < X.length:=by omega
      rw [rd_get hj3]
      exact .inr (List.pairwise_iff_getElem.1 hp (j - 1) j hj3 hj2 (by omega))
theorem sortA_perm (l : List S71) : (sortA l).Perm l := by
  have h:=(sortA_spec l).1.2.2
  have e:=(sortA_spec l).1.1
  unfold sortA
  have e1:(l.toArray.extract 0 l.toArray.size).toList=l:=by simp
  have e2:∀ d:Array S71,d.size=l.toArray.size→(d.extract 0 l.toArray.size).toList=d.toList:=by
    intro d hd
    rw [← hd]
    simp
  rw [e1,e2 _ e] at h
  exact h
theorem sortA_weak (l : List S71) : (sortA l).Pairwise (fun x y => ¬ LL y x) := by
  rw [List.pairwise_iff_getElem]
  intro i j hi hj hlt
  have hl:=sortA_len l
  have h:=(sortA_spec l).2 i j (Nat.zero_le _) hlt (by simp;omega)
  rw [lt_cmpN] at h
  rw [← LL_less]
  unfold sortA at hi hj ⊢
  rw [getElem!_pos _ i (by simpa using hi),getElem!_pos _ j (by simpa using hj)] at h
  simp only [Array.getElem_toList]
  rw [h]
  simp
theorem sortA_strict {l S : List S71} (hp : S.Perm l) (hs : S.Pairwise LL) : sortA l = S := by
  have h1:(sortA l).Perm S:=(sortA_perm l).trans hp.symm
  refine strict_unique h1 hs ?_
  have h2:S.Pairwise (fun x y=>x.f0≠y.f0):=hs.imp (fun h=>LL_irr h)
  have h3:(sortA l).Pairwise (fun x y=>x.f0≠y.f0):=(h1.pairwise_iff (fun h=>Ne.symm h)).2 h2
  exact((sortA_weak l).and h3).imp (fun ⟨a,b⟩=>LL_tot a (Ne.symm b))

/-! #### Pack -/
def mkA (s : ByteArray) (b : List Int) : S71 := ⟨s, (b.length : Int), dig b⟩
def madeI (ns : List ByteArray) (bs : List (List Int)) (n : Nat) : List S71 := (List.range n).map fun (i : Nat) => mkA (rdOf ByteArray.empty ns (i : Int)) (rd_L5 bs (i : Int))
theorem madeI_succ (ns : List ByteArray) (bs : List (List Int)) (n : Nat) : madeI ns bs (n + 1) = madeI ns bs n ++ [mkA (rdOf ByteArray.empty ns (n : Int)) (rd_L5 bs (n : Int))] := by simp [madeI, List.range_succ]
theorem madeI_len (ns : List ByteArray) (bs : List (List Int)) (n : Nat) : (madeI ns bs n).length = n := by simp [madeI]
theorem madeI_get (ns : List ByteArray) (bs : List (List Int)) (n i : Nat) (h : i < (madeI ns bs n).length) : (madeI ns bs n)[i] = mkA (rdOf ByteArray.empty ns (i : Int)) (rd_L5 bs (i : Int)) := by simp [madeI]
theorem dig_range (xs : List Int) (h : ∀ x ∈ xs, 0 ≤ x ∧ x ≤ 255) : 0 ≤ dig xs ∧ dig xs ≤ 1000000006 := by
  have key:∀ (ys:List Int) (a:Int),(∀ x ∈ ys,0≤x∧x≤255)→0≤a∧a≤1000000006→0≤ys.foldl dstep a∧ys.foldl dstep a≤1000000006:=by
    intro ys
    induction ys with
    | nil => intro a _ ha; exact ha
    | cons y ys ih =>
      intro a hy ha
      obtain⟨h1,h2⟩:=hy y List.mem_cons_self
      rw [List.foldl_cons]
      refine ih _ (fun x hx=>hy x (List.mem_cons_of_mem _ hx)) ?_
      have e1:wrap64 (a*257)=a*257:=w64 (by omega) (by omega)
      have e2:wrap64 y=y:=w64 (by omega) (by omega)
      have e3:wrap64 (a*257+y)=a*257+y:=w64 (by omega) (by omega)
      have e4:wrap64 (a*257+y+1)=a*257+y+1:=w64 (by omega) (by omega)
      unfold dstep
      rw [e1,e2,e3,e4]
      have:0≤a*257+y+1:=by omega
      rw [Int.tmod_eq_emod_of_nonneg this]
      omega
  exact key _ 0 (fun x hx=>h x (List.mem_of_mem_take hx)) (by omega)
def packT (X : List S71) : List S71 × Bool := if packB X = true then (X, true) else ([], false)
theorem impl_Pack_ev (ns : List ByteArray) (bs : List (List Int)) (hn : ns.length ≤ 1048576) : Ev (fun k => impl_Pack.f k ns bs) (if ns.length = bs.length then packT (sortA (madeI ns bs ns.length)) else ([], false)) := by
  simp only [impl_Pack.f]
  by_cases hl:ns.length=bs.length
  · have hl2:(ns.length:Int)=(bs.length:Int):=by omega
    simp only [hl2,if_true]
    rw [if_pos hl,← hl2]
    have key:∀ d i,i+d=ns.length→Ev (fun k=>impl_Pack.l0 k bs (madeI ns bs i) ns (ns.length:Int) (i:Int)) (packT (sortA (madeI ns bs ns.length))):=by
      intro d
      induction d with
      | zero =>
        intro i hi
        refine ev_succ ?_
        have h1 : ¬ (i:Int) < (ns.length:Int):=by omega
        obtain rfl:i=ns.length:=by omega
        have h2:(madeI ns bs ns.length).length < 4611686018427387904:=by rw [madeI_len];omega
        simp only [impl_Pack.l0,h1,if_false,pk_sort.f,if_pos h2,Option.bind_some]
        have h3:=sortA_len (madeI ns bs ns.length)
        rw [madeI_len] at h3
        refine ev_bind (impl_PackOk_ev _ (by omega)) ?_
        unfold packT
        exact ev_ite (fun h=>ev_ret (by rw [if_pos h])) (fun h=>ev_ret (by rw [if_neg h]))
      | succ d ih =>
        intro i hi
        refine ev_succ ?_
        have h1:(i:Int) < (ns.length:Int):=by omega
        have h2:(0:Int)≤(i:Int):=by omega
        have h3:(i:Int) < (bs.length:Int):=by omega
        have h4:=w64s (n:=i) (by omega)
        have h5:(madeI ns bs i).length < 4398046511104:=by rw [madeI_len];omega
        simp only [impl_Pack.l0,h1,h2,h3,h4,h5,if_true]
        refine ev_bind (impl_Digest_ev _) ?_
        have:=ih (i+1) (by omega)
        rw [madeI_succ] at this
        exact this
    exact key ns.length 0 (by omega)
  · have hl2 : ¬ (ns.length:Int)=(bs.length:Int):=by omega
    simp only [hl2,if_false]
    exact ev_ret (by rw [if_neg hl])
theorem spec_ins (ns : List ByteArray) (bs : List (List Int)) (i : Nat) (S : List S71) (a : S71) (hS : S.Pairwise LL) (hl : S.length ≤ 200) (hi : i ≤ 200) (hz : ∀ x ∈ S, x.f0.size ≤ 4611686018427387904) :
    ∀ p,p≤S.length→(∀ x ∈ S.drop p,LL a x) → ∀ y,(∃ S':List S71,S'.Perm (a :: S)∧S'.Pairwise LL ∧ ∀ R,Ev (fun k=>spec_Pack.l0 k ns bs S' ((i+1:Nat):Int)) R→Ev (fun k=>spec_Pack.l1 k ns bs (S.take p ++ y :: S.drop p) (i:Int) (p:Int) a.f0 a.f1 a.f2) R) ∨
      ((∃ x ∈ S,x.f0=a.f0)∧Ev (fun k=>spec_Pack.l1 k ns bs (S.take p ++ y :: S.drop p) (i:Int) (p:Int) a.f0 a.f1 a.f2) ([],false)):=by
  have hw:=w64s (n:=i) (by omega)
  have put:∀ p y,p≤S.length→(∀ x ∈ S.take p,LL x a)→(∀ x ∈ S.drop p,LL a x)→(S.take p ++ a :: S.drop p).Perm (a :: S)∧(S.take p ++ a :: S.drop p).Pairwise LL ∧ ∀ R,Ev (fun k=>spec_Pack.l0 k ns bs (S.take p ++ a :: S.drop p) ((i+1:Nat):Int)) R→Ev (fun k=>spec_Pack.j4 k ns bs (S.take p ++ y :: S.drop p) (i:Int) (p:Int) false a.f0 a.f1 a.f2) R:=by
    intro p y hp h1 h2
    refine⟨?_,?_,fun R hR=>ev_succ ?_⟩
    · have:=@List.perm_middle _ a (S.take p) (S.drop p)
      rwa [List.take_append_drop] at this
    · rw [List.pairwise_append]
      refine⟨hS.sublist (List.take_sublist _ _),List.pairwise_cons.2 ⟨h2,hS.sublist (List.drop_sublist _ _)⟩,fun x hx z hz'=>?_⟩
      rcases List.mem_cons.1 hz' with rfl|hz'
      · exact h1 x hx
      · exact LL_trans (h1 x hx) (h2 z hz')
    · have e1:(0:Int)≤(p:Int):=by omega
      have e2:(p:Int) < ((S.take p ++ y :: S.drop p).length:Int):=by simp;omega
      have e3:(S.take p ++ y :: S.drop p).set p a=S.take p ++ a :: S.drop p:=by
        rw [List.set_append_right _ _ (by rw [List.length_take];omega),List.length_take]
        rw [show p - min p S.length=0 by omega,List.set_cons_zero]
      simp only [spec_Pack.j4,Bool.false_eq_true,if_false,e1,e2,if_true,Int.toNat_natCast,hw]
      have:(⟨a.f0,a.f1,a.f2⟩:S71)=a:=rfl
      rw [this,e3]
      exact hR
  intro p
  induction p with
  | zero =>
    intro hp hd y
    obtain⟨q1,q2,q3⟩:=put 0 y (by omega) (fun x hx=>by simp at hx) hd
    refine .inl ⟨_,q1,q2,fun R hR=>ev_succ ?_⟩
    have e1 : ¬ ((0:Nat):Int) > 0:=by omega
    simp only [spec_Pack.l1,e1,if_false]
    exact q3 R hR
  | succ p ih =>
    intro hp hd y
    have e1:((p+1:Nat):Int) > 0:=by omega
    have e2:wrap64 (((p+1:Nat):Int) - 1)=(p:Int):=by rw [w64 (by omega) (by omega)];omega
    have e3:(0:Int)≤(p:Int):=by omega
    have e4:(p:Int) < ((S.take (p+1) ++ y :: S.drop (p+1)).length:Int):=by simp;omega
    have hpl:p < S.length:=by omega
    have e5:rd_T71 (S.take (p+1) ++ y :: S.drop (p+1)) (p:Int)=S[p]:=by
      simp only [rd_T71,Int.toNat_natCast,List.getD_eq_getElem?_getD]
      rw [List.getElem?_append_left (by rw [List.length_take];omega),List.getElem?_take_of_lt (by omega),List.getElem?_eq_getElem hpl]
      rfl
    have hb:=spec_Before_ev S[p].f0 a.f0 (hz _ (List.getElem_mem hpl))
    by_cases hlt:LL S[p] a
    · obtain⟨q1,q2,q3⟩:=put (p+1) y (by omega) (fun x hx=>by
        obtain⟨j,hj,rfl⟩:=List.getElem_of_mem hx
        rw [List.length_take] at hj
        rw [List.getElem_take]
        rcases Nat.lt_or_ge j p with h|h
        · exact LL_trans (List.pairwise_iff_getElem.1 hS j p (by omega) hpl h) hlt
        · obtain rfl:j=p:=by omega
          exact hlt) hd
      refine .inl ⟨_,q1,q2,fun R hR=>ev_succ ?_⟩
      simp only [spec_Pack.l1,e1,e2,e3,e4,e5,if_true]
      refine ev_bind hb ?_
      have:lexB (bytesOf S[p].f0) (bytesOf a.f0)=true:=hlt
      rw [this]
      exact q3 R hR
    · have hf:lexB (bytesOf S[p].f0) (bytesOf a.f0)=false:=by
        cases h:lexB (bytesOf S[p].f0) (bytesOf a.f0) with
        | false => rfl
        | true => exact absurd h hlt
      have e6:(0:Int)≤((p+1:Nat):Int):=by omega
      have e7:((p+1:Nat):Int) < ((S.take (p+1) ++ y :: S.drop (p+1)).length:Int):=by simp;omega
      by_cases hn:S[p].f0.toList=a.f0.toList
      · refine .inr ⟨⟨S[p],List.getElem_mem hpl,str_inj hn⟩,ev_succ ?_⟩
        simp only [spec_Pack.l1,e1,e2,e3,e4,e5,if_true]
        refine ev_bind hb (ev_succ ?_)
        rw [hf]
        simp only [spec_Pack.j4,Bool.not_false,e2,e3,e4,e5,hn,if_true]
        exact ev_ret rfl
      · have ha:LL a S[p]:=LL_tot hlt (fun e=>hn (by rw [e]))
        have hset:(S.take (p+1) ++ y :: S.drop (p+1)).set (p+1) S[p]=S.take p ++ S[p] :: S.drop p:=by
          rw [List.set_append_right _ _ (by rw [List.length_take];omega),List.length_take]
          rw [show p+1 - min (p+1) S.length=0 by omega,List.set_cons_zero,List.take_succ_eq_append_getElem hpl,List.append_assoc]
          rw [List.drop_eq_getElem_cons hpl]
          rfl
        have step:∀ R,Ev (fun k=>spec_Pack.l1 k ns bs (S.take p ++ S[p] :: S.drop p) (i:Int) (p:Int) a.f0 a.f1 a.f2) R→Ev (fun k=>spec_Pack.l1 k ns bs (S.take (p+1) ++ y :: S.drop (p+1)) (i:Int) ((p+1:Nat):Int) a.f0 a.f1 a.f2) R:=by
          intro R hR
          refine ev_succ ?_
          simp only [spec_Pack.l1,e1,e2,e3,e4,e5,if_true]
          refine ev_bind hb (ev_succ ?_)
          rw [hf]
          simp only [spec_Pack.j4,Bool.not_false,e2,e3,e4,e5,e6,e7,hn,if_true,if_false,Int.toNat_natCast]
          have:(⟨S[p].f0,S[p].f1,S[p].f2⟩:S71)=S[p]:=rfl
          rw [this,hset]
          exact hR
        rcases ih (by omega) (fun x hx=>by
          rw [List.drop_eq_getElem_cons hpl] at hx
          rcases List.mem_cons.1 hx with rfl|hx
          · exact ha
          · exact hd x hx) S[p] with ⟨S',q1,q2,q3⟩|⟨q1,q2⟩
        · exact .inl ⟨S',q1,q2,fun R hR=>step R (q3 R hR)⟩
        · exact .inr ⟨q1,step _ q2⟩
theorem packT_bad {ns : List ByteArray} {bs : List (List Int)} {n : Nat} (h : packB (sortA (madeI ns bs n)) = true → False) : packT (sortA (madeI ns bs n)) = ([], false) := if_neg h
theorem spec_Pack_ev (ns : List ByteArray) (bs : List (List Int)) (hn : ns.length ≤ 1048576) (hs : ∀ x ∈ ns, x.size ≤ 4611686018427387904) (hb : ∀ b ∈ bs, ∀ x ∈ b, 0 ≤ x ∧ x ≤ 255) : Ev (fun k => spec_Pack.f k ns bs) (if ns.length = bs.length then packT (sortA (madeI ns bs ns.length)) else ([], false)) := by
  simp only [spec_Pack.f,Option.bind_some]
  by_cases hl:ns.length=bs.length
  · have hl2:(ns.length:Int)=(bs.length:Int):=by omega
    simp only [hl2,if_true]
    rw [if_pos hl,← hl2]
    have mem:∀ i,i < ns.length→mkA (rdOf ByteArray.empty ns (i:Int)) (rd_L5 bs (i:Int)) ∈ sortA (madeI ns bs ns.length):=by
      intro i hi
      refine(sortA_perm _).symm.subset ?_
      have h:=madeI_get ns bs ns.length i (by rw [madeI_len];exact hi)
      rw [← h]
      exact List.getElem_mem _
    have key:∀ d i S,i+d=ns.length→ns.length≤100→S.Perm (madeI ns bs i)→S.Pairwise LL→(∀ x ∈ S,okA x∧x.f0.size≤4611686018427387904)→Ev (fun k=>spec_Pack.l0 k ns bs S (i:Int)) (packT (sortA (madeI ns bs ns.length))):=by
      intro d
      induction d with
      | zero =>
        intro i S hi h100 hp hS hv
        refine ev_succ ?_
        have h1 : ¬ (i:Int) < (ns.length:Int):=by omega
        obtain rfl:i=ns.length:=by omega
        simp only [spec_Pack.l0,h1,if_false]
        rw [sortA_strict hp hS]
        have hl3:S.length=ns.length:=by rw [hp.length_eq,madeI_len]
        exact ev_ret (by unfold packT;rw [if_pos ((packB_iff S).2 ⟨by omega,fun x hx=>(hv x hx).1,hS⟩)])
      | succ d ih =>
        intro i S hi h100 hp hS hv
        refine ev_succ ?_
        have h1:(i:Int) < (ns.length:Int):=by omega
        have h2:(0:Int)≤(i:Int):=by omega
        have h3:(i:Int) < (bs.length:Int):=by omega
        have hlS:S.length=i:=by rw [hp.length_eq,madeI_len]
        simp only [spec_Pack.l0,h1,h2,if_true]
        refine ev_bind (spec_Name_ev _) ?_
        have bad : ¬ okA (mkA (rdOf ByteArray.empty ns (i:Int)) (rd_L5 bs (i:Int)))→Ev (fun k=>spec_Pack.j2 k ns bs S (i:Int) true) (packT (sortA (madeI ns bs ns.length))):=by
          intro hbad
          refine ev_succ ?_
          simp only [spec_Pack.j2,if_true]
          exact ev_ret (congrArg some (packT_bad fun h=>hbad (((packB_iff _).1 h).2.1 _ (mem i (by omega)))).symm)
        refine ev_ifb (fun e1=>?_) (fun e1=>bad (fun h=>by have h1':nameB (rdOf ByteArray.empty ns (i:Int))=true:=h.1;rw [e1] at h1';cases h1'))
        simp only [h3,if_true]
        by_cases e2:((rd_L5 bs (i:Int)).length:Int) > 40000
        · rw [decide_eq_true e2]
          exact bad (fun h=>by have:=h.2.1.2;simp only [mkA] at this;omega)
        · rw [decide_eq_false e2]
          refine ev_succ ?_
          simp only [spec_Pack.j2,Bool.false_eq_true,if_false,h1,h2,h3,if_true]
          refine ev_bind (spec_Digest_ev _) ?_
          have h5:S.length < 4398046511104:=by omega
          simp only [h5,if_true]
          have hbm:rd_L5 bs (i:Int) ∈ bs:=getD_mem _ (by omega)
          have hnm:rdOf ByteArray.empty ns (i:Int) ∈ ns:=getD_mem _ (by omega)
          have hdr:=dig_range (rd_L5 bs (i:Int)) (hb _ hbm)
          obtain⟨a,ha⟩:∃ a,a=mkA (rdOf ByteArray.empty ns (i:Int)) (rd_L5 bs (i:Int)):=⟨_,rfl⟩
          have hoka:okA a:=by rw [ha];exact⟨e1,⟨by simp only [mkA];omega,by simp only [mkA];omega⟩,hdr⟩
          have hsz:a.f0.size≤4611686018427387904:=by rw [ha];exact hs _ hnm
          have hins:=spec_ins ns bs i S a hS (by omega) (by omega) (fun x hx=>(hv x hx).2) S.length (Nat.le_refl _) (fun x hx=>by rw [List.drop_length] at hx;cases hx) a
          rw [List.take_length,List.drop_length,hlS] at hins
          have eS:S ++ [(⟨rdOf ByteArray.empty ns (i:Int),((rd_L5 bs (i:Int)).length:Int),dig (rd_L5 bs (i:Int))⟩:S71)]=S ++ [a]:=by rw [ha];rfl
          rw [eS,hlS]
          have ea:a.f0=rdOf ByteArray.empty ns (i:Int)∧a.f1=((rd_L5 bs (i:Int)).length:Int)∧a.f2=dig (rd_L5 bs (i:Int)):=by rw [ha];exact⟨rfl,rfl,rfl⟩
          rw [← ea.1,← ea.2.1,← ea.2.2]
          rcases hins with ⟨S',q1,q2,q3⟩|⟨⟨x,hx,hxe⟩,q2⟩
          · refine q3 _ (ih (i+1) S' (by omega) h100 ?_ q2 (fun x hx=>?_))
            · rw [madeI_succ,← ha]
              exact q1.trans ((List.Perm.cons a hp).trans (List.perm_append_singleton a _).symm)
            · rcases List.mem_cons.1 (q1.subset hx) with rfl|hx
              · exact⟨hoka,hsz⟩
              · exact hv x hx
          · have hbad:packT (sortA (madeI ns bs ns.length))=([],false):=packT_bad fun h=>by
              have hp2:=((packB_iff _).1 h).2.2
              have h3':(sortA (madeI ns bs ns.length)).Pairwise (fun x y=>x.f0≠y.f0):=hp2.imp (fun h=>LL_irr h)
              have h4:=((sortA_perm (madeI ns bs ns.length)).pairwise_iff (fun h=>Ne.symm h)).1 h3'
              obtain⟨j,hj,hje⟩:=List.getElem_of_mem (hp.subset hx)
              have hj2:=hj
              rw [madeI_len] at hj2
              have hjn:j < (madeI ns bs ns.length).length:=by rw [madeI_len];omega
              have hin:i < (madeI ns bs ns.length).length:=by rw [madeI_len];omega
              have h5':=List.pairwise_iff_getElem.1 h4 j i hjn hin hj2
              rw [madeI_get,madeI_get,← ha] at h5'
              rw [madeI_get] at hje
              rw [hje] at h5'
              exact h5' hxe
            rw [hbad]
            exact q2
    by_cases h100:(ns.length:Int) > 100
    · rw [decide_eq_true h100]
      refine ev_succ ?_
      simp only [spec_Pack.j0,if_true]
      refine ev_ret (congrArg some (packT_bad fun h=>?_).symm)
      have:=((packB_iff _).1 h).1
      rw [sortA_len,madeI_len] at this
      omega
    · rw [decide_eq_false h100]
      refine ev_succ ?_
      simp only [spec_Pack.j0,Bool.false_eq_true,if_false]
      exact key ns.length 0 [] (by omega) (by omega) (by simp [madeI]) List.Pairwise.nil (fun x hx=>by cases hx)
  · have hl2 : ¬ (ns.length:Int)=(bs.length:Int):=by omega
    simp only [hl2,if_false]
    rw [if_neg hl]
    refine ev_succ ?_
    simp only [spec_Pack.j0,if_true]
    exact ev_ret rfl
/-! #### Verify -/
def codeV (x : S71) (ns : List ByteArray) (bs : List (List Int)) : Nat → Nat → Int
  | 0, _ => 1
  | d + 1, j => if (rdOf ByteArray.empty ns (j : Int)).toList = x.f0.toList then (if ((rd_L5 bs (j : Int)).length : Int) = x.f1 then (if dig (rd_L5 bs (j : Int)) = x.f2 then 0 else 3) else 2) else codeV x ns bs d (j + 1)
def verV (xs : List S71) (ns : List ByteArray) (bs : List (List Int)) : Nat → Nat → List Int → List Int
  | 0, _, out => out
  | d + 1, i, out => verV xs ns bs d (i + 1) (out ++ [codeV (rd_T71 xs (i : Int)) ns bs ns.length 0])
theorem verV_len (xs : List S71) (ns : List ByteArray) (bs : List (List Int)) : ∀ d i out, (verV xs ns bs d i out).length = out.length + d
  | 0, _, _ => rfl
  | d + 1, i, out => by rw [verV, verV_len]; simp; omega
def verifyV (xs : List S71) (ns : List ByteArray) (bs : List (List Int)) : List Int := if packB xs = true ∧ ns.length = bs.length then verV xs ns bs xs.length 0 [] else []
theorem packB_100 {xs : List S71} (h : packB xs = true) : xs.length ≤ 100 := by
  rw [packB,Bool.and_eq_true] at h
  exact of_decide_eq_true h.1
def idxS (x : ByteArray) (ns : List ByteArray) : Nat → Nat → Int
  | 0, _ => -1
  | d + 1, j => if x.toList = (rdOf ByteArray.empty ns (j : Int)).toList then (j : Int) else idxS x ns d (j + 1)
theorem index_ev (ns : List ByteArray) (x : ByteArray) (hn : ns.length ≤ 1048576) : Ev (fun k => slices_Index_string_string.f k ns x) (idxS x ns ns.length 0) := by
  have key:∀ d j,j+d=ns.length→Ev (fun k=>slices_Index_string_string.l0 k ns x (ns.length:Int) (j:Int)) (idxS x ns d j):=by
    intro d
    induction d with
    | zero =>
      intro j hj
      refine ev_succ ?_
      have h1 : ¬ (j:Int) < (ns.length:Int):=by omega
      simp only [slices_Index_string_string.l0,h1,if_false]
      exact ev_ret rfl
    | succ d ih =>
      intro j hj
      refine ev_succ ?_
      have h1:(j:Int) < (ns.length:Int):=by omega
      have h2:(0:Int)≤(j:Int):=by omega
      have h4:=w64s (n:=j) (by omega)
      simp only [slices_Index_string_string.l0,h1,h2,h4,if_true]
      rw [idxS]
      exact ev_ite (fun e=>ev_ret (by rw [if_pos e])) (fun e=>by rw [if_neg e];exact ih (j+1) (by omega))
  exact key ns.length 0 (by omega)
theorem idx_code (x : S71) (ns : List ByteArray) (bs : List (List Int)) : ∀ d j, j + d = ns.length → (idxS x.f0 ns d j < 0 ∧ codeV x ns bs d j = 1) ∨
    ∃ m:Nat,m < ns.length∧idxS x.f0 ns d j=(m:Int)∧codeV x ns bs d j=(if ((rd_L5 bs (m:Int)).length:Int)=x.f1 then (if dig (rd_L5 bs (m:Int))=x.f2 then 0 else 3) else 2):=by
  intro d
  induction d with
  | zero => intro j _; exact .inl ⟨by rw [idxS]; omega, rfl⟩
  | succ d ih =>
    intro j hj
    rw [idxS,codeV]
    by_cases e:x.f0.toList=(rdOf ByteArray.empty ns (j:Int)).toList
    · rw [if_pos e,if_pos e.symm]
      exact .inr ⟨j,by omega,rfl,rfl⟩
    · rw [if_neg e,if_neg (fun h=>e h.symm)]
      exact ih (j+1) (by omega)
theorem impl_Verify_ev (xs : List S71) (ns : List ByteArray) (bs : List (List Int)) (hx : xs.length ≤ 4611686018427387904) (hn : ns.length ≤ 1048576) : Ev (fun k => impl_Verify.f k xs ns bs) (verifyV xs ns bs) := by
  simp only [impl_Verify.f]
  refine ev_bind (impl_PackOk_ev xs hx) ?_
  unfold verifyV
  refine ev_ite (fun h=>?_) (fun h=>?_)
  · by_cases hl:ns.length=bs.length
    · rw [if_pos ⟨h,hl⟩]
      refine ev_succ ?_
      have e:((ns.length:Int) != (bs.length:Int))=false:=by rw [hl];simp
      simp only [impl_Verify.j0,e,Bool.false_eq_true,if_false]
      have hc:=packB_100 h
      have key:∀ d i out,i+d=xs.length→out.length=i→Ev (fun k=>impl_Verify.l0 k ns bs out xs (xs.length:Int) (i:Int)) (verV xs ns bs d i out):=by
        intro d
        induction d with
        | zero =>
          intro i out hi ho
          refine ev_succ ?_
          have h1 : ¬ (i:Int) < (xs.length:Int):=by omega
          simp only [impl_Verify.l0,h1,if_false]
          exact ev_ret rfl
        | succ d ih =>
          intro i out hi ho
          refine ev_succ ?_
          have h1:(i:Int) < (xs.length:Int):=by omega
          have h0:(0:Int)≤(i:Int):=by omega
          have h4:=w64s (n:=i) (by omega)
          have h5:out.length < 17592186044416:=by omega
          have go:∀ c,Ev (fun k=>impl_Verify.l0 k ns bs (out ++ [c]) xs (xs.length:Int) ((i+1:Nat):Int)) (verV xs ns bs d (i+1) (out ++ [c])):=fun c=>ih (i+1) _ (by omega) (by simp [ho])
          simp only [impl_Verify.l0,h0,h1,h4,h5,if_true]
          refine ev_bind (index_ev ns _ hn) ?_
          rw [verV]
          rcases idx_code (rd_T71 xs (i:Int)) ns bs ns.length 0 (by omega) with ⟨e1,e2⟩|⟨m,hm,e1,e2⟩
          · rw [e2]
            simp only [e1,if_true]
            exact go 1
          · rw [e2,e1]
            have h6 : ¬ (m:Int) < 0:=by omega
            have h7:(0:Int)≤(m:Int):=by omega
            have h8:(m:Int) < (bs.length:Int):=by omega
            simp only [h6,h7,h8,if_true,if_false]
            refine ev_ite (fun e3=>?_) (fun e3=>by rw [if_neg e3];exact go 2)
            rw [if_pos e3]
            refine ev_bind (impl_Digest_ev _) ?_
            exact ev_ite (fun e4=>by rw [if_pos e4];exact go 0) (fun e4=>by rw [if_neg e4];exact go 3)
      exact key xs.length 0 [] (by omega) rfl
    · rw [if_neg (fun hh=>hl hh.2)]
      refine ev_succ ?_
      have e:((ns.length:Int) != (bs.length:Int))=true:=by simp;omega
      simp only [impl_Verify.j0,e,if_true]
      exact ev_ret rfl
  · rw [if_neg (fun hh=>h hh.1)]
    refine ev_succ ?_
    simp only [impl_Verify.j0,if_true]
    exact ev_ret rfl

/-! #### Update -/
def sameA (x y : S71) : Bool := x.f0.toList == y.f0.toList && (x.f1 == y.f1 && (x.f2 == y.f2))
def sameN (x y : S71) : Bool := decide (y.f0.toList = x.f0.toList)
def idxW (p : S71 → Bool) : List S71 → Int → Int
  | [], _ => -1
  | x :: xs, i => if p x = true then i else idxW p xs (i + 1)
theorem idxW_spec (p : S71 → Bool) : ∀ (l : List S71) (i : Int), (idxW p l i = -1 ∧ l.any p = false) ∨ (∃ j : Nat, j < l.length ∧ idxW p l i = i + j ∧ p (rd_T71 l (j : Int)) = true)
  | [], i => .inl ⟨rfl, rfl⟩
  | x :: xs, i => by
    rw [idxW]
    by_cases h:p x=true
    · rw [if_pos h]
      exact .inr ⟨0,by simp,by simp,h⟩
    · rw [if_neg h]
      rcases idxW_spec p xs (i+1) with ⟨h1,h2⟩|⟨j,h1,h2,h3⟩
      · exact .inl ⟨h1,by rw [List.any_cons,h2,Bool.eq_false_iff.2 h];rfl⟩
      · exact .inr ⟨j+1,by simpa using h1,by rw [h2];omega,h3⟩
theorem idxW_any (p : S71 → Bool) (l : List S71) : decide (idxW p l 0 ≥ 0) = l.any p := by
  rcases idxW_spec p l 0 with ⟨h1,h2⟩|⟨j,h1,h2,h3⟩
  · rw [h1,h2];rfl
  · rw [h2,decide_eq_true (by omega)]
    symm
    rw [List.any_eq_true]
    exact⟨_,getD_mem _ (by omega),h3⟩
theorem cont_ev (xs : List S71) (x : S71) (hl : xs.length ≤ 4611686018427387904) : Ev (fun k => impl_Asset_72.f k xs x.f0 x.f1 x.f2) (xs.any (sameA x)) := by
  have key:∀ d i,i+d=xs.length→Ev (fun k=>impl_Asset_86.l0 k xs (xs.length:Int) (i:Int) x.f0 x.f1 x.f2) (idxW (sameA x) (xs.drop i) (i:Int)):=by
    intro d
    induction d with
    | zero =>
      intro i hi
      refine ev_succ ?_
      have h1 : ¬ ((i:Int) < (xs.length:Int)):=by omega
      simp only [impl_Asset_86.l0,h1,if_false]
      exact ev_ret (by rw [drop_end (by omega)];rfl)
    | succ d ih =>
      intro i hi
      refine ev_succ ?_
      have h1:(i:Int) < (xs.length:Int):=by omega
      have h2:(0:Int)≤(i:Int):=by omega
      have h4:=w64s (n:=i) (by omega)
      simp only [impl_Asset_86.l0,h1,h2,h4,if_true]
      have hd:xs.drop i=rd_T71 xs (i:Int) :: xs.drop (i+1):=drop_getD z71 xs i (by omega)
      rw [hd,idxW]
      refine ev_ite (fun h=>ev_ret (by rw [if_pos (show sameA x (rd_T71 xs (i:Int))=true from h)])) (fun h=>?_)
      rw [if_neg (show ¬ sameA x (rd_T71 xs (i:Int))=true from h)]
      exact ih (i+1) (by omega)
  unfold impl_Asset_72.f impl_Asset_86.f
  rw [← idxW_any]
  exact ev_bind (key xs.length 0 (by omega)) (ev_ret rfl)
theorem named_any (xs : List S71) (x : S71) : (xs.any fun y => decide (y.f0 = x.f0)) = xs.any (sameN x) := by
  congr 1
  funext y
  unfold sameN
  rw [decide_eq_decide]
  exact⟨fun h=>by rw [h],fun h=>str_inj h⟩
def sentV (a : List S71) : List S71 → List ByteArray
  | [] => []
  | x :: xs => if a.any (sameA x) = true then sentV a xs else x.f0 :: sentV a xs
def goneV (b : List S71) : List S71 → List ByteArray
  | [] => []
  | x :: xs => if b.any (sameN x) = true then goneV b xs else x.f0 :: goneV b xs
def updV (a b : List S71) : List ByteArray × List ByteArray := if packB a = true ∧ packB b = true then (sentV a b, goneV b a) else ([], [])
theorem packB_len {xs : List S71} (h : packB xs = true) : xs.length ≤ 100 := by
  rw [packB,Bool.and_eq_true] at h
  exact of_decide_eq_true h.1
theorem impl_Update_ev (a b : List S71) (ha : a.length ≤ 1048576) (hb : b.length ≤ 1048576) : Ev (fun k => impl_Update.f k a b) (updV a b) := by
  have l1:a.length≤100 → ∀ d i (s g:List ByteArray),i+d=a.length→g.length≤i→Ev (fun k=>impl_Update.l1 k b s g a (a.length:Int) (i:Int)) (s,g ++ goneV b (a.drop i)):=by
    intro hA d
    induction d with
    | zero =>
      intro i s g hi hg
      refine ev_succ ?_
      have h1 : ¬ ((i:Int) < (a.length:Int)):=by omega
      simp only [impl_Update.l1,h1,if_false]
      exact ev_ret (by rw [drop_end (by omega)];simp [goneV])
    | succ d ih =>
      intro i s g hi hg
      refine ev_succ ?_
      have h1:(i:Int) < (a.length:Int):=by omega
      have h2:(0:Int)≤(i:Int):=by omega
      have h4:=w64s (n:=i) (by omega)
      have hd:a.drop i=rd_T71 a (i:Int) :: a.drop (i+1):=drop_getD z71 a i (by omega)
      simp only [impl_Update.l1,h1,h2,h4,if_true,impl_named.f,Option.bind_some,named_any]
      rw [hd,goneV]
      refine ev_ite (fun h=>?_) (fun h=>?_)
      · rw [if_pos h]
        exact ih (i+1) _ _ (by omega) (by omega)
      · rw [if_neg h]
        refine ev_pos (by omega) ?_
        have:=ih (i+1) s (g ++ [(rd_T71 a (i:Int)).f0]) (by omega) (by simp;omega)
        simpa using this
  have l0:a.length≤100→b.length≤100 → ∀ d i (s:List ByteArray),i+d=b.length→s.length≤i→Ev (fun k=>impl_Update.l0 k a b s [] b (b.length:Int) (i:Int)) (s ++ sentV a (b.drop i),goneV b a):=by
    intro hA hB d
    induction d with
    | zero =>
      intro i s hi hs
      refine ev_succ ?_
      have h1 : ¬ ((i:Int) < (b.length:Int)):=by omega
      simp only [impl_Update.l0,h1,if_false]
      have:=l1 hA a.length 0 s [] (by omega) (by simp)
      rw [drop_end (xs:=b) (by omega)]
      simpa [sentV] using this
    | succ d ih =>
      intro i s hi hs
      refine ev_succ ?_
      have h1:(i:Int) < (b.length:Int):=by omega
      have h2:(0:Int)≤(i:Int):=by omega
      have h4:=w64s (n:=i) (by omega)
      have hd:b.drop i=rd_T71 b (i:Int) :: b.drop (i+1):=drop_getD z71 b i (by omega)
      simp only [impl_Update.l0,h1,h2,h4,if_true]
      rw [hd,sentV]
      refine ev_bind (cont_ev a _ (by omega)) ?_
      refine ev_ite (fun h=>?_) (fun h=>?_)
      · rw [if_pos h]
        exact ih (i+1) _ (by omega) (by omega)
      · rw [if_neg h]
        refine ev_pos (by omega) ?_
        have:=ih (i+1) (s ++ [(rd_T71 b (i:Int)).f0]) (by omega) (by simp;omega)
        simpa using this
  unfold updV
  simp only [impl_Update.f]
  refine ev_bind (impl_PackOk_ev a (by omega)) ?_
  refine ev_ite (fun h1=>?_) (fun h1=>?_)
  · refine ev_bind (impl_PackOk_ev b (by omega)) ?_
    refine ev_succ ?_
    simp only [impl_Update.j0]
    refine ev_ite (fun h2=>?_) (fun h2=>?_)
    · rw [if_neg (fun h=>by simp [h.2] at h2)]
      exact ev_ret rfl
    · have h3:packB b=true:=by simpa using h2
      rw [if_pos ⟨h1,h3⟩]
      have:=l0 (packB_len h1) (packB_len h3) b.length 0 [] (by omega) (by simp)
      simpa using this
  · rw [if_neg (fun h=>h1 h.1)]
    refine ev_succ ?_
    simp only [impl_Update.j0,if_true]
    exact ev_ret rfl
/-! #### counting -/
def cnt1 (s : ByteArray) : List ByteArray → Nat
  | [] => 0
  | o :: O => (if s.toList = o.toList then 1 else 0) + cnt1 s O
def cnt2 : List ByteArray → List ByteArray → Nat
  | [], _ => 0
  | s :: S, O => cnt1 s O + cnt2 S O
theorem sentV_mem (a : List S71) (s : ByteArray) : ∀ l, s ∈ sentV a l ↔ ∃ y ∈ l, a.any (sameA y) ≠ true ∧ y.f0 = s
  | [] => by simp [sentV]
  | x :: xs => by
    rw [sentV]
    by_cases h:a.any (sameA x)=true
    · rw [if_pos h,sentV_mem a s xs]
      constructor
      · rintro⟨y,hy,hr⟩
        exact⟨y,List.mem_cons_of_mem _ hy,hr⟩
      · rintro⟨y,hy,hr⟩
        rcases List.mem_cons.1 hy with rfl|hy
        · exact absurd h hr.1
        · exact⟨y,hy,hr⟩
    · rw [if_neg h,List.mem_cons,sentV_mem a s xs]
      constructor
      · rintro(rfl|⟨y,hy,hr⟩)
        · exact⟨x,List.mem_cons_self,h,rfl⟩
        · exact⟨y,List.mem_cons_of_mem _ hy,hr⟩
      · rintro⟨y,hy,hr⟩
        rcases List.mem_cons.1 hy with rfl|hy
        · exact .inl hr.2.symm
        · exact .inr ⟨y,hy,hr⟩
theorem sentV_sub (a : List S71) : ∀ l, (sentV a l).Sublist (l.map S71.f0)
  | [] => List.Sublist.refl _
  | x :: xs => by
    rw [sentV,List.map_cons]
    split
    · exact(sentV_sub a xs).cons _
    · exact(sentV_sub a xs).cons_cons _
theorem names_ne {l : List S71} (h : l.Pairwise LL) : (l.map S71.f0).Pairwise (· ≠ ·) := by
  rw [List.pairwise_map]
  exact h.imp (fun h=>LL_irr h)
theorem sameA_iff (x y : S71) : sameA x y = true ↔ x.f0 = y.f0 ∧ x.f1 = y.f1 ∧ x.f2 = y.f2 := by
  unfold sameA
  rw [Bool.and_eq_true,Bool.and_eq_true,beq_iff_eq,beq_iff_eq,beq_iff_eq]
  exact⟨fun h=>⟨str_inj h.1,h.2⟩,fun h=>⟨by rw [h.1],h.2⟩⟩
theorem anyN_iff (l : List S71) (x : S71) : l.any (sameN x) = true ↔ ∃ y ∈ l, y.f0 = x.f0 := by
  rw [List.any_eq_true]
  exact⟨fun ⟨y,hy,h⟩=>⟨y,hy,str_inj (of_decide_eq_true h)⟩,fun ⟨y,hy,h⟩=>⟨y,hy,decide_eq_true (by rw [h])⟩⟩
theorem anyA_iff (l : List S71) (x : S71) : l.any (sameA x) = true ↔ ∃ y ∈ l, x.f0 = y.f0 ∧ x.f1 = y.f1 ∧ x.f2 = y.f2 := by
  rw [List.any_eq_true]
  exact⟨fun ⟨y,hy,h⟩=>⟨y,hy,(sameA_iff _ _).1 h⟩,fun ⟨y,hy,h⟩=>⟨y,hy,(sameA_iff _ _).2 h⟩⟩
theorem name_uniq {l : List S71} (h : l.Pairwise LL) {x y : S71} (hx : x ∈ l) (hy : y ∈ l) (e : x.f0 = y.f0) : x = y := by
  induction l with
  | nil => cases hx
  | cons z l ih =>
    rw [List.pairwise_cons] at h
    rcases List.mem_cons.1 hx with e1|e1
    · rcases List.mem_cons.1 hy with e2|e2
      · rw [e1,e2]
      · exact absurd (by rw [← e1];exact e) (LL_irr (h.1 y e2))
    · rcases List.mem_cons.1 hy with e2|e2
      · exact absurd (by rw [← e2];exact e.symm) (LL_irr (h.1 x e1))
      · exact ih h.2 e1 e2
/-! #### the draws' cursor: where it stands (b: the bytes, i: how many are used) -/
def St (b : List Int) (i : Int) : Prop := 0 ≤ i ∧ i ≤ b.length ∧ b.length ≤ 4096
theorem and255 (x : Int) : 0 ≤ Go.bits .and .i64 x 255 ∧ Go.bits .and .i64 x 255 ≤ 255 := by
  have h:((BitVec.ofInt 64 x) &&& (BitVec.ofInt 64 255)).toNat≤255:=by
    rw [BitVec.toNat_and]
    exact Nat.le_trans Nat.and_le_right (by decide)
  have e:Go.bits .and .i64 x 255=IntKind.i64.wrap (((BitVec.ofInt 64 x) &&& (BitVec.ofInt 64 255)).toNat:Int):=rfl
  rw [e,IntKind.wrap_i64]
  omega
theorem byte_some {b : List Int} {i : Int} (h : Int) (hs : St b i) : SomeP (spec_l1Byte.f b i h) (fun r => (0 ≤ r.1 ∧ r.1 ≤ 255) ∧ St b r.2.1) := by
  obtain⟨h1,h2,h3⟩:=hs
  unfold spec_l1Byte.f
  refine somep_ite (fun hl=>somep_pos h1 (somep_now ⟨and255 _,?_⟩)) (fun hl=>somep_now ⟨and255 _,h1,h2,h3⟩)
  show St b (wrap64 (i+1))
  rw [w64 (by omega) (by omega)]
  exact⟨by omega,by omega,h3⟩
theorem below_some {b : List Int} {i : Int} (h : Int) (n : Int) (hs : St b i) : SomeP (spec_l1Below.f b i h n) (fun r => (0 ≤ r.1 ∧ (0 < n → r.1 < n)) ∧ St b r.2.1) := by
  unfold spec_l1Below.f
  refine somep_ite (fun hn=>somep_now ⟨⟨Int.le_refl _,fun h=>by omega⟩,hs⟩) (fun hn=>somep_ite (fun h2=>?_) (fun h2=>?_))
  · refine somep_bind (byte_some h hs) (fun a ha=>somep_neg (by omega) (somep_now ⟨?_,ha.2⟩))
    have e:Int.tmod a.1 n=a.1 % n:=Int.tmod_eq_emod_of_nonneg ha.1.1
    show 0≤Int.tmod a.1 n∧(0 < n→Int.tmod a.1 n < n)
    rw [e]
    exact⟨Int.emod_nonneg _ (by omega),fun h=>Int.emod_lt_of_pos _ h⟩
  · refine somep_bind (byte_some h hs) (fun a ha=>somep_bind (byte_some _ ha.2) (fun c hc=>somep_bind (byte_some _ hc.2) (fun d hd=>somep_bind (byte_some _ hd.2) (fun e he=>somep_neg (by omega) (somep_now ⟨?_,he.2⟩)))))
    have h1:=ha.1;have h3:=hc.1;have h4:=hd.1;have h5:=he.1
    have w1:wrap64 (a.1*16777216)=a.1*16777216:=w64 (by omega) (by omega)
    have w2:wrap64 (c.1*65536)=c.1*65536:=w64 (by omega) (by omega)
    have w3:wrap64 (d.1*256)=d.1*256:=w64 (by omega) (by omega)
    show 0≤Int.tmod (wrap64 (wrap64 (wrap64 (wrap64 (a.1*16777216)+wrap64 (c.1*65536))+wrap64 (d.1*256))+e.1)) n∧(0 < n→Int.tmod (wrap64 (wrap64 (wrap64 (wrap64 (a.1*16777216)+wrap64 (c.1*65536))+wrap64 (d.1*256))+e.1)) n < n)
    rw [w1,w2,w3,w64 (x:=a.1*16777216+c.1*65536) (by omega) (by omega),w64 (x:=a.1*16777216+c.1*65536+d.1*256) (by omega) (by omega),w64 (by omega) (by omega),Int.tmod_eq_emod_of_nonneg (by omega)]
    exact⟨Int.emod_nonneg _ (by omega),fun h=>Int.emod_lt_of_pos _ h⟩
theorem new_ev (code : List Int) (hc : code.length ≤ 4096) : EvP (fun k => spec_l1New.f k code) (fun r => r.1 = code ∧ St code r.2.1) := by
  have key:∀ d i (h:Int),i+d=code.length→EvP (fun k=>spec_l1New.l0 k code h (i:Int)) (fun r=>r.1=code∧St code r.2.1):=by
    intro d
    induction d with
    | zero =>
      intro i h hi
      refine evp_succ ?_
      have h1 : ¬ (i:Int) < (code.length:Int):=by omega
      simp only [spec_l1New.l0,h1,if_false]
      exact evp_now ⟨rfl,by refine⟨Int.le_refl _,?_,hc⟩;show(0:Int)≤code.length;omega⟩
    | succ d ih =>
      intro i h hi
      refine evp_succ ?_
      have h1:(i:Int) < (code.length:Int):=by omega
      have h2:(0:Int)≤(i:Int):=by omega
      have h4:=w64s (n:=i) (by omega)
      simp only [spec_l1New.l0,h1,h2,h4,if_true]
      exact ih (i+1) _ (by omega)
  exact key code.length 0 _ (by omega)

theorem once_some {b : List Int} {i : Int} (h : Int) (n : Int) (hs : St b i) : SomeP (spec_l1Once.f b i h n) (fun r => St b r.2.1) := by
  unfold spec_l1Once.f
  exact somep_bind (below_some h n hs) (fun a ha=>somep_now ha.2)

theorem body_ev {b : List Int} {i : Int} (h : Int) (hs : St b i) : EvP (fun k => spec_l15DrawBody.f k b i h) (fun r => (r.1.length ≤ 40001 ∧ ∀ x ∈ r.1, 0 ≤ x ∧ x ≤ 255) ∧ St b r.2.1) := by
  have key:∀ (d:Nat) (out:List Int) (i h:Int),St b i→out.length+d≤10→(∀ x ∈ out,0≤x∧x≤255)→EvP (fun k=>spec_l15DrawBody.l0 k out (d:Int) b i h) (fun r=>(r.1.length≤40001 ∧ ∀ x ∈ r.1,0≤x∧x≤255)∧St b r.2.1):=by
    intro d
    induction d with
    | zero =>
      intro out i h hs ho hb
      refine evp_succ ?_
      have h1 : ¬ (((0:Nat):Int) > 0):=by omega
      simp only [spec_l15DrawBody.l0,h1,if_false]
      refine evp_some (once_some h 90 hs) (fun a ha=>?_)
      refine evp_ite (fun _=>?_) (fun _=>evp_now ⟨⟨by show out.length≤40001;omega,hb⟩,ha⟩)
      refine evp_some (below_some _ 2 ha) (fun c hc=>?_)
      have h2:=hc.1.1
      have h3:=hc.1.2 (by omega)
      have h4:wrap64 (40000+c.1)=40000+c.1:=w64 (by omega) (by omega)
      rw [h4]
      refine evp_pos (by omega) (evp_pos (by omega) (evp_now ⟨⟨?_,?_⟩,hc.2⟩))
      · show(List.replicate (40000+c.1).toNat (0:Int)).length≤40001
        rw [List.length_replicate]
        omega
      · intro x hx
        have:=List.eq_of_mem_replicate hx
        omega
    | succ d ih =>
      intro out i h hs ho hb
      refine evp_succ ?_
      have h1:(((d+1:Nat):Int) > 0):=by omega
      have h2:wrap64 (((d+1:Nat):Int) - 1)=(d:Int):=by rw [w64 (by omega) (by omega)];omega
      simp only [spec_l15DrawBody.l0,h1,h2,if_true]
      refine evp_some (byte_some h hs) (fun a ha=>?_)
      refine evp_pos (by omega) (ih _ _ _ ha.2 (by simp;omega) ?_)
      intro x hx
      rcases List.mem_append.1 hx with hx|hx
      · exact hb x hx
      · have:=List.mem_singleton.1 hx
        omega
  unfold spec_l15DrawBody.f
  refine evp_some (below_some h 10 hs) (fun a ha=>?_)
  obtain⟨n,hn⟩:=Int.eq_ofNat_of_zero_le ha.1.1
  have:=ha.1.2 (by omega)
  rw [hn]
  exact key n [] _ _ ha.2 (by simp;omega) (fun x hx=>by cases hx)

/-! #### the draw of names and bodies -/
def NB (ns : List ByteArray) (bs : List (List Int)) : Prop := bs.length = ns.length ∧ ns.length ≤ 5 ∧ (∀ s ∈ ns, s.size ≤ 41) ∧ ∀ b ∈ bs, ∀ x ∈ b, 0 ≤ x ∧ x ≤ 255
theorem names_ev {b : List Int} {i : Int} (h : Int) (hs : St b i) : EvP (fun k => spec_l15DrawNames.f k b i h) (fun r => NB r.1 r.2.1 ∧ St b r.2.2.1) := by
  have key:∀ (d:Nat) (ns:List ByteArray) (bs:List (List Int)) (i h:Int),St b i→ns.length+d≤5→NB ns bs→EvP (fun k=>spec_l15DrawNames.l0 k ns bs (d:Int) b i h) (fun r=>NB r.1 r.2.1∧St b r.2.2.1):=by
    intro d
    induction d with
    | zero =>
      intro ns bs i h hs hn hq
      refine evp_succ ?_
      have h1 : ¬ (((0:Nat):Int) > 0):=by omega
      simp only [spec_l15DrawNames.l0,h1,if_false]
      exact evp_now ⟨hq,hs⟩
    | succ d ih =>
      intro ns bs i h hs hn hq
      refine evp_succ ?_
      have h1:(((d+1:Nat):Int) > 0):=by omega
      have h2:wrap64 (((d+1:Nat):Int) - 1)=(d:Int):=by rw [w64 (by omega) (by omega)];omega
      simp only [spec_l15DrawNames.l0,h1,if_true,Option.bind_some]
      refine evp_some (below_some h 8 hs) (fun a ha=>?_)
      have ha1:=ha.1.1
      have ha2:=ha.1.2 (by omega)
      refine evp_pos ha1 (evp_pos (by simp;omega) ?_)
      have hsz:(rdOf ByteArray.empty ([(⟨#[114,101,101,108]⟩:ByteArray),(⟨#[97]⟩:ByteArray),(⟨#[98,95,49]⟩:ByteArray),(⟨#[77,73,88,46,119,97,118]⟩:ByteArray),(⟨#[114,101,101,108,49]⟩:ByteArray),(⟨#[90]⟩:ByteArray),(⟨#[115,117,98,46,116,120,116]⟩:ByteArray),(⟨#[48]⟩:ByteArray)]:List ByteArray) a.1).size≤41:=by
        obtain⟨n,hn⟩:=Int.eq_ofNat_of_zero_le ha1
        have hn8:n < 8:=by omega
        rw [hn]
        obtain rfl|rfl|rfl|rfl|rfl|rfl|rfl|rfl:n=0∨n=1∨n=2∨n=3∨n=4∨n=5∨n=6∨n=7:=by omega
        all_goals decide
      generalize (rdOf ByteArray.empty ([(⟨#[114,101,101,108]⟩:ByteArray),(⟨#[97]⟩:ByteArray),(⟨#[98,95,49]⟩:ByteArray),(⟨#[77,73,88,46,119,97,118]⟩:ByteArray),(⟨#[114,101,101,108,49]⟩:ByteArray),(⟨#[90]⟩:ByteArray),(⟨#[115,117,98,46,116,120,116]⟩:ByteArray),(⟨#[48]⟩:ByteArray)]:List ByteArray) a.1)=s at hsz
      have add:∀ (i h:Int),St b i→EvP (fun k=>(spec_l15DrawBody.f k b i h).bind fun bt=>(if bs.length < 5864062014805 then (spec_l15DrawNames.l0 k (ns ++ [s]) (bs ++ [bt.1]) (wrap64 (((d+1:Nat):Int) - 1)) b bt.2.1 bt.2.2) else none)) (fun r=>NB r.1 r.2.1∧St b r.2.2.1):=by
        intro i h hs
        refine evp_bind (body_ev h hs) (fun c hc=>?_)
        have hl:=hq.1
        refine evp_pos (by omega) ?_
        rw [h2]
        refine ih _ _ _ _ hc.2 (by simp;omega) ⟨by simp [hl],by simp;omega,fun x hx=>?_,fun y hy=>?_⟩
        · rcases List.mem_append.1 hx with hx|hx
          · exact hq.2.2.1 x hx
          · rw [List.mem_singleton.1 hx];exact hsz
        · rcases List.mem_append.1 hy with hy|hy
          · exact hq.2.2.2 y hy
          · rw [List.mem_singleton.1 hy];exact hc.1.2
      have hs2:=ha.2
      generalize a.2.1=i2 at hs2
      generalize a.2.2=h2'
      have inner:∀ e j (fl:Bool),j+e=ns.length→EvP (fun k=>spec_l15DrawNames.l1 k ns bs ((d+1:Nat):Int) s fl (j:Int) b i2 h2') (fun r=>NB r.1 r.2.1∧St b r.2.2.1):=by
        intro e
        induction e with
        | zero =>
          intro j fl hj
          refine evp_succ ?_
          have h3 : ¬ ((j:Int) < (ns.length:Int)):=by omega
          have h4:ns.length < 8796093022208:=by omega
          cases fl with
          | true =>
            simp only [spec_l15DrawNames.l1,h3,h4,if_false,if_true]
            refine evp_some (once_some h2' 20 hs2) (fun c hc=>?_)
            refine evp_ite (fun _=>add _ _ hc) (fun _=>?_)
            rw [h2]
            exact ih _ _ _ _ hc (by omega) hq
          | false =>
            simp only [spec_l15DrawNames.l1,h3,h4,if_false,if_true,Bool.false_eq_true]
            exact add _ _ hs2
        | succ e ih2 =>
          intro j fl hj
          refine evp_succ ?_
          have h3:((j:Int) < (ns.length:Int)):=by omega
          have h4:(0:Int)≤(j:Int):=by omega
          have h5:=w64s (n:=j) (by omega)
          cases fl with
          | true =>
            simp only [spec_l15DrawNames.l1,h3,h5,if_true]
            exact ih2 (j+1) _ (by omega)
          | false =>
            simp only [spec_l15DrawNames.l1,h3,h4,h5,if_true,if_false,Bool.false_eq_true]
            exact ih2 (j+1) _ (by omega)
      exact inner ns.length 0 false (by omega)
  unfold spec_l15DrawNames.f
  refine evp_some (below_some h 6 hs) (fun a ha=>?_)
  obtain⟨n,hn⟩:=Int.eq_ofNat_of_zero_le ha.1.1
  have:=ha.1.2 (by omega)
  rw [hn]
  exact key n [] [] _ _ ha.2 (by simp;omega) (by refine⟨rfl,by simp,?_,?_⟩ <;> intro x hx <;> cases hx)
theorem int_l0 : ∀ (d k : Nat) (n : Int) (s : ByteArray), d + 2 ≤ k → 0 ≤ n → n < 10 ^ d → n ≤ 1000 → s.size + d ≤ 50 → SomeP (spec_l1Int.l0 k n s) (fun r => r.size ≤ 60) := by
  intro d
  induction d with
  | zero =>
    intro k n s hk h0 h1 h2 hs
    obtain⟨k,rfl⟩:∃ j,k=j+2:=⟨k - 2,by omega⟩
    have h3:n < 1:=by simpa using h1
    have h3:n=0:=by omega
    subst h3
    have hz:(strOfNums [(wrap64 (48+(Int.tmod 0 10))) % 256]).size=1:=rfl
    rw [spec_l1Int.l0]
    refine somep_ite (fun he=>?_) (fun he=>somep_neg (by omega) (somep_now (by omega)))
    rw [Option.bind_some]
    refine somep_pos (by rw [hz];omega) ?_
    have e:wrap64 (Int.tdiv 0 10)=0:=by rw [show Int.tdiv 0 10=0 by decide];exact w64 (by omega) (by omega)
    rw [e,spec_l1Int.l0]
    refine somep_neg ?_ (somep_neg (by omega) (somep_now (by rw [ByteArray.size_append,hz];omega)))
    intro hc
    have:(strOfNums [(wrap64 (48+(Int.tmod 0 10))) % 256] ++ s).size=0:=by
      rw [← ByteArray.size_data]
      have h5:=congrArg List.length hc
      simpa [ByteArray.toList_eq] using h5
    rw [ByteArray.size_append,hz] at this
    omega
  | succ d ih =>
    intro k n s hk h0 h1 h2 hs
    obtain⟨k,rfl⟩:∃ j,k=j+1:=⟨k - 1,by omega⟩
    have hz:(strOfNums [(wrap64 (48+(Int.tmod n 10))) % 256]).size=1:=rfl
    have e:Int.tdiv n 10=n / 10:=Int.tdiv_eq_ediv_of_nonneg h0
    have hlt:n / 10 < 10 ^ d:=by
      have:(10:Int) ^ (d+1)=10 ^ d*10:=Int.pow_succ 10 d
      omega
    have go:=ih k (n / 10) (strOfNums [(wrap64 (48+(Int.tmod n 10))) % 256] ++ s) (by omega) (by omega) hlt (by omega) (by rw [ByteArray.size_append,hz];omega)
    rw [spec_l1Int.l0]
    refine somep_ite (fun he=>?_) (fun he=>somep_ite (fun hp=>?_) (fun hp=>somep_now (by omega)))
    · rw [Option.bind_some]
      refine somep_pos (by rw [hz];omega) ?_
      rw [e,w64 (by omega) (by omega)]
      exact go
    · rw [Option.bind_some]
      refine somep_pos (by rw [hz];omega) ?_
      rw [e,w64 (by omega) (by omega)]
      exact go
theorem int_evp (n : Int) (h0 : 0 ≤ n) (h1 : n ≤ 1000) : EvP (fun k => spec_l1Int.f k n) (fun r => r.size ≤ 60) := by
  refine evp_succ ?_
  have h2 : ¬ n < 0:=by omega
  simp only [spec_l1Int.f,h2,if_false]
  obtain⟨r,hr,hp⟩:=int_l0 4 6 n (⟨#[]⟩:ByteArray) (by omega) h0 (by omega) h1 (by decide)
  refine⟨r,⟨6,fun k hk=>?_⟩,hp⟩
  have up:∀ j,spec_l1Int.l0 (6+j) n (⟨#[]⟩:ByteArray)=some r:=by
    intro j
    obtain⟨r2,hr2,_⟩:=int_l0 4 (6+j) n (⟨#[]⟩:ByteArray) (by omega) h0 (by omega) h1 (by decide)
    have mono:∀ m,spec_l1Int.l0 (6+m) n (⟨#[]⟩:ByteArray)=some r:=by
      intro m
      induction m with
      | zero => exact hr
      | succ m ihm => exact (spec_l1Int.mono_l (6 + m)).2 n _ r ihm
    exact mono j
  have:=up (k - 6)
  rwa [show 6+(k - 6)=k by omega] at this
def DP (r : List ByteArray × List (List Int)) : Prop := r.1.length ≤ 200 ∧ (∀ s ∈ r.1, s.size ≤ 100) ∧ ∀ b ∈ r.2, ∀ x ∈ b, 0 ≤ x ∧ x ≤ 255
theorem drawPacked_ev (code : List Int) (hc : code.length ≤ 4096) : EvP (fun k => spec_DrawPack.f k code) DP := by
  have loop:∀ (d:Nat) (b:List Int) (ns:List ByteArray) (bs:List (List Int)) (i h:Int),St b i→ns.length+d=101→bs.length=ns.length→(∀ s ∈ ns,s.size≤100)→(∀ b ∈ bs,∀ x ∈ b,0≤x∧x≤255)→EvP (fun k=>spec_DrawPack.l0 k ns bs b i h) DP:=by
    intro d b
    have fin:∀ (ns:List ByteArray) (bs:List (List Int)),ns.length≤101→bs.length=ns.length→(∀ s ∈ ns,s.size≤100)→(∀ b ∈ bs,∀ x ∈ b,0≤x∧x≤255) →
        EvP (fun _=>if bs.length+3 < 5864062014805 then ((some (bs ++ List.replicate 3 []:List (List Int))).bind fun y=>(if 0≤(ns.length:Int) then (if (ns.length:Int)≤(y.length:Int) then (some (ns,(y.take ((ns.length:Int):Int).toNat))) else (none)) else (none))) else (none)) DP:=by
      intro ns bs h1 h2 h3 h4
      refine evp_pos (by omega) ?_
      simp only [Option.bind_some]
      refine evp_pos (by omega) (evp_pos (by simp;omega) (evp_now ⟨by show ns.length≤200;omega,h3,fun b hb x hx=>?_⟩))
      rcases List.mem_append.1 (List.mem_of_mem_take hb) with hb|hb
      · exact h4 b hb x hx
      · rw [(List.mem_replicate.1 hb).2] at hx
        cases hx
    induction d with
    | zero =>
      intro ns bs i h hs hl h2 h3 h4
      refine evp_succ ?_
      simp only [spec_DrawPack.l0]
      refine evp_some (below_some h 2 hs) (fun a ha=>?_)
      have e1:=ha.1.1
      have e2:=ha.1.2 (by omega)
      rw [w64 (x:=100+a.1) (by omega) (by omega)]
      exact evp_neg (by omega) (fin ns bs (by omega) h2 h3 h4)
    | succ d ih =>
      intro ns bs i h hs hl h2 h3 h4
      refine evp_succ ?_
      simp only [spec_DrawPack.l0]
      refine evp_some (below_some h 2 hs) (fun a ha=>?_)
      have e1:=ha.1.1
      have e2:=ha.1.2 (by omega)
      rw [w64 (x:=100+a.1) (by omega) (by omega)]
      refine evp_ite (fun _=>?_) (fun _=>fin ns bs (by omega) h2 h3 h4)
      refine evp_bind (int_evp _ (by omega) (by omega)) (fun s hsz=>?_)
      refine evp_pos (by omega) (evp_pos (by omega) (evp_pos (by omega) ?_))
      refine ih (ns ++ [_]) (bs ++ [[]]) _ _ ha.2 (by simp;omega) (by simp;omega) (fun x hx=>?_) (fun x hx y hy=>?_)
      · rcases List.mem_append.1 hx with hx|hx
        · exact h3 x hx
        · rw [List.mem_singleton.1 hx,ByteArray.size_append]
          have:(⟨#[110]⟩:ByteArray).size=1:=rfl
          omega
      · rcases List.mem_append.1 hx with hx|hx
        · exact h4 x hx y hy
        · rw [List.mem_singleton.1 hx] at hy
          cases hy
  unfold spec_DrawPack.f
  refine evp_bind (new_ev code hc) (fun a ha=>?_)
  have e:=ha.1
  refine evp_bind (names_ev (b:=a.1) (i:=a.2.1) _ (by rw [e];exact ha.2)) (fun p hp=>?_)
  obtain⟨⟨q1,q2,q3,q4⟩,hs1⟩:=hp
  have now:DP (p.1,p.2.1):=⟨by show p.1.length≤200;omega,fun s hs=>Nat.le_trans (q3 s hs) (by omega),q4⟩
  have more:∀ (s:ByteArray) (bs:List (List Int)),s.size≤60→(∀ b ∈ bs,∀ x ∈ b,0≤x∧x≤255)→DP (p.1 ++ [s],bs):=fun s bs h1 h2=>
    ⟨by simp;omega,fun x hx=>by
      rcases List.mem_append.1 hx with hx|hx
      · exact Nat.le_trans (q3 x hx) (by omega)
      · rw [List.mem_singleton.1 hx];omega,h2⟩
  refine evp_some (once_some _ 16 hs1) (fun c hc=>?_)
  refine evp_ite (fun _=>?_) (fun _=>evp_now now)
  refine evp_some (below_some _ 3 hc) (fun f hf=>?_)
  refine evp_ite (fun _=>?_) (fun _=>evp_ite (fun _=>?_) (fun _=>evp_ite (fun _=>?_) (fun _=>evp_now now)))
  · exact evp_pos (by omega) (evp_now (more _ _ (by decide) q4))
  · simp only [Option.bind_some]
    refine evp_some (below_some _ 3 hf.2) (fun g hg=>?_)
    have h5:=hg.1.1
    have h6:=hg.1.2 (by omega)
    refine evp_pos h5 (evp_pos (by simp;omega) (evp_pos (by omega) (evp_pos (by omega) (evp_now (more _ _ ?_ ?_)))))
    · obtain⟨n,hn⟩:=Int.eq_ofNat_of_zero_le h5
      have hn5:n < 3:=by omega
      rw [hn]
      obtain rfl|rfl|rfl:n=0∨n=1∨n=2:=by omega
      all_goals decide
    · intro b hb x hx
      rcases List.mem_append.1 hb with hb|hb
      · exact q4 b hb x hx
      · rw [List.mem_singleton.1 hb,List.mem_singleton] at hx
        omega
  · exact loop (101 - p.1.length) a.1 _ _ _ _ hf.2 (by omega) q1 (fun s hs=>Nat.le_trans (q3 s hs) (by omega)) q4

/-! #### a digest tells one byte turned -/
theorem dstep_eq (h x : Int) (h0 : 0 ≤ h) (h1 : h ≤ 1000000006) (x0 : 0 ≤ x) (x1 : x ≤ 255) : dstep h x = (h * 257 + x + 1) % 1000000007 := by
  have e1:wrap64 (h*257)=h*257:=w64 (by omega) (by omega)
  have e2:wrap64 x=x:=w64 (by omega) (by omega)
  have e3:wrap64 (h*257+x)=h*257+x:=w64 (by omega) (by omega)
  have e4:wrap64 (h*257+x+1)=h*257+x+1:=w64 (by omega) (by omega)
  unfold dstep
  rw [e1,e2,e3,e4]
  exact Int.tmod_eq_emod_of_nonneg (by omega)
theorem mod_in (z : Int) : 0 ≤ z % 1000000007 ∧ z % 1000000007 ≤ 1000000006 := by omega
theorem step_x (h x y : Int) (hx : 0 ≤ x ∧ x ≤ 255) (hy : 0 ≤ y ∧ y ≤ 255) (e : (h * 257 + x + 1) % 1000000007 = (h * 257 + y + 1) % 1000000007) : x = y := by omega
theorem step_h (h g x : Int) (hh : 0 ≤ h ∧ h ≤ 1000000006) (hg : 0 ≤ g ∧ g ≤ 1000000006) (e : (h * 257 + x + 1) % 1000000007 = (g * 257 + x + 1) % 1000000007) : h = g := by omega
def Byt (l : List Int) : Prop := ∀ x ∈ l, 0 ≤ x ∧ x ≤ 255
theorem fold_in : ∀ (l : List Int) (h : Int), Byt l → 0 ≤ h ∧ h ≤ 1000000006 → 0 ≤ l.foldl dstep h ∧ l.foldl dstep h ≤ 1000000006
  | [], _, _, hh => hh
  | x :: l, h, hb, hh => by
    rw [List.foldl_cons]
    have hx:=hb x List.mem_cons_self
    refine fold_in l _ (fun y hy=>hb y (List.mem_cons_of_mem _ hy)) ?_
    rw [dstep_eq h x hh.1 hh.2 hx.1 hx.2]
    exact mod_in _
theorem fold_inj : ∀ (l : List Int) (h g : Int), Byt l → 0 ≤ h ∧ h ≤ 1000000006 → 0 ≤ g ∧ g ≤ 1000000006 → l.foldl dstep h = l.foldl dstep g → h = g
  | [], _, _, _, _, _, e => e
  | x :: l, h, g, hb, hh, hg, e => by
    rw [List.foldl_cons,List.foldl_cons] at e
    have hx:=hb x List.mem_cons_self
    rw [dstep_eq h x hh.1 hh.2 hx.1 hx.2,dstep_eq g x hg.1 hg.2 hx.1 hx.2] at e
    exact step_h h g x hh hg (fold_inj l _ _ (fun y hy=>hb y (List.mem_cons_of_mem _ hy)) (mod_in _) (mod_in _) e)
theorem dig_bent (l : List Int) (t : Nat) (v : Int) (hb : Byt l) (ht : t < l.length) (hl : l.length ≤ 40000) (hv : 0 ≤ v ∧ v ≤ 255) (hn : v ≠ rd l (t : Int)) : dig (l.set t v) ≠ dig l := by
  intro e
  unfold dig at e
  rw [List.take_of_length_le (by simpa using hl),List.take_of_length_le hl] at e
  have h1:l=l.take t ++ rd l (t:Int) :: l.drop (t+1):=by
    conv=>lhs;rw [← List.take_append_drop t l]
    rw [drop_rd l t ht]
  have h2:l.set t v=l.take t ++ v :: l.drop (t+1):=by
    rw [List.set_eq_take_append_cons_drop,if_pos ht]
  have hx:=hb _ (rd_mem ht)
  have hr:=fold_in (l.take t) 0 (fun y hy=>hb y (List.mem_of_mem_take hy)) (by omega)
  rw [h2] at e
  conv at e=>rhs;rw [h1]
  rw [List.foldl_append,List.foldl_append,List.foldl_cons,List.foldl_cons,dstep_eq _ _ hr.1 hr.2 hv.1 hv.2,dstep_eq _ _ hr.1 hr.2 hx.1 hx.2] at e
  exact hn (step_x _ _ _ hv hx (fold_inj _ _ _ (fun y hy=>hb y (List.mem_of_mem_drop hy)) (mod_in _) (mod_in _) e))
theorem xor16 (x : Int) (h0 : 0 ≤ x) (h1 : x ≤ 255) : (0 ≤ Go.bits .xor .u8 x 16 ∧ Go.bits .xor .u8 x 16 ≤ 255) ∧ Go.bits .xor .u8 x 16 ≠ x := by
  have h:∀ n:Fin 256,(0≤Go.bits .xor .u8 (n.val:Int) 16∧Go.bits .xor .u8 (n.val:Int) 16≤255)∧Go.bits .xor .u8 (n.val:Int) 16≠(n.val:Int):=by decide+kernel
  obtain⟨n,rfl⟩:=Int.eq_ofNat_of_zero_le h0
  exact h ⟨n,by omega⟩
theorem pick_ev (code : List Int) (hc : code.length ≤ 4096) (hb : Byt code) (n : Int) (hn : 0 < n) : EvP (fun k => laws_pick.f k code n) (fun t => 0 ≤ t ∧ t < n) := by
  have key:∀ (d i:Nat) (x:Int),i+d=code.length→0≤x→x≤1000003→EvP (fun k=>laws_pick.l0 k code n x (i:Int)) (fun t=>0≤t∧t < n):=by
    intro d
    induction d with
    | zero =>
      intro i x hi h0 h1
      refine evp_succ ?_
      have h3 : ¬ (i:Int) < (code.length:Int):=by omega
      have h4 : ¬ n=0:=by omega
      simp only [laws_pick.l0,h3,h4,if_false]
      refine evp_now ?_
      rw [Int.tmod_eq_emod_of_nonneg h0]
      exact⟨Int.emod_nonneg _ (by omega),Int.emod_lt_of_pos _ hn⟩
    | succ d ih =>
      intro i x hi h0 h1
      refine evp_succ ?_
      have h3:(i:Int) < (code.length:Int):=by omega
      have h2:(0:Int)≤(i:Int):=by omega
      have h4:=w64s (n:=i) (by omega)
      have hx:=hb _ (rd_mem (xs:=code) (i:=i) (by omega))
      simp only [laws_pick.l0,h2,h3,h4,if_true]
      rw [w64 (x:=x*43) (by omega) (by omega),w64 (x:=rd code (i:Int)) (by omega) (by omega),w64 (x:=x*43+rd code (i:Int)) (by omega) (by omega),Int.tmod_eq_emod_of_nonneg (by omega)]
      exact ih (i+1) _ (by omega) (by omega) (by omega)
  exact key code.length 0 _ (by omega) (by omega) (by omega)
/-! #### what a package verifies -/
theorem codeV_at (x : S71) (ns : List ByteArray) (bs : List (List Int)) (i : Nat) (hi : (rdOf ByteArray.empty ns (i : Int)).toList = x.f0.toList) : ∀ d j, j ≤ i → i < j + d → (∀ l, j ≤ l → l < i → (rdOf ByteArray.empty ns (l : Int)).toList ≠ x.f0.toList) →
    codeV x ns bs d j=if ((rd_L5 bs (i:Int)).length:Int)=x.f1 then (if dig (rd_L5 bs (i:Int))=x.f2 then 0 else 3) else 2:=by
  intro d
  induction d with
  | zero => intro j h1 h2; omega
  | succ d ih =>
    intro j h1 h2 h3
    rw [codeV]
    rcases Nat.eq_or_lt_of_le h1 with h|h
    · subst h
      rw [if_pos hi]
    · rw [if_neg (h3 j (Nat.le_refl _) h)]
      exact ih (j+1) h (by omega) (fun l h4 h5=>h3 l (by omega) h5)
theorem verV_map (xs : List S71) (ns : List ByteArray) (bs : List (List Int)) : ∀ d i out, verV xs ns bs d i out = out ++ (List.range d).map (fun t => codeV (rd_T71 xs ((i + t : Nat) : Int)) ns bs ns.length 0)
  | 0, _, out => by simp [verV]
  | d + 1, i, out => by
    rw [verV,verV_map xs ns bs d (i+1),List.range_succ_eq_map,List.map_cons,List.map_map,List.append_assoc]
    congr 1
    rw [List.singleton_append]
    congr 1
    apply List.map_congr_left
    intro t _
    show _=codeV (rd_T71 xs ((i+(t+1):Nat):Int)) ns bs ns.length 0
    rw [show i+1+t=i+(t+1) by omega]
theorem verV_rd (xs : List S71) (ns : List ByteArray) (bs : List (List Int)) (i : Nat) (hi : i < xs.length) : rd (verV xs ns bs xs.length 0 []) (i : Int) = codeV (rd_T71 xs (i : Int)) ns bs ns.length 0 := by
  rw [verV_map,List.nil_append,rd_nat]
  simp [hi]
structure Made (ns : List ByteArray) (bs : List (List Int)) (X : List S71) : Prop where
  len : ns.length = bs.length
  perm : X.Perm (madeI ns bs ns.length)
  ok : packB X = true
theorem Made.ll {ns : List ByteArray} {bs : List (List Int)} {X : List S71} (h : Made ns bs X) : X.Pairwise LL := ((packB_iff X).1 h.ok).2.2
theorem Made.xlen {ns : List ByteArray} {bs : List (List Int)} {X : List S71} (h : Made ns bs X) : X.length = ns.length := by rw [h.perm.length_eq, madeI_len]
theorem Made.mem {ns : List ByteArray} {bs : List (List Int)} {X : List S71} (h : Made ns bs X) {x : S71} (hx : x ∈ X) : ∃ i, i < ns.length ∧ x = mkA (rdOf ByteArray.empty ns (i : Int)) (rd_L5 bs (i : Int)) := by
  have:=h.perm.subset hx
  simp only [madeI,List.mem_map,List.mem_range] at this
  obtain⟨i,hi,rfl⟩:=this
  exact⟨i,hi,rfl⟩
theorem Made.has {ns : List ByteArray} {bs : List (List Int)} {X : List S71} (h : Made ns bs X) {i : Nat} (hi : i < ns.length) : mkA (rdOf ByteArray.empty ns (i : Int)) (rd_L5 bs (i : Int)) ∈ X := by
  refine h.perm.symm.subset ?_
  simp only [madeI,List.mem_map,List.mem_range]
  exact⟨i,hi,rfl⟩
theorem Made.apart {ns : List ByteArray} {bs : List (List Int)} {X : List S71} (h : Made ns bs X) {i j : Nat} (hi : i < ns.length) (hj : j < ns.length) (e : rdOf ByteArray.empty ns (i : Int) = rdOf ByteArray.empty ns (j : Int)) : i = j := by
  have h1:(madeI ns bs ns.length).Pairwise (fun x y=>x.f0≠y.f0):=(h.perm.pairwise_iff (fun h=>Ne.symm h)).1 (h.ll.imp (fun h=>LL_irr h))
  rw [List.pairwise_iff_getElem] at h1
  have li:i < (madeI ns bs ns.length).length:=by rw [madeI_len];exact hi
  have lj:j < (madeI ns bs ns.length).length:=by rw [madeI_len];exact hj
  have n1:∀ (a b:Nat) (ha:a < (madeI ns bs ns.length).length) (hb:b < (madeI ns bs ns.length).length),a < b→rdOf ByteArray.empty ns (a:Int)≠rdOf ByteArray.empty ns (b:Int):=fun a b ha hb hlt=>by
    have:=h1 a b ha hb hlt
    rw [madeI_get,madeI_get] at this
    exact this
  rcases Nat.lt_trichotomy i j with hlt|heq|hlt
  · exact absurd e (n1 i j li lj hlt)
  · exact heq
  · exact absurd e.symm (n1 j i lj li hlt)
theorem Made.code {ns : List ByteArray} {bs : List (List Int)} {X : List S71} (h : Made ns bs X) (cs : List (List Int)) {x : S71} {i : Nat} (hi : i < ns.length) (hx : x.f0 = rdOf ByteArray.empty ns (i : Int)) :
    codeV x ns cs ns.length 0=if ((rd_L5 cs (i:Int)).length:Int)=x.f1 then (if dig (rd_L5 cs (i:Int))=x.f2 then 0 else 3) else 2:=by
  refine codeV_at x ns cs i (by rw [hx]) ns.length 0 (Nat.zero_le _) (by omega) (fun l _ hl e=>?_)
  have:=h.apart (i:=l) (j:=i) (by omega) hi (by rw [← hx];exact str_inj e)
  omega
theorem Made.all0 {ns : List ByteArray} {bs : List (List Int)} {X : List S71} (h : Made ns bs X) (i : Nat) (hi : i < X.length) : rd (verV X ns bs X.length 0 []) (i : Int) = 0 := by
  rw [verV_rd X ns bs i hi]
  obtain⟨j,hj,e⟩:=h.mem (x:=rd_T71 X (i:Int)) (by rw [rd_get hi];exact List.getElem_mem hi)
  rw [h.code bs hj (by rw [e];rfl),e]
  exact(if_pos rfl).trans (if_pos rfl)
theorem packT_true {X : List S71} (h : (packT X).2 = true) : packB X = true ∧ packT X = (X, true) := by
  unfold packT at h ⊢
  by_cases e:packB X=true
  · rw [if_pos e]
    exact⟨e,rfl⟩
  · rw [if_neg e] at h
    cases h
theorem packT_false {X : List S71} (h : (packT X).2 = false) : packT X = ([], false) := by
  unfold packT at h ⊢
  by_cases e:packB X=true
  · rw [if_pos e] at h
    cases h
  · rw [if_neg e]
/-! #### one byte turned -/
def bend (n : ByteArray) (v : Int) (x : S71) : S71 := if x.f0 = n then ⟨x.f0, x.f1, v⟩ else x
theorem bend_f0 (n : ByteArray) (v : Int) (x : S71) : (bend n v x).f0 = x.f0 := by
  unfold bend
  split <;> rfl
theorem bend_f1 (n : ByteArray) (v : Int) (x : S71) : (bend n v x).f1 = x.f1 := by
  unfold bend
  split <;> rfl
theorem rdL5_set (bs : List (List Int)) (c : List Int) (h : 0 < bs.length) (i : Nat) : rd_L5 (bs.set 0 c) (i : Int) = if i = 0 then c else rd_L5 bs (i : Int) := by
  unfold rd_L5
  rw [List.getD_eq_getElem?_getD,List.getD_eq_getElem?_getD]
  show(bs.set 0 c)[i]?.getD []=_
  by_cases e:i=0
  · subst e
    rw [if_pos rfl,List.getElem?_set_self h]
    rfl
  · rw [if_neg e,List.getElem?_set_ne (Ne.symm e)]
    rfl
theorem Made.bent {ns : List ByteArray} {bs : List (List Int)} {X : List S71} (h : Made ns bs X) (c : List Int) (h0 : 0 < ns.length) (hc : c.length = (rd_L5 bs 0).length) (hd : 0 ≤ dig c ∧ dig c ≤ 1000000006) :
    Made ns (bs.set 0 c) (X.map (bend (rdOf ByteArray.empty ns 0) (dig c))):=by
  have hb:0 < bs.length:=by rw [← h.len];exact h0
  have hz:rd_L5 bs ((0:Nat):Int)=rd_L5 bs 0:=rfl
  refine⟨by rw [List.length_set];exact h.len,?_,?_⟩
  · have e:madeI ns (bs.set 0 c) ns.length=(madeI ns bs ns.length).map (bend (rdOf ByteArray.empty ns 0) (dig c)):=by
      unfold madeI
      rw [List.map_map]
      apply List.map_congr_left
      intro i hi
      have hi:i < ns.length:=by simpa using hi
      rw [Function.comp_apply,rdL5_set bs c hb i]
      unfold bend
      by_cases e:i=0
      · subst e
        rw [if_pos rfl,if_pos (show(mkA (rdOf ByteArray.empty ns ((0:Nat):Int)) (rd_L5 bs ((0:Nat):Int))).f0=rdOf ByteArray.empty ns 0 from rfl)]
        unfold mkA
        rw [hc]
        rfl
      · rw [if_neg e,if_neg]
        intro e2
        exact e (h.apart (i:=i) (j:=0) hi h0 e2)
    rw [e]
    exact h.perm.map _
  · obtain⟨p1,p2,p3⟩:=(packB_iff X).1 h.ok
    refine(packB_iff _).2 ⟨by rw [List.length_map];exact p1,fun x hx=>?_,?_⟩
    · obtain⟨y,hy,rfl⟩:=List.mem_map.1 hx
      obtain⟨q1,q2,q3,q4⟩:=p2 y hy
      refine⟨by rw [bend_f0];exact q1,by rw [bend_f1];exact q2,?_⟩
      unfold bend
      split
      · exact hd
      · exact⟨q3,q4⟩
    · rw [List.pairwise_map]
      refine p3.imp (fun {x y} hxy=>?_)
      unfold LL at hxy ⊢
      rw [bend_f0,bend_f0]
      exact hxy
theorem nodup_one {a : ByteArray} : ∀ {l : List ByteArray}, l.Pairwise (· ≠ ·) → (∀ s, s ∈ l ↔ s = a) → l = [a]
  | [], _, h => by have := (h a).2 rfl; cases this
  | [b], _, h => by rw [(h b).1 List.mem_cons_self]
  | b :: c :: l, hp, h => by
    have e1:=(h b).1 List.mem_cons_self
    have e2:=(h c).1 (List.mem_cons_of_mem _ List.mem_cons_self)
    rw [List.pairwise_cons] at hp
    exact absurd (e1.trans e2.symm) (hp.1 c List.mem_cons_self)
theorem sentV_none {a : List S71} : ∀ {l : List S71}, (∀ x ∈ l, a.any (sameA x) = true) → sentV a l = []
  | [], _ => rfl
  | x :: l, h => by rw [sentV, if_pos (h x List.mem_cons_self), sentV_none (fun y hy => h y (List.mem_cons_of_mem _ hy))]
theorem goneV_none {b : List S71} : ∀ {l : List S71}, (∀ x ∈ l, b.any (sameN x) = true) → goneV b l = []
  | [], _ => rfl
  | x :: l, h => by rw [goneV, if_pos (h x List.mem_cons_self), goneV_none (fun y hy => h y (List.mem_cons_of_mem _ hy))]
theorem upd_self {X : List S71} (h : packB X = true) : updV X X = ([], []) := by
  rw [updV,if_pos ⟨h,h⟩,sentV_none (fun x hx=>(anyA_iff X x).2 ⟨x,hx,rfl,rfl,rfl⟩),goneV_none (fun x hx=>(anyN_iff X x).2 ⟨x,hx,rfl⟩)]
theorem Made.upd {ns : List ByteArray} {bs : List (List Int)} {X : List S71} (h : Made ns bs X) (v : Int) (h0 : 0 < ns.length) (hv : v ≠ dig (rd_L5 bs 0)) (hY : packB (X.map (bend (rdOf ByteArray.empty ns 0) v)) = true) :
    updV X (X.map (bend (rdOf ByteArray.empty ns 0) v))=([rdOf ByteArray.empty ns 0],[]):=by
  have hz:mkA (rdOf ByteArray.empty ns 0) (rd_L5 bs 0) ∈ X:=h.has (i:=0) h0
  rw [updV,if_pos ⟨h.ok,hY⟩]
  congr 1
  · refine nodup_one ((names_ne ((packB_iff _).1 hY).2.2).sublist (sentV_sub _ _)) (fun s=>?_)
    rw [sentV_mem]
    constructor
    · rintro⟨y,hy,hn,rfl⟩
      obtain⟨x,hx,rfl⟩:=List.mem_map.1 hy
      rw [bend_f0]
      by_cases e:x.f0=rdOf ByteArray.empty ns 0
      · exact e
      · exact absurd ((anyA_iff X _).2 ⟨x,hx,by rw [bend,if_neg e];exact⟨rfl,rfl,rfl⟩⟩) hn
    · rintro rfl
      refine⟨_,List.mem_map_of_mem hz,fun hn=>?_,by rw [bend_f0];rfl⟩
      obtain⟨y,hy,e1,e2,e3⟩:=(anyA_iff X _).1 hn
      have e4:(bend (rdOf ByteArray.empty ns 0) v (mkA (rdOf ByteArray.empty ns 0) (rd_L5 bs 0))).f2=v:=by rw [bend,if_pos (show(mkA (rdOf ByteArray.empty ns 0) (rd_L5 bs 0)).f0=rdOf ByteArray.empty ns 0 from rfl)]
      rw [bend_f0] at e1
      have e5:=name_uniq h.ll hz hy e1
      rw [e4,← e5] at e3
      exact hv e3
  · refine goneV_none (fun x hx=>(anyN_iff _ x).2 ⟨_,List.mem_map_of_mem hx,bend_f0 _ _ _⟩)

theorem law_l1 (ns : List ByteArray) (X : List S71) (W : List Int) (hW : W.length = X.length) (h0 : 0 < ns.length) (hx : X.length ≤ 100)
    (hw:∀ i,i < X.length→rd W (i:Int)=if (rd_T71 X (i:Int)).f0=rdOf ByteArray.empty ns 0 then 3 else 0):Ev (fun k=>laws_FnPacked.l1 k ns X W 0) true:=by
  have key:∀ d i,i+d=X.length→Ev (fun k=>laws_FnPacked.l1 k ns X W (i:Int)) true:=by
    intro d
    induction d with
    | zero =>
      intro i hi
      refine ev_succ ?_
      have h1 : ¬ (i:Int) < (W.length:Int):=by omega
      simp only [laws_FnPacked.l1,h1,if_false]
      exact ev_ret rfl
    | succ d ih =>
      intro i hi
      refine ev_succ ?_
      have h1:(i:Int) < (W.length:Int):=by omega
      have h2:(0:Int)≤(i:Int):=by omega
      have h3:(i:Int) < (X.length:Int):=by omega
      have h4:(0:Int) < (ns.length:Int):=by omega
      have h5:=w64s (n:=i) (by omega)
      have h6:=hw i (by omega)
      simp only [laws_FnPacked.l1,h1,h2,h3,h4,h5,if_true]
      refine ev_ite (fun e=>?_) (fun e=>?_)
      · rw [if_pos (str_inj e)] at h6
        exact ev_pos h6 (ih (i+1) (by omega))
      · rw [if_neg (fun e2=>e (by rw [e2]))] at h6
        exact ev_pos h6 (ih (i+1) (by omega))
  exact key X.length 0 (by omega)
theorem FnPacked : laws_FnPacked.Pure := by
  intro l0 h0 h1 hb
  have hby:Byt l0:=fun x hx=>wf8 (hb x hx)
  have goal:Ev (fun k=>laws_FnPacked.f k l0) true:=by
    unfold laws_FnPacked.f
    simp only [laws_big.f,Option.bind_some]
    refine ev_ite (fun _=>ev_ret rfl) (fun hbig=>?_)
    replace hbig : ¬ (l0.length:Int) > 4096:=fun h=>hbig (by simpa using h)
    obtain⟨p,hp,d1,d2,d3⟩:=drawPacked_ev l0 (by omega)
    refine ev_bind hp ?_
    obtain⟨ns,bs⟩:=p
    replace d1:ns.length≤200:=d1
    replace d2:∀ s ∈ ns,s.size≤100:=d2
    replace d3:∀ b ∈ bs,Byt b:=d3
    have i1:=impl_Pack_ev ns bs (by omega)
    have i2:=spec_Pack_ev ns bs (by omega) (fun x hx=>Nat.le_trans (d2 x hx) (by omega)) d3
    have neg:∀ T:List S71 × Bool,T=([],false)→Ev (fun k=>impl_Pack.f k ns bs) T→Ev (fun k=>spec_Pack.f k ns bs) T→Ev (fun k=>(impl_Pack.f k ns bs).bind fun bt355=>((spec_Pack.f k ns bs).bind fun bt359=>(if (bt355.2 != bt359.2)=true then (some false) else (if bt355.2=true then ((impl_Verify.f k bt355.1 ns bs).bind fun t363=>((impl_PackOk.f k bt355.1).bind fun t366=>(if t366=true then (if (t363.length:Int)=(bt355.1.length:Int) then (laws_FnPacked.j0 k l0 ns bs bt355.1 t363 ((bt355.1.length:Int) != (ns.length:Int))) else (laws_FnPacked.j0 k l0 ns bs bt355.1 t363 true)) else (laws_FnPacked.j0 k l0 ns bs bt355.1 t363 true)))) else (some ((bt355.1.length:Int) == 0)))))) true:=by
      rintro T rfl e1 e2
      refine ev_bind e1 (ev_bind e2 ?_)
      exact ev_ret rfl
    by_cases hl:ns.length=bs.length
    case neg=>
      rw [if_neg hl] at i1 i2
      exact neg _ rfl i1 i2
    rw [if_pos hl] at i1 i2
    generalize hX:sortA (madeI ns bs ns.length)=X at i1 i2
    rcases Bool.eq_false_or_eq_true (packT X).2 with ht|ht
    case inr=>exact neg _ (packT_false ht) i1 i2
    obtain⟨ok,hT⟩:=packT_true ht
    rw [hT] at i1 i2
    have hM:Made ns bs X:=⟨hl,by rw [← hX];exact sortA_perm _,ok⟩
    have hxl:=hM.xlen
    have hx100:X.length≤100:=packB_len ok
    refine ev_bind i1 (ev_bind i2 ?_)
    refine ev_neg (by simp) (ev_pos rfl ?_)
    refine ev_bind (impl_Verify_ev X ns bs (by omega) (by omega)) ?_
    have hv:verifyV X ns bs=verV X ns bs X.length 0 []:=by rw [verifyV,if_pos ⟨ok,hl⟩]
    rw [hv]
    have hvl:(verV X ns bs X.length 0 []).length=X.length:=by rw [verV_len];simp
    refine ev_bind (impl_PackOk_ev X (by omega)) ?_
    refine ev_pos ok (ev_pos (by rw [hvl]) ?_)
    refine ev_succ ?_
    simp only [laws_FnPacked.j0]
    refine ev_neg (by rw [hxl];simp) ?_
    have z0:=hM.all0
    generalize verV X ns bs X.length 0 []=V at hvl z0
    have key:∀ d i,i+d=V.length→Ev (fun k=>laws_FnPacked.l0 k l0 ns bs X V (i:Int)) true:=by
      intro d
      induction d with
      | succ d ih =>
        intro i hi
        refine ev_succ ?_
        have h1:(i:Int) < (V.length:Int):=by omega
        have h2:(0:Int)≤(i:Int):=by omega
        have h4:=w64s (n:=i) (by omega)
        have h5:=z0 i (by omega)
        simp only [laws_FnPacked.l0,h1,h2,h4,h5,if_true]
        exact ih (i+1) (by omega)
      | zero =>
        intro i hi
        refine ev_succ ?_
        have h1 : ¬ (i:Int) < (V.length:Int):=by omega
        simp only [laws_FnPacked.l0,h1,if_false]
        refine ev_bind (impl_Update_ev X X (by omega) (by omega)) ?_
        rw [upd_self ok]
        refine ev_pos (w64 (x:=0) (by decide) (by decide)) ?_
        have last:Ev (fun k=>laws_FnPacked.j2 k l0 ns bs X true) true:=by
          refine ev_succ ?_
          simp only [laws_FnPacked.j2,if_true]
          exact ev_ret rfl
        refine ev_ite (fun _=>last) (fun hn0=>?_)
        have hn:0 < ns.length:=by omega
        refine ev_pos (by omega) ?_
        by_cases hb0:(((rd_L5 bs 0).length:Int) == 0)=true
        · rw [hb0];exact last
        rw [Bool.eq_false_iff.2 hb0]
        have hb1:0 < (rd_L5 bs 0).length:=by
          rcases Nat.eq_zero_or_pos (rd_L5 bs 0).length with e|e
          · rw [e] at hb0;exact absurd rfl hb0
          · exact e
        have hm0:rd_L5 bs 0 ∈ bs:=getD_mem (i:=0) [] (by omega)
        have hbb:=d3 _ hm0
        have hb4:(rd_L5 bs 0).length≤40000:=by
          have:=(((packB_iff X).1 ok).2.1 _ (hM.has (i:=0) hn)).2.1.2
          have e:(mkA (rdOf ByteArray.empty ns ((0:Nat):Int)) (rd_L5 bs ((0:Nat):Int))).f1=((rd_L5 bs 0).length:Int):=rfl
          rw [e] at this
          omega
        refine ev_succ ?_
        simp only [laws_FnPacked.j2,Bool.false_eq_true,if_false,Option.bind_some,List.nil_append,List.length_nil,Nat.zero_add]
        refine ev_pos (by omega) (ev_pos (by omega) (ev_pos (by omega) ?_))
        obtain⟨t,ht,t0,t1⟩:=pick_ev l0 (by omega) hby ((rd_L5 bs 0).length:Int) (by omega)
        refine ev_bind ht (ev_pos t0 (ev_pos t1 (ev_pos (by omega) ?_)))
        obtain⟨t,rfl⟩:=Int.eq_ofNat_of_zero_le t0
        generalize hB:rd_L5 bs 0=B at *
        have hxr:=hbb _ (rd_mem (xs:=B) (i:=t) (by omega))
        obtain⟨x1,x2⟩:=xor16 _ hxr.1 hxr.2
        have hdn:=dig_bent B t _ hbb (by omega) hb4 x1 x2
        generalize hC:B.set t (Go.bits .xor .u8 (rd B (t:Int)) 16)=C at hdn
        have hCl:C.length=B.length:=by rw [← hC,List.length_set]
        have hCb:Byt C:=by
          rw [← hC]
          intro x hx
          rcases List.mem_or_eq_of_mem_set hx with hx|hx
          · exact hbb x hx
          · rw [hx];exact x1
        have hM2:=hM.bent C hn (by rw [hB];exact hCl) (dig_range C hCb)
        have hbs:∀ b ∈ bs.set 0 C,Byt b:=fun b hb=>by
          rcases List.mem_or_eq_of_mem_set hb with hb|hb
          · exact d3 b hb
          · rw [hb];exact hCb
        have eC:(B.set ((t:Int):Int).toNat (Go.bits .xor .u8 (rd B (t:Int)) 16))=C:=hC
        have eD:bs.set ((0:Int):Int).toNat C=bs.set 0 C:=rfl
        rw [eC,eD]
        have hl2:ns.length=(bs.set 0 C).length:=by rw [List.length_set];exact hl
        refine ev_bind (impl_Verify_ev X ns (bs.set 0 C) (by omega) (by omega)) ?_
        have i3:=impl_Pack_ev ns (bs.set 0 C) (by omega)
        have eX:sortA (madeI ns (bs.set 0 C) ns.length)=X.map (bend (rdOf ByteArray.empty ns 0) (dig C)):=sortA_strict hM2.perm hM2.ll
        rw [if_pos hl2,eX,packT,if_pos hM2.ok] at i3
        refine ev_bind i3 ?_
        refine ev_bind (impl_Update_ev X _ (by omega) (by rw [List.length_map];omega)) ?_
        rw [hM.upd (dig C) hn (by rw [hB];exact hdn) hM2.ok]
        refine ev_pos rfl (ev_pos (by simp) (ev_pos (by omega) (ev_pos rfl ?_)))
        refine ev_succ ?_
        simp only [laws_FnPacked.j3]
        refine ev_neg (by simp) ?_
        rw [verifyV,if_pos ⟨ok,hl2⟩]
        refine law_l1 ns X _ (by rw [verV_len];simp) hn hx100 (fun i hi=>?_)
        rw [verV_rd X ns _ i hi]
        obtain⟨j,hj,e⟩:=hM.mem (x:=rd_T71 X (i:Int)) (by rw [rd_get hi];exact List.getElem_mem hi)
        rw [e,hM.code (bs.set 0 C) hj rfl,rdL5_set bs C (by omega) j]
        by_cases j0:j=0
        · subst j0
          rw [if_pos rfl,if_pos (show(mkA (rdOf ByteArray.empty ns ((0:Nat):Int)) (rd_L5 bs ((0:Nat):Int))).f0=rdOf ByteArray.empty ns 0 from rfl)]
          show(if (C.length:Int)=((rd_L5 bs 0).length:Int) then (if dig C=dig (rd_L5 bs 0) then 0 else 3) else 2)=(3:Int)
          rw [hB,if_pos (by rw [hCl]),if_neg hdn]
        · rw [if_neg j0,if_neg (show ¬ (mkA (rdOf ByteArray.empty ns (j:Int)) (rd_L5 bs (j:Int))).f0=rdOf ByteArray.empty ns 0 from fun e2=>j0 (hM.apart (i:=j) (j:=0) hj hn e2))]
          exact(if_pos rfl).trans (if_pos rfl)
    exact key V.length 0 (by omega)
  obtain⟨n,hn⟩:=goal
  exact⟨n,hn n (Nat.le_refl _)⟩
end Go.Proofs.Ytelcpfanjjfgdaa.Pure
