/-
  The plain statement of FnExactEncode: both sides tell the same bytes, the arguments are not written, and the answer owns its memory.
  Conditions: the statement's own.
-/
import Derived.Test.YtbdnpfjjaokdbaaHFnExactEncodex0
import Derived.Test.YtbdnpfjjaokdbaaHFnExactEncodex1
import Derived.Test.YtbdnpfjjaokdbaaHFnExactEncodex2
import Derived.Test.YtbdnpfjjaokdbaaHFnExactEncodex3
import Derived.Test.YtbdnpfjjaokdbaaHFnExactEncodex4
import Derived.Test.YtbdnpfjjaokdbaaHFnExactEncodex5
import Derived.Test.YtbdnpfjjaokdbaaHFnExactEncodex6
import Derived.Test.YtbdnpfjjaokdbaaHFnExactEncodex7
import Derived.Test.YtbdnpfjjaokdbaaHFnExactEncodex8
import Derived.Test.YtbdnpfjjaokdbaaHFnExactEncodex9
import Derived.Test.YtbdnpfjjaokdbaaHFnExactEncodex10
import Derived.Test.YtbdnpfjjaokdbaaHFnExactEncodex11
import Derived.Test.YtbdnpfjjaokdbaaHFnExactEncodex12
import Derived.Test.YtbdnpfjjaokdbaaHFnExactEncodex13
import Derived.Test.YtbdnpfjjaokdbaaPureBase
import Derived.Laws.BitsLemmas
namespace Go.Proofs.Ytbdnpfjjaokdbaa.Pure
open Go.RowKit Go.Proofs.Ytbdnpfjjaokdbaa.HFnExactEncode Go.Proofs.YtbdnpfjjaokdbaaW.PrintWords Go.Proofs.YtbdnpfjjaokdbaaW.PrintLast Go.Proofs.YtbdnpfjjaokdbaaW.PrintMore Go.Proofs.Ytbdnpfjjaokdbaa.PB
set_option linter.unusedVariables false
set_option linter.unusedSimpArgs false
theorem spec_in_eq (a lo hi : Int) : spec_l1In.f a lo hi = some (decide (lo ≤ a ∧ a ≤ hi)) := by
  unfold spec_l1In.f
  by_cases h:a ≥ lo
  · rw [if_pos h];simp [show lo≤a from h]
  · rw [if_neg h];simp;omega

theorem impl_in_eq (a lo hi : Int) : impl_in.f a lo hi = some (decide (lo ≤ a ∧ a ≤ hi)) := by
  unfold impl_in.f
  by_cases h:lo≤a
  · rw [if_pos h];simp [h]
  · rw [if_neg h];simp;omega

/-! #### laws_toInt64S, laws_eqInt64S -/
theorem toInt64S_ev (xs : List Int) (h : xs.length ≤ 1048576) : Ev (fun k => laws_toInt64S.f k xs) xs := by
  have key:∀ d i,i+d=xs.length→Ev (fun k=>laws_toInt64S.l0 k xs ((xs.take i).map id ++ List.replicate (xs.length - i) 0) (i:Int)) (xs.map id):=by
    intro d
    induction d with
    | zero =>
      intro i hi
      refine ev_succ ?_
      have h1 : ¬ ((i:Int) < (xs.length:Int)):=by omega
      simp only [laws_toInt64S.l0,h1,if_false]
      obtain rfl:i=xs.length:=by omega
      exact ev_ret (by rw [fill_all])
    | succ d ih =>
      intro i hi
      have hlt:i < xs.length:=by omega
      refine ev_succ ?_
      have h1:(i:Int) < (xs.length:Int):=by omega
      have h2:(0:Int)≤(i:Int):=by omega
      have h3:(i:Int) < ((((xs.take i).map id ++ List.replicate (xs.length - i) (0:Int)).length:Nat):Int):=by rw [fill_len _ _ _ _ (by omega)];omega
      have h4:=w64s (n:=i) (by omega)
      simp only [laws_toInt64S.l0,h1,h2,h3,if_true,h4]
      have:=ih (i+1) (by omega)
      rw [← fill_set id 0 0 xs i hlt] at this
      exact this
  have h1:(0:Int)≤(xs.length:Int):=by omega
  have h2:xs.length≤35184372088832:=by omega
  simp only [laws_toInt64S.f,h1,Int.toNat_natCast,h2,if_true]
  have:=key xs.length 0 (by omega)
  rw [← fill_none id 0 xs,List.map_id] at this
  exact this
theorem eqInt64S_ev (xs ys : List Int) (h : xs.length ≤ 4611686018427387904) : Ev (fun k => laws_eqInt64S.f k xs ys) (decide (xs = ys)) := by
  have key:∀ d i,i+d=xs.length→xs.length=ys.length→Ev (fun k=>laws_eqInt64S.l0 k xs ys (i:Int)) (decide (xs.drop i=ys.drop i)):=by
    intro d
    induction d with
    | zero =>
      intro i hi hl
      refine ev_succ ?_
      have h1 : ¬ ((i:Int) < (xs.length:Int)):=by omega
      simp only [laws_eqInt64S.l0,h1,if_false]
      exact ev_ret (by rw [drop_end (by omega),drop_end (by omega)];simp)
    | succ d ih =>
      intro i hi hl
      refine ev_succ ?_
      have h1:(i:Int) < (xs.length:Int):=by omega
      have h2:(0:Int)≤(i:Int):=by omega
      have h3:(i:Int) < (ys.length:Int):=by omega
      have h4:=w64s (n:=i) (by omega)
      simp only [laws_eqInt64S.l0,h1,h2,h3,if_true,h4]
      rw [drop_rd xs i (by omega),drop_rd ys i (by omega)]
      by_cases he:rd xs (i:Int)=rd ys (i:Int)
      · simp only [he,if_true]
        exact ev_eq (ih (i+1) (by omega) hl) (by simp)
      · simp only [he,if_false]
        exact ev_ret (by simp [he])
  by_cases hl:xs.length=ys.length
  · have h1:(xs.length:Int)=(ys.length:Int):=by omega
    simp only [laws_eqInt64S.f,h1,if_true]
    exact ev_eq (key xs.length 0 (by omega) hl) (by simp)
  · have h1 : ¬ (xs.length:Int)=(ys.length:Int):=by omega
    simp only [laws_eqInt64S.f,h1,if_false]
    exact ev_ret (by
      have:xs≠ys:=fun e=>hl (by rw [e])
      simp [this])

/-! #### laws_markInt64S, laws_heldInt64S -/
def markInt64 (k0 : Int) (n : Nat) : List Int := (List.range n).map fun (j : Nat) => k0 + (j : Int)
theorem markInt64_len (k0 : Int) (n : Nat) : (markInt64 k0 n).length = n := by simp [markInt64]
theorem markInt64S_ev (xs : List Int) (k0 : Int) (hk : 0 ≤ k0) (hk2 : k0 + xs.length < 9223372036854775807) : Ev (fun k => laws_markInt64S.f k xs k0) (k0 + xs.length, markInt64 k0 xs.length) := by
  have key:∀ d i,i+d=xs.length→Ev (fun k=>laws_markInt64S.l0 k (markInt64 k0 i ++ xs.drop i) (k0+(i:Int)) (i:Int)) (k0+xs.length,markInt64 k0 xs.length):=by
    intro d
    induction d with
    | zero =>
      intro i hi
      refine ev_succ ?_
      obtain rfl:i=xs.length:=by omega
      have h1 : ¬ ((xs.length:Int) < ((markInt64 k0 xs.length ++ xs.drop xs.length).length:Int)):=by simp [markInt64_len]
      simp only [laws_markInt64S.l0,h1,if_false]
      exact ev_ret (by simp)
    | succ d ih =>
      intro i hi
      refine ev_succ ?_
      have h1:(i:Int) < ((markInt64 k0 i ++ xs.drop i).length:Int):=by simp [markInt64_len];omega
      have h2:(0:Int)≤(i:Int):=by omega
      have h4:=w64s (n:=i) (by omega)
      have h5:wrap64 (k0+(i:Int)+1)=k0+((i+1:Nat):Int):=by rw [w64 (by omega) (by omega)];omega
      simp only [laws_markInt64S.l0,h1,h2,if_true,h4,h5]
      have:=ih (i+1) (by omega)
      have he:(markInt64 k0 i ++ xs.drop i).set i (k0+(i:Int))=markInt64 k0 (i+1) ++ xs.drop (i+1):=by
        rw [List.set_append_right _ _ (by rw [markInt64_len];omega),markInt64_len,Nat.sub_self,drop_rd xs i (by omega)]
        simp [markInt64,List.range_succ]
      rw [← he] at this
      exact this
  have:=key xs.length 0 (by omega)
  simpa [laws_markInt64S.f,markInt64] using this

theorem eqByteS_ev (xs ys : List Int) (h : xs.length ≤ 4611686018427387904) : Ev (fun k => laws_eqByteS.f k xs ys) (decide (xs = ys)) := by
  have key:∀ d i,i+d=xs.length→xs.length=ys.length→Ev (fun k=>laws_eqByteS.l0 k xs ys (i:Int)) (decide (xs.drop i=ys.drop i)):=by
    intro d
    induction d with
    | zero =>
      intro i hi hl
      refine ev_succ ?_
      have h1 : ¬ ((i:Int) < (xs.length:Int)):=by omega
      simp only [laws_eqByteS.l0,h1,if_false]
      exact ev_ret (by rw [drop_end (by omega),drop_end (by omega)];simp)
    | succ d ih =>
      intro i hi hl
      refine ev_succ ?_
      have h1:(i:Int) < (xs.length:Int):=by omega
      have h2:(0:Int)≤(i:Int):=by omega
      have h3:(i:Int) < (ys.length:Int):=by omega
      have h4:=w64s (n:=i) (by omega)
      simp only [laws_eqByteS.l0,h1,h2,h3,if_true,h4]
      rw [drop_rd xs i (by omega),drop_rd ys i (by omega)]
      by_cases he:rd xs (i:Int)=rd ys (i:Int)
      · simp only [he,if_true]
        exact ev_eq (ih (i+1) (by omega) hl) (by simp)
      · simp only [he,if_false]
        exact ev_ret (by simp [he])
  by_cases hl:xs.length=ys.length
  · have h1:(xs.length:Int)=(ys.length:Int):=by omega
    simp only [laws_eqByteS.f,h1,if_true]
    exact ev_eq (key xs.length 0 (by omega) hl) (by simp)
  · have h1 : ¬ (xs.length:Int)=(ys.length:Int):=by omega
    simp only [laws_eqByteS.f,h1,if_false]
    exact ev_ret (by
      have:xs≠ys:=fun e=>hl (by rw [e])
      simp [this])

/-! #### laws_markByteS, laws_heldByteS -/
def markByte (k0 : Int) (n : Nat) : List Int := (List.range n).map fun (j : Nat) => (k0 + (j : Int)) % 256
theorem markByte_len (k0 : Int) (n : Nat) : (markByte k0 n).length = n := by simp [markByte]
theorem markByte_rd (k0 : Int) (n i : Nat) (h : i < n) : rd (markByte k0 n) (i : Int) = (k0 + (i : Int)) % 256 := by
  simp [markByte,rd_nat,List.getD_eq_getElem?_getD,List.getElem?_map,List.getElem?_range h]
theorem markByteS_ev (xs : List Int) (k0 : Int) (hk : 0 ≤ k0) (hk2 : k0 + xs.length < 9223372036854775807) : Ev (fun k => laws_markByteS.f k xs k0) (k0 + xs.length, markByte k0 xs.length) := by
  have key:∀ d i,i+d=xs.length→Ev (fun k=>laws_markByteS.l0 k (markByte k0 i ++ xs.drop i) (k0+(i:Int)) (i:Int)) (k0+xs.length,markByte k0 xs.length):=by
    intro d
    induction d with
    | zero =>
      intro i hi
      refine ev_succ ?_
      obtain rfl:i=xs.length:=by omega
      have h1 : ¬ ((xs.length:Int) < ((markByte k0 xs.length ++ xs.drop xs.length).length:Int)):=by simp [markByte_len]
      simp only [laws_markByteS.l0,h1,if_false]
      exact ev_ret (by simp)
    | succ d ih =>
      intro i hi
      refine ev_succ ?_
      have h1:(i:Int) < ((markByte k0 i ++ xs.drop i).length:Int):=by simp [markByte_len];omega
      have h2:(0:Int)≤(i:Int):=by omega
      have h4:=w64s (n:=i) (by omega)
      have h5:wrap64 (k0+(i:Int)+1)=k0+((i+1:Nat):Int):=by rw [w64 (by omega) (by omega)];omega
      simp only [laws_markByteS.l0,h1,h2,if_true,h4,h5]
      have:=ih (i+1) (by omega)
      have he:(markByte k0 i ++ xs.drop i).set i ((k0+(i:Int)) % 256)=markByte k0 (i+1) ++ xs.drop (i+1):=by
        rw [List.set_append_right _ _ (by rw [markByte_len];omega),markByte_len,Nat.sub_self,drop_rd xs i (by omega)]
        simp [markByte,List.range_succ]
      rw [← he] at this
      exact this
  have:=key xs.length 0 (by omega)
  simpa [laws_markByteS.f,markByte] using this
theorem heldByteS_ev (n : Nat) (k0 : Int) (hk : 0 ≤ k0) (hk2 : k0 + n < 9223372036854775807) : Ev (fun k => laws_heldByteS.f k (markByte k0 n) k0) (k0 + n) := by
  have key:∀ d i,i+d=n→Ev (fun k=>laws_heldByteS.l0 k (markByte k0 n) (k0+(i:Int)) (i:Int)) (k0+n):=by
    intro d
    induction d with
    | zero =>
      intro i hi
      refine ev_succ ?_
      obtain rfl:i=n:=by omega
      have h1 : ¬ ((i:Int) < ((markByte k0 i).length:Int)):=by simp [markByte_len]
      simp only [laws_heldByteS.l0,h1,if_false]
      exact ev_ret (by simp)
    | succ d ih =>
      intro i hi
      refine ev_succ ?_
      have h1:(i:Int) < ((markByte k0 n).length:Int):=by simp [markByte_len];omega
      have h2:(0:Int)≤(i:Int):=by omega
      have h4:=w64s (n:=i) (by omega)
      have h5:wrap64 (k0+(i:Int)+1)=k0+((i+1:Nat):Int):=by rw [w64 (by omega) (by omega)];omega
      simp only [laws_heldByteS.l0,h1,h2,if_true,h4,h5,markByte_rd k0 n i (by omega)]
      exact ih (i+1) (by omega)
  have:=key n 0 (by omega)
  simpa [laws_heldByteS.f] using this

theorem any_not_all {α : Type} (q : α → Bool) (xs : List α) : (xs.any fun c => !q c) = !(xs.all q) := by
  induction xs with
  | nil => rfl
  | cons c cs ih => simp [List.any_cons, List.all_cons, ih]

theorem impl_PictureOk_idx_eq {α : Type} (q : α → Bool) : ∀ (l : List α) (i : Int), 0 ≤ i → (impl_PictureOk_idxO (fun x => some (q x)) l i).bind (fun t => some (decide (0 ≤ t))) = some (l.any q)
  | [], i, _ => by simp [impl_PictureOk_idxO]
  | x :: xs, i, h => by
    rw [impl_PictureOk_idxO,List.any_cons]
    simp only [Option.bind_some]
    cases q x with
    | true => simp [h]
    | false => simpa using impl_PictureOk_idx_eq q xs (i + 1) (by omega)

/-! #### PictureOk -/
def byB (x : Int) : Bool := decide (0 ≤ x ∧ x ≤ 255)
def sideP (n : Int) : Prop := 4 ≤ n ∧ n ≤ 16 ∧ n % 4 = 0
instance (n : Int) : Decidable (sideP n) := by unfold sideP; infer_instance
def picB (w h : Int) (px : List Int) : Bool := decide (sideP w ∧ sideP h ∧ (px.length : Int) = w * h) && px.all byB
theorem mul_bd {w h : Int} (h1 : 0 ≤ w) (h2 : w ≤ 16) (h3 : 0 ≤ h) (h4 : h ≤ 16) : 0 ≤ w * h ∧ w * h ≤ 256 :=
  ⟨Int.mul_nonneg h1 h3,Int.le_trans (Int.mul_le_mul h2 h4 h3 (by omega)) (by omega)⟩
theorem spec_side_eq (n : Int) : spec_l14Side.f n = some (decide (sideP n)) := by
  unfold spec_l14Side.f
  simp only [spec_in_eq,Option.bind_some]
  by_cases h:4≤n∧n≤16
  · rw [if_pos (decide_eq_true h),Int.tmod_eq_emod_of_nonneg (by omega)]
    congr 1
    rw [Bool.eq_iff_iff]
    simp only [beq_iff_eq,decide_eq_true_eq]
    exact⟨fun e=>⟨h.1,h.2,e⟩,fun e=>e.2.2⟩
  · rw [if_neg (by rw [decide_eq_false h];simp),decide_eq_false (fun e:sideP n=>h ⟨e.1,e.2.1⟩)]
theorem spec_PictureOk_ev (w h : Int) (px : List Int) : Ev (fun k => spec_PictureOk.f k w h px) (picB w h px) := by
  have hby:∀ a,spec_l11Byte.f a=some (byB a):=by
    intro a
    simp only [spec_l11Byte.f,spec_in_eq,Option.bind_some,byB]
  have key:px.length≤256 → ∀ d i,i+d=px.length→Ev (fun k=>spec_PictureOk.l0 k (i:Int) w h px) ((px.drop i).all byB):=by
    intro hl d
    induction d with
    | zero =>
      intro i hi
      refine ev_succ ?_
      have h1 : ¬ (i:Int) < (px.length:Int):=by omega
      simp only [spec_PictureOk.l0,h1,if_false]
      exact ev_ret (by rw [drop_end (by omega)];rfl)
    | succ d ih =>
      intro i hi
      refine ev_succ ?_
      have h1:(i:Int) < (px.length:Int):=by omega
      have h2:(0:Int)≤(i:Int):=by omega
      have h4:=w64s (n:=i) (by omega)
      simp only [spec_PictureOk.l0,h1,h2,h4,if_true,hby,Option.bind_some]
      rw [drop_rd px i (by omega),List.all_cons]
      refine ev_ifb (fun e=>?_) (fun e=>ev_ret (by rw [e];rfl))
      rw [e,Bool.true_and]
      exact ih (i+1) (by omega)
  unfold picB
  simp only [spec_PictureOk.f,spec_side_eq,Option.bind_some]
  have no:∀ b,b=false→Ev (fun k=>spec_PictureOk.j0 k true w h px) (b && px.all byB):=fun b hb=>by
    refine ev_succ ?_
    simp only [spec_PictureOk.j0,if_true]
    exact ev_ret (by rw [hb];rfl)
  refine ev_ifb (fun h1=>?_) (fun h1=>no _ (decide_eq_false (fun hh=>of_decide_eq_false h1 hh.1)))
  refine ev_ifb (fun h2=>?_) (fun h2=>no _ (decide_eq_false (fun hh=>of_decide_eq_false h2 hh.2.1)))
  have h1':=of_decide_eq_true h1
  have h2':=of_decide_eq_true h2
  have hm:=mul_bd (by have:=h1'.1;omega) h1'.2.1 (by have:=h2'.1;omega) h2'.2.1
  rw [w64 (x:=w*h) (by omega) (by omega)]
  by_cases h3:(px.length:Int)=w*h
  · have e:((px.length:Int) != w*h)=false:=bne_eq_false_iff_eq.2 h3
    rw [e,decide_eq_true (show sideP w∧sideP h∧(px.length:Int)=w*h from⟨h1',h2',h3⟩),Bool.true_and]
    refine ev_succ ?_
    simp only [spec_PictureOk.j0,Bool.false_eq_true,if_false]
    exact ev_eq (key (by omega) px.length 0 (by omega)) (by rw [List.drop_zero])
  · have e:((px.length:Int) != w*h)=true:=bne_iff_ne.2 h3
    rw [e]
    exact no _ (decide_eq_false (fun hh=>h3 hh.2.2))
theorem impl_PictureOk_eq (w h : Int) (px : List Int) : impl_PictureOk.f w h px = some (picB w h px) := by
  have hcon:impl_PictureOk_contains.f px=some (!(px.all byB)):=by
    have e:(fun x=>impl_PictureOk_1.f x)=fun x=>some (!(byB x)):=by
      funext x
      simp only [impl_PictureOk_1.f,impl_isByte.f,impl_in_eq,Option.bind_some,byB]
    rw [impl_PictureOk_contains.f,e,impl_PictureOk_idx_eq _ _ _ (Int.le_refl _),any_not_all]
  unfold picB impl_PictureOk.f
  simp only [impl_in_eq,hcon,Option.bind_some]
  by_cases g1:4≤w∧w≤16
  · by_cases g2:4≤h∧h≤16
    · rw [Int.tmod_eq_emod_of_nonneg (show 0≤w by omega),Int.tmod_eq_emod_of_nonneg (show 0≤h by omega),decide_eq_true g1,decide_eq_true g2]
      have hm:=mul_bd (w:=w) (h:=h) (by omega) g1.2 (by omega) g2.2
      rw [w64 (x:=w*h) (by omega) (by omega)]
      simp only [if_true]
      by_cases a:w % 4=0
      · rw [if_pos a]
        by_cases b:h % 4=0
        · rw [if_pos b]
          by_cases c:(px.length:Int)=w*h
          · rw [if_pos c,decide_eq_true (show sideP w∧sideP h∧(px.length:Int)=w*h from⟨⟨g1.1,g1.2,a⟩,⟨g2.1,g2.2,b⟩,c⟩),Bool.not_not,Bool.true_and]
          · rw [if_neg c,decide_eq_false (fun hh=>c hh.2.2),Bool.false_and]
        · rw [if_neg b,decide_eq_false (fun hh=>b hh.2.1.2.2),Bool.false_and]
      · rw [if_neg a,decide_eq_false (fun hh=>a hh.1.2.2),Bool.false_and]
    · have e:decide (sideP w∧sideP h∧(px.length:Int)=w*h)=false:=decide_eq_false (fun hh=>g2 ⟨hh.2.1.1,hh.2.1.2.1⟩)
      rw [e,decide_eq_true g1,decide_eq_false g2]
      simp
  · have e:decide (sideP w∧sideP h∧(px.length:Int)=w*h)=false:=decide_eq_false (fun hh=>g1 ⟨hh.1.1,hh.1.2.1⟩)
    rw [e,decide_eq_false g1]
    simp

theorem toPicture_ev (a b : Int) (xs : List Int) (h : xs.length ≤ 1048576) : Ev (fun k => laws_toPicture.f k a b xs) (a, b, xs) := by
  simp only [laws_toPicture.f]
  exact ev_bind (toInt64S_ev xs h) (ev_ret rfl)
theorem eqPicture_refl (a b : Int) (xs : List Int) (h : xs.length ≤ 1048576) : Ev (fun k => laws_eqPicture.f k a b xs a b xs) true := by
  simp only [laws_eqPicture.f,if_true]
  refine ev_bind (eqInt64S_ev _ _ (by omega)) ?_
  simp only [decide_true,if_true]
  exact ev_ret rfl
theorem szPicture_eq (a b : Int) (xs : List Int) (l : Int) (hx : xs.length ≤ maxLen) (h0 : 0 ≤ l) (hl : l ≤ 1048576) : laws_szPicture.f a b xs l = some (if l - (xs.length : Int) < 0 then -1 else l - (xs.length : Int)) := by
  unfold maxLen at hx
  simp only [laws_szPicture.f,laws_szInt64S.f,w64 (x:=l - (xs.length:Int)) (by omega) (by omega)]
  by_cases h:l - (xs.length:Int) < 0
  · rw [if_pos h,if_pos h];rfl
  · rw [if_neg h,if_neg h,Option.bind_some,if_neg h]

/-! #### Motion: the best of some ways -/
structure Wy where
  o : Int
  d : Int
  y : Int
  x : Int
def Wy.lt (a b : Wy) : Prop := a.o < b.o ∨ (a.o = b.o ∧ (a.d < b.d ∨ (a.d = b.d ∧ (a.y < b.y ∨ (a.y = b.y ∧ a.x < b.x)))))
instance (a b : Wy) : Decidable (Wy.lt a b) := by unfold Wy.lt; infer_instance
def Wy.ahead (a b : Wy) : Prop := a.d < b.d ∨ (a.d = b.d ∧ (a.y < b.y ∨ (a.y = b.y ∧ a.x < b.x)))
instance (a b : Wy) : Decidable (Wy.ahead a b) := by unfold Wy.ahead; infer_instance
def bestLt : Wy → List Wy → Wy
  | m, [] => m
  | m, x :: xs => if Wy.lt x m then bestLt x xs else bestLt m xs
def bestOff : Wy → List Wy → Wy
  | m, [] => m
  | m, x :: xs => if x.o < m.o then bestOff x xs else bestOff m xs
theorem Wy.not_trans {a b c : Wy} (h1 : ¬ Wy.lt b a) (h2 : ¬ Wy.lt c b) : ¬ Wy.lt c a := by
  unfold Wy.lt at *
  omega
theorem Wy.lt_not {a b : Wy} (h1 : Wy.lt b a) : ¬ Wy.lt a b := by
  unfold Wy.lt at *
  omega
theorem bestLt_mem : ∀ (xs : List Wy) (m : Wy), bestLt m xs ∈ m :: xs ∧ ∀ x ∈ m :: xs, ¬ Wy.lt x (bestLt m xs)
  | [], m => ⟨by simp [bestLt], by intro x hx; rw [List.mem_singleton] at hx; subst hx; unfold bestLt Wy.lt; omega⟩
  | y :: xs, m => by
    unfold bestLt
    by_cases h:Wy.lt y m
    · rw [if_pos h]
      obtain⟨h1,h2⟩:=bestLt_mem xs y
      refine⟨List.mem_cons_of_mem _ h1,fun x hx=>?_⟩
      rcases List.mem_cons.1 hx with rfl|hx
      · exact Wy.not_trans (h2 y (by simp)) (Wy.lt_not h)
      · exact h2 x hx
    · rw [if_neg h]
      obtain⟨h1,h2⟩:=bestLt_mem xs m
      refine⟨?_,fun x hx=>?_⟩
      · rcases List.mem_cons.1 h1 with e|e
        · rw [e];simp
        · exact List.mem_cons_of_mem _ (List.mem_cons_of_mem _ e)
      · rcases List.mem_cons.1 hx with rfl|hx
        · exact h2 x (by simp)
        · rcases List.mem_cons.1 hx with rfl|hx
          · exact Wy.not_trans (h2 m (by simp)) h
          · exact h2 x (List.mem_cons_of_mem _ hx)
theorem bestOff_mem : ∀ (xs : List Wy) (m : Wy), (m :: xs).Pairwise Wy.ahead → bestOff m xs ∈ m :: xs ∧ ∀ x ∈ m :: xs, ¬ Wy.lt x (bestOff m xs)
  | [], m, _ => ⟨by simp [bestOff], by intro x hx; rw [List.mem_singleton] at hx; subst hx; unfold bestOff Wy.lt; omega⟩
  | y :: xs, m, hp => by
    unfold bestOff
    have hp1:=List.pairwise_cons.1 hp
    have hp2:=List.pairwise_cons.1 hp1.2
    have hmy:=hp1.1 y (by simp)
    by_cases h:y.o < m.o
    · rw [if_pos h]
      obtain⟨h1,h2⟩:=bestOff_mem xs y hp1.2
      refine⟨List.mem_cons_of_mem _ h1,fun x hx=>?_⟩
      rcases List.mem_cons.1 hx with rfl|hx
      · refine Wy.not_trans (h2 y (by simp)) ?_
        unfold Wy.lt;omega
      · exact h2 x hx
    · rw [if_neg h]
      have hp3:(m :: xs).Pairwise Wy.ahead:=List.pairwise_cons.2 ⟨fun a ha=>hp1.1 a (List.mem_cons_of_mem _ ha),hp2.2⟩
      obtain⟨h1,h2⟩:=bestOff_mem xs m hp3
      refine⟨?_,fun x hx=>?_⟩
      · rcases List.mem_cons.1 h1 with e|e
        · rw [e];simp
        · exact List.mem_cons_of_mem _ (List.mem_cons_of_mem _ e)
      · rcases List.mem_cons.1 hx with rfl|hx
        · exact h2 x (by simp)
        · rcases List.mem_cons.1 hx with rfl|hx
          · refine Wy.not_trans (h2 m (by simp)) ?_
            unfold Wy.ahead at hmy;unfold Wy.lt;omega
          · exact h2 x (List.mem_cons_of_mem _ hx)
theorem best_same (m n : Wy) (xs ys : List Wy) (hp : (n :: ys).Pairwise Wy.ahead) (h1 : ∀ x, x ∈ m :: xs → x ∈ n :: ys) (h2 : ∀ x, x ∈ n :: ys → x ∈ m :: xs) : bestLt m xs = bestOff n ys := by
  obtain⟨a1,a2⟩:=bestLt_mem xs m
  obtain⟨b1,b2⟩:=bestOff_mem ys n hp
  have c1:=a2 _ (h2 _ b1)
  have c2:=b2 _ (h1 _ a1)
  generalize bestLt m xs=p at *
  generalize bestOff n ys=q at *
  cases p;cases q
  unfold Wy.lt at c1 c2
  simp only [Wy.mk.injEq]
  simp only at c1 c2
  omega
def wyRow (o : Int → Int → Int) (y : Int) : List Int → List Wy := List.map fun x => ⟨o y x, x * x + y * y, y, x⟩
def wyAll (o : Int → Int → Int) : List Wy := (wyRow o (-2) [-2, -1, 0, 1, 2]) ++ (wyRow o (-1) [-2, -1, 0, 1, 2]) ++ (wyRow o 0 [-2, -1, 0, 1, 2]) ++ (wyRow o 1 [-2, -1, 0, 1, 2]) ++ (wyRow o 2 [-2, -1, 0, 1, 2])
def wyFar : List (Int × Int) := [(0, 0), (-1, 0), (0, -1), (0, 1), (1, 0), (-1, -1), (-1, 1), (1, -1), (1, 1), (-2, 0), (0, -2), (0, 2), (2, 0), (-2, -1), (-2, 1), (-1, -2), (-1, 2), (1, -2), (1, 2), (2, -1), (2, 1), (-2, -2), (-2, 2), (2, -2), (2, 2)]
def wyOf (o : Int → Int → Int) (p : Int × Int) : Wy := ⟨o p.1 p.2, p.2 * p.2 + p.1 * p.1, p.1, p.2⟩
theorem wy_sorted (o : Int → Int → Int) : (wyFar.map (wyOf o)).Pairwise Wy.ahead := by
  rw [List.pairwise_map]
  have h:wyFar.Pairwise (fun a b:Int × Int=>Wy.ahead (wyOf (fun _ _=>0) a) (wyOf (fun _ _=>0) b)):=by decide
  exact List.Pairwise.imp (fun h=>h) h
theorem wy_same (o : Int → Int → Int) (m n : Wy) (xs ys : List Wy) (e1 : wyAll o = m :: xs) (e2 : wyFar.map (wyOf o) = n :: ys) : bestLt m xs = bestOff n ys := by
  refine best_same m n xs ys (e2 ▸ wy_sorted o) ?_ ?_
  · rw [← e1,← e2]
    intro x hx
    simp only [wyAll,wyRow,List.map_cons,List.map_nil,List.cons_append,List.nil_append,List.append_assoc,List.mem_cons,List.not_mem_nil,or_false] at hx
    simp only [wyFar,wyOf,List.map_cons,List.map_nil,List.mem_cons,List.not_mem_nil,or_false]
    rcases hx with h|h|h|h|h|h|h|h|h|h|h|h|h|h|h|h|h|h|h|h|h|h|h|h|h <;> subst h <;> simp
  · rw [← e1,← e2]
    intro x hx
    simp only [wyFar,wyOf,List.map_cons,List.map_nil,List.mem_cons,List.not_mem_nil,or_false] at hx
    simp only [wyAll,wyRow,List.map_cons,List.map_nil,List.cons_append,List.nil_append,List.append_assoc,List.mem_cons,List.not_mem_nil,or_false]
    rcases hx with h|h|h|h|h|h|h|h|h|h|h|h|h|h|h|h|h|h|h|h|h|h|h|h|h <;> subst h <;> simp

/-! #### Motion: a block of pixels, moved -/
structure PicO (w h : Int) (px : List Int) : Prop where
  w1 : 4 ≤ w
  w2 : w ≤ 16
  h1 : 4 ≤ h
  h2 : h ≤ 16
  wm : w % 4 = 0
  hm : h % 4 = 0
  len : (px.length : Int) = w * h
  by_ : px.all byB = true
theorem picO_of {w h : Int} {px : List Int} (hb : picB w h px = true) : PicO w h px := by
  unfold picB at hb
  simp only [Bool.and_eq_true,decide_eq_true_eq] at hb
  obtain⟨⟨a,b,c⟩,d⟩:=hb
  exact⟨a.1,a.2.1,b.1,b.2.1,a.2.2,b.2.2,c,d⟩
def cl (n x : Int) : Int := if x < 0 then 0 else if n ≤ x then n - 1 else x
theorem cl_bd {n x : Int} (h : 1 ≤ n) : 0 ≤ cl n x ∧ cl n x ≤ n - 1 := by
  unfold cl
  split
  · omega
  · split <;> omega
def pxAt (w h : Int) (px : List Int) (x y : Int) : Int := rd px (cl h y * w + cl w x)
theorem px_idx {w h a b : Int} {px : List Int} (hp : PicO w h px) (ha : 0 ≤ a ∧ a ≤ h - 1) (hb : 0 ≤ b ∧ b ≤ w - 1) : 0 ≤ a * w ∧ a * w ≤ 256 ∧ 0 ≤ a * w + b ∧ a * w + b < (px.length : Int) ∧ (px.length : Int) ≤ 256 := by
  have g1:=hp.w1;have g2:=hp.w2;have g3:=hp.h1;have g4:=hp.h2
  have e1:a*w≤(h - 1)*w:=Int.mul_le_mul_of_nonneg_right ha.2 (by omega)
  have e2:(h - 1)*w=w*h - w:=by rw [Int.sub_mul,Int.one_mul,Int.mul_comm]
  have e3:0≤a*w:=Int.mul_nonneg ha.1 (by omega)
  have e4:=(mul_bd (w:=w) (h:=h) (by omega) g2 (by omega) g4).2
  have e5:=hp.len
  refine⟨e3,?_,?_,?_,?_⟩ <;> omega
theorem pxAt_by {w h : Int} {px : List Int} (hp : PicO w h px) (x y : Int) : 0 ≤ pxAt w h px x y ∧ pxAt w h px x y ≤ 255 := by
  have g1:=hp.w1;have g3:=hp.h1
  have h5:=px_idx hp (cl_bd (n:=h) (x:=y) (by omega)) (cl_bd (n:=w) (x:=x) (by omega))
  obtain⟨m,hm⟩:=Int.eq_ofNat_of_zero_le h5.2.2.1
  unfold pxAt
  rw [hm] at h5 ⊢
  have h6:=List.all_eq_true.1 hp.by_ _ (rd_mem (xs:=px) (i:=m) (by omega))
  unfold byB at h6
  exact of_decide_eq_true h6
def blkE (w h : Int) (px : List Int) (bl dx dy : Int) (i : Nat) : Int := pxAt w h px (bl % (w / 4) * 4 + (i : Int) % 4 + dx) (bl / (w / 4) * 4 + (i : Int) / 4 + dy)
def blkG (w h : Int) (px : List Int) (bl dx dy : Int) (n : Nat) : List Int := (List.range n).map (blkE w h px bl dx dy)
abbrev blk (w h : Int) (px : List Int) (bl dx dy : Int) : List Int := blkG w h px bl dx dy 16
theorem blkG_len (w h : Int) (px : List Int) (bl dx dy : Int) (n : Nat) : (blkG w h px bl dx dy n).length = n := by simp [blkG]
theorem blkG_succ (w h : Int) (px : List Int) (bl dx dy : Int) (n : Nat) : blkG w h px bl dx dy (n + 1) = blkG w h px bl dx dy n ++ [blkE w h px bl dx dy n] := by simp [blkG, List.range_succ]
theorem blk_rd (w h : Int) (px : List Int) (bl dx dy : Int) {n i : Nat} (hi : i < n) : rd (blkG w h px bl dx dy n) (i : Int) = blkE w h px bl dx dy i := by
  simp [blkG,rd_nat,List.getD_eq_getElem?_getD,List.getElem?_map,List.getElem?_range hi]
theorem blk_by {w h : Int} {px : List Int} (hp : PicO w h px) (bl dx dy : Int) {n i : Nat} (hi : i < n) : 0 ≤ rd (blkG w h px bl dx dy n) (i : Int) ∧ rd (blkG w h px bl dx dy n) (i : Int) ≤ 255 := by
  rw [blk_rd _ _ _ _ _ _ hi]
  exact pxAt_by hp _ _
structure BlkO (w bl : Int) : Prop where
  ne : w / 4 ≠ 0
  m0 : 0 ≤ bl % (w / 4) ∧ bl % (w / 4) ≤ 64
  d0 : 0 ≤ bl / (w / 4) ∧ bl / (w / 4) ≤ 64
theorem blk_at {w h bl : Int} {px : List Int} (hp : PicO w h px) (hb : 0 ≤ bl ∧ bl ≤ 64) : BlkO w bl := by
  have g1:=hp.w1;have g2:=hp.w2
  have e3:=Int.emod_nonneg bl (show w / 4≠0 by omega)
  have e4:=Int.emod_lt_of_pos bl (show 0 < w / 4 by omega)
  have e5:0≤bl / (w / 4):=Int.ediv_nonneg hb.1 (by omega)
  have e6:bl / (w / 4)≤bl:=Int.ediv_le_self _ hb.1
  exact⟨by omega,⟨e3,by omega⟩,⟨e5,by omega⟩⟩
theorem m4_bd {b : Int} (h : 0 ≤ b ∧ b ≤ 64) : 0 ≤ b * 4 ∧ b * 4 ≤ 1000 := by omega
theorem m4_64 {b : Int} (h : 0 ≤ b ∧ b ≤ 64) : wrap64 (b * 4) = b * 4 := w64 (by omega) (by omega)
theorem mn_cl {n a : Int} (h : 1 ≤ n) : mn (mx a 0) (n - 1) = cl n a := by
  unfold mn mx cl
  split <;> split <;> (first|omega|(split <;> omega))
theorem at_idx {w h x0 y0 dx dy : Int} {px : List Int} (hp : PicO w h px) (i : Nat) (hi : i < 16) (hx : 0 ≤ x0 ∧ x0 ≤ 1000) (hy : 0 ≤ y0 ∧ y0 ≤ 1000) (hdx : -10 ≤ dx ∧ dx ≤ 10) (hdy : -10 ≤ dy ∧ dy ≤ 10) :
    wrap64 ((wrap64 ((mn (mx (wrap64 ((wrap64 (y0+(wrap64 (Int.tdiv (i:Int) 4))))+dy)) 0) (wrap64 (h - 1)))*w))+(mn (mx (wrap64 ((wrap64 (x0+(Int.tmod (i:Int) 4)))+dx)) 0) (wrap64 (w - 1))))=cl h (y0+(i:Int) / 4+dy)*w+cl w (x0+(i:Int) % 4+dx):=by
  have g1:=hp.w1;have g2:=hp.w2;have g3:=hp.h1;have g4:=hp.h2
  rw [Int.tdiv_eq_ediv_of_nonneg (by omega),Int.tmod_eq_emod_of_nonneg (by omega)]
  rw [w64 (x:=(i:Int) / 4) (by omega) (by omega),w64 (x:=y0+(i:Int) / 4) (by omega) (by omega),w64 (x:=y0+(i:Int) / 4+dy) (by omega) (by omega),w64 (x:=h - 1) (by omega) (by omega),
    w64 (x:=x0+(i:Int) % 4) (by omega) (by omega),w64 (x:=x0+(i:Int) % 4+dx) (by omega) (by omega),w64 (x:=w - 1) (by omega) (by omega),mn_cl (by omega),mn_cl (by omega)]
  have h5:=px_idx hp (cl_bd (n:=h) (x:=y0+(i:Int) / 4+dy) (by omega)) (cl_bd (n:=w) (x:=x0+(i:Int) % 4+dx) (by omega))
  rw [w64 (x:=cl h (y0+(i:Int) / 4+dy)*w) (by omega) (by omega),w64 (by omega) (by omega)]
theorem impl_corner_eq {w h bl : Int} {px : List Int} (hp : PicO w h px) (hb : 0 ≤ bl ∧ bl ≤ 64) : impl_Picture_corner.f w h px bl = some (bl % (w / 4) * 4, bl / (w / 4) * 4) := by
  have h6:=blk_at hp hb
  have g1:=hp.w1;have g2:=hp.w2
  unfold impl_Picture_corner.f
  rw [Int.tdiv_eq_ediv_of_nonneg (show 0≤w by omega),w64 (x:=w / 4) (by omega) (by omega),if_neg h6.ne,Int.tdiv_eq_ediv_of_nonneg hb.1,Int.tmod_eq_emod_of_nonneg hb.1,
    m4_64 h6.m0,w64 (x:=bl / (w / 4)) (Int.le_trans (by decide) h6.d0.1) (Int.le_trans h6.d0.2 (by decide)),m4_64 h6.d0]
theorem impl_at_ev {w h bl dx dy : Int} {px : List Int} (hp : PicO w h px) (hb : 0 ≤ bl ∧ bl ≤ 64) (hdx : -10 ≤ dx ∧ dx ≤ 10) (hdy : -10 ≤ dy ∧ dy ≤ 10) : Ev (fun k => impl_Picture_at.f k w h px bl dx dy) (blk w h px bl dx dy) := by
  have h6:=blk_at hp hb
  simp only [impl_Picture_at.f,impl_corner_eq hp hb,Option.bind_some]
  have key:∀ d i,i+d=16→Ev (fun k=>impl_Picture_at.l0 k dx dy (bl % (w / 4)*4) (bl / (w / 4)*4) (blkG w h px bl dx dy i) (i:Int) w h px) (blk w h px bl dx dy):=by
    intro d
    induction d with
    | zero =>
      intro i hi
      refine ev_succ ?_
      obtain rfl:i=16:=by omega
      have h1 : ¬ ((16:Nat):Int) < 16:=by omega
      simp only [impl_Picture_at.l0,h1,if_false]
      exact ev_ret rfl
    | succ d ih =>
      intro i hi
      refine ev_succ ?_
      have h1:(i:Int) < 16:=by omega
      have e:=at_idx hp i (by omega) (x0:=bl % (w / 4)*4) (y0:=bl / (w / 4)*4) (m4_bd h6.m0) (m4_bd h6.d0) hdx hdy
      have g1:=hp.w1;have g3:=hp.h1
      have h5:=px_idx hp (cl_bd (n:=h) (x:=bl / (w / 4)*4+(i:Int) / 4+dy) (by omega)) (cl_bd (n:=w) (x:=bl % (w / 4)*4+(i:Int) % 4+dx) (by omega))
      have h7:=h5.2.2.1
      have h8:=h5.2.2.2.1
      have h9:(blkG w h px bl dx dy i).length < 17592186044416:=by rw [blkG_len];omega
      have h4:=w64s (n:=i) (by omega)
      simp only [impl_Picture_at.l0,h1,e,h7,h8,h9,h4,if_true]
      have:=ih (i+1) (by omega)
      rw [blkG_succ] at this
      exact this
  exact key 16 0 (by omega)
theorem spec_at_eq {w h x y : Int} {px : List Int} (hp : PicO w h px) (hx : -100000 ≤ x ∧ x ≤ 100000) (hy : -100000 ≤ y ∧ y ≤ 100000) : spec_l14At.f w h px x y = some (pxAt w h px x y) := by
  have g1:=hp.w1;have g2:=hp.w2;have g3:=hp.h1;have g4:=hp.h2
  have hmax:∀ a,spec_l1Max.f 0 a=some (max 0 a):=by
    intro a;unfold spec_l1Max.f;split
    · congr 1;omega
    · congr 1;omega
  have hmin:∀ a b,spec_l1Min.f a b=some (min a b):=by
    intro a b;unfold spec_l1Min.f;split
    · congr 1;omega
    · congr 1;omega
  have hc:∀ n a:Int,1≤n→min (n - 1) (max 0 a)=cl n a:=by
    intro n a hn;unfold cl;split
    · omega
    · split <;> omega
  unfold spec_l14At.f pxAt
  simp only [hmax,hmin,Option.bind_some]
  rw [w64 (x:=w - 1) (by omega) (by omega),w64 (x:=h - 1) (by omega) (by omega),hc w x (by omega),hc h y (by omega)]
  have h5:=px_idx hp (cl_bd (n:=h) (x:=y) (by omega)) (cl_bd (n:=w) (x:=x) (by omega))
  rw [w64 (x:=cl h y*w) (by omega) (by omega),w64 (by omega) (by omega),if_pos h5.2.2.1,if_pos h5.2.2.2.1]
theorem spec_bx {b d : Int} (y x : Nat) (hx : x < 4) (hb : 0 ≤ b ∧ b ≤ 64) (hd : -10 ≤ d ∧ d ≤ 10) : wrap64 ((wrap64 ((wrap64 (b * 4)) + (x : Int))) + d) = b * 4 + ((4 * y + x : Nat) : Int) % 4 + d := by
  rw [w64 (x:=b*4) (by omega) (by omega),w64 (x:=b*4+(x:Int)) (by omega) (by omega),w64 (by omega) (by omega)]
  omega
theorem spec_by {b d : Int} (y x : Nat) (hx : x < 4) (hy : y < 4) (hb : 0 ≤ b ∧ b ≤ 64) (hd : -10 ≤ d ∧ d ≤ 10) : wrap64 ((wrap64 ((wrap64 ((wrap64 b) * 4)) + (y : Int))) + d) = b * 4 + ((4 * y + x : Nat) : Int) / 4 + d := by
  rw [w64 (x:=b) (by omega) (by omega),w64 (x:=b*4) (by omega) (by omega),w64 (x:=b*4+(y:Int)) (by omega) (by omega),w64 (by omega) (by omega)]
  omega
theorem xy_bd {b d m : Int} (hb : 0 ≤ b ∧ b ≤ 64) (hd : -10 ≤ d ∧ d ≤ 10) (hm : 0 ≤ m ∧ m ≤ 15) : -100000 ≤ b * 4 + m + d ∧ b * 4 + m + d ≤ 100000 := by omega
theorem mod_bd (n : Nat) (m : Nat) (h : n < 16) : 0 ≤ (n : Int) % 4 ∧ (n : Int) % 4 ≤ 15 := by omega
theorem div_bd (n : Nat) (m : Nat) (h : n < 16) : 0 ≤ (n : Int) / 4 ∧ (n : Int) / 4 ≤ 15 := by omega
theorem spec_block_ev {w h bl dx dy : Int} {px : List Int} (hp : PicO w h px) (hb : 0 ≤ bl ∧ bl ≤ 64) (hdx : -10 ≤ dx ∧ dx ≤ 10) (hdy : -10 ≤ dy ∧ dy ≤ 10) : Ev (fun k => spec_l14Block.f k w h px bl dx dy) (blk w h px bl dx dy) := by
  have h6:=blk_at hp hb
  have g1:=hp.w1;have g2:=hp.w2
  have ew:wrap64 (Int.tdiv w 4)=w / 4:=by rw [Int.tdiv_eq_ediv_of_nonneg (by omega),w64 (by omega) (by omega)]
  simp only [spec_l14Block.f,ew]
  have inner:∀ V,∀ y:Nat,y < 4→Ev (fun k=>spec_l14Block.l0 k bl dx dy (blkG w h px bl dx dy (4*y+4)) (w / 4) ((y+1:Nat):Int) w h px) V → ∀ d x,x+d=4→Ev (fun k=>spec_l14Block.l1 k bl dx dy (blkG w h px bl dx dy (4*y+x)) (w / 4) (y:Int) (x:Int) w h px) V:=by
    intro V y hy hnext d
    induction d with
    | zero =>
      intro x hx
      refine ev_succ ?_
      obtain rfl:x=4:=by omega
      have h1 : ¬ ((4:Nat):Int) < 4:=by omega
      have h4:=w64s (n:=y) (by omega)
      simp only [spec_l14Block.l1,h1,h4,if_false]
      exact hnext
    | succ d ih =>
      intro x hx
      refine ev_succ ?_
      have h1:(x:Int) < 4:=by omega
      have h4:=w64s (n:=x) (by omega)
      have e1:wrap64 ((wrap64 ((wrap64 ((Int.tmod bl (w / 4))*4))+(x:Int)))+dx)=bl % (w / 4)*4+((4*y+x:Nat):Int) % 4+dx:=by
        rw [Int.tmod_eq_emod_of_nonneg hb.1]
        exact spec_bx y x (by omega) h6.m0 hdx
      have e2:wrap64 ((wrap64 ((wrap64 ((wrap64 (Int.tdiv bl (w / 4)))*4))+(y:Int)))+dy)=bl / (w / 4)*4+((4*y+x:Nat):Int) / 4+dy:=by
        rw [Int.tdiv_eq_ediv_of_nonneg hb.1]
        exact spec_by y x (by omega) (by omega) h6.d0 hdy
      have h9:(blkG w h px bl dx dy (4*y+x)).length < 17592186044416:=by rw [blkG_len];omega
      have h15:4*y+x < 16:=by omega
      have h7:=h6.ne
      simp only [spec_l14Block.l1,h1,h7,e1,e2,h9,h4,if_true,if_false]
      rw [spec_at_eq hp (xy_bd h6.m0 hdx (mod_bd _ 0 h15)) (xy_bd h6.d0 hdy (div_bd _ 0 h15))]
      simp only [Option.bind_some]
      have:=ih (x+1) (by omega)
      rw [show 4*y+(x+1)=(4*y+x)+1 by omega,blkG_succ] at this
      exact this
  have outer:∀ d y,y+d=4→Ev (fun k=>spec_l14Block.l0 k bl dx dy (blkG w h px bl dx dy (4*y)) (w / 4) (y:Int) w h px) (blk w h px bl dx dy):=by
    intro d
    induction d with
    | zero =>
      intro y hy
      refine ev_succ ?_
      obtain rfl:y=4:=by omega
      have h1 : ¬ ((4:Nat):Int) < 4:=by omega
      simp only [spec_l14Block.l0,h1,if_false]
      exact ev_ret rfl
    | succ d ih =>
      intro y hy
      refine ev_succ ?_
      have h1:(y:Int) < 4:=by omega
      simp only [spec_l14Block.l0,h1,if_true]
      have:=ih (y+1) (by omega)
      rw [show 4*(y+1)=4*y+4 by omega] at this
      exact inner _ y (by omega) this 4 0 (by omega)
  exact outer 4 0 (by omega)
theorem blocks_bd {w h : Int} {px : List Int} (hp : PicO w h px) : 1 ≤ w / 4 ∧ w / 4 ≤ 4 ∧ 1 ≤ h / 4 ∧ h / 4 ≤ 4 ∧ 0 ≤ w / 4 * (h / 4) ∧ w / 4 * (h / 4) ≤ 16 := by
  have g1:=hp.w1;have g2:=hp.w2;have g3:=hp.h1;have g4:=hp.h2
  have e1:0≤w / 4*(h / 4):=Int.mul_nonneg (by omega) (by omega)
  have e2:w / 4*(h / 4)≤4*4:=Int.mul_le_mul (by omega) (by omega) (by omega) (by omega)
  exact⟨by omega,by omega,by omega,by omega,e1,by omega⟩
theorem spec_blocks_eq {w h : Int} {px : List Int} (hp : PicO w h px) : spec_l14Blocks.f w h px = some (w / 4 * (h / 4)) := by
  have h1:=blocks_bd hp
  have g1:=hp.w1;have g3:=hp.h1
  unfold spec_l14Blocks.f
  rw [Int.tdiv_eq_ediv_of_nonneg (show 0≤w by omega),Int.tdiv_eq_ediv_of_nonneg (show 0≤h by omega),w64 (x:=w / 4) (by omega) (by omega),w64 (x:=h / 4) (by omega) (by omega),w64 (by omega) (by omega)]
theorem impl_blocks_eq {w h : Int} {px : List Int} (hp : PicO w h px) : impl_Picture_blocks.f w h px = some (w / 4 * (h / 4)) := by
  have h1:=blocks_bd hp
  have g1:=hp.w1;have g3:=hp.h1
  unfold impl_Picture_blocks.f
  rw [Int.tdiv_eq_ediv_of_nonneg (show 0≤w by omega),Int.tdiv_eq_ediv_of_nonneg (show 0≤h by omega),w64 (x:=w / 4) (by omega) (by omega),w64 (x:=h / 4) (by omega) (by omega),w64 (by omega) (by omega)]

/-! #### how unlike two blocks are -/
def dif (a b : Int) : Int := if a < b then b - a else a - b
def offG (a b : List Int) : Nat → Int
  | 0 => 0
  | n + 1 => offG a b n + dif (rd a (n : Int)) (rd b (n : Int))
def ByN (a : List Int) (n : Nat) : Prop := ∀ i : Nat, i < n → 0 ≤ rd a (i : Int) ∧ rd a (i : Int) ≤ 255
theorem offG_bd {a b : List Int} {m : Nat} (ha : ByN a m) (hb : ByN b m) : ∀ n, n ≤ m → 0 ≤ offG a b n ∧ offG a b n ≤ 255 * (n : Int)
  | 0, _ => by unfold offG; omega
  | n + 1, h => by
    have h1:=offG_bd ha hb n (by omega)
    have h2:=ha n (by omega)
    have h3:=hb n (by omega)
    unfold offG dif
    split <;> omega
theorem impl_offBy_ev {a b : List Int} (hla : a.length = 16) (hlb : b.length = 16) (ha : ByN a 16) (hb : ByN b 16) : Ev (fun k => impl_offBy.f k a b) (offG a b 16) := by
  have key:∀ d i,i+d=16→Ev (fun k=>impl_offBy.l0 k b (offG a b i) a (a.length:Int) (i:Int)) (offG a b 16):=by
    intro d
    induction d with
    | zero =>
      intro i hi
      refine ev_succ ?_
      obtain rfl:i=16:=by omega
      have h1 : ¬ ((16:Nat):Int) < (a.length:Int):=by omega
      simp only [impl_offBy.l0,h1,if_false]
      exact ev_ret rfl
    | succ d ih =>
      intro i hi
      refine ev_succ ?_
      have h1:(i:Int) < (a.length:Int):=by omega
      have h2:0≤(i:Int):=by omega
      have h3:(i:Int) < (b.length:Int):=by omega
      have h4:=w64s (n:=i) (by omega)
      have h5:=offG_bd ha hb i (by omega)
      have h6:=ha i (by omega)
      have h7:=hb i (by omega)
      have e:wrap64 (offG a b i+mx (wrap64 (rd a (i:Int) - rd b (i:Int))) (wrap64 (rd b (i:Int) - rd a (i:Int))))=offG a b (i+1):=by
        rw [w64 (x:=rd a (i:Int) - rd b (i:Int)) (by omega) (by omega),w64 (x:=rd b (i:Int) - rd a (i:Int)) (by omega) (by omega)]
        have:mx (rd a (i:Int) - rd b (i:Int)) (rd b (i:Int) - rd a (i:Int))=dif (rd a (i:Int)) (rd b (i:Int)):=by
          unfold mx dif
          split <;> split <;> omega
        have h8:=(offG_bd ha hb (i+1) (by omega))
        rw [this]
        show wrap64 (offG a b (i+1))=_
        exact w64 (by omega) (by omega)
      simp only [impl_offBy.l0,h1,h2,h3,h4,e,if_true]
      exact ih (i+1) (by omega)
  exact key 16 0 (by omega)
/-! #### the program's order of the ways -/
def cmpI (a b : Int) : Int := if a < b then -1 else if b < a then 1 else 0
theorem compare_eq (a b : Int) : cmp_Compare_int64.f a b = some (cmpI a b) := by
  unfold cmp_Compare_int64.f cmp_isNaN_int64.f cmpI
  simp only [bne_self_eq_false,Option.bind_some,Bool.false_eq_true,if_false]
  by_cases h:a < b
  · simp [h]
  · by_cases h2:b < a
    · simp [h,h2]
    · simp [h,h2]
def orL : List Int → Int
  | [] => 0
  | x :: xs => if x = 0 then orL xs else x
theorem cmp_or_ev (xs : List Int) (hl : xs.length ≤ 100) : Ev (fun k => cmp_Or_int.f k xs) (orL xs) := by
  have key:∀ d i,i+d=xs.length→Ev (fun k=>cmp_Or_int.l0 k 0 xs (xs.length:Int) (i:Int)) (orL (xs.drop i)):=by
    intro d
    induction d with
    | zero =>
      intro i hi
      refine ev_succ ?_
      have h1 : ¬ (i:Int) < (xs.length:Int):=by omega
      simp only [cmp_Or_int.l0,h1,if_false]
      exact ev_ret (by rw [drop_end (by omega)];rfl)
    | succ d ih =>
      intro i hi
      refine ev_succ ?_
      have h1:(i:Int) < (xs.length:Int):=by omega
      have h2:0≤(i:Int):=by omega
      have h4:=w64s (n:=i) (by omega)
      simp only [cmp_Or_int.l0,h1,h2,h4,if_true]
      rw [drop_rd xs i (by omega)]
      refine ev_ite (fun h=>?_) (fun h=>ev_ret ?_)
      · simp only [orL,h,if_true]
        exact ih (i+1) (by omega)
      · simp only [orL,h,if_false]
  exact key xs.length 0 (by omega)
def Wy.good (a : Wy) : Prop := a.d = a.x * a.x + a.y * a.y ∧ (-2 ≤ a.x ∧ a.x ≤ 2) ∧ (-2 ≤ a.y ∧ a.y ≤ 2)
theorem sq_bd {x : Int} (h : -2 ≤ x ∧ x ≤ 2) : 0 ≤ x * x ∧ x * x ≤ 4 := by
  have:x = -2∨x = -1∨x=0∨x=1∨x=2:=by omega
  rcases this with rfl|rfl|rfl|rfl|rfl <;> decide
theorem w_far {x y : Int} (hx : -2 ≤ x ∧ x ≤ 2) (hy : -2 ≤ y ∧ y ≤ 2) : wrap64 ((wrap64 (x * x)) + (wrap64 (y * y))) = x * x + y * y := by
  have h1:=sq_bd hx
  have h2:=sq_bd hy
  rw [w64 (x:=x*x) (by omega) (by omega),w64 (x:=y*y) (by omega) (by omega),w64 (by omega) (by omega)]
theorem motion_1_ev {a b : Wy} (ha : a.good) (hb : b.good) : EvP (fun k => impl_motion_1.f k a.o a.x a.y b.o b.x b.y) (fun t => t < 0 ↔ Wy.lt a b) := by
  simp only [impl_motion_1.f,compare_eq,Option.bind_some,w_far ha.2.1 ha.2.2,w_far hb.2.1 hb.2.2,← ha.1,← hb.1]
  refine evp_ebind (cmp_or_ev _ (by simp)) (evp_now ?_)
  simp only [orL,cmpI,Wy.lt]
  repeat' split
  all_goals first|omega|(constructor <;> intro <;> omega)
def toS (a : Wy) : S89 := ⟨a.o, a.x, a.y⟩
theorem motion_go_ev : ∀ (xs : List Wy) (m : Wy), m.good → (∀ x ∈ xs, x.good) → Ev (fun k => impl_motion_go k (toS m) (xs.map toS)) ((bestLt m xs).o, (bestLt m xs).x, (bestLt m xs).y)
  | [], m, _, _ => ev_ret rfl
  | x :: xs, m, hm, hx => by
    have h1:=hx x (by simp)
    obtain⟨t,ht,hlt⟩:=motion_1_ev h1 hm
    simp only [List.map_cons,impl_motion_go]
    refine ev_bind ht (ev_ite (fun h=>?_) (fun h=>?_))
    · unfold bestLt
      rw [if_pos (hlt.1 h)]
      exact motion_go_ev xs x h1 (fun y hy=>hx y (List.mem_cons_of_mem _ hy))
    · unfold bestLt
      rw [if_neg (fun hh=>h (hlt.2 hh))]
      exact motion_go_ev xs m hm (fun y hy=>hx y (List.mem_cons_of_mem _ hy))
/-! #### both sides -/
def motO (w h : Int) (old p : List Int) (bl : Int) (y x : Int) : Int := offG (blk w h p bl 0 0) (blk w h old bl x y) 16
def motW (w h : Int) (old p : List Int) (bl : Int) : Wy := bestOff (wyOf (motO w h old p bl) (0, 0)) ((wyFar.drop 1).map (wyOf (motO w h old p bl)))
theorem motO_bd {w h : Int} {old p : List Int} (ho : PicO w h old) (hp : PicO w h p) (bl y x : Int) : 0 ≤ motO w h old p bl y x ∧ motO w h old p bl y x ≤ 4080 := by
  have:=offG_bd (a:=blk w h p bl 0 0) (b:=blk w h old bl x y) (m:=16) (fun i hi=>blk_by hp _ _ _ hi) (fun i hi=>blk_by ho _ _ _ hi) 16 (by omega)
  unfold motO
  omega
def wayPairs (n : Nat) : List (Int × Int) := (List.range n).map fun (i : Nat) => ((i : Int) / 5 - 2, (i : Int) % 5 - 2)
def waysG (o : Int → Int → Int) (n : Nat) : List Wy := (wayPairs n).map (wyOf o)
theorem waysG_len (o : Int → Int → Int) (n : Nat) : (waysG o n).length = n := by simp [waysG, wayPairs]
theorem waysG_succ (o : Int → Int → Int) (n : Nat) : waysG o (n + 1) = waysG o n ++ [wyOf o ((n : Int) / 5 - 2, (n : Int) % 5 - 2)] := by simp [waysG, wayPairs, List.range_succ]
theorem wayPairs_all : wayPairs 25 = (-2, -2) :: [(-2, -1), (-2, 0), (-2, 1), (-2, 2), (-1, -2), (-1, -1), (-1, 0), (-1, 1), (-1, 2), (0, -2), (0, -1), (0, 0), (0, 1), (0, 2), (1, -2), (1, -1), (1, 0), (1, 1), (1, 2), (2, -2), (2, -1), (2, 0), (2, 1), (2, 2)] := by decide
theorem waysG_all (o : Int → Int → Int) : waysG o 25 = wyAll o := by
  unfold waysG
  rw [wayPairs_all]
  rfl
theorem wyAll_good (o : Int → Int → Int) : ∀ x ∈ wyAll o, x.good := by
  intro x hx
  rw [← waysG_all] at hx
  obtain⟨p,hp,rfl⟩:=List.mem_map.1 hx
  have h:∀ p ∈ wayPairs 25,(-2≤p.2∧p.2≤2)∧(-2≤p.1∧p.1≤2):=by decide
  exact⟨rfl,h p hp⟩
theorem impl_motion_ev {w h bl : Int} {old p : List Int} (ho : PicO w h old) (hp : PicO w h p) (hb : 0 ≤ bl ∧ bl ≤ 64) : Ev (fun k => impl_motion.f k w h old w h p bl) ((motW w h old p bl).x, (motW w h old p bl).y) := by
  simp only [impl_motion.f]
  refine ev_bind (impl_at_ev hp hb (by omega) (by omega)) ?_
  have inner:∀ V,∀ y:Nat,y < 5→Ev (fun k=>impl_motion.l0 k bl (blk w h p bl 0 0) ((waysG (motO w h old p bl) (5*y+5)).map toS) (((y+1:Nat):Int) - 2) w h old) V → ∀ d x,x+d=5→Ev (fun k=>impl_motion.l1 k bl (blk w h p bl 0 0) ((waysG (motO w h old p bl) (5*y+x)).map toS) ((y:Int) - 2) ((x:Int) - 2) w h old) V:=by
    intro V y hy hnext d
    induction d with
    | zero =>
      intro x hx
      refine ev_succ ?_
      obtain rfl:x=5:=by omega
      have h1 : ¬ ((5:Nat):Int) - 2≤2:=by omega
      have h4:wrap64 ((y:Int) - 2+1)=((y+1:Nat):Int) - 2:=by rw [w64 (by omega) (by omega)];omega
      simp only [impl_motion.l1,h1,h4,if_false]
      exact hnext
    | succ d ih =>
      intro x hx
      refine ev_succ ?_
      have h1:(x:Int) - 2≤2:=by omega
      have h4:wrap64 ((x:Int) - 2+1)=((x+1:Nat):Int) - 2:=by rw [w64 (by omega) (by omega)];omega
      simp only [impl_motion.l1,h1,h4,if_true]
      refine ev_bind (impl_at_ev ho hb (by omega) (by omega)) ?_
      refine ev_bind (impl_offBy_ev (blkG_len _ _ _ _ _ _ _) (blkG_len _ _ _ _ _ _ _) (fun i hi=>blk_by hp _ _ _ hi) (fun i hi=>blk_by ho _ _ _ hi)) ?_
      have h9:((waysG (motO w h old p bl) (5*y+x)).map toS).length < 5864062014805:=by rw [List.length_map,waysG_len];omega
      simp only [h9,if_true]
      have:=ih (x+1) (by omega)
      rw [show 5*y+(x+1)=(5*y+x)+1 by omega,waysG_succ,List.map_append] at this
      have e1:((5*y+x:Nat):Int) / 5 - 2=(y:Int) - 2:=by omega
      have e2:((5*y+x:Nat):Int) % 5 - 2=(x:Int) - 2:=by omega
      rw [e1,e2] at this
      exact this
  have outer:∀ d y,y+d=5→Ev (fun k=>impl_motion.l0 k bl (blk w h p bl 0 0) ((waysG (motO w h old p bl) (5*y)).map toS) ((y:Int) - 2) w h old) ((motW w h old p bl).x,(motW w h old p bl).y):=by
    intro d
    induction d with
    | zero =>
      intro y hy
      refine ev_succ ?_
      obtain rfl:y=5:=by omega
      have h1 : ¬ ((5:Nat):Int) - 2≤2:=by omega
      simp only [impl_motion.l0,h1,if_false]
      rw [show 5*5=25 by rfl,waysG_all]
      obtain⟨m,xs,e⟩:∃ m xs,wyAll (motO w h old p bl)=m :: xs:=⟨_,_,rfl⟩
      have hg:=wyAll_good (motO w h old p bl)
      rw [e] at hg ⊢
      have h2:=motion_go_ev xs m (hg m (by simp)) (fun x hx=>hg x (List.mem_cons_of_mem _ hx))
      have h3:=wy_same (motO w h old p bl) m (wyOf (motO w h old p bl) (0,0)) xs ((wyFar.drop 1).map (wyOf (motO w h old p bl))) e rfl
      refine ev_bind h2 (ev_ret ?_)
      rw [h3]
      rfl
    | succ d ih =>
      intro y hy
      refine ev_succ ?_
      have h1:(y:Int) - 2≤2:=by omega
      simp only [impl_motion.l0,h1,if_true]
      have:=ih (y+1) (by omega)
      rw [show 5*(y+1)=5*y+5 by omega] at this
      exact inner _ y (by omega) this 5 0 (by omega)
  exact outer 5 0 (by omega)
/-! #### the reference's search -/
def mstep (o : Int → Int → Int) (s : Int × Int × Int) (q : Int × Int) : Int × Int × Int := if s.2.2 < 0 then (q.2, q.1, o q.1 q.2) else if o q.1 q.2 < s.2.2 then (q.2, q.1, o q.1 q.2) else s
def rowFrom (o : Int → Int → Int) (far y : Int) : Nat → Int × Int × Int → Int × Int × Int
  | 0, s => s
  | d + 1, s => rowFrom o far y d (if (2 - (d : Int)) * (2 - (d : Int)) + y * y = far then mstep o s (y, 2 - (d : Int)) else s)
def colFrom (o : Int → Int → Int) (far : Int) : Nat → Int × Int × Int → Int × Int × Int
  | 0, s => s
  | d + 1, s => colFrom o far d (rowFrom o far (2 - (d : Int)) 5 s)
def farFrom (o : Int → Int → Int) : Nat → Int × Int × Int → Int × Int × Int
  | 0, s => s
  | d + 1, s => farFrom o d (colFrom o (8 - (d : Int)) 5 s)
def rowP (far y : Int) : Nat → List (Int × Int)
  | 0 => []
  | d + 1 => if (2 - (d : Int)) * (2 - (d : Int)) + y * y = far then (y, 2 - (d : Int)) :: rowP far y d else rowP far y d
def colP (far : Int) : Nat → List (Int × Int)
  | 0 => []
  | d + 1 => rowP far (2 - (d : Int)) 5 ++ colP far d
def farP : Nat → List (Int × Int)
  | 0 => []
  | d + 1 => colP (8 - (d : Int)) 5 ++ farP d
theorem rowFrom_fold (o : Int → Int → Int) (far y : Int) : ∀ d s, rowFrom o far y d s = (rowP far y d).foldl (mstep o) s
  | 0, s => rfl
  | d + 1, s => by
    unfold rowFrom rowP
    rw [rowFrom_fold o far y d]
    split
    · rfl
    · rfl
theorem colFrom_fold (o : Int → Int → Int) (far : Int) : ∀ d s, colFrom o far d s = (colP far d).foldl (mstep o) s
  | 0, s => rfl
  | d + 1, s => by
    unfold colFrom colP
    rw [colFrom_fold o far d,List.foldl_append,rowFrom_fold]
theorem farFrom_fold (o : Int → Int → Int) : ∀ d s, farFrom o d s = (farP d).foldl (mstep o) s
  | 0, s => rfl
  | d + 1, s => by
    unfold farFrom farP
    rw [farFrom_fold o d,List.foldl_append,colFrom_fold]
theorem farP_all : farP 9 = wyFar := by decide +kernel
theorem farFrom_all (o : Int → Int → Int) (s : Int × Int × Int) : farFrom o 9 s = wyFar.foldl (mstep o) s := by rw [farFrom_fold, farP_all]
theorem fold_best (o : Int → Int → Int) (h0 : ∀ y x, 0 ≤ o y x) : ∀ (qs : List (Int × Int)) (q : Int × Int), qs.foldl (mstep o) (q.2, q.1, o q.1 q.2) = ((bestOff (wyOf o q) (qs.map (wyOf o))).x, (bestOff (wyOf o q) (qs.map (wyOf o))).y, (bestOff (wyOf o q) (qs.map (wyOf o))).o)
  | [], q => rfl
  | r :: qs, q => by
    have hn : ¬ o q.1 q.2 < 0:=by have:=h0 q.1 q.2;omega
    simp only [List.foldl_cons,List.map_cons,mstep,bestOff]
    rw [if_neg hn]
    by_cases h:o r.1 r.2 < o q.1 q.2
    · rw [if_pos h,if_pos (show(wyOf o r).o < (wyOf o q).o from h)]
      exact fold_best o h0 qs r
    · rw [if_neg h,if_neg (show ¬ (wyOf o r).o < (wyOf o q).o from h)]
      exact fold_best o h0 qs q
theorem search_best (o : Int → Int → Int) (h0 : ∀ y x, 0 ≤ o y x) : farFrom o 9 (0, 0, -1) = ((bestOff (wyOf o (0, 0)) ((wyFar.drop 1).map (wyOf o))).x, (bestOff (wyOf o (0, 0)) ((wyFar.drop 1).map (wyOf o))).y, (bestOff (wyOf o (0, 0)) ((wyFar.drop 1).map (wyOf o))).o) := by
  rw [farFrom_all]
  obtain⟨qs,e,e2⟩:∃ qs,wyFar=(0,0) :: qs∧wyFar.drop 1=qs:=⟨_,rfl,rfl⟩
  rw [e2,e,List.foldl_cons]
  have e3:mstep o (0,0,-1) (0,0)=(0,0,o 0 0):=by
    unfold mstep
    rw [if_pos (by decide)]
  rw [e3]
  exact fold_best o h0 qs (0,0)
set_option maxHeartbeats 2000000 in
theorem spec_motion_ev {w h bl : Int} {old p : List Int} (ho : PicO w h old) (hp : PicO w h p) (hb : 0 ≤ bl ∧ bl ≤ 64) : Ev (fun k => spec_l14Motion.f k w h old w h p bl) ((motW w h old p bl).x, (motW w h old p bl).y) := by
  simp only [spec_l14Motion.f]
  refine ev_bind (spec_block_ev hp hb (by omega) (by omega)) ?_
  have hob:=motO_bd ho hp bl
  have sum:∀ V (s:Int × Int × Int) (far y x:Int),(-2≤y∧y≤2)→(-2≤x∧x≤2) →
      Ev (fun k=>spec_l14Motion.l2 k bl (mstep (motO w h old p bl) s (y,x)).1 (mstep (motO w h old p bl) s (y,x)).2.1 (mstep (motO w h old p bl) s (y,x)).2.2 (blk w h p bl 0 0) far y (x+1) w h old) V →
      ∀ d i,i+d=16→Ev (fun k=>spec_l14Motion.l3 k bl s.1 s.2.1 s.2.2 (blk w h p bl 0 0) far y x (offG (blk w h p bl 0 0) (blk w h old bl x y) i) (blk w h old bl x y) (i:Int) w h old) V:=by
    intro V s far y x hy hx hnext d
    induction d with
    | zero =>
      intro i hi
      refine ev_succ ?_
      obtain rfl:i=16:=by omega
      have h1 : ¬ ((16:Nat):Int) < 16:=by omega
      have h4:wrap64 (x+1)=x+1:=w64 (by omega) (by omega)
      simp only [spec_l14Motion.l3,h1,h4,if_false]
      have hm:offG (blk w h p bl 0 0) (blk w h old bl x y) 16=motO w h old p bl y x:=rfl
      rw [hm]
      unfold mstep at hnext
      refine ev_ite (fun h2=>?_) (fun h2=>?_)
      · rw [if_pos h2] at hnext;exact hnext
      · rw [if_neg h2] at hnext
        refine ev_ite (fun h3=>?_) (fun h3=>?_)
        · rw [if_pos h3] at hnext;exact hnext
        · rw [if_neg h3] at hnext;exact hnext
    | succ d ih =>
      intro i hi
      refine ev_succ ?_
      have h1:(i:Int) < 16:=by omega
      have h2:0≤(i:Int):=by omega
      have h3:(i:Int) < ((blk w h p bl 0 0).length:Int):=by rw [blkG_len];omega
      have h5:(i:Int) < ((blk w h old bl x y).length:Int):=by rw [blkG_len];omega
      have h4:=w64s (n:=i) (by omega)
      have ha:0≤rd (blk w h p bl 0 0) (i:Int)∧rd (blk w h p bl 0 0) (i:Int)≤255:=blk_by hp bl 0 0 (n:=16) (i:=i) (by omega)
      have hc:0≤rd (blk w h old bl x y) (i:Int)∧rd (blk w h old bl x y) (i:Int)≤255:=blk_by ho bl x y (n:=16) (i:=i) (by omega)
      have hbd:=offG_bd (a:=blk w h p bl 0 0) (b:=blk w h old bl x y) (m:=16) (fun i hi=>blk_by hp _ _ _ hi) (fun i hi=>blk_by ho _ _ _ hi)
      have e:spec_l1Abs.f (wrap64 ((rd (blk w h p bl 0 0) (i:Int)) - (rd (blk w h old bl x y) (i:Int))))=some (dif (rd (blk w h p bl 0 0) (i:Int)) (rd (blk w h old bl x y) (i:Int))):=by
        rw [w64 (by omega) (by omega)]
        unfold spec_l1Abs.f dif
        split
        · rw [w64 (by omega) (by omega),if_pos (by omega)];congr 1;omega
        · rw [if_neg (by omega)]
      have e2:wrap64 (offG (blk w h p bl 0 0) (blk w h old bl x y) i+dif (rd (blk w h p bl 0 0) (i:Int)) (rd (blk w h old bl x y) (i:Int)))=offG (blk w h p bl 0 0) (blk w h old bl x y) (i+1):=by
        have:=hbd (i+1) (by omega)
        exact w64 (x:=offG (blk w h p bl 0 0) (blk w h old bl x y) (i+1)) (by omega) (by omega)
      simp only [spec_l14Motion.l3,h1,h2,h3,h5,h4,e,e2,if_true,Option.bind_some]
      exact ih (i+1) (by omega)
  have row:∀ V (far y:Int),(-2≤y∧y≤2) → ∀ d:Nat,d≤5 → ∀ s:Int × Int × Int,
      (Ev (fun k=>spec_l14Motion.l1 k bl (rowFrom (motO w h old p bl) far y d s).1 (rowFrom (motO w h old p bl) far y d s).2.1 (rowFrom (motO w h old p bl) far y d s).2.2 (blk w h p bl 0 0) far (y+1) w h old) V) →
      Ev (fun k=>spec_l14Motion.l2 k bl s.1 s.2.1 s.2.2 (blk w h p bl 0 0) far y (3 - (d:Int)) w h old) V:=by
    intro V far y hy d
    induction d with
    | zero =>
      intro _ s hnext
      refine ev_succ ?_
      have h1 : ¬ (3:Int) - ((0:Nat):Int)≤2:=by omega
      have h4:wrap64 (y+1)=y+1:=w64 (by omega) (by omega)
      simp only [spec_l14Motion.l2,h1,h4,if_false]
      exact hnext
    | succ d ih =>
      intro hd s hnext
      refine ev_succ ?_
      have e0:(3:Int) - ((d+1:Nat):Int)=2 - (d:Int):=by omega
      rw [e0]
      have h1:(2:Int) - (d:Int)≤2:=by omega
      have h4:wrap64 (2 - (d:Int)+1)=3 - (d:Int):=by rw [w64 (by omega) (by omega)];omega
      have e1:=w_far (x:=2 - (d:Int)) (y:=y) (by omega) hy
      simp only [spec_l14Motion.l2,h1,h4,e1,if_true]
      simp only [rowFrom] at hnext
      refine ev_ite (fun h2=>?_) (fun h2=>?_)
      · rw [if_pos h2] at hnext
        refine ev_bind (spec_block_ev ho hb (by omega) (by omega)) ?_
        refine sum V s far y (2 - (d:Int)) hy (by omega) ?_ 16 0 (by omega)
        rw [show(2:Int) - (d:Int)+1=3 - (d:Int) by omega]
        exact ih (by omega) _ hnext
      · rw [if_neg h2] at hnext
        exact ih (by omega) _ hnext
  have col:∀ V (far:Int),(0≤far∧far≤8) → ∀ d:Nat,d≤5 → ∀ s:Int × Int × Int,
      (Ev (fun k=>spec_l14Motion.l0 k bl (colFrom (motO w h old p bl) far d s).1 (colFrom (motO w h old p bl) far d s).2.1 (colFrom (motO w h old p bl) far d s).2.2 (blk w h p bl 0 0) (far+1) w h old) V) →
      Ev (fun k=>spec_l14Motion.l1 k bl s.1 s.2.1 s.2.2 (blk w h p bl 0 0) far (3 - (d:Int)) w h old) V:=by
    intro V far hf d
    induction d with
    | zero =>
      intro _ s hnext
      refine ev_succ ?_
      have h1 : ¬ (3:Int) - ((0:Nat):Int)≤2:=by omega
      have h4:wrap64 (far+1)=far+1:=w64 (by omega) (by omega)
      simp only [spec_l14Motion.l1,h1,h4,if_false]
      exact hnext
    | succ d ih =>
      intro hd s hnext
      refine ev_succ ?_
      have e0:(3:Int) - ((d+1:Nat):Int)=2 - (d:Int):=by omega
      rw [e0]
      have h1:(2:Int) - (d:Int)≤2:=by omega
      simp only [spec_l14Motion.l1,h1,if_true]
      simp only [colFrom] at hnext
      have:=row V far (2 - (d:Int)) (by omega) 5 (by omega) s (by
        rw [show(2:Int) - (d:Int)+1=3 - (d:Int) by omega]
        exact ih (by omega) _ hnext)
      exact this
  have all:∀ d:Nat,d≤9 → ∀ s:Int × Int × Int,
      Ev (fun k=>spec_l14Motion.l0 k bl s.1 s.2.1 s.2.2 (blk w h p bl 0 0) (9 - (d:Int)) w h old) ((farFrom (motO w h old p bl) d s).1,(farFrom (motO w h old p bl) d s).2.1):=by
    intro d
    induction d with
    | zero =>
      intro _ s
      refine ev_succ ?_
      have h1 : ¬ (9:Int) - ((0:Nat):Int)≤8:=by omega
      simp only [spec_l14Motion.l0,h1,if_false]
      exact ev_ret rfl
    | succ d ih =>
      intro hd s
      refine ev_succ ?_
      have e0:(9:Int) - ((d+1:Nat):Int)=8 - (d:Int):=by omega
      rw [e0]
      have h1:(8:Int) - (d:Int)≤8:=by omega
      simp only [spec_l14Motion.l0,h1,if_true]
      have:=col _ (8 - (d:Int)) (by omega) 5 (by omega) s (by
        rw [show(8:Int) - (d:Int)+1=9 - (d:Int) by omega]
        exact ih (by omega) _)
      exact this
  have:=all 9 (by omega) (0,0,-1)
  rw [search_best (motO w h old p bl) (fun y x=>(hob y x).1)] at this
  exact this

/-! #### Motion as a whole -/
def twoB (w0 h0 : Int) (old : List Int) (w1 h1 : Int) (p : List Int) : Bool := picB w0 h0 old && picB w1 h1 p && decide (w0 = w1 ∧ h0 = h1)
theorem spec_two_ev (w0 h0 : Int) (old : List Int) (w1 h1 : Int) (p : List Int) : Ev (fun k => spec_l14Two.f k w0 h0 old w1 h1 p) (twoB w0 h0 old w1 h1 p) := by
  unfold twoB
  simp only [spec_l14Two.f]
  refine ev_bind (spec_PictureOk_ev w0 h0 old) (ev_ifb (fun e=>?_) (fun e=>ev_ret (by rw [e];simp)))
  refine ev_bind (spec_PictureOk_ev w1 h1 p) (ev_ifb (fun e2=>?_) (fun e2=>ev_ret (by rw [e2];simp)))
  rw [e,e2]
  by_cases hw:w0=w1
  · simp only [hw,if_true]
    refine ev_ret ?_
    congr 1
    rw [Bool.eq_iff_iff]
    simp
  · simp only [hw,if_false]
    exact ev_ret (by simp)
theorem impl_two_eq (w0 h0 : Int) (old : List Int) (w1 h1 : Int) (p : List Int) : impl_bothOk.f w0 h0 old w1 h1 p = some (twoB w0 h0 old w1 h1 p) := by
  unfold twoB impl_bothOk.f
  simp only [impl_PictureOk_eq,Option.bind_some]
  cases picB w0 h0 old
  · simp
  · cases picB w1 h1 p
    · simp
    · by_cases hw:w0=w1
      · simp only [hw,if_true]
        congr 1
        rw [Bool.eq_iff_iff]
        simp
      · simp [hw]
theorem twoB_of {w0 h0 w1 h1 : Int} {old p : List Int} (h : twoB w0 h0 old w1 h1 p = true) : w0 = w1 ∧ h0 = h1 ∧ PicO w0 h0 old ∧ PicO w1 h1 p := by
  unfold twoB at h
  simp only [Bool.and_eq_true,decide_eq_true_eq] at h
  exact⟨h.2.1,h.2.2,picO_of h.1.1,picO_of h.1.2⟩
def motR (w0 h0 : Int) (old : List Int) (w1 h1 : Int) (p : List Int) (bl : Int) : Int × Int := if twoB w0 h0 old w1 h1 p = true ∧ 0 ≤ bl ∧ bl < w1 / 4 * (h1 / 4) then ((motW w1 h1 old p bl).x, (motW w1 h1 old p bl).y) else (0, 0)
/-! #### a block turned -/
def turnV (xs : List Int) : List Int := turnG (turnMid xs 4) 4 0
theorem turnCol_len (m : List Int) (x : Int) : (turnCol m x).length = 4 := rfl
theorem spec_l14Turn_ev (xs : List Int) (h : xs.length = 16) : Ev (fun k => spec_l14Turn.f k xs) (turnV xs) := by
  have inner:∀ (m:List Int),m.length=16 → ∀ V:List Int,∀ x:Nat,x < 4→Ev (fun k=>spec_l14Turn.l1 k m (turnG m (x+1) 0) ((x+1:Nat):Int)) V → ∀ d y,y+d=4→Ev (fun k=>spec_l14Turn.l2 k m (turnG m x y) (x:Int) (turnCol m (x:Int)) (y:Int)) V:=by
    intro m hm V x hx hnext d
    induction d with
    | zero =>
      intro y hy
      refine ev_succ ?_
      obtain rfl:y=4:=by omega
      have h1 : ¬ ((4:Nat):Int) < 4:=by omega
      have h4:=w64s (n:=x) (by omega)
      simp only [spec_l14Turn.l2,h1,h4,if_false]
      rw [turnG_next]
      exact hnext
    | succ d ih =>
      intro y hy
      refine ev_succ ?_
      have h1:(y:Int) < 4:=by omega
      have h2:0≤(y:Int):=by omega
      have h3:(y:Int) < ((turnCol m (x:Int)).length:Int):=by rw [turnCol_len];omega
      have w1:wrap64 (4*(y:Int))=4*(y:Int):=w64 (by omega) (by omega)
      have w2:wrap64 (4*(y:Int)+(x:Int))=((4*y+x:Nat):Int):=by rw [w64 (by omega) (by omega)];omega
      have h5:0≤((4*y+x:Nat):Int):=by omega
      have h6:((4*y+x:Nat):Int) < ((turnG m x y).length:Int):=by rw [turnG_len];omega
      have h7:=w64s (n:=y) (by omega)
      have hset:(turnG m x y).set (4*y+x) (rd (turnCol m (x:Int)) (y:Int))=turnG m x (y+1):=turnG_set m x y hx (by omega)
      simp only [spec_l14Turn.l2,h1,h2,h3,w1,w2,h5,h6,h7,if_true,Int.toNat_natCast,hset]
      exact ih (y+1) (by omega)
  have outer:∀ (m:List Int),m.length=16 → ∀ d x,x+d=4→Ev (fun k=>spec_l14Turn.l1 k m (turnG m x 0) (x:Int)) (turnG m 4 0):=by
    intro m hm d
    induction d with
    | zero =>
      intro x hx
      refine ev_succ ?_
      obtain rfl:x=4:=by omega
      have h1 : ¬ ((4:Nat):Int) < 4:=by omega
      simp only [spec_l14Turn.l1,h1,if_false]
      exact ev_ret rfl
    | succ d ih =>
      intro x hx
      refine ev_succ ?_
      have h1:(x:Int) < 4:=by omega
      have h2:0≤(x:Int):=by omega
      have h3:(x:Int) < (m.length:Int):=by omega
      have w1:wrap64 ((x:Int)+4)=4+(x:Int):=by rw [w64 (by omega) (by omega)];omega
      have w2:wrap64 ((x:Int)+8)=8+(x:Int):=by rw [w64 (by omega) (by omega)];omega
      have w3:wrap64 ((x:Int)+12)=12+(x:Int):=by rw [w64 (by omega) (by omega)];omega
      have a1:0≤4+(x:Int):=by omega
      have a2:0≤8+(x:Int):=by omega
      have a3:0≤12+(x:Int):=by omega
      have b1:4+(x:Int) < (m.length:Int):=by omega
      have b2:8+(x:Int) < (m.length:Int):=by omega
      have b3:12+(x:Int) < (m.length:Int):=by omega
      simp only [spec_l14Turn.l1,h1,h2,h3,w1,w2,w3,a1,a2,a3,b1,b2,b3,if_true]
      refine ev_some (a:=turnCol m (x:Int)) rfl ?_
      exact inner m hm _ x (by omega) (ih (x+1) (by omega)) 4 0 (by omega)
  have first:∀ d i,i+d=4→Ev (fun k=>spec_l14Turn.l0 k xs (turnMid xs i) (i:Int)) (turnV xs):=by
    intro d
    induction d with
    | zero =>
      intro i hi
      refine ev_succ ?_
      obtain rfl:i=4:=by omega
      have h1 : ¬ ((4:Nat):Int) < 4:=by omega
      have h2:16≤35184372088832:=by omega
      simp only [spec_l14Turn.l0,h1,h2,if_false,if_true]
      have:=outer (turnMid xs 4) (turnMid_len xs 4) 4 0 (by omega)
      rw [turnG_0] at this
      exact this
    | succ d ih =>
      intro i hi
      refine ev_succ ?_
      have h1:(i:Int) < 4:=by omega
      have w0:wrap64 (4*(i:Int))=4*(i:Int):=w64 (by omega) (by omega)
      have w1:wrap64 (4*(i:Int)+1)=4*(i:Int)+1:=w64 (by omega) (by omega)
      have w2:wrap64 (4*(i:Int)+2)=4*(i:Int)+2:=w64 (by omega) (by omega)
      have w3:wrap64 (4*(i:Int)+3)=4*(i:Int)+3:=w64 (by omega) (by omega)
      have a0:0≤4*(i:Int):=by omega
      have a1:0≤4*(i:Int)+1:=by omega
      have a2:0≤4*(i:Int)+2:=by omega
      have a3:0≤4*(i:Int)+3:=by omega
      have b0:4*(i:Int) < (xs.length:Int):=by omega
      have b1:4*(i:Int)+1 < (xs.length:Int):=by omega
      have b2:4*(i:Int)+2 < (xs.length:Int):=by omega
      have b3:4*(i:Int)+3 < (xs.length:Int):=by omega
      have h7:=w64s (n:=i) (by omega)
      simp only [spec_l14Turn.l0,h1,w0,w1,w2,w3,a0,a1,a2,a3,b0,b1,b2,b3,h7,if_true]
      refine ev_some (a:=turnRow xs (4*(i:Int))) rfl ?_
      have h8:(turnMid xs i).length+(turnRow xs (4*(i:Int))).length < 17592186044416:=by
        rw [turnMid_len,show(turnRow xs (4*(i:Int))).length=4 from rfl];omega
      simp only [h8,if_true]
      exact ih (i+1) (by omega)
  exact first 4 0 (by omega)

/-! #### Encode: the levels of a block and their bytes -/
def updG (f : Nat → Int) (X : List Int) (n : Nat) : List Int := (List.range 16).map fun j => if j < n then f j else rd X (j : Int)
theorem updG_len (f : Nat → Int) (X : List Int) (n : Nat) : (updG f X n).length = 16 := by simp [updG]
theorem updG_at (f : Nat → Int) (X : List Int) (n : Nat) {j : Nat} (hj : j < 16) : rd (updG f X n) (j : Int) = if j < n then f j else rd X (j : Int) := by
  simp [updG,rd_nat,List.getD_eq_getElem?_getD,List.getElem?_map,List.getElem?_range hj]
theorem updG_0 (f : Nat → Int) (X : List Int) (h : X.length = 16) : updG f X 0 = X := by
  refine List.ext_getElem? fun j=>?_
  by_cases hj:j < 16
  · simp [updG,List.getElem?_map,List.getElem?_range hj,rd_nat,List.getD_eq_getElem?_getD,List.getElem?_eq_getElem (show j < X.length by omega)]
  · rw [List.getElem?_eq_none (by rw [updG_len];omega),List.getElem?_eq_none (by omega)]
theorem updG_set (f : Nat → Int) (X : List Int) {i : Nat} (hi : i < 16) : (updG f X i).set i (f i) = updG f X (i + 1) := by
  refine List.ext_getElem? fun j=>?_
  by_cases hj:j < 16
  · rw [List.getElem?_set]
    by_cases he:i=j
    · subst he
      simp [updG,hj,List.getElem?_map,List.getElem?_range hj]
    · rw [if_neg he]
      simp only [updG,List.getElem?_map,List.getElem?_range hj,Option.map_some]
      by_cases h1:j < i
      · rw [if_pos h1,if_pos (by omega)]
      · rw [if_neg h1,if_neg (by omega)]
  · rw [List.getElem?_eq_none (by simp [updG];omega),List.getElem?_eq_none (by rw [updG_len];omega)]
def dn (a b : Int) : Int := if Int.tmod a b < 0 then wrap64 (wrap64 (Int.tdiv a b) - 1) else wrap64 (Int.tdiv a b)
def rnd (q z : Int) : Int := dn (wrap64 (wrap64 (2 * z) + wrap64 (16 * q))) (wrap64 (2 * wrap64 (16 * q)))
theorem q_ne {q : Int} (h : 1 ≤ q ∧ q ≤ 64) : ¬ wrap64 (2 * wrap64 (16 * q)) = 0 := by
  rw [w64 (x:=16*q) (by omega) (by omega),w64 (by omega) (by omega)]
  omega
theorem near_eq {q : Int} (h : 1 ≤ q ∧ q ≤ 64) (z : Int) : impl_near.f z (wrap64 (16 * q)) = some (rnd q z) := by
  have hq:=q_ne h
  unfold impl_near.f impl_down.f rnd dn
  rw [if_neg hq]
  split <;> rfl
theorem round_eq {q : Int} (h : 1 ≤ q ∧ q ≤ 64) (z : Int) : spec_l9Round.f z (wrap64 (16 * q)) = some (rnd q z) := by
  have hq:=q_ne h
  unfold spec_l9Round.f spec_l8Down.f rnd dn
  rw [if_neg hq]
  split <;> rfl
def manyG (l : List Int) : Nat → Nat
  | 0 => 0
  | i + 1 => if rd l (i : Int) = 0 then manyG l i else i + 1
theorem manyG_le (l : List Int) : ∀ n, manyG l n ≤ n
  | 0 => Nat.le_refl _
  | n + 1 => by
    unfold manyG
    split
    · exact Nat.le_succ_of_le (manyG_le l n)
    · exact Nat.le_refl _
def lbU (u : Int) : List Int := if u < 255 then [u % 256] else [255, (u / 256) % 256, u % 256]
def lb (v : Int) : List Int := lbU (if v < 0 then wrap64 (wrap64 ((-2) * v) - 1) else wrap64 (2 * v))
theorem lbU_len (u : Int) : (lbU u).length ≤ 3 := by unfold lbU; split <;> simp
theorem lb_len (v : Int) : (lb v).length ≤ 3 := lbU_len _
theorem levelBytes_eq (v : Int) : impl_levelBytes.f v = some (lb v) := by
  unfold impl_levelBytes.f lb lbU
  by_cases h:v < 0
  · simp only [h,if_true]
    split <;> rfl
  · simp only [h,if_false]
    split <;> rfl
theorem lbU_spec {u : Int} (h : ¬ wrap64 u < 255) : [255, (wrap64 (Int.tdiv (wrap64 u) 256)) % 256, (Int.tmod (wrap64 u) 256) % 256] = lbU (wrap64 u) := by
  have hb:wrap64 u≤9223372036854775807:=by unfold wrap64;omega
  unfold lbU
  rw [if_neg h]
  generalize wrap64 u=z at *
  rw [Int.tdiv_eq_ediv_of_nonneg (by omega),Int.tmod_eq_emod_of_nonneg (by omega),w64 (by omega) (by omega)]
  rw [Int.emod_emod_of_dvd _ (Int.dvd_refl 256)]
def lbsG (l : List Int) (n : Nat) : List Int := (List.range n).flatMap fun (j : Nat) => lb (rd l (j : Int))
theorem lbsG_succ (l : List Int) (n : Nat) : lbsG l (n + 1) = lbsG l n ++ lb (rd l (n : Int)) := by simp [lbsG, List.range_succ]
theorem lbsG_len (l : List Int) (n : Nat) : (lbsG l n).length ≤ 3 * n := by
  induction n with
  | zero => exact Nat.le_refl _
  | succ n ih =>
    rw [lbsG_succ,List.length_append]
    have:=lb_len (rd l (n:Int))
    omega
def difL (X Y : List Int) : List Int := updG (fun j => wrap64 (rd X (j : Int) - rd Y (j : Int))) X 16
def levL (q : Int) (T : List Int) : List Int := updG (fun j => rnd q (rd T (j : Int))) T 16
def wayB (x y : Int) : Int := (wrap64 (wrap64 (wrap64 (8 * wrap64 (y + 2)) + x) + 2)) % 256
def tellB (q x y : Int) (X Y : List Int) : List Int := [wayB x y, ((manyG (levL q (turnV (difL X Y))) 16 : Nat) : Int) % 256] ++ lbsG (levL q (turnV (difL X Y))) (manyG (levL q (turnV (difL X Y))) 16)
def encB (w h : Int) (old p : List Int) (q : Int) (b : Nat) : List Int := tellB q (motW w h old p (b : Int)).x (motW w h old p (b : Int)).y (blk w h p (b : Int) 0 0) (blk w h old (b : Int) (motW w h old p (b : Int)).x (motW w h old p (b : Int)).y)
def encG (w h : Int) (old p : List Int) (q : Int) (n : Nat) : List Int := (List.range n).flatMap (encB w h old p q)
theorem encG_succ (w h : Int) (old p : List Int) (q : Int) (n : Nat) : encG w h old p q (n + 1) = encG w h old p q n ++ encB w h old p q n := by simp [encG, List.range_succ]
theorem encB_len (w h : Int) (old p : List Int) (q : Int) (b : Nat) : (encB w h old p q b).length ≤ 50 := by
  unfold encB tellB
  rw [List.length_append]
  have h1:=lbsG_len (levL q (turnV (difL (blk w h p (b:Int) 0 0) (blk w h old (b:Int) (motW w h old p (b:Int)).x (motW w h old p (b:Int)).y)))) (manyG (levL q (turnV (difL (blk w h p (b:Int) 0 0) (blk w h old (b:Int) (motW w h old p (b:Int)).x (motW w h old p (b:Int)).y)))) 16)
  have h2:=manyG_le (levL q (turnV (difL (blk w h p (b:Int) 0 0) (blk w h old (b:Int) (motW w h old p (b:Int)).x (motW w h old p (b:Int)).y)))) 16
  simp only [List.length_cons,List.length_nil]
  omega
theorem encG_len (w h : Int) (old p : List Int) (q : Int) (n : Nat) : (encG w h old p q n).length ≤ 50 * n := by
  induction n with
  | zero => exact Nat.le_refl _
  | succ n ih =>
    rw [encG_succ,List.length_append]
    have:=encB_len w h old p q n
    omega
theorem rd_take {l : List Int} {m i : Nat} (h : i < m) : rd (l.take m) (i : Int) = rd l (i : Int) := by
  simp [rd_nat,List.getD_eq_getElem?_getD,List.getElem?_take,h]
theorem motW_bd (w h : Int) (old p : List Int) (bl : Int) : (-2 ≤ (motW w h old p bl).x ∧ (motW w h old p bl).x ≤ 2) ∧ (-2 ≤ (motW w h old p bl).y ∧ (motW w h old p bl).y ≤ 2) := by
  have hm:=(bestOff_mem ((wyFar.drop 1).map (wyOf (motO w h old p bl))) (wyOf (motO w h old p bl) (0,0)) (wy_sorted _)).1
  have hs:∀ q ∈ wyFar,(-2≤q.2∧q.2≤2)∧(-2≤q.1∧q.1≤2):=by decide
  have hm2:motW w h old p bl ∈ wyFar.map (wyOf (motO w h old p bl)):=hm
  obtain⟨q,hq,e⟩:=List.mem_map.1 hm2
  rw [← e]
  exact hs q hq
section
variable {w h q : Int} {old p : List Int}
theorem impl_l3_ev (L pre : List Int) (m nb b : Nat) (hL : L.length = 16) (hm : m ≤ 16) (hpre : pre.length ≤ 100000) (V : List Int × Bool)
    (hnext:Ev (fun k=>impl_Encode.l0 k q (pre ++ lbsG L m) (nb:Int) (wrap64 ((b:Int)+1)) w h old w h p) V) :
    ∀ d i,i+d=m→Ev (fun k=>impl_Encode.l3 k q (pre ++ lbsG L i) (nb:Int) (b:Int) (L.take m) (m:Int) (i:Int) w h old w h p) V:=by
  intro d
  induction d with
  | zero =>
    intro i hi
    refine ev_succ ?_
    obtain rfl:i=m:=by omega
    have h1 : ¬ (i:Int) < (i:Int):=by omega
    simp only [impl_Encode.l3,h1,if_false]
    exact hnext
  | succ d ih =>
    intro i hi
    refine ev_succ ?_
    have h1:(i:Int) < (m:Int):=by omega
    have h2:0≤(i:Int):=by omega
    have h3:(i:Int) < ((L.take m).length:Int):=by rw [List.length_take];omega
    have h4:=w64s (n:=i) (by omega)
    have h5:=rd_take (l:=L) (show i < m by omega)
    have h6:(pre ++ lbsG L i).length+(lb (rd L (i:Int))).length < 140737488355328:=by
      have:=lbsG_len L i
      have:=lb_len (rd L (i:Int))
      rw [List.length_append]
      omega
    simp only [impl_Encode.l3,h1,h2,h3,h4,h5,levelBytes_eq,h6,if_true,Option.bind_some]
    have:=ih (i+1) (by omega)
    rw [lbsG_succ,← List.append_assoc] at this
    exact this
theorem impl_l2_ev (T pre : List Int) (x y : Int) (nb b : Nat) (hq : 1 ≤ q ∧ q ≤ 64) (hT : T.length = 16) (hpre : pre.length ≤ 90000) (V : List Int × Bool)
    (hnext:Ev (fun k=>impl_Encode.l0 k q (pre ++ ([wayB x y,((manyG (levL q T) 16:Nat):Int) % 256] ++ lbsG (levL q T) (manyG (levL q T) 16))) (nb:Int) (wrap64 ((b:Int)+1)) w h old w h p) V) :
    ∀ d i,i+d=16→Ev (fun k=>impl_Encode.l2 k q pre x y (updG (fun j=>rnd q (rd T (j:Int))) T i) ((manyG (levL q T) i:Nat):Int) (nb:Int) (b:Int) 16 (i:Int) w h old w h p) V:=by
  intro d
  induction d with
  | zero =>
    intro i hi
    refine ev_succ ?_
    obtain rfl:i=16:=by omega
    have h1 : ¬ ((16:Nat):Int) < 16:=by omega
    have h2:=manyG_le (levL q T) 16
    have h3:(0:Int)≤((manyG (levL q T) 16:Nat):Int):=by omega
    have h4:((manyG (levL q T) 16:Nat):Int)≤((updG (fun j=>rnd q (rd T (j:Int))) T 16).length:Int):=by rw [updG_len];omega
    have h5:pre.length+2 < 140737488355328:=by omega
    simp only [impl_Encode.l2,h1,if_false,Option.bind_some,List.length_cons,List.length_nil,Nat.reduceAdd,h5,h3,h4,if_true,Int.toNat_natCast]
    have hl:((updG (fun j=>rnd q (rd T (j:Int))) T 16).take (manyG (levL q T) 16)).length=manyG (levL q T) 16:=by rw [List.length_take,updG_len];omega
    rw [hl]
    rw [← List.append_assoc] at hnext
    have:=impl_l3_ev (w:=w) (h:=h) (q:=q) (old:=old) (p:=p) (levL q T) (pre ++ [wayB x y,((manyG (levL q T) 16:Nat):Int) % 256]) (manyG (levL q T) 16) nb b (updG_len _ _ _) h2 (by simp;omega) V hnext (manyG (levL q T) 16) 0 (by omega)
    simp only [lbsG,List.range_zero,List.flatMap_nil,List.append_nil] at this
    exact this
  | succ d ih =>
    intro i hi
    refine ev_succ ?_
    have hi16:i < 16:=by omega
    have h1:(i:Int) < 16:=by omega
    have h2:0≤(i:Int):=by omega
    have h3:(i:Int) < ((updG (fun j=>rnd q (rd T (j:Int))) T i).length:Int):=by rw [updG_len];omega
    have h4:=w64s (n:=i) (by omega)
    have h5:rd (updG (fun j=>rnd q (rd T (j:Int))) T i) (i:Int)=rd T (i:Int):=by rw [updG_at _ _ _ hi16,if_neg (by omega)]
    have h6:(updG (fun j=>rnd q (rd T (j:Int))) T i).set i (rnd q (rd T (i:Int)))=updG (fun j=>rnd q (rd T (j:Int))) T (i+1):=updG_set _ T hi16
    have h7:rd (updG (fun j=>rnd q (rd T (j:Int))) T (i+1)) (i:Int)=rd (levL q T) (i:Int):=by
      rw [levL,updG_at _ _ _ hi16,updG_at _ _ _ hi16,if_pos (by omega),if_pos hi16]
    simp only [impl_Encode.l2,h1,h2,h3,h4,h5,near_eq hq,Option.bind_some,Int.toNat_natCast,h6,h7,if_true]
    have hn:=ih (i+1) (by omega)
    unfold manyG at hn
    by_cases hz:rd (levL q T) (i:Int)=0
    · simp only [hz,if_true] at hn ⊢
      exact hn
    · simp only [hz,if_false] at hn ⊢
      exact hn
theorem impl_turn_eq' {xs : List Int} (h : xs.length = 16) : impl_turn.f xs = some (turnV xs) := by
  rw [impl_turn.f,if_pos (by omega)]
  rfl
theorem turnV_len' (xs : List Int) : (turnV xs).length = 16 := by rw [turnV, turnG_len]
theorem impl_l1_ev (X Y pre : List Int) (x y : Int) (nb b : Nat) (hq : 1 ≤ q ∧ q ≤ 64) (hX : X.length = 16) (hY : Y.length = 16) (hpre : pre.length ≤ 90000) (V : List Int × Bool)
    (hnext:Ev (fun k=>impl_Encode.l0 k q (pre ++ tellB q x y X Y) (nb:Int) (wrap64 ((b:Int)+1)) w h old w h p) V) :
    ∀ d i,i+d=16→Ev (fun k=>impl_Encode.l1 k q pre x y (updG (fun j=>wrap64 (rd X (j:Int) - rd Y (j:Int))) X i) Y (nb:Int) (b:Int) 16 (i:Int) w h old w h p) V:=by
  intro d
  induction d with
  | zero =>
    intro i hi
    refine ev_succ ?_
    obtain rfl:i=16:=by omega
    have h1 : ¬ ((16:Nat):Int) < 16:=by omega
    simp only [impl_Encode.l1,h1,if_false]
    rw [impl_turn_eq' (updG_len _ _ _)]
    simp only [Option.bind_some,turnV_len']
    have:=impl_l2_ev (w:=w) (h:=h) (q:=q) (old:=old) (p:=p) (turnV (difL X Y)) pre x y nb b hq (turnV_len' _) hpre V hnext 16 0 (by omega)
    rw [updG_0 _ _ (turnV_len' _)] at this
    exact this
  | succ d ih =>
    intro i hi
    refine ev_succ ?_
    have hi16:i < 16:=by omega
    have h1:(i:Int) < 16:=by omega
    have h2:0≤(i:Int):=by omega
    have h3:(i:Int) < ((updG (fun j=>wrap64 (rd X (j:Int) - rd Y (j:Int))) X i).length:Int):=by rw [updG_len];omega
    have h8:(i:Int) < (Y.length:Int):=by omega
    have h4:=w64s (n:=i) (by omega)
    have h5:rd (updG (fun j=>wrap64 (rd X (j:Int) - rd Y (j:Int))) X i) (i:Int)=rd X (i:Int):=by rw [updG_at _ _ _ hi16,if_neg (by omega)]
    have h6:(updG (fun j=>wrap64 (rd X (j:Int) - rd Y (j:Int))) X i).set i (wrap64 (rd X (i:Int) - rd Y (i:Int)))=updG (fun j=>wrap64 (rd X (j:Int) - rd Y (j:Int))) X (i+1):=updG_set (fun j=>wrap64 (rd X (j:Int) - rd Y (j:Int))) X hi16
    simp only [impl_Encode.l1,h1,h2,h3,h8,h4,h5,Int.toNat_natCast,h6,if_true]
    exact ih (i+1) (by omega)
theorem impl_l0_ev (ho : PicO w h old) (hp : PicO w h p) (hq : 1 ≤ q ∧ q ≤ 64) (nb : Nat) (hnb : nb ≤ 16) : ∀ d b, b + d = nb → Ev (fun k => impl_Encode.l0 k q (encG w h old p q b) (nb : Int) (b : Int) w h old w h p) (encG w h old p q nb, true) := by
  intro d
  induction d with
  | zero =>
    intro b hb
    refine ev_succ ?_
    obtain rfl:b=nb:=by omega
    have h1 : ¬ (b:Int) < (b:Int):=by omega
    simp only [impl_Encode.l0,h1,if_false]
    exact ev_ret rfl
  | succ d ih =>
    intro b hb
    refine ev_succ ?_
    have h1:(b:Int) < (nb:Int):=by omega
    have hb64:0≤(b:Int)∧(b:Int)≤64:=by omega
    have hm:=motW_bd w h old p (b:Int)
    simp only [impl_Encode.l0,h1,if_true]
    refine ev_bind (impl_motion_ev ho hp hb64) ?_
    refine ev_bind (impl_at_ev hp hb64 (by omega) (by omega)) ?_
    refine ev_bind (impl_at_ev ho hb64 (by omega) (by omega)) ?_
    simp only [blkG_len]
    have hl:=encG_len w h old p q b
    have hn:=ih (b+1) (by omega)
    rw [encG_succ,← w64s (n:=b) (by omega)] at hn
    have:=impl_l1_ev (w:=w) (h:=h) (q:=q) (old:=old) (p:=p) (blk w h p (b:Int) 0 0) (blk w h old (b:Int) (motW w h old p (b:Int)).x (motW w h old p (b:Int)).y) (encG w h old p q b) (motW w h old p (b:Int)).x (motW w h old p (b:Int)).y nb b hq (blkG_len _ _ _ _ _ _ _) (blkG_len _ _ _ _ _ _ _) (by omega) _ hn 16 0 (by omega)
    rw [updG_0 _ _ (blkG_len _ _ _ _ _ _ _)] at this
    exact this
theorem spec_l3_ev (L pre : List Int) (m b : Nat) (hL : L.length = 16) (hm : m ≤ 16) (hpre : pre.length ≤ 100000) (V : List Int × Bool)
    (hnext:Ev (fun k=>spec_Encode.l0 k q (pre ++ lbsG L m) (wrap64 ((b:Int)+1)) w h old w h p) V) :
    ∀ d i,i+d=m→Ev (fun k=>spec_Encode.l3 k q (pre ++ lbsG L i) (b:Int) L (m:Int) (i:Int) w h old w h p) V:=by
  intro d
  induction d with
  | zero =>
    intro i hi
    refine ev_succ ?_
    obtain rfl:i=m:=by omega
    have h1 : ¬ (i:Int) < (i:Int):=by omega
    simp only [spec_Encode.l3,h1,if_false]
    exact hnext
  | succ d ih =>
    intro i hi
    refine ev_succ ?_
    have h1:(i:Int) < (m:Int):=by omega
    have h2:0≤(i:Int):=by omega
    have h3:(i:Int) < (L.length:Int):=by omega
    have h4:=w64s (n:=i) (by omega)
    have hpl:(pre ++ lbsG L i).length≤100048:=by
      have:=lbsG_len L i
      rw [List.length_append]
      omega
    have h6:(pre ++ lbsG L i).length < 140737488355328:=by omega
    have h7:(pre ++ lbsG L i).length+3 < 140737488355328:=by omega
    have hn:=ih (i+1) (by omega)
    rw [lbsG_succ,← List.append_assoc] at hn
    simp only [spec_Encode.l3,h1,h2,h3,h4,h6,if_true,Option.bind_some,List.length_cons,List.length_nil,Nat.reduceAdd,h7]
    unfold lb at hn
    by_cases hv:rd L (i:Int) < 0
    · simp only [hv,if_true] at hn ⊢
      by_cases hu:wrap64 (wrap64 ((-2)*rd L (i:Int)) - 1) < 255
      · simp only [hu,if_true]
        unfold lbU at hn
        rw [if_pos hu] at hn
        exact hn
      · simp only [hu,if_false]
        rw [lbU_spec hu]
        exact hn
    · simp only [hv,if_false] at hn ⊢
      by_cases hu:wrap64 (2*rd L (i:Int)) < 255
      · simp only [hu,if_true]
        unfold lbU at hn
        rw [if_pos hu] at hn
        exact hn
      · simp only [hu,if_false]
        rw [lbU_spec hu]
        exact hn
theorem spec_l2_ev (T pre : List Int) (b : Nat) (hq : 1 ≤ q ∧ q ≤ 64) (hT : T.length = 16) (hpre : pre.length ≤ 90000) (V : List Int × Bool)
    (hnext:Ev (fun k=>spec_Encode.l0 k q (pre ++ [((manyG (levL q T) 16:Nat):Int) % 256] ++ lbsG (levL q T) (manyG (levL q T) 16)) (wrap64 ((b:Int)+1)) w h old w h p) V) :
    ∀ d i,i+d=16→Ev (fun k=>spec_Encode.l2 k q pre (b:Int) (updG (fun j=>rnd q (rd T (j:Int))) T i) ((manyG (levL q T) i:Nat):Int) (i:Int) w h old w h p) V:=by
  intro d
  induction d with
  | zero =>
    intro i hi
    refine ev_succ ?_
    obtain rfl:i=16:=by omega
    have h1 : ¬ ((16:Nat):Int) < 16:=by omega
    have h2:=manyG_le (levL q T) 16
    have h5:pre.length < 140737488355328:=by omega
    simp only [spec_Encode.l2,h1,if_false,h5,if_true]
    have:=spec_l3_ev (w:=w) (h:=h) (q:=q) (old:=old) (p:=p) (levL q T) (pre ++ [((manyG (levL q T) 16:Nat):Int) % 256]) (manyG (levL q T) 16) b (updG_len _ _ _) h2 (by simp;omega) V hnext (manyG (levL q T) 16) 0 (by omega)
    simp only [lbsG,List.range_zero,List.flatMap_nil,List.append_nil] at this
    exact this
  | succ d ih =>
    intro i hi
    refine ev_succ ?_
    have hi16:i < 16:=by omega
    have h1:(i:Int) < 16:=by omega
    have h2:0≤(i:Int):=by omega
    have h3:(i:Int) < ((updG (fun j=>rnd q (rd T (j:Int))) T i).length:Int):=by rw [updG_len];omega
    have h4:=w64s (n:=i) (by omega)
    have h5:rd (updG (fun j=>rnd q (rd T (j:Int))) T i) (i:Int)=rd T (i:Int):=by rw [updG_at _ _ _ hi16,if_neg (by omega)]
    have h6:(updG (fun j=>rnd q (rd T (j:Int))) T i).set i (rnd q (rd T (i:Int)))=updG (fun j=>rnd q (rd T (j:Int))) T (i+1):=updG_set _ T hi16
    have h7:rd (updG (fun j=>rnd q (rd T (j:Int))) T (i+1)) (i:Int)=rd (levL q T) (i:Int):=by
      rw [levL,updG_at _ _ _ hi16,updG_at _ _ _ hi16,if_pos (by omega),if_pos hi16]
    simp only [spec_Encode.l2,h1,h2,h3,h4,h5,round_eq hq,Option.bind_some,Int.toNat_natCast,h6,h7,if_true]
    have hn:=ih (i+1) (by omega)
    unfold manyG at hn
    by_cases hz:rd (levL q T) (i:Int)=0
    · simp only [hz,if_true] at hn ⊢
      exact hn
    · simp only [hz,if_false] at hn ⊢
      exact hn
theorem spec_l1_ev (X Y pre : List Int) (b : Nat) (hq : 1 ≤ q ∧ q ≤ 64) (hX : X.length = 16) (hY : Y.length = 16) (hpre : pre.length ≤ 90000) (V : List Int × Bool)
    (hnext:Ev (fun k=>spec_Encode.l0 k q (pre ++ [((manyG (levL q (turnV (difL X Y))) 16:Nat):Int) % 256] ++ lbsG (levL q (turnV (difL X Y))) (manyG (levL q (turnV (difL X Y))) 16)) (wrap64 ((b:Int)+1)) w h old w h p) V) :
    ∀ d i,i+d=16→Ev (fun k=>spec_Encode.l1 k q pre (b:Int) (updG (fun j=>wrap64 (rd X (j:Int) - rd Y (j:Int))) X i) Y (i:Int) w h old w h p) V:=by
  intro d
  induction d with
  | zero =>
    intro i hi
    refine ev_succ ?_
    obtain rfl:i=16:=by omega
    have h1 : ¬ ((16:Nat):Int) < 16:=by omega
    simp only [spec_Encode.l1,h1,if_false]
    refine ev_bind (spec_l14Turn_ev _ (updG_len _ _ _)) ?_
    have:=spec_l2_ev (w:=w) (h:=h) (q:=q) (old:=old) (p:=p) (turnV (difL X Y)) pre b hq (turnV_len' _) hpre V hnext 16 0 (by omega)
    rw [updG_0 _ _ (turnV_len' _)] at this
    exact this
  | succ d ih =>
    intro i hi
    refine ev_succ ?_
    have hi16:i < 16:=by omega
    have h1:(i:Int) < 16:=by omega
    have h2:0≤(i:Int):=by omega
    have h3:(i:Int) < ((updG (fun j=>wrap64 (rd X (j:Int) - rd Y (j:Int))) X i).length:Int):=by rw [updG_len];omega
    have h8:(i:Int) < (Y.length:Int):=by omega
    have h4:=w64s (n:=i) (by omega)
    have h5:rd (updG (fun j=>wrap64 (rd X (j:Int) - rd Y (j:Int))) X i) (i:Int)=rd X (i:Int):=by rw [updG_at _ _ _ hi16,if_neg (by omega)]
    have h6:(updG (fun j=>wrap64 (rd X (j:Int) - rd Y (j:Int))) X i).set i (wrap64 (rd X (i:Int) - rd Y (i:Int)))=updG (fun j=>wrap64 (rd X (j:Int) - rd Y (j:Int))) X (i+1):=updG_set (fun j=>wrap64 (rd X (j:Int) - rd Y (j:Int))) X hi16
    simp only [spec_Encode.l1,h1,h2,h3,h8,h4,h5,Int.toNat_natCast,h6,if_true]
    exact ih (i+1) (by omega)
theorem spec_l0_ev (ho : PicO w h old) (hp : PicO w h p) (hq : 1 ≤ q ∧ q ≤ 64) (nb : Nat) (hnb : (nb : Int) = w / 4 * (h / 4)) : ∀ d b, b + d = nb → Ev (fun k => spec_Encode.l0 k q (encG w h old p q b) (b : Int) w h old w h p) (encG w h old p q nb, true) := by
  have hbd:=blocks_bd hp
  intro d
  induction d with
  | zero =>
    intro b hb
    refine ev_succ ?_
    obtain rfl:b=nb:=by omega
    have h1 : ¬ (b:Int) < w / 4*(h / 4):=by omega
    simp only [spec_Encode.l0,spec_blocks_eq hp,Option.bind_some,h1,if_false]
    exact ev_ret rfl
  | succ d ih =>
    intro b hb
    refine ev_succ ?_
    have h1:(b:Int) < w / 4*(h / 4):=by omega
    have hb64:0≤(b:Int)∧(b:Int)≤64:=by omega
    have hm:=motW_bd w h old p (b:Int)
    have hl:=encG_len w h old p q b
    have h9:(encG w h old p q b).length < 140737488355328:=by omega
    simp only [spec_Encode.l0,spec_blocks_eq hp,Option.bind_some,h1,if_true]
    refine ev_bind (spec_motion_ev ho hp hb64) ?_
    simp only [h9,if_true]
    refine ev_bind (spec_block_ev hp hb64 (by omega) (by omega)) ?_
    refine ev_bind (spec_block_ev ho hb64 (by omega) (by omega)) ?_
    have hn:=ih (b+1) (by omega)
    rw [encG_succ,← w64s (n:=b) (by omega)] at hn
    have:=spec_l1_ev (w:=w) (h:=h) (q:=q) (old:=old) (p:=p) (blk w h p (b:Int) 0 0) (blk w h old (b:Int) (motW w h old p (b:Int)).x (motW w h old p (b:Int)).y) (encG w h old p q b ++ [wayB (motW w h old p (b:Int)).x (motW w h old p (b:Int)).y]) b hq (blkG_len _ _ _ _ _ _ _) (blkG_len _ _ _ _ _ _ _) (by simp;omega) (encG w h old p q nb,true) (by simpa [encB,tellB] using hn) 16 0 (by omega)
    rw [updG_0 _ _ (blkG_len _ _ _ _ _ _ _)] at this
    exact this
end
def encV (w0 h0 : Int) (old : List Int) (w1 h1 : Int) (p : List Int) (q : Int) : List Int × Bool := if twoB w0 h0 old w1 h1 p = true ∧ 1 ≤ q ∧ q ≤ 64 then (encG w1 h1 old p q (w1 / 4 * (h1 / 4)).toNat, true) else ([], false)
theorem spec_Encode_ev (w0 h0 : Int) (old : List Int) (w1 h1 : Int) (p : List Int) (q : Int) : Ev (fun k => spec_Encode.f k w0 h0 old w1 h1 p q) (encV w0 h0 old w1 h1 p q) := by
  unfold encV
  simp only [spec_Encode.f,Option.bind_some]
  refine ev_bind (spec_two_ev w0 h0 old w1 h1 p) (ev_ifb (fun e=>?_) (fun e=>?_))
  · obtain⟨rfl,rfl,ho,hp⟩:=twoB_of e
    have hbd:=blocks_bd hp
    obtain⟨nb,hnb⟩:=Int.eq_ofNat_of_zero_le hbd.2.2.2.2.1
    simp only [spec_in_eq,Option.bind_some]
    refine ev_succ ?_
    by_cases hq:1≤q∧q≤64
    · have hd:(!(decide (1≤q∧q≤64)))=false:=by simp [hq]
      simp only [spec_Encode.j0,hd,Bool.false_eq_true,if_false]
      rw [if_pos ⟨e,hq⟩,hnb]
      exact spec_l0_ev ho hp hq nb hnb.symm nb 0 (by omega)
    · have hd:(!(decide (1≤q∧q≤64)))=true:=by simp [hq]
      simp only [spec_Encode.j0,hd,if_true]
      rw [if_neg (fun hh=>hq hh.2)]
      exact ev_ret rfl
  · refine ev_succ ?_
    simp only [spec_Encode.j0,if_true]
    rw [if_neg (by rw [e];simp)]
    exact ev_ret rfl
theorem impl_Encode_ev (w0 h0 : Int) (old : List Int) (w1 h1 : Int) (p : List Int) (q : Int) : Ev (fun k => impl_Encode.f k w0 h0 old w1 h1 p q) (encV w0 h0 old w1 h1 p q) := by
  unfold encV
  simp only [impl_Encode.f,impl_two_eq,Option.bind_some]
  refine ev_ifb (fun e=>?_) (fun e=>?_)
  · obtain⟨rfl,rfl,ho,hp⟩:=twoB_of e
    have hbd:=blocks_bd hp
    obtain⟨nb,hnb⟩:=Int.eq_ofNat_of_zero_le hbd.2.2.2.2.1
    simp only [impl_in_eq,Option.bind_some]
    refine ev_succ ?_
    by_cases hq:1≤q∧q≤64
    · have hd:(!(decide (1≤q∧q≤64)))=false:=by simp [hq]
      simp only [impl_Encode.j0,hd,Bool.false_eq_true,if_false]
      rw [if_pos ⟨e,hq⟩,impl_blocks_eq hp,hnb]
      simp only [Option.bind_some]
      exact impl_l0_ev ho hp hq nb (by omega) nb 0 (by omega)
    · have hd:(!(decide (1≤q∧q≤64)))=true:=by simp [hq]
      simp only [impl_Encode.j0,hd,if_true]
      rw [if_neg (fun hh=>hq hh.2)]
      exact ev_ret rfl
  · refine ev_succ ?_
    simp only [impl_Encode.j0,if_true]
    rw [if_neg (by rw [e];simp)]
    exact ev_ret rfl

theorem encV_len (w0 h0 : Int) (old : List Int) (w1 h1 : Int) (p : List Int) (q : Int) : (encV w0 h0 old w1 h1 p q).1.length ≤ 1000 := by
  unfold encV
  split
  · rename_i e
    have hp:=(twoB_of e.1).2.2.2
    have hbd:=blocks_bd hp
    have:=encG_len w1 h1 old p q (w1 / 4*(h1 / 4)).toNat
    show(encG w1 h1 old p q (w1 / 4*(h1 / 4)).toNat).length≤1000
    omega
  · exact Nat.zero_le _
theorem markPicture_evk (a b : Int) (xs : List Int) (k0 : Int) (h : xs.length ≤ 1048576) (h0 : 0 ≤ k0) (h1 : k0 ≤ 4000000) : Ev (fun k => laws_markPicture.f k a b xs k0) (k0 + xs.length, markInt64 k0 xs.length) := by
  simp only [laws_markPicture.f]
  exact ev_bind (markInt64S_ev xs k0 h0 (by omega)) (ev_ret rfl)
theorem FnExactEncode : ∀ (a0_0 : Int) (a0_1 : Int) (l0_2 : List Int) (a1_0 : Int) (a1_1 : Int) (l1_2 : List Int) (a2 : Int), ((Lit.int .i64 a0_0).wf = true ∧ ((Lit.int .i64 a0_1).wf = true ∧ (l0_2.length ≤ maxLen ∧ ∀ y1 ∈ l0_2, (Lit.int .i64 y1).wf = true))) → ((Lit.int .i64 a1_0).wf = true ∧ ((Lit.int .i64 a1_1).wf = true ∧ (l1_2.length ≤ maxLen ∧ ∀ y1 ∈ l1_2, (Lit.int .i64 y1).wf = true))) → (Lit.int .i64 a2).wf = true → ∃ k, laws_FnExactEncode.f k a0_0 a0_1 l0_2 a1_0 a1_1 l1_2 a2 = some true := by
  intro w0 h0 x0 w1 h1 x1 q ⟨_,_,hl0,_⟩ ⟨_,_,hl1,_⟩ _
  apply Ev.rounds
  simp only [laws_FnExactEncode.f,szPicture_eq w0 h0 x0 1048576 hl0 (by omega) (by omega),Option.bind_some]
  by_cases h6:1048576 - (x0.length:Int) < 0
  · simp only [h6,if_true,show(-1:Int) < 0 by omega]
    exact ev_ret rfl
  · simp only [h6,if_false]
    rw [szPicture_eq w1 h1 x1 _ hl1 (by omega) (by omega)]
    simp only [Option.bind_some]
    by_cases h7:1048576 - (x0.length:Int) - (x1.length:Int) < 0
    · simp only [h7,if_true,show(-1:Int) < 0 by omega]
      exact ev_ret rfl
    · simp only [h7,if_false]
      have g0:x0.length≤1048576:=by omega
      have g1:x1.length≤1048576:=by omega
      have g2:=encV_len w0 h0 x0 w1 h1 x1 q
      have nk : ¬ (1+(x0.length:Int)+(x1.length:Int) < 0):=by omega
      have nm : ¬ (1+((encV w0 h0 x0 w1 h1 x1 q).1.length:Int) < 0):=by omega
      refine ev_bind (toPicture_ev w0 h0 x0 g0) ?_
      refine ev_bind (toPicture_ev w1 h1 x1 g1) ?_
      refine ev_bind (spec_Encode_ev w0 h0 x0 w1 h1 x1 q) ?_
      refine ev_bind (toPicture_ev w0 h0 x0 g0) ?_
      refine ev_bind (toPicture_ev w1 h1 x1 g1) ?_
      refine ev_bind (impl_Encode_ev w0 h0 x0 w1 h1 x1 q) ?_
      refine ev_bind (eqByteS_ev _ _ (by omega)) ?_
      simp only [decide_true,if_true,bne_self_eq_false]
      refine ev_succ ?_
      simp only [laws_FnExactEncode.j0,Bool.false_eq_true,if_false]
      refine ev_bind (toPicture_ev w0 h0 x0 g0) ?_
      refine ev_bind (eqPicture_refl w0 h0 x0 g0) ?_
      simp only [if_true]
      refine ev_bind (toPicture_ev w1 h1 x1 g1) ?_
      refine ev_bind (eqPicture_refl w1 h1 x1 g1) ?_
      simp only [if_true]
      refine ev_bind (markPicture_evk w0 h0 x0 1 g0 (by omega) (by omega)) ?_
      refine ev_bind (markPicture_evk w1 h1 x1 _ g1 (by omega) (by omega)) ?_
      simp only [nk,if_false]
      refine ev_bind (eqByteS_ev _ _ (by omega)) ?_
      simp only [decide_true,if_true,bne_self_eq_false]
      refine ev_succ ?_
      simp only [laws_FnExactEncode.j1,Bool.false_eq_true,if_false]
      refine ev_bind (markByteS_ev _ 1 (by omega) (by omega)) ?_
      refine ev_bind (heldByteS_ev _ 1 (by omega) (by omega)) ?_
      simp only [nm,if_false,if_true]
      refine ev_bind (toPicture_ev w0 h0 x0 g0) ?_
      refine ev_bind (toPicture_ev w1 h1 x1 g1) ?_
      refine ev_bind (impl_Encode_ev w0 h0 x0 w1 h1 x1 q) ?_
      refine ev_bind (eqByteS_ev _ _ (by omega)) ?_
      simp only [decide_true,if_true,bne_self_eq_false]
      refine ev_succ ?_
      simp only [laws_FnExactEncode.j2,Bool.false_eq_true,if_false]
      refine ev_bind (heldByteS_ev _ 1 (by omega) (by omega)) ?_
      simp only [nm,if_false,if_true]
      exact ev_ret rfl
end Go.Proofs.Ytbdnpfjjaokdbaa.Pure
