/-
  The plain statement of FnCoded: what is coded is read again to within 8 q in each pixel; the same picture takes two bytes a block and is read as itself.
  Conditions: the statement's own.
-/
import Derived.Test.YtbdnpfjjaokdbaaHFnCodedx0
import Derived.Test.YtbdnpfjjaokdbaaHFnCodedx1
import Derived.Test.YtbdnpfjjaokdbaaHFnCodedx2
import Derived.Test.YtbdnpfjjaokdbaaHFnCodedx3
import Derived.Test.YtbdnpfjjaokdbaaHFnCodedx4
import Derived.Test.YtbdnpfjjaokdbaaHFnCodedx5
import Derived.Test.YtbdnpfjjaokdbaaHFnCodedx6
import Derived.Test.YtbdnpfjjaokdbaaHFnCodedx7
import Derived.Test.YtbdnpfjjaokdbaaHFnCodedx8
import Derived.Test.YtbdnpfjjaokdbaaHFnCodedx9
import Derived.Test.YtbdnpfjjaokdbaaHFnCodedx10
import Derived.Test.YtbdnpfjjaokdbaaHFnCodedx11
import Derived.Test.YtbdnpfjjaokdbaaHFnCodedx12
import Derived.Test.YtbdnpfjjaokdbaaHFnCodedx13
import Derived.Test.YtbdnpfjjaokdbaaHFnCodedx14
import Derived.Test.YtbdnpfjjaokdbaaHFnCodedx15
import Derived.Test.YtbdnpfjjaokdbaaPureBase
import Derived.Laws.BitsLemmas
namespace Go.Proofs.Ytbdnpfjjaokdbaa.Pure
open Go.RowKit Go.Proofs.Ytbdnpfjjaokdbaa.HFnCoded Go.Proofs.YtbdnpfjjaokdbaaW.PrintWords Go.Proofs.YtbdnpfjjaokdbaaW.PrintLast Go.Proofs.YtbdnpfjjaokdbaaW.PrintMore Go.Proofs.Ytbdnpfjjaokdbaa.PB
set_option linter.unusedVariables false
set_option linter.unusedSimpArgs false
theorem spec_in_eq (a lo hi : Int) : spec_l1In.f a lo hi = some (decide (lo ≤ a ∧ a ≤ hi)) := by
  unfold spec_l1In.f
  by_cases h:a ≥ lo
  · rw [if_pos h];simp [show lo≤a from h]
  · rw [if_neg h];simp;omega

theorem impl_in_eq (a lo hi : Int) : impl_in.f a lo hi = some (decide (lo ≤ a ∧ a ≤ hi)) := by
  unfold impl_in.f
  by_cases h:lo≤a
  · rw [if_pos h];simp [h]
  · rw [if_neg h];simp;omega

theorem any_not_all {α : Type} (q : α → Bool) (xs : List α) : (xs.any fun c => !q c) = !(xs.all q) := by
  induction xs with
  | nil => rfl
  | cons c cs ih => simp [List.any_cons, List.all_cons, ih]

theorem impl_PictureOk_idx_eq {α : Type} (q : α → Bool) : ∀ (l : List α) (i : Int), 0 ≤ i → (impl_PictureOk_idxO (fun x => some (q x)) l i).bind (fun t => some (decide (0 ≤ t))) = some (l.any q)
  | [], i, _ => by simp [impl_PictureOk_idxO]
  | x :: xs, i, h => by
    rw [impl_PictureOk_idxO,List.any_cons]
    simp only [Option.bind_some]
    cases q x with
    | true => simp [h]
    | false => simpa using impl_PictureOk_idx_eq q xs (i + 1) (by omega)

/-! #### PictureOk -/
def byB (x : Int) : Bool := decide (0 ≤ x ∧ x ≤ 255)
def sideP (n : Int) : Prop := 4 ≤ n ∧ n ≤ 16 ∧ n % 4 = 0
instance (n : Int) : Decidable (sideP n) := by unfold sideP; infer_instance
def picB (w h : Int) (px : List Int) : Bool := decide (sideP w ∧ sideP h ∧ (px.length : Int) = w * h) && px.all byB
theorem mul_bd {w h : Int} (h1 : 0 ≤ w) (h2 : w ≤ 16) (h3 : 0 ≤ h) (h4 : h ≤ 16) : 0 ≤ w * h ∧ w * h ≤ 256 :=
  ⟨Int.mul_nonneg h1 h3,Int.le_trans (Int.mul_le_mul h2 h4 h3 (by omega)) (by omega)⟩
theorem spec_side_eq (n : Int) : spec_l14Side.f n = some (decide (sideP n)) := by
  unfold spec_l14Side.f
  simp only [spec_in_eq,Option.bind_some]
  by_cases h:4≤n∧n≤16
  · rw [if_pos (decide_eq_true h),Int.tmod_eq_emod_of_nonneg (by omega)]
    congr 1
    rw [Bool.eq_iff_iff]
    simp only [beq_iff_eq,decide_eq_true_eq]
    exact⟨fun e=>⟨h.1,h.2,e⟩,fun e=>e.2.2⟩
  · rw [if_neg (by rw [decide_eq_false h];simp),decide_eq_false (fun e:sideP n=>h ⟨e.1,e.2.1⟩)]
theorem spec_PictureOk_ev (w h : Int) (px : List Int) : Ev (fun k => spec_PictureOk.f k w h px) (picB w h px) := by
  have hby:∀ a,spec_l11Byte.f a=some (byB a):=by
    intro a
    simp only [spec_l11Byte.f,spec_in_eq,Option.bind_some,byB]
  have key:px.length≤256 → ∀ d i,i+d=px.length→Ev (fun k=>spec_PictureOk.l0 k (i:Int) w h px) ((px.drop i).all byB):=by
    intro hl d
    induction d with
    | zero =>
      intro i hi
      refine ev_succ ?_
      have h1 : ¬ (i:Int) < (px.length:Int):=by omega
      simp only [spec_PictureOk.l0,h1,if_false]
      exact ev_ret (by rw [drop_end (by omega)];rfl)
    | succ d ih =>
      intro i hi
      refine ev_succ ?_
      have h1:(i:Int) < (px.length:Int):=by omega
      have h2:(0:Int)≤(i:Int):=by omega
      have h4:=w64s (n:=i) (by omega)
      simp only [spec_PictureOk.l0,h1,h2,h4,if_true,hby,Option.bind_some]
      rw [drop_rd px i (by omega),List.all_cons]
      refine ev_ifb (fun e=>?_) (fun e=>ev_ret (by rw [e];rfl))
      rw [e,Bool.true_and]
      exact ih (i+1) (by omega)
  unfold picB
  simp only [spec_PictureOk.f,spec_side_eq,Option.bind_some]
  have no:∀ b,b=false→Ev (fun k=>spec_PictureOk.j0 k true w h px) (b && px.all byB):=fun b hb=>by
    refine ev_succ ?_
    simp only [spec_PictureOk.j0,if_true]
    exact ev_ret (by rw [hb];rfl)
  refine ev_ifb (fun h1=>?_) (fun h1=>no _ (decide_eq_false (fun hh=>of_decide_eq_false h1 hh.1)))
  refine ev_ifb (fun h2=>?_) (fun h2=>no _ (decide_eq_false (fun hh=>of_decide_eq_false h2 hh.2.1)))
  have h1':=of_decide_eq_true h1
  have h2':=of_decide_eq_true h2
  have hm:=mul_bd (by have:=h1'.1;omega) h1'.2.1 (by have:=h2'.1;omega) h2'.2.1
  rw [w64 (x:=w*h) (by omega) (by omega)]
  by_cases h3:(px.length:Int)=w*h
  · have e:((px.length:Int) != w*h)=false:=bne_eq_false_iff_eq.2 h3
    rw [e,decide_eq_true (show sideP w∧sideP h∧(px.length:Int)=w*h from⟨h1',h2',h3⟩),Bool.true_and]
    refine ev_succ ?_
    simp only [spec_PictureOk.j0,Bool.false_eq_true,if_false]
    exact ev_eq (key (by omega) px.length 0 (by omega)) (by rw [List.drop_zero])
  · have e:((px.length:Int) != w*h)=true:=bne_iff_ne.2 h3
    rw [e]
    exact no _ (decide_eq_false (fun hh=>h3 hh.2.2))
theorem impl_PictureOk_eq (w h : Int) (px : List Int) : impl_PictureOk.f w h px = some (picB w h px) := by
  have hcon:impl_PictureOk_contains.f px=some (!(px.all byB)):=by
    have e:(fun x=>impl_PictureOk_1.f x)=fun x=>some (!(byB x)):=by
      funext x
      simp only [impl_PictureOk_1.f,impl_isByte.f,impl_in_eq,Option.bind_some,byB]
    rw [impl_PictureOk_contains.f,e,impl_PictureOk_idx_eq _ _ _ (Int.le_refl _),any_not_all]
  unfold picB impl_PictureOk.f
  simp only [impl_in_eq,hcon,Option.bind_some]
  by_cases g1:4≤w∧w≤16
  · by_cases g2:4≤h∧h≤16
    · rw [Int.tmod_eq_emod_of_nonneg (show 0≤w by omega),Int.tmod_eq_emod_of_nonneg (show 0≤h by omega),decide_eq_true g1,decide_eq_true g2]
      have hm:=mul_bd (w:=w) (h:=h) (by omega) g1.2 (by omega) g2.2
      rw [w64 (x:=w*h) (by omega) (by omega)]
      simp only [if_true]
      by_cases a:w % 4=0
      · rw [if_pos a]
        by_cases b:h % 4=0
        · rw [if_pos b]
          by_cases c:(px.length:Int)=w*h
          · rw [if_pos c,decide_eq_true (show sideP w∧sideP h∧(px.length:Int)=w*h from⟨⟨g1.1,g1.2,a⟩,⟨g2.1,g2.2,b⟩,c⟩),Bool.not_not,Bool.true_and]
          · rw [if_neg c,decide_eq_false (fun hh=>c hh.2.2),Bool.false_and]
        · rw [if_neg b,decide_eq_false (fun hh=>b hh.2.1.2.2),Bool.false_and]
      · rw [if_neg a,decide_eq_false (fun hh=>a hh.1.2.2),Bool.false_and]
    · have e:decide (sideP w∧sideP h∧(px.length:Int)=w*h)=false:=decide_eq_false (fun hh=>g2 ⟨hh.2.1.1,hh.2.1.2.1⟩)
      rw [e,decide_eq_true g1,decide_eq_false g2]
      simp
  · have e:decide (sideP w∧sideP h∧(px.length:Int)=w*h)=false:=decide_eq_false (fun hh=>g1 ⟨hh.1.1,hh.1.2.1⟩)
    rw [e,decide_eq_false g1]
    simp

/-! #### Motion: the best of some ways -/
structure Wy where
  o : Int
  d : Int
  y : Int
  x : Int
def Wy.lt (a b : Wy) : Prop := a.o < b.o ∨ (a.o = b.o ∧ (a.d < b.d ∨ (a.d = b.d ∧ (a.y < b.y ∨ (a.y = b.y ∧ a.x < b.x)))))
instance (a b : Wy) : Decidable (Wy.lt a b) := by unfold Wy.lt; infer_instance
def Wy.ahead (a b : Wy) : Prop := a.d < b.d ∨ (a.d = b.d ∧ (a.y < b.y ∨ (a.y = b.y ∧ a.x < b.x)))
instance (a b : Wy) : Decidable (Wy.ahead a b) := by unfold Wy.ahead; infer_instance
def bestLt : Wy → List Wy → Wy
  | m, [] => m
  | m, x :: xs => if Wy.lt x m then bestLt x xs else bestLt m xs
def bestOff : Wy → List Wy → Wy
  | m, [] => m
  | m, x :: xs => if x.o < m.o then bestOff x xs else bestOff m xs
theorem Wy.not_trans {a b c : Wy} (h1 : ¬ Wy.lt b a) (h2 : ¬ Wy.lt c b) : ¬ Wy.lt c a := by
  unfold Wy.lt at *
  omega
theorem Wy.lt_not {a b : Wy} (h1 : Wy.lt b a) : ¬ Wy.lt a b := by
  unfold Wy.lt at *
  omega
theorem bestLt_mem : ∀ (xs : List Wy) (m : Wy), bestLt m xs ∈ m :: xs ∧ ∀ x ∈ m :: xs, ¬ Wy.lt x (bestLt m xs)
  | [], m => ⟨by simp [bestLt], by intro x hx; rw [List.mem_singleton] at hx; subst hx; unfold bestLt Wy.lt; omega⟩
  | y :: xs, m => by
    unfold bestLt
    by_cases h:Wy.lt y m
    · rw [if_pos h]
      obtain⟨h1,h2⟩:=bestLt_mem xs y
      refine⟨List.mem_cons_of_mem _ h1,fun x hx=>?_⟩
      rcases List.mem_cons.1 hx with rfl|hx
      · exact Wy.not_trans (h2 y (by simp)) (Wy.lt_not h)
      · exact h2 x hx
    · rw [if_neg h]
      obtain⟨h1,h2⟩:=bestLt_mem xs m
      refine⟨?_,fun x hx=>?_⟩
      · rcases List.mem_cons.1 h1 with e|e
        · rw [e];simp
        · exact List.mem_cons_of_mem _ (List.mem_cons_of_mem _ e)
      · rcases List.mem_cons.1 hx with rfl|hx
        · exact h2 x (by simp)
        · rcases List.mem_cons.1 hx with rfl|hx
          · exact Wy.not_trans (h2 m (by simp)) h
          · exact h2 x (List.mem_cons_of_mem _ hx)
theorem bestOff_mem : ∀ (xs : List Wy) (m : Wy), (m :: xs).Pairwise Wy.ahead → bestOff m xs ∈ m :: xs ∧ ∀ x ∈ m :: xs, ¬ Wy.lt x (bestOff m xs)
  | [], m, _ => ⟨by simp [bestOff], by intro x hx; rw [List.mem_singleton] at hx; subst hx; unfold bestOff Wy.lt; omega⟩
  | y :: xs, m, hp => by
    unfold bestOff
    have hp1:=List.pairwise_cons.1 hp
    have hp2:=List.pairwise_cons.1 hp1.2
    have hmy:=hp1.1 y (by simp)
    by_cases h:y.o < m.o
    · rw [if_pos h]
      obtain⟨h1,h2⟩:=bestOff_mem xs y hp1.2
      refine⟨List.mem_cons_of_mem _ h1,fun x hx=>?_⟩
      rcases List.mem_cons.1 hx with rfl|hx
      · refine Wy.not_trans (h2 y (by simp)) ?_
        unfold Wy.lt;omega
      · exact h2 x hx
    · rw [if_neg h]
      have hp3:(m :: xs).Pairwise Wy.ahead:=List.pairwise_cons.2 ⟨fun a ha=>hp1.1 a (List.mem_cons_of_mem _ ha),hp2.2⟩
      obtain⟨h1,h2⟩:=bestOff_mem xs m hp3
      refine⟨?_,fun x hx=>?_⟩
      · rcases List.mem_cons.1 h1 with e|e
        · rw [e];simp
        · exact List.mem_cons_of_mem _ (List.mem_cons_of_mem _ e)
      · rcases List.mem_cons.1 hx with rfl|hx
        · exact h2 x (by simp)
        · rcases List.mem_cons.1 hx with rfl|hx
          · refine Wy.not_trans (h2 m (by simp)) ?_
            unfold Wy.ahead at hmy;unfold Wy.lt;omega
          · exact h2 x (List.mem_cons_of_mem _ hx)
theorem best_same (m n : Wy) (xs ys : List Wy) (hp : (n :: ys).Pairwise Wy.ahead) (h1 : ∀ x, x ∈ m :: xs → x ∈ n :: ys) (h2 : ∀ x, x ∈ n :: ys → x ∈ m :: xs) : bestLt m xs = bestOff n ys := by
  obtain⟨a1,a2⟩:=bestLt_mem xs m
  obtain⟨b1,b2⟩:=bestOff_mem ys n hp
  have c1:=a2 _ (h2 _ b1)
  have c2:=b2 _ (h1 _ a1)
  generalize bestLt m xs=p at *
  generalize bestOff n ys=q at *
  cases p;cases q
  unfold Wy.lt at c1 c2
  simp only [Wy.mk.injEq]
  simp only at c1 c2
  omega
def wyRow (o : Int → Int → Int) (y : Int) : List Int → List Wy := List.map fun x => ⟨o y x, x * x + y * y, y, x⟩
def wyAll (o : Int → Int → Int) : List Wy := (wyRow o (-2) [-2, -1, 0, 1, 2]) ++ (wyRow o (-1) [-2, -1, 0, 1, 2]) ++ (wyRow o 0 [-2, -1, 0, 1, 2]) ++ (wyRow o 1 [-2, -1, 0, 1, 2]) ++ (wyRow o 2 [-2, -1, 0, 1, 2])
def wyFar : List (Int × Int) := [(0, 0), (-1, 0), (0, -1), (0, 1), (1, 0), (-1, -1), (-1, 1), (1, -1), (1, 1), (-2, 0), (0, -2), (0, 2), (2, 0), (-2, -1), (-2, 1), (-1, -2), (-1, 2), (1, -2), (1, 2), (2, -1), (2, 1), (-2, -2), (-2, 2), (2, -2), (2, 2)]
def wyOf (o : Int → Int → Int) (p : Int × Int) : Wy := ⟨o p.1 p.2, p.2 * p.2 + p.1 * p.1, p.1, p.2⟩
theorem wy_sorted (o : Int → Int → Int) : (wyFar.map (wyOf o)).Pairwise Wy.ahead := by
  rw [List.pairwise_map]
  have h:wyFar.Pairwise (fun a b:Int × Int=>Wy.ahead (wyOf (fun _ _=>0) a) (wyOf (fun _ _=>0) b)):=by decide
  exact List.Pairwise.imp (fun h=>h) h
theorem wy_same (o : Int → Int → Int) (m n : Wy) (xs ys : List Wy) (e1 : wyAll o = m :: xs) (e2 : wyFar.map (wyOf o) = n :: ys) : bestLt m xs = bestOff n ys := by
  refine best_same m n xs ys (e2 ▸ wy_sorted o) ?_ ?_
  · rw [← e1,← e2]
    intro x hx
    simp only [wyAll,wyRow,List.map_cons,List.map_nil,List.cons_append,List.nil_append,List.append_assoc,List.mem_cons,List.not_mem_nil,or_false] at hx
    simp only [wyFar,wyOf,List.map_cons,List.map_nil,List.mem_cons,List.not_mem_nil,or_false]
    rcases hx with h|h|h|h|h|h|h|h|h|h|h|h|h|h|h|h|h|h|h|h|h|h|h|h|h <;> subst h <;> simp
  · rw [← e1,← e2]
    intro x hx
    simp only [wyFar,wyOf,List.map_cons,List.map_nil,List.mem_cons,List.not_mem_nil,or_false] at hx
    simp only [wyAll,wyRow,List.map_cons,List.map_nil,List.cons_append,List.nil_append,List.append_assoc,List.mem_cons,List.not_mem_nil,or_false]
    rcases hx with h|h|h|h|h|h|h|h|h|h|h|h|h|h|h|h|h|h|h|h|h|h|h|h|h <;> subst h <;> simp

/-! #### Motion: a block of pixels, moved -/
structure PicO (w h : Int) (px : List Int) : Prop where
  w1 : 4 ≤ w
  w2 : w ≤ 16
  h1 : 4 ≤ h
  h2 : h ≤ 16
  wm : w % 4 = 0
  hm : h % 4 = 0
  len : (px.length : Int) = w * h
  by_ : px.all byB = true
theorem picO_of {w h : Int} {px : List Int} (hb : picB w h px = true) : PicO w h px := by
  unfold picB at hb
  simp only [Bool.and_eq_true,decide_eq_true_eq] at hb
  obtain⟨⟨a,b,c⟩,d⟩:=hb
  exact⟨a.1,a.2.1,b.1,b.2.1,a.2.2,b.2.2,c,d⟩
def cl (n x : Int) : Int := if x < 0 then 0 else if n ≤ x then n - 1 else x
theorem cl_bd {n x : Int} (h : 1 ≤ n) : 0 ≤ cl n x ∧ cl n x ≤ n - 1 := by
  unfold cl
  split
  · omega
  · split <;> omega
def pxAt (w h : Int) (px : List Int) (x y : Int) : Int := rd px (cl h y * w + cl w x)
theorem px_idx {w h a b : Int} {px : List Int} (hp : PicO w h px) (ha : 0 ≤ a ∧ a ≤ h - 1) (hb : 0 ≤ b ∧ b ≤ w - 1) : 0 ≤ a * w ∧ a * w ≤ 256 ∧ 0 ≤ a * w + b ∧ a * w + b < (px.length : Int) ∧ (px.length : Int) ≤ 256 := by
  have g1:=hp.w1;have g2:=hp.w2;have g3:=hp.h1;have g4:=hp.h2
  have e1:a*w≤(h - 1)*w:=Int.mul_le_mul_of_nonneg_right ha.2 (by omega)
  have e2:(h - 1)*w=w*h - w:=by rw [Int.sub_mul,Int.one_mul,Int.mul_comm]
  have e3:0≤a*w:=Int.mul_nonneg ha.1 (by omega)
  have e4:=(mul_bd (w:=w) (h:=h) (by omega) g2 (by omega) g4).2
  have e5:=hp.len
  refine⟨e3,?_,?_,?_,?_⟩ <;> omega
theorem pxAt_by {w h : Int} {px : List Int} (hp : PicO w h px) (x y : Int) : 0 ≤ pxAt w h px x y ∧ pxAt w h px x y ≤ 255 := by
  have g1:=hp.w1;have g3:=hp.h1
  have h5:=px_idx hp (cl_bd (n:=h) (x:=y) (by omega)) (cl_bd (n:=w) (x:=x) (by omega))
  obtain⟨m,hm⟩:=Int.eq_ofNat_of_zero_le h5.2.2.1
  unfold pxAt
  rw [hm] at h5 ⊢
  have h6:=List.all_eq_true.1 hp.by_ _ (rd_mem (xs:=px) (i:=m) (by omega))
  unfold byB at h6
  exact of_decide_eq_true h6
def blkE (w h : Int) (px : List Int) (bl dx dy : Int) (i : Nat) : Int := pxAt w h px (bl % (w / 4) * 4 + (i : Int) % 4 + dx) (bl / (w / 4) * 4 + (i : Int) / 4 + dy)
def blkG (w h : Int) (px : List Int) (bl dx dy : Int) (n : Nat) : List Int := (List.range n).map (blkE w h px bl dx dy)
abbrev blk (w h : Int) (px : List Int) (bl dx dy : Int) : List Int := blkG w h px bl dx dy 16
theorem blkG_len (w h : Int) (px : List Int) (bl dx dy : Int) (n : Nat) : (blkG w h px bl dx dy n).length = n := by simp [blkG]
theorem blkG_succ (w h : Int) (px : List Int) (bl dx dy : Int) (n : Nat) : blkG w h px bl dx dy (n + 1) = blkG w h px bl dx dy n ++ [blkE w h px bl dx dy n] := by simp [blkG, List.range_succ]
theorem blk_rd (w h : Int) (px : List Int) (bl dx dy : Int) {n i : Nat} (hi : i < n) : rd (blkG w h px bl dx dy n) (i : Int) = blkE w h px bl dx dy i := by
  simp [blkG,rd_nat,List.getD_eq_getElem?_getD,List.getElem?_map,List.getElem?_range hi]
theorem blk_by {w h : Int} {px : List Int} (hp : PicO w h px) (bl dx dy : Int) {n i : Nat} (hi : i < n) : 0 ≤ rd (blkG w h px bl dx dy n) (i : Int) ∧ rd (blkG w h px bl dx dy n) (i : Int) ≤ 255 := by
  rw [blk_rd _ _ _ _ _ _ hi]
  exact pxAt_by hp _ _
structure BlkO (w bl : Int) : Prop where
  ne : w / 4 ≠ 0
  m0 : 0 ≤ bl % (w / 4) ∧ bl % (w / 4) ≤ 64
  d0 : 0 ≤ bl / (w / 4) ∧ bl / (w / 4) ≤ 64
theorem blk_at {w h bl : Int} {px : List Int} (hp : PicO w h px) (hb : 0 ≤ bl ∧ bl ≤ 64) : BlkO w bl := by
  have g1:=hp.w1;have g2:=hp.w2
  have e3:=Int.emod_nonneg bl (show w / 4≠0 by omega)
  have e4:=Int.emod_lt_of_pos bl (show 0 < w / 4 by omega)
  have e5:0≤bl / (w / 4):=Int.ediv_nonneg hb.1 (by omega)
  have e6:bl / (w / 4)≤bl:=Int.ediv_le_self _ hb.1
  exact⟨by omega,⟨e3,by omega⟩,⟨e5,by omega⟩⟩
theorem m4_bd {b : Int} (h : 0 ≤ b ∧ b ≤ 64) : 0 ≤ b * 4 ∧ b * 4 ≤ 1000 := by omega
theorem m4_64 {b : Int} (h : 0 ≤ b ∧ b ≤ 64) : wrap64 (b * 4) = b * 4 := w64 (by omega) (by omega)
theorem mn_cl {n a : Int} (h : 1 ≤ n) : mn (mx a 0) (n - 1) = cl n a := by
  unfold mn mx cl
  split <;> split <;> (first|omega|(split <;> omega))
theorem at_idx {w h x0 y0 dx dy : Int} {px : List Int} (hp : PicO w h px) (i : Nat) (hi : i < 16) (hx : 0 ≤ x0 ∧ x0 ≤ 1000) (hy : 0 ≤ y0 ∧ y0 ≤ 1000) (hdx : -10 ≤ dx ∧ dx ≤ 10) (hdy : -10 ≤ dy ∧ dy ≤ 10) :
    wrap64 ((wrap64 ((mn (mx (wrap64 ((wrap64 (y0+(wrap64 (Int.tdiv (i:Int) 4))))+dy)) 0) (wrap64 (h - 1)))*w))+(mn (mx (wrap64 ((wrap64 (x0+(Int.tmod (i:Int) 4)))+dx)) 0) (wrap64 (w - 1))))=cl h (y0+(i:Int) / 4+dy)*w+cl w (x0+(i:Int) % 4+dx):=by
  have g1:=hp.w1;have g2:=hp.w2;have g3:=hp.h1;have g4:=hp.h2
  rw [Int.tdiv_eq_ediv_of_nonneg (by omega),Int.tmod_eq_emod_of_nonneg (by omega)]
  rw [w64 (x:=(i:Int) / 4) (by omega) (by omega),w64 (x:=y0+(i:Int) / 4) (by omega) (by omega),w64 (x:=y0+(i:Int) / 4+dy) (by omega) (by omega),w64 (x:=h - 1) (by omega) (by omega),
    w64 (x:=x0+(i:Int) % 4) (by omega) (by omega),w64 (x:=x0+(i:Int) % 4+dx) (by omega) (by omega),w64 (x:=w - 1) (by omega) (by omega),mn_cl (by omega),mn_cl (by omega)]
  have h5:=px_idx hp (cl_bd (n:=h) (x:=y0+(i:Int) / 4+dy) (by omega)) (cl_bd (n:=w) (x:=x0+(i:Int) % 4+dx) (by omega))
  rw [w64 (x:=cl h (y0+(i:Int) / 4+dy)*w) (by omega) (by omega),w64 (by omega) (by omega)]
theorem impl_corner_eq {w h bl : Int} {px : List Int} (hp : PicO w h px) (hb : 0 ≤ bl ∧ bl ≤ 64) : impl_Picture_corner.f w h px bl = some (bl % (w / 4) * 4, bl / (w / 4) * 4) := by
  have h6:=blk_at hp hb
  have g1:=hp.w1;have g2:=hp.w2
  unfold impl_Picture_corner.f
  rw [Int.tdiv_eq_ediv_of_nonneg (show 0≤w by omega),w64 (x:=w / 4) (by omega) (by omega),if_neg h6.ne,Int.tdiv_eq_ediv_of_nonneg hb.1,Int.tmod_eq_emod_of_nonneg hb.1,
    m4_64 h6.m0,w64 (x:=bl / (w / 4)) (Int.le_trans (by decide) h6.d0.1) (Int.le_trans h6.d0.2 (by decide)),m4_64 h6.d0]
theorem impl_at_ev {w h bl dx dy : Int} {px : List Int} (hp : PicO w h px) (hb : 0 ≤ bl ∧ bl ≤ 64) (hdx : -10 ≤ dx ∧ dx ≤ 10) (hdy : -10 ≤ dy ∧ dy ≤ 10) : Ev (fun k => impl_Picture_at.f k w h px bl dx dy) (blk w h px bl dx dy) := by
  have h6:=blk_at hp hb
  simp only [impl_Picture_at.f,impl_corner_eq hp hb,Option.bind_some]
  have key:∀ d i,i+d=16→Ev (fun k=>impl_Picture_at.l0 k dx dy (bl % (w / 4)*4) (bl / (w / 4)*4) (blkG w h px bl dx dy i) (i:Int) w h px) (blk w h px bl dx dy):=by
    intro d
    induction d with
    | zero =>
      intro i hi
      refine ev_succ ?_
      obtain rfl:i=16:=by omega
      have h1 : ¬ ((16:Nat):Int) < 16:=by omega
      simp only [impl_Picture_at.l0,h1,if_false]
      exact ev_ret rfl
    | succ d ih =>
      intro i hi
      refine ev_succ ?_
      have h1:(i:Int) < 16:=by omega
      have e:=at_idx hp i (by omega) (x0:=bl % (w / 4)*4) (y0:=bl / (w / 4)*4) (m4_bd h6.m0) (m4_bd h6.d0) hdx hdy
      have g1:=hp.w1;have g3:=hp.h1
      have h5:=px_idx hp (cl_bd (n:=h) (x:=bl / (w / 4)*4+(i:Int) / 4+dy) (by omega)) (cl_bd (n:=w) (x:=bl % (w / 4)*4+(i:Int) % 4+dx) (by omega))
      have h7:=h5.2.2.1
      have h8:=h5.2.2.2.1
      have h9:(blkG w h px bl dx dy i).length < 17592186044416:=by rw [blkG_len];omega
      have h4:=w64s (n:=i) (by omega)
      simp only [impl_Picture_at.l0,h1,e,h7,h8,h9,h4,if_true]
      have:=ih (i+1) (by omega)
      rw [blkG_succ] at this
      exact this
  exact key 16 0 (by omega)
theorem spec_at_eq {w h x y : Int} {px : List Int} (hp : PicO w h px) (hx : -100000 ≤ x ∧ x ≤ 100000) (hy : -100000 ≤ y ∧ y ≤ 100000) : spec_l14At.f w h px x y = some (pxAt w h px x y) := by
  have g1:=hp.w1;have g2:=hp.w2;have g3:=hp.h1;have g4:=hp.h2
  have hmax:∀ a,spec_l1Max.f 0 a=some (max 0 a):=by
    intro a;unfold spec_l1Max.f;split
    · congr 1;omega
    · congr 1;omega
  have hmin:∀ a b,spec_l1Min.f a b=some (min a b):=by
    intro a b;unfold spec_l1Min.f;split
    · congr 1;omega
    · congr 1;omega
  have hc:∀ n a:Int,1≤n→min (n - 1) (max 0 a)=cl n a:=by
    intro n a hn;unfold cl;split
    · omega
    · split <;> omega
  unfold spec_l14At.f pxAt
  simp only [hmax,hmin,Option.bind_some]
  rw [w64 (x:=w - 1) (by omega) (by omega),w64 (x:=h - 1) (by omega) (by omega),hc w x (by omega),hc h y (by omega)]
  have h5:=px_idx hp (cl_bd (n:=h) (x:=y) (by omega)) (cl_bd (n:=w) (x:=x) (by omega))
  rw [w64 (x:=cl h y*w) (by omega) (by omega),w64 (by omega) (by omega),if_pos h5.2.2.1,if_pos h5.2.2.2.1]
theorem spec_bx {b d : Int} (y x : Nat) (hx : x < 4) (hb : 0 ≤ b ∧ b ≤ 64) (hd : -10 ≤ d ∧ d ≤ 10) : wrap64 ((wrap64 ((wrap64 (b * 4)) + (x : Int))) + d) = b * 4 + ((4 * y + x : Nat) : Int) % 4 + d := by
  rw [w64 (x:=b*4) (by omega) (by omega),w64 (x:=b*4+(x:Int)) (by omega) (by omega),w64 (by omega) (by omega)]
  omega
theorem spec_by {b d : Int} (y x : Nat) (hx : x < 4) (hy : y < 4) (hb : 0 ≤ b ∧ b ≤ 64) (hd : -10 ≤ d ∧ d ≤ 10) : wrap64 ((wrap64 ((wrap64 ((wrap64 b) * 4)) + (y : Int))) + d) = b * 4 + ((4 * y + x : Nat) : Int) / 4 + d := by
  rw [w64 (x:=b) (by omega) (by omega),w64 (x:=b*4) (by omega) (by omega),w64 (x:=b*4+(y:Int)) (by omega) (by omega),w64 (by omega) (by omega)]
  omega
theorem xy_bd {b d m : Int} (hb : 0 ≤ b ∧ b ≤ 64) (hd : -10 ≤ d ∧ d ≤ 10) (hm : 0 ≤ m ∧ m ≤ 15) : -100000 ≤ b * 4 + m + d ∧ b * 4 + m + d ≤ 100000 := by omega
theorem mod_bd (n : Nat) (m : Nat) (h : n < 16) : 0 ≤ (n : Int) % 4 ∧ (n : Int) % 4 ≤ 15 := by omega
theorem div_bd (n : Nat) (m : Nat) (h : n < 16) : 0 ≤ (n : Int) / 4 ∧ (n : Int) / 4 ≤ 15 := by omega
theorem spec_block_ev {w h bl dx dy : Int} {px : List Int} (hp : PicO w h px) (hb : 0 ≤ bl ∧ bl ≤ 64) (hdx : -10 ≤ dx ∧ dx ≤ 10) (hdy : -10 ≤ dy ∧ dy ≤ 10) : Ev (fun k => spec_l14Block.f k w h px bl dx dy) (blk w h px bl dx dy) := by
  have h6:=blk_at hp hb
  have g1:=hp.w1;have g2:=hp.w2
  have ew:wrap64 (Int.tdiv w 4)=w / 4:=by rw [Int.tdiv_eq_ediv_of_nonneg (by omega),w64 (by omega) (by omega)]
  simp only [spec_l14Block.f,ew]
  have inner:∀ V,∀ y:Nat,y < 4→Ev (fun k=>spec_l14Block.l0 k bl dx dy (blkG w h px bl dx dy (4*y+4)) (w / 4) ((y+1:Nat):Int) w h px) V → ∀ d x,x+d=4→Ev (fun k=>spec_l14Block.l1 k bl dx dy (blkG w h px bl dx dy (4*y+x)) (w / 4) (y:Int) (x:Int) w h px) V:=by
    intro V y hy hnext d
    induction d with
    | zero =>
      intro x hx
      refine ev_succ ?_
      obtain rfl:x=4:=by omega
      have h1 : ¬ ((4:Nat):Int) < 4:=by omega
      have h4:=w64s (n:=y) (by omega)
      simp only [spec_l14Block.l1,h1,h4,if_false]
      exact hnext
    | succ d ih =>
      intro x hx
      refine ev_succ ?_
      have h1:(x:Int) < 4:=by omega
      have h4:=w64s (n:=x) (by omega)
      have e1:wrap64 ((wrap64 ((wrap64 ((Int.tmod bl (w / 4))*4))+(x:Int)))+dx)=bl % (w / 4)*4+((4*y+x:Nat):Int) % 4+dx:=by
        rw [Int.tmod_eq_emod_of_nonneg hb.1]
        exact spec_bx y x (by omega) h6.m0 hdx
      have e2:wrap64 ((wrap64 ((wrap64 ((wrap64 (Int.tdiv bl (w / 4)))*4))+(y:Int)))+dy)=bl / (w / 4)*4+((4*y+x:Nat):Int) / 4+dy:=by
        rw [Int.tdiv_eq_ediv_of_nonneg hb.1]
        exact spec_by y x (by omega) (by omega) h6.d0 hdy
      have h9:(blkG w h px bl dx dy (4*y+x)).length < 17592186044416:=by rw [blkG_len];omega
      have h15:4*y+x < 16:=by omega
      have h7:=h6.ne
      simp only [spec_l14Block.l1,h1,h7,e1,e2,h9,h4,if_true,if_false]
      rw [spec_at_eq hp (xy_bd h6.m0 hdx (mod_bd _ 0 h15)) (xy_bd h6.d0 hdy (div_bd _ 0 h15))]
      simp only [Option.bind_some]
      have:=ih (x+1) (by omega)
      rw [show 4*y+(x+1)=(4*y+x)+1 by omega,blkG_succ] at this
      exact this
  have outer:∀ d y,y+d=4→Ev (fun k=>spec_l14Block.l0 k bl dx dy (blkG w h px bl dx dy (4*y)) (w / 4) (y:Int) w h px) (blk w h px bl dx dy):=by
    intro d
    induction d with
    | zero =>
      intro y hy
      refine ev_succ ?_
      obtain rfl:y=4:=by omega
      have h1 : ¬ ((4:Nat):Int) < 4:=by omega
      simp only [spec_l14Block.l0,h1,if_false]
      exact ev_ret rfl
    | succ d ih =>
      intro y hy
      refine ev_succ ?_
      have h1:(y:Int) < 4:=by omega
      simp only [spec_l14Block.l0,h1,if_true]
      have:=ih (y+1) (by omega)
      rw [show 4*(y+1)=4*y+4 by omega] at this
      exact inner _ y (by omega) this 4 0 (by omega)
  exact outer 4 0 (by omega)
theorem blocks_bd {w h : Int} {px : List Int} (hp : PicO w h px) : 1 ≤ w / 4 ∧ w / 4 ≤ 4 ∧ 1 ≤ h / 4 ∧ h / 4 ≤ 4 ∧ 0 ≤ w / 4 * (h / 4) ∧ w / 4 * (h / 4) ≤ 16 := by
  have g1:=hp.w1;have g2:=hp.w2;have g3:=hp.h1;have g4:=hp.h2
  have e1:0≤w / 4*(h / 4):=Int.mul_nonneg (by omega) (by omega)
  have e2:w / 4*(h / 4)≤4*4:=Int.mul_le_mul (by omega) (by omega) (by omega) (by omega)
  exact⟨by omega,by omega,by omega,by omega,e1,by omega⟩
theorem spec_blocks_eq {w h : Int} {px : List Int} (hp : PicO w h px) : spec_l14Blocks.f w h px = some (w / 4 * (h / 4)) := by
  have h1:=blocks_bd hp
  have g1:=hp.w1;have g3:=hp.h1
  unfold spec_l14Blocks.f
  rw [Int.tdiv_eq_ediv_of_nonneg (show 0≤w by omega),Int.tdiv_eq_ediv_of_nonneg (show 0≤h by omega),w64 (x:=w / 4) (by omega) (by omega),w64 (x:=h / 4) (by omega) (by omega),w64 (by omega) (by omega)]
theorem impl_blocks_eq {w h : Int} {px : List Int} (hp : PicO w h px) : impl_Picture_blocks.f w h px = some (w / 4 * (h / 4)) := by
  have h1:=blocks_bd hp
  have g1:=hp.w1;have g3:=hp.h1
  unfold impl_Picture_blocks.f
  rw [Int.tdiv_eq_ediv_of_nonneg (show 0≤w by omega),Int.tdiv_eq_ediv_of_nonneg (show 0≤h by omega),w64 (x:=w / 4) (by omega) (by omega),w64 (x:=h / 4) (by omega) (by omega),w64 (by omega) (by omega)]

/-! #### how unlike two blocks are -/
def dif (a b : Int) : Int := if a < b then b - a else a - b
def offG (a b : List Int) : Nat → Int
  | 0 => 0
  | n + 1 => offG a b n + dif (rd a (n : Int)) (rd b (n : Int))
def ByN (a : List Int) (n : Nat) : Prop := ∀ i : Nat, i < n → 0 ≤ rd a (i : Int) ∧ rd a (i : Int) ≤ 255
theorem offG_bd {a b : List Int} {m : Nat} (ha : ByN a m) (hb : ByN b m) : ∀ n, n ≤ m → 0 ≤ offG a b n ∧ offG a b n ≤ 255 * (n : Int)
  | 0, _ => by unfold offG; omega
  | n + 1, h => by
    have h1:=offG_bd ha hb n (by omega)
    have h2:=ha n (by omega)
    have h3:=hb n (by omega)
    unfold offG dif
    split <;> omega
theorem impl_offBy_ev {a b : List Int} (hla : a.length = 16) (hlb : b.length = 16) (ha : ByN a 16) (hb : ByN b 16) : Ev (fun k => impl_offBy.f k a b) (offG a b 16) := by
  have key:∀ d i,i+d=16→Ev (fun k=>impl_offBy.l0 k b (offG a b i) a (a.length:Int) (i:Int)) (offG a b 16):=by
    intro d
    induction d with
    | zero =>
      intro i hi
      refine ev_succ ?_
      obtain rfl:i=16:=by omega
      have h1 : ¬ ((16:Nat):Int) < (a.length:Int):=by omega
      simp only [impl_offBy.l0,h1,if_false]
      exact ev_ret rfl
    | succ d ih =>
      intro i hi
      refine ev_succ ?_
      have h1:(i:Int) < (a.length:Int):=by omega
      have h2:0≤(i:Int):=by omega
      have h3:(i:Int) < (b.length:Int):=by omega
      have h4:=w64s (n:=i) (by omega)
      have h5:=offG_bd ha hb i (by omega)
      have h6:=ha i (by omega)
      have h7:=hb i (by omega)
      have e:wrap64 (offG a b i+mx (wrap64 (rd a (i:Int) - rd b (i:Int))) (wrap64 (rd b (i:Int) - rd a (i:Int))))=offG a b (i+1):=by
        rw [w64 (x:=rd a (i:Int) - rd b (i:Int)) (by omega) (by omega),w64 (x:=rd b (i:Int) - rd a (i:Int)) (by omega) (by omega)]
        have:mx (rd a (i:Int) - rd b (i:Int)) (rd b (i:Int) - rd a (i:Int))=dif (rd a (i:Int)) (rd b (i:Int)):=by
          unfold mx dif
          split <;> split <;> omega
        have h8:=(offG_bd ha hb (i+1) (by omega))
        rw [this]
        show wrap64 (offG a b (i+1))=_
        exact w64 (by omega) (by omega)
      simp only [impl_offBy.l0,h1,h2,h3,h4,e,if_true]
      exact ih (i+1) (by omega)
  exact key 16 0 (by omega)
/-! #### the program's order of the ways -/
def cmpI (a b : Int) : Int := if a < b then -1 else if b < a then 1 else 0
theorem compare_eq (a b : Int) : cmp_Compare_int64.f a b = some (cmpI a b) := by
  unfold cmp_Compare_int64.f cmp_isNaN_int64.f cmpI
  simp only [bne_self_eq_false,Option.bind_some,Bool.false_eq_true,if_false]
  by_cases h:a < b
  · simp [h]
  · by_cases h2:b < a
    · simp [h,h2]
    · simp [h,h2]
def orL : List Int → Int
  | [] => 0
  | x :: xs => if x = 0 then orL xs else x
theorem cmp_or_ev (xs : List Int) (hl : xs.length ≤ 100) : Ev (fun k => cmp_Or_int.f k xs) (orL xs) := by
  have key:∀ d i,i+d=xs.length→Ev (fun k=>cmp_Or_int.l0 k 0 xs (xs.length:Int) (i:Int)) (orL (xs.drop i)):=by
    intro d
    induction d with
    | zero =>
      intro i hi
      refine ev_succ ?_
      have h1 : ¬ (i:Int) < (xs.length:Int):=by omega
      simp only [cmp_Or_int.l0,h1,if_false]
      exact ev_ret (by rw [drop_end (by omega)];rfl)
    | succ d ih =>
      intro i hi
      refine ev_succ ?_
      have h1:(i:Int) < (xs.length:Int):=by omega
      have h2:0≤(i:Int):=by omega
      have h4:=w64s (n:=i) (by omega)
      simp only [cmp_Or_int.l0,h1,h2,h4,if_true]
      rw [drop_rd xs i (by omega)]
      refine ev_ite (fun h=>?_) (fun h=>ev_ret ?_)
      · simp only [orL,h,if_true]
        exact ih (i+1) (by omega)
      · simp only [orL,h,if_false]
  exact key xs.length 0 (by omega)
def Wy.good (a : Wy) : Prop := a.d = a.x * a.x + a.y * a.y ∧ (-2 ≤ a.x ∧ a.x ≤ 2) ∧ (-2 ≤ a.y ∧ a.y ≤ 2)
theorem sq_bd {x : Int} (h : -2 ≤ x ∧ x ≤ 2) : 0 ≤ x * x ∧ x * x ≤ 4 := by
  have:x = -2∨x = -1∨x=0∨x=1∨x=2:=by omega
  rcases this with rfl|rfl|rfl|rfl|rfl <;> decide
theorem w_far {x y : Int} (hx : -2 ≤ x ∧ x ≤ 2) (hy : -2 ≤ y ∧ y ≤ 2) : wrap64 ((wrap64 (x * x)) + (wrap64 (y * y))) = x * x + y * y := by
  have h1:=sq_bd hx
  have h2:=sq_bd hy
  rw [w64 (x:=x*x) (by omega) (by omega),w64 (x:=y*y) (by omega) (by omega),w64 (by omega) (by omega)]
theorem motion_1_ev {a b : Wy} (ha : a.good) (hb : b.good) : EvP (fun k => impl_motion_1.f k a.o a.x a.y b.o b.x b.y) (fun t => t < 0 ↔ Wy.lt a b) := by
  simp only [impl_motion_1.f,compare_eq,Option.bind_some,w_far ha.2.1 ha.2.2,w_far hb.2.1 hb.2.2,← ha.1,← hb.1]
  refine evp_ebind (cmp_or_ev _ (by simp)) (evp_now ?_)
  simp only [orL,cmpI,Wy.lt]
  repeat' split
  all_goals first|omega|(constructor <;> intro <;> omega)
def toS (a : Wy) : S89 := ⟨a.o, a.x, a.y⟩
theorem motion_go_ev : ∀ (xs : List Wy) (m : Wy), m.good → (∀ x ∈ xs, x.good) → Ev (fun k => impl_motion_go k (toS m) (xs.map toS)) ((bestLt m xs).o, (bestLt m xs).x, (bestLt m xs).y)
  | [], m, _, _ => ev_ret rfl
  | x :: xs, m, hm, hx => by
    have h1:=hx x (by simp)
    obtain⟨t,ht,hlt⟩:=motion_1_ev h1 hm
    simp only [List.map_cons,impl_motion_go]
    refine ev_bind ht (ev_ite (fun h=>?_) (fun h=>?_))
    · unfold bestLt
      rw [if_pos (hlt.1 h)]
      exact motion_go_ev xs x h1 (fun y hy=>hx y (List.mem_cons_of_mem _ hy))
    · unfold bestLt
      rw [if_neg (fun hh=>h (hlt.2 hh))]
      exact motion_go_ev xs m hm (fun y hy=>hx y (List.mem_cons_of_mem _ hy))
/-! #### both sides -/
def motO (w h : Int) (old p : List Int) (bl : Int) (y x : Int) : Int := offG (blk w h p bl 0 0) (blk w h old bl x y) 16
def motW (w h : Int) (old p : List Int) (bl : Int) : Wy := bestOff (wyOf (motO w h old p bl) (0, 0)) ((wyFar.drop 1).map (wyOf (motO w h old p bl)))
theorem motO_bd {w h : Int} {old p : List Int} (ho : PicO w h old) (hp : PicO w h p) (bl y x : Int) : 0 ≤ motO w h old p bl y x ∧ motO w h old p bl y x ≤ 4080 := by
  have:=offG_bd (a:=blk w h p bl 0 0) (b:=blk w h old bl x y) (m:=16) (fun i hi=>blk_by hp _ _ _ hi) (fun i hi=>blk_by ho _ _ _ hi) 16 (by omega)
  unfold motO
  omega
def wayPairs (n : Nat) : List (Int × Int) := (List.range n).map fun (i : Nat) => ((i : Int) / 5 - 2, (i : Int) % 5 - 2)
def waysG (o : Int → Int → Int) (n : Nat) : List Wy := (wayPairs n).map (wyOf o)
theorem waysG_len (o : Int → Int → Int) (n : Nat) : (waysG o n).length = n := by simp [waysG, wayPairs]
theorem waysG_succ (o : Int → Int → Int) (n : Nat) : waysG o (n + 1) = waysG o n ++ [wyOf o ((n : Int) / 5 - 2, (n : Int) % 5 - 2)] := by simp [waysG, wayPairs, List.range_succ]
theorem wayPairs_all : wayPairs 25 = (-2, -2) :: [(-2, -1), (-2, 0), (-2, 1), (-2, 2), (-1, -2), (-1, -1), (-1, 0), (-1, 1), (-1, 2), (0, -2), (0, -1), (0, 0), (0, 1), (0, 2), (1, -2), (1, -1), (1, 0), (1, 1), (1, 2), (2, -2), (2, -1), (2, 0), (2, 1), (2, 2)] := by decide
theorem waysG_all (o : Int → Int → Int) : waysG o 25 = wyAll o := by
  unfold waysG
  rw [wayPairs_all]
  rfl
theorem wyAll_good (o : Int → Int → Int) : ∀ x ∈ wyAll o, x.good := by
  intro x hx
  rw [← waysG_all] at hx
  obtain⟨p,hp,rfl⟩:=List.mem_map.1 hx
  have h:∀ p ∈ wayPairs 25,(-2≤p.2∧p.2≤2)∧(-2≤p.1∧p.1≤2):=by decide
  exact⟨rfl,h p hp⟩
theorem impl_motion_ev {w h bl : Int} {old p : List Int} (ho : PicO w h old) (hp : PicO w h p) (hb : 0 ≤ bl ∧ bl ≤ 64) : Ev (fun k => impl_motion.f k w h old w h p bl) ((motW w h old p bl).x, (motW w h old p bl).y) := by
  simp only [impl_motion.f]
  refine ev_bind (impl_at_ev hp hb (by omega) (by omega)) ?_
  have inner:∀ V,∀ y:Nat,y < 5→Ev (fun k=>impl_motion.l0 k bl (blk w h p bl 0 0) ((waysG (motO w h old p bl) (5*y+5)).map toS) (((y+1:Nat):Int) - 2) w h old) V → ∀ d x,x+d=5→Ev (fun k=>impl_motion.l1 k bl (blk w h p bl 0 0) ((waysG (motO w h old p bl) (5*y+x)).map toS) ((y:Int) - 2) ((x:Int) - 2) w h old) V:=by
    intro V y hy hnext d
    induction d with
    | zero =>
      intro x hx
      refine ev_succ ?_
      obtain rfl:x=5:=by omega
      have h1 : ¬ ((5:Nat):Int) - 2≤2:=by omega
      have h4:wrap64 ((y:Int) - 2+1)=((y+1:Nat):Int) - 2:=by rw [w64 (by omega) (by omega)];omega
      simp only [impl_motion.l1,h1,h4,if_false]
      exact hnext
    | succ d ih =>
      intro x hx
      refine ev_succ ?_
      have h1:(x:Int) - 2≤2:=by omega
      have h4:wrap64 ((x:Int) - 2+1)=((x+1:Nat):Int) - 2:=by rw [w64 (by omega) (by omega)];omega
      simp only [impl_motion.l1,h1,h4,if_true]
      refine ev_bind (impl_at_ev ho hb (by omega) (by omega)) ?_
      refine ev_bind (impl_offBy_ev (blkG_len _ _ _ _ _ _ _) (blkG_len _ _ _ _ _ _ _) (fun i hi=>blk_by hp _ _ _ hi) (fun i hi=>blk_by ho _ _ _ hi)) ?_
      have h9:((waysG (motO w h old p bl) (5*y+x)).map toS).length < 5864062014805:=by rw [List.length_map,waysG_len];omega
      simp only [h9,if_true]
      have:=ih (x+1) (by omega)
      rw [show 5*y+(x+1)=(5*y+x)+1 by omega,waysG_succ,List.map_append] at this
      have e1:((5*y+x:Nat):Int) / 5 - 2=(y:Int) - 2:=by omega
      have e2:((5*y+x:Nat):Int) % 5 - 2=(x:Int) - 2:=by omega
      rw [e1,e2] at this
      exact this
  have outer:∀ d y,y+d=5→Ev (fun k=>impl_motion.l0 k bl (blk w h p bl 0 0) ((waysG (motO w h old p bl) (5*y)).map toS) ((y:Int) - 2) w h old) ((motW w h old p bl).x,(motW w h old p bl).y):=by
    intro d
    induction d with
    | zero =>
      intro y hy
      refine ev_succ ?_
      obtain rfl:y=5:=by omega
      have h1 : ¬ ((5:Nat):Int) - 2≤2:=by omega
      simp only [impl_motion.l0,h1,if_false]
      rw [show 5*5=25 by rfl,waysG_all]
      obtain⟨m,xs,e⟩:∃ m xs,wyAll (motO w h old p bl)=m :: xs:=⟨_,_,rfl⟩
      have hg:=wyAll_good (motO w h old p bl)
      rw [e] at hg ⊢
      have h2:=motion_go_ev xs m (hg m (by simp)) (fun x hx=>hg x (List.mem_cons_of_mem _ hx))
      have h3:=wy_same (motO w h old p bl) m (wyOf (motO w h old p bl) (0,0)) xs ((wyFar.drop 1).map (wyOf (motO w h old p bl))) e rfl
      refine ev_bind h2 (ev_ret ?_)
      rw [h3]
      rfl
    | succ d ih =>
      intro y hy
      refine ev_succ ?_
      have h1:(y:Int) - 2≤2:=by omega
      simp only [impl_motion.l0,h1,if_true]
      have:=ih (y+1) (by omega)
      rw [show 5*(y+1)=5*y+5 by omega] at this
      exact inner _ y (by omega) this 5 0 (by omega)
  exact outer 5 0 (by omega)
/-! #### the reference's search -/
def mstep (o : Int → Int → Int) (s : Int × Int × Int) (q : Int × Int) : Int × Int × Int := if s.2.2 < 0 then (q.2, q.1, o q.1 q.2) else if o q.1 q.2 < s.2.2 then (q.2, q.1, o q.1 q.2) else s
def rowFrom (o : Int → Int → Int) (far y : Int) : Nat → Int × Int × Int → Int × Int × Int
  | 0, s => s
  | d + 1, s => rowFrom o far y d (if (2 - (d : Int)) * (2 - (d : Int)) + y * y = far then mstep o s (y, 2 - (d : Int)) else s)
def colFrom (o : Int → Int → Int) (far : Int) : Nat → Int × Int × Int → Int × Int × Int
  | 0, s => s
  | d + 1, s => colFrom o far d (rowFrom o far (2 - (d : Int)) 5 s)
def farFrom (o : Int → Int → Int) : Nat → Int × Int × Int → Int × Int × Int
  | 0, s => s
  | d + 1, s => farFrom o d (colFrom o (8 - (d : Int)) 5 s)
def rowP (far y : Int) : Nat → List (Int × Int)
  | 0 => []
  | d + 1 => if (2 - (d : Int)) * (2 - (d : Int)) + y * y = far then (y, 2 - (d : Int)) :: rowP far y d else rowP far y d
def colP (far : Int) : Nat → List (Int × Int)
  | 0 => []
  | d + 1 => rowP far (2 - (d : Int)) 5 ++ colP far d
def farP : Nat → List (Int × Int)
  | 0 => []
  | d + 1 => colP (8 - (d : Int)) 5 ++ farP d
theorem rowFrom_fold (o : Int → Int → Int) (far y : Int) : ∀ d s, rowFrom o far y d s = (rowP far y d).foldl (mstep o) s
  | 0, s => rfl
  | d + 1, s => by
    unfold rowFrom rowP
    rw [rowFrom_fold o far y d]
    split
    · rfl
    · rfl
theorem colFrom_fold (o : Int → Int → Int) (far : Int) : ∀ d s, colFrom o far d s = (colP far d).foldl (mstep o) s
  | 0, s => rfl
  | d + 1, s => by
    unfold colFrom colP
    rw [colFrom_fold o far d,List.foldl_append,rowFrom_fold]
theorem farFrom_fold (o : Int → Int → Int) : ∀ d s, farFrom o d s = (farP d).foldl (mstep o) s
  | 0, s => rfl
  | d + 1, s => by
    unfold farFrom farP
    rw [farFrom_fold o d,List.foldl_append,colFrom_fold]
theorem farP_all : farP 9 = wyFar := by decide +kernel
theorem farFrom_all (o : Int → Int → Int) (s : Int × Int × Int) : farFrom o 9 s = wyFar.foldl (mstep o) s := by rw [farFrom_fold, farP_all]
theorem fold_best (o : Int → Int → Int) (h0 : ∀ y x, 0 ≤ o y x) : ∀ (qs : List (Int × Int)) (q : Int × Int), qs.foldl (mstep o) (q.2, q.1, o q.1 q.2) = ((bestOff (wyOf o q) (qs.map (wyOf o))).x, (bestOff (wyOf o q) (qs.map (wyOf o))).y, (bestOff (wyOf o q) (qs.map (wyOf o))).o)
  | [], q => rfl
  | r :: qs, q => by
    have hn : ¬ o q.1 q.2 < 0:=by have:=h0 q.1 q.2;omega
    simp only [List.foldl_cons,List.map_cons,mstep,bestOff]
    rw [if_neg hn]
    by_cases h:o r.1 r.2 < o q.1 q.2
    · rw [if_pos h,if_pos (show(wyOf o r).o < (wyOf o q).o from h)]
      exact fold_best o h0 qs r
    · rw [if_neg h,if_neg (show ¬ (wyOf o r).o < (wyOf o q).o from h)]
      exact fold_best o h0 qs q
theorem search_best (o : Int → Int → Int) (h0 : ∀ y x, 0 ≤ o y x) : farFrom o 9 (0, 0, -1) = ((bestOff (wyOf o (0, 0)) ((wyFar.drop 1).map (wyOf o))).x, (bestOff (wyOf o (0, 0)) ((wyFar.drop 1).map (wyOf o))).y, (bestOff (wyOf o (0, 0)) ((wyFar.drop 1).map (wyOf o))).o) := by
  rw [farFrom_all]
  obtain⟨qs,e,e2⟩:∃ qs,wyFar=(0,0) :: qs∧wyFar.drop 1=qs:=⟨_,rfl,rfl⟩
  rw [e2,e,List.foldl_cons]
  have e3:mstep o (0,0,-1) (0,0)=(0,0,o 0 0):=by
    unfold mstep
    rw [if_pos (by decide)]
  rw [e3]
  exact fold_best o h0 qs (0,0)
set_option maxHeartbeats 2000000 in
theorem spec_motion_ev {w h bl : Int} {old p : List Int} (ho : PicO w h old) (hp : PicO w h p) (hb : 0 ≤ bl ∧ bl ≤ 64) : Ev (fun k => spec_l14Motion.f k w h old w h p bl) ((motW w h old p bl).x, (motW w h old p bl).y) := by
  simp only [spec_l14Motion.f]
  refine ev_bind (spec_block_ev hp hb (by omega) (by omega)) ?_
  have hob:=motO_bd ho hp bl
  have sum:∀ V (s:Int × Int × Int) (far y x:Int),(-2≤y∧y≤2)→(-2≤x∧x≤2) →
      Ev (fun k=>spec_l14Motion.l2 k bl (mstep (motO w h old p bl) s (y,x)).1 (mstep (motO w h old p bl) s (y,x)).2.1 (mstep (motO w h old p bl) s (y,x)).2.2 (blk w h p bl 0 0) far y (x+1) w h old) V →
      ∀ d i,i+d=16→Ev (fun k=>spec_l14Motion.l3 k bl s.1 s.2.1 s.2.2 (blk w h p bl 0 0) far y x (offG (blk w h p bl 0 0) (blk w h old bl x y) i) (blk w h old bl x y) (i:Int) w h old) V:=by
    intro V s far y x hy hx hnext d
    induction d with
    | zero =>
      intro i hi
      refine ev_succ ?_
      obtain rfl:i=16:=by omega
      have h1 : ¬ ((16:Nat):Int) < 16:=by omega
      have h4:wrap64 (x+1)=x+1:=w64 (by omega) (by omega)
      simp only [spec_l14Motion.l3,h1,h4,if_false]
      have hm:offG (blk w h p bl 0 0) (blk w h old bl x y) 16=motO w h old p bl y x:=rfl
      rw [hm]
      unfold mstep at hnext
      refine ev_ite (fun h2=>?_) (fun h2=>?_)
      · rw [if_pos h2] at hnext;exact hnext
      · rw [if_neg h2] at hnext
        refine ev_ite (fun h3=>?_) (fun h3=>?_)
        · rw [if_pos h3] at hnext;exact hnext
        · rw [if_neg h3] at hnext;exact hnext
    | succ d ih =>
      intro i hi
      refine ev_succ ?_
      have h1:(i:Int) < 16:=by omega
      have h2:0≤(i:Int):=by omega
      have h3:(i:Int) < ((blk w h p bl 0 0).length:Int):=by rw [blkG_len];omega
      have h5:(i:Int) < ((blk w h old bl x y).length:Int):=by rw [blkG_len];omega
      have h4:=w64s (n:=i) (by omega)
      have ha:0≤rd (blk w h p bl 0 0) (i:Int)∧rd (blk w h p bl 0 0) (i:Int)≤255:=blk_by hp bl 0 0 (n:=16) (i:=i) (by omega)
      have hc:0≤rd (blk w h old bl x y) (i:Int)∧rd (blk w h old bl x y) (i:Int)≤255:=blk_by ho bl x y (n:=16) (i:=i) (by omega)
      have hbd:=offG_bd (a:=blk w h p bl 0 0) (b:=blk w h old bl x y) (m:=16) (fun i hi=>blk_by hp _ _ _ hi) (fun i hi=>blk_by ho _ _ _ hi)
      have e:spec_l1Abs.f (wrap64 ((rd (blk w h p bl 0 0) (i:Int)) - (rd (blk w h old bl x y) (i:Int))))=some (dif (rd (blk w h p bl 0 0) (i:Int)) (rd (blk w h old bl x y) (i:Int))):=by
        rw [w64 (by omega) (by omega)]
        unfold spec_l1Abs.f dif
        split
        · rw [w64 (by omega) (by omega),if_pos (by omega)];congr 1;omega
        · rw [if_neg (by omega)]
      have e2:wrap64 (offG (blk w h p bl 0 0) (blk w h old bl x y) i+dif (rd (blk w h p bl 0 0) (i:Int)) (rd (blk w h old bl x y) (i:Int)))=offG (blk w h p bl 0 0) (blk w h old bl x y) (i+1):=by
        have:=hbd (i+1) (by omega)
        exact w64 (x:=offG (blk w h p bl 0 0) (blk w h old bl x y) (i+1)) (by omega) (by omega)
      simp only [spec_l14Motion.l3,h1,h2,h3,h5,h4,e,e2,if_true,Option.bind_some]
      exact ih (i+1) (by omega)
  have row:∀ V (far y:Int),(-2≤y∧y≤2) → ∀ d:Nat,d≤5 → ∀ s:Int × Int × Int,
      (Ev (fun k=>spec_l14Motion.l1 k bl (rowFrom (motO w h old p bl) far y d s).1 (rowFrom (motO w h old p bl) far y d s).2.1 (rowFrom (motO w h old p bl) far y d s).2.2 (blk w h p bl 0 0) far (y+1) w h old) V) →
      Ev (fun k=>spec_l14Motion.l2 k bl s.1 s.2.1 s.2.2 (blk w h p bl 0 0) far y (3 - (d:Int)) w h old) V:=by
    intro V far y hy d
    induction d with
    | zero =>
      intro _ s hnext
      refine ev_succ ?_
      have h1 : ¬ (3:Int) - ((0:Nat):Int)≤2:=by omega
      have h4:wrap64 (y+1)=y+1:=w64 (by omega) (by omega)
      simp only [spec_l14Motion.l2,h1,h4,if_false]
      exact hnext
    | succ d ih =>
      intro hd s hnext
      refine ev_succ ?_
      have e0:(3:Int) - ((d+1:Nat):Int)=2 - (d:Int):=by omega
      rw [e0]
      have h1:(2:Int) - (d:Int)≤2:=by omega
      have h4:wrap64 (2 - (d:Int)+1)=3 - (d:Int):=by rw [w64 (by omega) (by omega)];omega
      have e1:=w_far (x:=2 - (d:Int)) (y:=y) (by omega) hy
      simp only [spec_l14Motion.l2,h1,h4,e1,if_true]
      simp only [rowFrom] at hnext
      refine ev_ite (fun h2=>?_) (fun h2=>?_)
      · rw [if_pos h2] at hnext
        refine ev_bind (spec_block_ev ho hb (by omega) (by omega)) ?_
        refine sum V s far y (2 - (d:Int)) hy (by omega) ?_ 16 0 (by omega)
        rw [show(2:Int) - (d:Int)+1=3 - (d:Int) by omega]
        exact ih (by omega) _ hnext
      · rw [if_neg h2] at hnext
        exact ih (by omega) _ hnext
  have col:∀ V (far:Int),(0≤far∧far≤8) → ∀ d:Nat,d≤5 → ∀ s:Int × Int × Int,
      (Ev (fun k=>spec_l14Motion.l0 k bl (colFrom (motO w h old p bl) far d s).1 (colFrom (motO w h old p bl) far d s).2.1 (colFrom (motO w h old p bl) far d s).2.2 (blk w h p bl 0 0) (far+1) w h old) V) →
      Ev (fun k=>spec_l14Motion.l1 k bl s.1 s.2.1 s.2.2 (blk w h p bl 0 0) far (3 - (d:Int)) w h old) V:=by
    intro V far hf d
    induction d with
    | zero =>
      intro _ s hnext
      refine ev_succ ?_
      have h1 : ¬ (3:Int) - ((0:Nat):Int)≤2:=by omega
      have h4:wrap64 (far+1)=far+1:=w64 (by omega) (by omega)
      simp only [spec_l14Motion.l1,h1,h4,if_false]
      exact hnext
    | succ d ih =>
      intro hd s hnext
      refine ev_succ ?_
      have e0:(3:Int) - ((d+1:Nat):Int)=2 - (d:Int):=by omega
      rw [e0]
      have h1:(2:Int) - (d:Int)≤2:=by omega
      simp only [spec_l14Motion.l1,h1,if_true]
      simp only [colFrom] at hnext
      have:=row V far (2 - (d:Int)) (by omega) 5 (by omega) s (by
        rw [show(2:Int) - (d:Int)+1=3 - (d:Int) by omega]
        exact ih (by omega) _ hnext)
      exact this
  have all:∀ d:Nat,d≤9 → ∀ s:Int × Int × Int,
      Ev (fun k=>spec_l14Motion.l0 k bl s.1 s.2.1 s.2.2 (blk w h p bl 0 0) (9 - (d:Int)) w h old) ((farFrom (motO w h old p bl) d s).1,(farFrom (motO w h old p bl) d s).2.1):=by
    intro d
    induction d with
    | zero =>
      intro _ s
      refine ev_succ ?_
      have h1 : ¬ (9:Int) - ((0:Nat):Int)≤8:=by omega
      simp only [spec_l14Motion.l0,h1,if_false]
      exact ev_ret rfl
    | succ d ih =>
      intro hd s
      refine ev_succ ?_
      have e0:(9:Int) - ((d+1:Nat):Int)=8 - (d:Int):=by omega
      rw [e0]
      have h1:(8:Int) - (d:Int)≤8:=by omega
      simp only [spec_l14Motion.l0,h1,if_true]
      have:=col _ (8 - (d:Int)) (by omega) 5 (by omega) s (by
        rw [show(8:Int) - (d:Int)+1=9 - (d:Int) by omega]
        exact ih (by omega) _)
      exact this
  have:=all 9 (by omega) (0,0,-1)
  rw [search_best (motO w h old p bl) (fun y x=>(hob y x).1)] at this
  exact this

/-! #### Motion as a whole -/
def twoB (w0 h0 : Int) (old : List Int) (w1 h1 : Int) (p : List Int) : Bool := picB w0 h0 old && picB w1 h1 p && decide (w0 = w1 ∧ h0 = h1)
theorem spec_two_ev (w0 h0 : Int) (old : List Int) (w1 h1 : Int) (p : List Int) : Ev (fun k => spec_l14Two.f k w0 h0 old w1 h1 p) (twoB w0 h0 old w1 h1 p) := by
  unfold twoB
  simp only [spec_l14Two.f]
  refine ev_bind (spec_PictureOk_ev w0 h0 old) (ev_ifb (fun e=>?_) (fun e=>ev_ret (by rw [e];simp)))
  refine ev_bind (spec_PictureOk_ev w1 h1 p) (ev_ifb (fun e2=>?_) (fun e2=>ev_ret (by rw [e2];simp)))
  rw [e,e2]
  by_cases hw:w0=w1
  · simp only [hw,if_true]
    refine ev_ret ?_
    congr 1
    rw [Bool.eq_iff_iff]
    simp
  · simp only [hw,if_false]
    exact ev_ret (by simp)
theorem impl_two_eq (w0 h0 : Int) (old : List Int) (w1 h1 : Int) (p : List Int) : impl_bothOk.f w0 h0 old w1 h1 p = some (twoB w0 h0 old w1 h1 p) := by
  unfold twoB impl_bothOk.f
  simp only [impl_PictureOk_eq,Option.bind_some]
  cases picB w0 h0 old
  · simp
  · cases picB w1 h1 p
    · simp
    · by_cases hw:w0=w1
      · simp only [hw,if_true]
        congr 1
        rw [Bool.eq_iff_iff]
        simp
      · simp [hw]
theorem twoB_of {w0 h0 w1 h1 : Int} {old p : List Int} (h : twoB w0 h0 old w1 h1 p = true) : w0 = w1 ∧ h0 = h1 ∧ PicO w0 h0 old ∧ PicO w1 h1 p := by
  unfold twoB at h
  simp only [Bool.and_eq_true,decide_eq_true_eq] at h
  exact⟨h.2.1,h.2.2,picO_of h.1.1,picO_of h.1.2⟩
def motR (w0 h0 : Int) (old : List Int) (w1 h1 : Int) (p : List Int) (bl : Int) : Int × Int := if twoB w0 h0 old w1 h1 p = true ∧ 0 ≤ bl ∧ bl < w1 / 4 * (h1 / 4) then ((motW w1 h1 old p bl).x, (motW w1 h1 old p bl).y) else (0, 0)

/-! #### a block turned -/
def turnV (xs : List Int) : List Int := turnG (turnMid xs 4) 4 0
theorem turnCol_len (m : List Int) (x : Int) : (turnCol m x).length = 4 := rfl
theorem spec_l14Turn_ev (xs : List Int) (h : xs.length = 16) : Ev (fun k => spec_l14Turn.f k xs) (turnV xs) := by
  have inner:∀ (m:List Int),m.length=16 → ∀ V:List Int,∀ x:Nat,x < 4→Ev (fun k=>spec_l14Turn.l1 k m (turnG m (x+1) 0) ((x+1:Nat):Int)) V → ∀ d y,y+d=4→Ev (fun k=>spec_l14Turn.l2 k m (turnG m x y) (x:Int) (turnCol m (x:Int)) (y:Int)) V:=by
    intro m hm V x hx hnext d
    induction d with
    | zero =>
      intro y hy
      refine ev_succ ?_
      obtain rfl:y=4:=by omega
      have h1 : ¬ ((4:Nat):Int) < 4:=by omega
      have h4:=w64s (n:=x) (by omega)
      simp only [spec_l14Turn.l2,h1,h4,if_false]
      rw [turnG_next]
      exact hnext
    | succ d ih =>
      intro y hy
      refine ev_succ ?_
      have h1:(y:Int) < 4:=by omega
      have h2:0≤(y:Int):=by omega
      have h3:(y:Int) < ((turnCol m (x:Int)).length:Int):=by rw [turnCol_len];omega
      have w1:wrap64 (4*(y:Int))=4*(y:Int):=w64 (by omega) (by omega)
      have w2:wrap64 (4*(y:Int)+(x:Int))=((4*y+x:Nat):Int):=by rw [w64 (by omega) (by omega)];omega
      have h5:0≤((4*y+x:Nat):Int):=by omega
      have h6:((4*y+x:Nat):Int) < ((turnG m x y).length:Int):=by rw [turnG_len];omega
      have h7:=w64s (n:=y) (by omega)
      have hset:(turnG m x y).set (4*y+x) (rd (turnCol m (x:Int)) (y:Int))=turnG m x (y+1):=turnG_set m x y hx (by omega)
      simp only [spec_l14Turn.l2,h1,h2,h3,w1,w2,h5,h6,h7,if_true,Int.toNat_natCast,hset]
      exact ih (y+1) (by omega)
  have outer:∀ (m:List Int),m.length=16 → ∀ d x,x+d=4→Ev (fun k=>spec_l14Turn.l1 k m (turnG m x 0) (x:Int)) (turnG m 4 0):=by
    intro m hm d
    induction d with
    | zero =>
      intro x hx
      refine ev_succ ?_
      obtain rfl:x=4:=by omega
      have h1 : ¬ ((4:Nat):Int) < 4:=by omega
      simp only [spec_l14Turn.l1,h1,if_false]
      exact ev_ret rfl
    | succ d ih =>
      intro x hx
      refine ev_succ ?_
      have h1:(x:Int) < 4:=by omega
      have h2:0≤(x:Int):=by omega
      have h3:(x:Int) < (m.length:Int):=by omega
      have w1:wrap64 ((x:Int)+4)=4+(x:Int):=by rw [w64 (by omega) (by omega)];omega
      have w2:wrap64 ((x:Int)+8)=8+(x:Int):=by rw [w64 (by omega) (by omega)];omega
      have w3:wrap64 ((x:Int)+12)=12+(x:Int):=by rw [w64 (by omega) (by omega)];omega
      have a1:0≤4+(x:Int):=by omega
      have a2:0≤8+(x:Int):=by omega
      have a3:0≤12+(x:Int):=by omega
      have b1:4+(x:Int) < (m.length:Int):=by omega
      have b2:8+(x:Int) < (m.length:Int):=by omega
      have b3:12+(x:Int) < (m.length:Int):=by omega
      simp only [spec_l14Turn.l1,h1,h2,h3,w1,w2,w3,a1,a2,a3,b1,b2,b3,if_true]
      refine ev_some (a:=turnCol m (x:Int)) rfl ?_
      exact inner m hm _ x (by omega) (ih (x+1) (by omega)) 4 0 (by omega)
  have first:∀ d i,i+d=4→Ev (fun k=>spec_l14Turn.l0 k xs (turnMid xs i) (i:Int)) (turnV xs):=by
    intro d
    induction d with
    | zero =>
      intro i hi
      refine ev_succ ?_
      obtain rfl:i=4:=by omega
      have h1 : ¬ ((4:Nat):Int) < 4:=by omega
      have h2:16≤35184372088832:=by omega
      simp only [spec_l14Turn.l0,h1,h2,if_false,if_true]
      have:=outer (turnMid xs 4) (turnMid_len xs 4) 4 0 (by omega)
      rw [turnG_0] at this
      exact this
    | succ d ih =>
      intro i hi
      refine ev_succ ?_
      have h1:(i:Int) < 4:=by omega
      have w0:wrap64 (4*(i:Int))=4*(i:Int):=w64 (by omega) (by omega)
      have w1:wrap64 (4*(i:Int)+1)=4*(i:Int)+1:=w64 (by omega) (by omega)
      have w2:wrap64 (4*(i:Int)+2)=4*(i:Int)+2:=w64 (by omega) (by omega)
      have w3:wrap64 (4*(i:Int)+3)=4*(i:Int)+3:=w64 (by omega) (by omega)
      have a0:0≤4*(i:Int):=by omega
      have a1:0≤4*(i:Int)+1:=by omega
      have a2:0≤4*(i:Int)+2:=by omega
      have a3:0≤4*(i:Int)+3:=by omega
      have b0:4*(i:Int) < (xs.length:Int):=by omega
      have b1:4*(i:Int)+1 < (xs.length:Int):=by omega
      have b2:4*(i:Int)+2 < (xs.length:Int):=by omega
      have b3:4*(i:Int)+3 < (xs.length:Int):=by omega
      have h7:=w64s (n:=i) (by omega)
      simp only [spec_l14Turn.l0,h1,w0,w1,w2,w3,a0,a1,a2,a3,b0,b1,b2,b3,h7,if_true]
      refine ev_some (a:=turnRow xs (4*(i:Int))) rfl ?_
      have h8:(turnMid xs i).length+(turnRow xs (4*(i:Int))).length < 17592186044416:=by
        rw [turnMid_len,show(turnRow xs (4*(i:Int))).length=4 from rfl];omega
      simp only [h8,if_true]
      exact ih (i+1) (by omega)
  exact first 4 0 (by omega)

def trB (x : Int) : Bool := decide (-10000000 ≤ x ∧ x ≤ 10000000)

/-! #### Turned twice -/
theorem four0_plain {a b c d : Int} (B : Int) (hB : B ≤ 1000000000000) (ha : -B ≤ a ∧ a ≤ B) (hb : -B ≤ b ∧ b ≤ B) (hc : -B ≤ c ∧ c ≤ B) (hd : -B ≤ d ∧ d ≤ B) : four0 a b c d = a + b + c + d := by
  unfold four0
  rw [w64 (x:=a+b) (by omega) (by omega),w64 (x:=a+b+c) (by omega) (by omega),w64 (by omega) (by omega)]
theorem four1_plain {a b c d : Int} (B : Int) (hB : B ≤ 1000000000000) (ha : -B ≤ a ∧ a ≤ B) (hb : -B ≤ b ∧ b ≤ B) (hc : -B ≤ c ∧ c ≤ B) (hd : -B ≤ d ∧ d ≤ B) : four1 a b c d = a + b - c - d := by
  unfold four1
  rw [w64 (x:=a+b) (by omega) (by omega),w64 (x:=a+b - c) (by omega) (by omega),w64 (by omega) (by omega)]
theorem four2_plain {a b c d : Int} (B : Int) (hB : B ≤ 1000000000000) (ha : -B ≤ a ∧ a ≤ B) (hb : -B ≤ b ∧ b ≤ B) (hc : -B ≤ c ∧ c ≤ B) (hd : -B ≤ d ∧ d ≤ B) : four2 a b c d = a - b - c + d := by
  unfold four2
  rw [w64 (x:=a - b) (by omega) (by omega),w64 (x:=a - b - c) (by omega) (by omega),w64 (by omega) (by omega)]
theorem four3_plain {a b c d : Int} (B : Int) (hB : B ≤ 1000000000000) (ha : -B ≤ a ∧ a ≤ B) (hb : -B ≤ b ∧ b ≤ B) (hc : -B ≤ c ∧ c ≤ B) (hd : -B ≤ d ∧ d ≤ B) : four3 a b c d = a - b + c - d := by
  unfold four3
  rw [w64 (x:=a - b) (by omega) (by omega),w64 (x:=a - b+c) (by omega) (by omega),w64 (by omega) (by omega)]
theorem turn_plain {a0 a1 a2 a3 a4 a5 a6 a7 a8 a9 a10 a11 a12 a13 a14 a15 : Int} (h0 : -10000000 ≤ a0 ∧ a0 ≤ 10000000) (h1 : -10000000 ≤ a1 ∧ a1 ≤ 10000000) (h2 : -10000000 ≤ a2 ∧ a2 ≤ 10000000) (h3 : -10000000 ≤ a3 ∧ a3 ≤ 10000000) (h4 : -10000000 ≤ a4 ∧ a4 ≤ 10000000) (h5 : -10000000 ≤ a5 ∧ a5 ≤ 10000000) (h6 : -10000000 ≤ a6 ∧ a6 ≤ 10000000) (h7 : -10000000 ≤ a7 ∧ a7 ≤ 10000000) (h8 : -10000000 ≤ a8 ∧ a8 ≤ 10000000) (h9 : -10000000 ≤ a9 ∧ a9 ≤ 10000000) (h10 : -10000000 ≤ a10 ∧ a10 ≤ 10000000) (h11 : -10000000 ≤ a11 ∧ a11 ≤ 10000000) (h12 : -10000000 ≤ a12 ∧ a12 ≤ 10000000) (h13 : -10000000 ≤ a13 ∧ a13 ≤ 10000000) (h14 : -10000000 ≤ a14 ∧ a14 ≤ 10000000) (h15 : -10000000 ≤ a15 ∧ a15 ≤ 10000000) : turnV [a0, a1, a2, a3, a4, a5, a6, a7, a8, a9, a10, a11, a12, a13, a14, a15] = [a0 + a1 + a2 + a3 + a4 + a5 + a6 + a7 + a8 + a9 + a10 + a11 + a12 + a13 + a14 + a15, a0 + a1 - a2 - a3 + a4 + a5 - a6 - a7 + a8 + a9 - a10 - a11 + a12 + a13 - a14 - a15, a0 - a1 - a2 + a3 + a4 - a5 - a6 + a7 + a8 - a9 - a10 + a11 + a12 - a13 - a14 + a15, a0 - a1 + a2 - a3 + a4 - a5 + a6 - a7 + a8 - a9 + a10 - a11 + a12 - a13 + a14 - a15, a0 + a1 + a2 + a3 + a4 + a5 + a6 + a7 - a8 - a9 - a10 - a11 - a12 - a13 - a14 - a15, a0 + a1 - a2 - a3 + a4 + a5 - a6 - a7 - a8 - a9 + a10 + a11 - a12 - a13 + a14 + a15, a0 - a1 - a2 + a3 + a4 - a5 - a6 + a7 - a8 + a9 + a10 - a11 - a12 + a13 + a14 - a15, a0 - a1 + a2 - a3 + a4 - a5 + a6 - a7 - a8 + a9 - a10 + a11 - a12 + a13 - a14 + a15, a0 + a1 + a2 + a3 - a4 - a5 - a6 - a7 - a8 - a9 - a10 - a11 + a12 + a13 + a14 + a15, a0 + a1 - a2 - a3 - a4 - a5 + a6 + a7 - a8 - a9 + a10 + a11 + a12 + a13 - a14 - a15, a0 - a1 - a2 + a3 - a4 + a5 + a6 - a7 - a8 + a9 + a10 - a11 + a12 - a13 - a14 + a15, a0 - a1 + a2 - a3 - a4 + a5 - a6 + a7 - a8 + a9 - a10 + a11 + a12 - a13 + a14 - a15, a0 + a1 + a2 + a3 - a4 - a5 - a6 - a7 + a8 + a9 + a10 + a11 - a12 - a13 - a14 - a15, a0 + a1 - a2 - a3 - a4 - a5 + a6 + a7 + a8 + a9 - a10 - a11 - a12 - a13 + a14 + a15, a0 - a1 - a2 + a3 - a4 + a5 + a6 - a7 + a8 - a9 - a10 + a11 - a12 + a13 + a14 - a15, a0 - a1 + a2 - a3 - a4 + a5 - a6 + a7 + a8 - a9 + a10 - a11 - a12 + a13 - a14 + a15] := by
  have e00:=four0_plain 10000000 (by omega) h0 h1 h2 h3
  have e01:=four1_plain 10000000 (by omega) h0 h1 h2 h3
  have e02:=four2_plain 10000000 (by omega) h0 h1 h2 h3
  have e03:=four3_plain 10000000 (by omega) h0 h1 h2 h3
  have e10:=four0_plain 10000000 (by omega) h4 h5 h6 h7
  have e11:=four1_plain 10000000 (by omega) h4 h5 h6 h7
  have e12:=four2_plain 10000000 (by omega) h4 h5 h6 h7
  have e13:=four3_plain 10000000 (by omega) h4 h5 h6 h7
  have e20:=four0_plain 10000000 (by omega) h8 h9 h10 h11
  have e21:=four1_plain 10000000 (by omega) h8 h9 h10 h11
  have e22:=four2_plain 10000000 (by omega) h8 h9 h10 h11
  have e23:=four3_plain 10000000 (by omega) h8 h9 h10 h11
  have e30:=four0_plain 10000000 (by omega) h12 h13 h14 h15
  have e31:=four1_plain 10000000 (by omega) h12 h13 h14 h15
  have e32:=four2_plain 10000000 (by omega) h12 h13 h14 h15
  have e33:=four3_plain 10000000 (by omega) h12 h13 h14 h15
  have hx:turnV [a0,a1,a2,a3,a4,a5,a6,a7,a8,a9,a10,a11,a12,a13,a14,a15] = [four0 (four0 a0 a1 a2 a3) (four0 a4 a5 a6 a7) (four0 a8 a9 a10 a11) (four0 a12 a13 a14 a15),four0 (four1 a0 a1 a2 a3) (four1 a4 a5 a6 a7) (four1 a8 a9 a10 a11) (four1 a12 a13 a14 a15),four0 (four2 a0 a1 a2 a3) (four2 a4 a5 a6 a7) (four2 a8 a9 a10 a11) (four2 a12 a13 a14 a15),four0 (four3 a0 a1 a2 a3) (four3 a4 a5 a6 a7) (four3 a8 a9 a10 a11) (four3 a12 a13 a14 a15),four1 (four0 a0 a1 a2 a3) (four0 a4 a5 a6 a7) (four0 a8 a9 a10 a11) (four0 a12 a13 a14 a15),four1 (four1 a0 a1 a2 a3) (four1 a4 a5 a6 a7) (four1 a8 a9 a10 a11) (four1 a12 a13 a14 a15),four1 (four2 a0 a1 a2 a3) (four2 a4 a5 a6 a7) (four2 a8 a9 a10 a11) (four2 a12 a13 a14 a15),four1 (four3 a0 a1 a2 a3) (four3 a4 a5 a6 a7) (four3 a8 a9 a10 a11) (four3 a12 a13 a14 a15),four2 (four0 a0 a1 a2 a3) (four0 a4 a5 a6 a7) (four0 a8 a9 a10 a11) (four0 a12 a13 a14 a15),four2 (four1 a0 a1 a2 a3) (four1 a4 a5 a6 a7) (four1 a8 a9 a10 a11) (four1 a12 a13 a14 a15),four2 (four2 a0 a1 a2 a3) (four2 a4 a5 a6 a7) (four2 a8 a9 a10 a11) (four2 a12 a13 a14 a15),four2 (four3 a0 a1 a2 a3) (four3 a4 a5 a6 a7) (four3 a8 a9 a10 a11) (four3 a12 a13 a14 a15),four3 (four0 a0 a1 a2 a3) (four0 a4 a5 a6 a7) (four0 a8 a9 a10 a11) (four0 a12 a13 a14 a15),four3 (four1 a0 a1 a2 a3) (four1 a4 a5 a6 a7) (four1 a8 a9 a10 a11) (four1 a12 a13 a14 a15),four3 (four2 a0 a1 a2 a3) (four2 a4 a5 a6 a7) (four2 a8 a9 a10 a11) (four2 a12 a13 a14 a15),four3 (four3 a0 a1 a2 a3) (four3 a4 a5 a6 a7) (four3 a8 a9 a10 a11) (four3 a12 a13 a14 a15)]:=rfl
  rw [hx,e00,e01,e02,e03,e10,e11,e12,e13,e20,e21,e22,e23,e30,e31,e32,e33]
  rw [four0_plain (a:=(a0+a1+a2+a3)) (b:=(a4+a5+a6+a7)) (c:=(a8+a9+a10+a11)) (d:=(a12+a13+a14+a15)) 40000000 (by omega) (by omega) (by omega) (by omega) (by omega)]
  rw [four0_plain (a:=(a0+a1 - a2 - a3)) (b:=(a4+a5 - a6 - a7)) (c:=(a8+a9 - a10 - a11)) (d:=(a12+a13 - a14 - a15)) 40000000 (by omega) (by omega) (by omega) (by omega) (by omega)]
  rw [four0_plain (a:=(a0 - a1 - a2+a3)) (b:=(a4 - a5 - a6+a7)) (c:=(a8 - a9 - a10+a11)) (d:=(a12 - a13 - a14+a15)) 40000000 (by omega) (by omega) (by omega) (by omega) (by omega)]
  rw [four0_plain (a:=(a0 - a1+a2 - a3)) (b:=(a4 - a5+a6 - a7)) (c:=(a8 - a9+a10 - a11)) (d:=(a12 - a13+a14 - a15)) 40000000 (by omega) (by omega) (by omega) (by omega) (by omega)]
  rw [four1_plain (a:=(a0+a1+a2+a3)) (b:=(a4+a5+a6+a7)) (c:=(a8+a9+a10+a11)) (d:=(a12+a13+a14+a15)) 40000000 (by omega) (by omega) (by omega) (by omega) (by omega)]
  rw [four1_plain (a:=(a0+a1 - a2 - a3)) (b:=(a4+a5 - a6 - a7)) (c:=(a8+a9 - a10 - a11)) (d:=(a12+a13 - a14 - a15)) 40000000 (by omega) (by omega) (by omega) (by omega) (by omega)]
  rw [four1_plain (a:=(a0 - a1 - a2+a3)) (b:=(a4 - a5 - a6+a7)) (c:=(a8 - a9 - a10+a11)) (d:=(a12 - a13 - a14+a15)) 40000000 (by omega) (by omega) (by omega) (by omega) (by omega)]
  rw [four1_plain (a:=(a0 - a1+a2 - a3)) (b:=(a4 - a5+a6 - a7)) (c:=(a8 - a9+a10 - a11)) (d:=(a12 - a13+a14 - a15)) 40000000 (by omega) (by omega) (by omega) (by omega) (by omega)]
  rw [four2_plain (a:=(a0+a1+a2+a3)) (b:=(a4+a5+a6+a7)) (c:=(a8+a9+a10+a11)) (d:=(a12+a13+a14+a15)) 40000000 (by omega) (by omega) (by omega) (by omega) (by omega)]
  rw [four2_plain (a:=(a0+a1 - a2 - a3)) (b:=(a4+a5 - a6 - a7)) (c:=(a8+a9 - a10 - a11)) (d:=(a12+a13 - a14 - a15)) 40000000 (by omega) (by omega) (by omega) (by omega) (by omega)]
  rw [four2_plain (a:=(a0 - a1 - a2+a3)) (b:=(a4 - a5 - a6+a7)) (c:=(a8 - a9 - a10+a11)) (d:=(a12 - a13 - a14+a15)) 40000000 (by omega) (by omega) (by omega) (by omega) (by omega)]
  rw [four2_plain (a:=(a0 - a1+a2 - a3)) (b:=(a4 - a5+a6 - a7)) (c:=(a8 - a9+a10 - a11)) (d:=(a12 - a13+a14 - a15)) 40000000 (by omega) (by omega) (by omega) (by omega) (by omega)]
  rw [four3_plain (a:=(a0+a1+a2+a3)) (b:=(a4+a5+a6+a7)) (c:=(a8+a9+a10+a11)) (d:=(a12+a13+a14+a15)) 40000000 (by omega) (by omega) (by omega) (by omega) (by omega)]
  rw [four3_plain (a:=(a0+a1 - a2 - a3)) (b:=(a4+a5 - a6 - a7)) (c:=(a8+a9 - a10 - a11)) (d:=(a12+a13 - a14 - a15)) 40000000 (by omega) (by omega) (by omega) (by omega) (by omega)]
  rw [four3_plain (a:=(a0 - a1 - a2+a3)) (b:=(a4 - a5 - a6+a7)) (c:=(a8 - a9 - a10+a11)) (d:=(a12 - a13 - a14+a15)) 40000000 (by omega) (by omega) (by omega) (by omega) (by omega)]
  rw [four3_plain (a:=(a0 - a1+a2 - a3)) (b:=(a4 - a5+a6 - a7)) (c:=(a8 - a9+a10 - a11)) (d:=(a12 - a13+a14 - a15)) 40000000 (by omega) (by omega) (by omega) (by omega) (by omega)]
  simp only [List.cons.injEq,and_true]
  refine⟨?_,?_,?_,?_,?_,?_,?_,?_,?_,?_,?_,?_,?_,?_,?_,?_⟩ <;> omega
theorem turn_list16 (xs : List Int) (h : xs.length = 16) : ∃ a0 a1 a2 a3 a4 a5 a6 a7 a8 a9 a10 a11 a12 a13 a14 a15 : Int, xs = [a0, a1, a2, a3, a4, a5, a6, a7, a8, a9, a10, a11, a12, a13, a14, a15] := by
  match xs,h with
  | [a0, a1, a2, a3, a4, a5, a6, a7, a8, a9, a10, a11, a12, a13, a14, a15], _ => exact ⟨_, _, _, _, _, _, _, _, _, _, _, _, _, _, _, _, rfl⟩
theorem trB_iff {x : Int} (h : trB x = true) : -10000000 ≤ x ∧ x ≤ 10000000 := of_decide_eq_true h
set_option maxHeartbeats 1000000 in
theorem turn_twice (xs : List Int) (h : xs.length = 16) (h1 : xs.all trB = true) (h2 : (turnV xs).all trB = true) : turnV (turnV xs) = xs.map (fun x => 16 * x) := by
  obtain⟨a0,a1,a2,a3,a4,a5,a6,a7,a8,a9,a10,a11,a12,a13,a14,a15,rfl⟩:=turn_list16 xs h
  simp only [List.all_cons,List.all_nil,Bool.and_true,Bool.and_eq_true] at h1
  obtain⟨g0,g1,g2,g3,g4,g5,g6,g7,g8,g9,qd,qe,qf,qg,qh,qi⟩:=h1
  obtain⟨t0,t1,t2,t3,t4,t5,t6,t7,t8,t9,t10,t11,t12,t13,t14,t15,e,q0,q1,q2,q3,q4,q5,q6,q7,q8,q9,q10,q11,q12,q13,q14,q15⟩:∃ t0 t1 t2 t3 t4 t5 t6 t7 t8 t9 t10 t11 t12 t13 t14 t15:Int,turnV [a0,a1,a2,a3,a4,a5,a6,a7,a8,a9,a10,a11,a12,a13,a14,a15] = [t0,t1,t2,t3,t4,t5,t6,t7,t8,t9,t10,t11,t12,t13,t14,t15]∧t0=a0+a1+a2+a3+a4+a5+a6+a7+a8+a9+a10+a11+a12+a13+a14+a15∧t1=a0+a1 - a2 - a3+a4+a5 - a6 - a7+a8+a9 - a10 - a11+a12+a13 - a14 - a15∧t2=a0 - a1 - a2+a3+a4 - a5 - a6+a7+a8 - a9 - a10+a11+a12 - a13 - a14+a15∧t3=a0 - a1+a2 - a3+a4 - a5+a6 - a7+a8 - a9+a10 - a11+a12 - a13+a14 - a15∧t4=a0+a1+a2+a3+a4+a5+a6+a7 - a8 - a9 - a10 - a11 - a12 - a13 - a14 - a15∧t5=a0+a1 - a2 - a3+a4+a5 - a6 - a7 - a8 - a9+a10+a11 - a12 - a13+a14+a15∧t6=a0 - a1 - a2+a3+a4 - a5 - a6+a7 - a8+a9+a10 - a11 - a12+a13+a14 - a15∧t7=a0 - a1+a2 - a3+a4 - a5+a6 - a7 - a8+a9 - a10+a11 - a12+a13 - a14+a15∧t8=a0+a1+a2+a3 - a4 - a5 - a6 - a7 - a8 - a9 - a10 - a11+a12+a13+a14+a15∧t9=a0+a1 - a2 - a3 - a4 - a5+a6+a7 - a8 - a9+a10+a11+a12+a13 - a14 - a15∧t10=a0 - a1 - a2+a3 - a4+a5+a6 - a7 - a8+a9+a10 - a11+a12 - a13 - a14+a15∧t11=a0 - a1+a2 - a3 - a4+a5 - a6+a7 - a8+a9 - a10+a11+a12 - a13+a14 - a15∧t12=a0+a1+a2+a3 - a4 - a5 - a6 - a7+a8+a9+a10+a11 - a12 - a13 - a14 - a15∧t13=a0+a1 - a2 - a3 - a4 - a5+a6+a7+a8+a9 - a10 - a11 - a12 - a13+a14+a15∧t14=a0 - a1 - a2+a3 - a4+a5+a6 - a7+a8 - a9 - a10+a11 - a12+a13+a14 - a15∧t15=a0 - a1+a2 - a3 - a4+a5 - a6+a7+a8 - a9+a10 - a11 - a12+a13 - a14+a15:=⟨_,_,_,_,_,_,_,_,_,_,_,_,_,_,_,_,turn_plain (trB_iff g0) (trB_iff g1) (trB_iff g2) (trB_iff g3) (trB_iff g4) (trB_iff g5) (trB_iff g6) (trB_iff g7) (trB_iff g8) (trB_iff g9) (trB_iff qd) (trB_iff qe) (trB_iff qf) (trB_iff qg) (trB_iff qh) (trB_iff qi),rfl,rfl,rfl,rfl,rfl,rfl,rfl,rfl,rfl,rfl,rfl,rfl,rfl,rfl,rfl,rfl⟩
  rw [e] at h2 ⊢
  simp only [List.all_cons,List.all_nil,Bool.and_true,Bool.and_eq_true] at h2
  obtain⟨k0,k1,k2,k3,k4,k5,k6,k7,k8,k9,k10,k11,k12,k13,k14,k15⟩:=h2
  rw [turn_plain (trB_iff k0) (trB_iff k1) (trB_iff k2) (trB_iff k3) (trB_iff k4) (trB_iff k5) (trB_iff k6) (trB_iff k7) (trB_iff k8) (trB_iff k9) (trB_iff k10) (trB_iff k11) (trB_iff k12) (trB_iff k13) (trB_iff k14) (trB_iff k15)]
  simp only [List.map_cons,List.map_nil,List.cons.injEq,and_true]
  clear e h g0 k0 g1 k1 g2 k2 g3 k3 g4 k4 g5 k5 g6 k6 g7 k7 g8 k8 g9 k9 qd k10 qe k11 qf k12 qg k13 qh k14 qi k15
  subst q0 q1 q2 q3 q4 q5 q6 q7 q8 q9 q10 q11 q12 q13 q14 q15
  refine⟨?_,?_,?_,?_,?_,?_,?_,?_,?_,?_,?_,?_,?_,?_,?_,?_⟩ <;> omega

/-! #### Encode: the levels of a block and their bytes -/
def updG (f : Nat → Int) (X : List Int) (n : Nat) : List Int := (List.range 16).map fun j => if j < n then f j else rd X (j : Int)
theorem updG_len (f : Nat → Int) (X : List Int) (n : Nat) : (updG f X n).length = 16 := by simp [updG]
theorem updG_at (f : Nat → Int) (X : List Int) (n : Nat) {j : Nat} (hj : j < 16) : rd (updG f X n) (j : Int) = if j < n then f j else rd X (j : Int) := by
  simp [updG,rd_nat,List.getD_eq_getElem?_getD,List.getElem?_map,List.getElem?_range hj]
theorem updG_0 (f : Nat → Int) (X : List Int) (h : X.length = 16) : updG f X 0 = X := by
  refine List.ext_getElem? fun j=>?_
  by_cases hj:j < 16
  · simp [updG,List.getElem?_map,List.getElem?_range hj,rd_nat,List.getD_eq_getElem?_getD,List.getElem?_eq_getElem (show j < X.length by omega)]
  · rw [List.getElem?_eq_none (by rw [updG_len];omega),List.getElem?_eq_none (by omega)]
theorem updG_set (f : Nat → Int) (X : List Int) {i : Nat} (hi : i < 16) : (updG f X i).set i (f i) = updG f X (i + 1) := by
  refine List.ext_getElem? fun j=>?_
  by_cases hj:j < 16
  · rw [List.getElem?_set]
    by_cases he:i=j
    · subst he
      simp [updG,hj,List.getElem?_map,List.getElem?_range hj]
    · rw [if_neg he]
      simp only [updG,List.getElem?_map,List.getElem?_range hj,Option.map_some]
      by_cases h1:j < i
      · rw [if_pos h1,if_pos (by omega)]
      · rw [if_neg h1,if_neg (by omega)]
  · rw [List.getElem?_eq_none (by simp [updG];omega),List.getElem?_eq_none (by rw [updG_len];omega)]
def dn (a b : Int) : Int := if Int.tmod a b < 0 then wrap64 (wrap64 (Int.tdiv a b) - 1) else wrap64 (Int.tdiv a b)
def rnd (q z : Int) : Int := dn (wrap64 (wrap64 (2 * z) + wrap64 (16 * q))) (wrap64 (2 * wrap64 (16 * q)))
theorem q_ne {q : Int} (h : 1 ≤ q ∧ q ≤ 64) : ¬ wrap64 (2 * wrap64 (16 * q)) = 0 := by
  rw [w64 (x:=16*q) (by omega) (by omega),w64 (by omega) (by omega)]
  omega
theorem near_eq {q : Int} (h : 1 ≤ q ∧ q ≤ 64) (z : Int) : impl_near.f z (wrap64 (16 * q)) = some (rnd q z) := by
  have hq:=q_ne h
  unfold impl_near.f impl_down.f rnd dn
  rw [if_neg hq]
  split <;> rfl
theorem round_eq {q : Int} (h : 1 ≤ q ∧ q ≤ 64) (z : Int) : spec_l9Round.f z (wrap64 (16 * q)) = some (rnd q z) := by
  have hq:=q_ne h
  unfold spec_l9Round.f spec_l8Down.f rnd dn
  rw [if_neg hq]
  split <;> rfl
def manyG (l : List Int) : Nat → Nat
  | 0 => 0
  | i + 1 => if rd l (i : Int) = 0 then manyG l i else i + 1
theorem manyG_le (l : List Int) : ∀ n, manyG l n ≤ n
  | 0 => Nat.le_refl _
  | n + 1 => by
    unfold manyG
    split
    · exact Nat.le_succ_of_le (manyG_le l n)
    · exact Nat.le_refl _
def lbU (u : Int) : List Int := if u < 255 then [u % 256] else [255, (u / 256) % 256, u % 256]
def lb (v : Int) : List Int := lbU (if v < 0 then wrap64 (wrap64 ((-2) * v) - 1) else wrap64 (2 * v))
theorem lbU_len (u : Int) : (lbU u).length ≤ 3 := by unfold lbU; split <;> simp
theorem lb_len (v : Int) : (lb v).length ≤ 3 := lbU_len _
theorem levelBytes_eq (v : Int) : impl_levelBytes.f v = some (lb v) := by
  unfold impl_levelBytes.f lb lbU
  by_cases h:v < 0
  · simp only [h,if_true]
    split <;> rfl
  · simp only [h,if_false]
    split <;> rfl
theorem lbU_spec {u : Int} (h : ¬ wrap64 u < 255) : [255, (wrap64 (Int.tdiv (wrap64 u) 256)) % 256, (Int.tmod (wrap64 u) 256) % 256] = lbU (wrap64 u) := by
  have hb:wrap64 u≤9223372036854775807:=by unfold wrap64;omega
  unfold lbU
  rw [if_neg h]
  generalize wrap64 u=z at *
  rw [Int.tdiv_eq_ediv_of_nonneg (by omega),Int.tmod_eq_emod_of_nonneg (by omega),w64 (by omega) (by omega)]
  rw [Int.emod_emod_of_dvd _ (Int.dvd_refl 256)]
def lbsG (l : List Int) (n : Nat) : List Int := (List.range n).flatMap fun (j : Nat) => lb (rd l (j : Int))
theorem lbsG_succ (l : List Int) (n : Nat) : lbsG l (n + 1) = lbsG l n ++ lb (rd l (n : Int)) := by simp [lbsG, List.range_succ]
theorem lbsG_len (l : List Int) (n : Nat) : (lbsG l n).length ≤ 3 * n := by
  induction n with
  | zero => exact Nat.le_refl _
  | succ n ih =>
    rw [lbsG_succ,List.length_append]
    have:=lb_len (rd l (n:Int))
    omega
def difL (X Y : List Int) : List Int := updG (fun j => wrap64 (rd X (j : Int) - rd Y (j : Int))) X 16
def levL (q : Int) (T : List Int) : List Int := updG (fun j => rnd q (rd T (j : Int))) T 16
def wayB (x y : Int) : Int := (wrap64 (wrap64 (wrap64 (8 * wrap64 (y + 2)) + x) + 2)) % 256
def tellB (q x y : Int) (X Y : List Int) : List Int := [wayB x y, ((manyG (levL q (turnV (difL X Y))) 16 : Nat) : Int) % 256] ++ lbsG (levL q (turnV (difL X Y))) (manyG (levL q (turnV (difL X Y))) 16)
def encB (w h : Int) (old p : List Int) (q : Int) (b : Nat) : List Int := tellB q (motW w h old p (b : Int)).x (motW w h old p (b : Int)).y (blk w h p (b : Int) 0 0) (blk w h old (b : Int) (motW w h old p (b : Int)).x (motW w h old p (b : Int)).y)
def encG (w h : Int) (old p : List Int) (q : Int) (n : Nat) : List Int := (List.range n).flatMap (encB w h old p q)
theorem encG_succ (w h : Int) (old p : List Int) (q : Int) (n : Nat) : encG w h old p q (n + 1) = encG w h old p q n ++ encB w h old p q n := by simp [encG, List.range_succ]
theorem encB_len (w h : Int) (old p : List Int) (q : Int) (b : Nat) : (encB w h old p q b).length ≤ 50 := by
  unfold encB tellB
  rw [List.length_append]
  have h1:=lbsG_len (levL q (turnV (difL (blk w h p (b:Int) 0 0) (blk w h old (b:Int) (motW w h old p (b:Int)).x (motW w h old p (b:Int)).y)))) (manyG (levL q (turnV (difL (blk w h p (b:Int) 0 0) (blk w h old (b:Int) (motW w h old p (b:Int)).x (motW w h old p (b:Int)).y)))) 16)
  have h2:=manyG_le (levL q (turnV (difL (blk w h p (b:Int) 0 0) (blk w h old (b:Int) (motW w h old p (b:Int)).x (motW w h old p (b:Int)).y)))) 16
  simp only [List.length_cons,List.length_nil]
  omega
theorem encG_len (w h : Int) (old p : List Int) (q : Int) (n : Nat) : (encG w h old p q n).length ≤ 50 * n := by
  induction n with
  | zero => exact Nat.le_refl _
  | succ n ih =>
    rw [encG_succ,List.length_append]
    have:=encB_len w h old p q n
    omega
theorem rd_take {l : List Int} {m i : Nat} (h : i < m) : rd (l.take m) (i : Int) = rd l (i : Int) := by
  simp [rd_nat,List.getD_eq_getElem?_getD,List.getElem?_take,h]
theorem motW_bd (w h : Int) (old p : List Int) (bl : Int) : (-2 ≤ (motW w h old p bl).x ∧ (motW w h old p bl).x ≤ 2) ∧ (-2 ≤ (motW w h old p bl).y ∧ (motW w h old p bl).y ≤ 2) := by
  have hm:=(bestOff_mem ((wyFar.drop 1).map (wyOf (motO w h old p bl))) (wyOf (motO w h old p bl) (0,0)) (wy_sorted _)).1
  have hs:∀ q ∈ wyFar,(-2≤q.2∧q.2≤2)∧(-2≤q.1∧q.1≤2):=by decide
  have hm2:motW w h old p bl ∈ wyFar.map (wyOf (motO w h old p bl)):=hm
  obtain⟨q,hq,e⟩:=List.mem_map.1 hm2
  rw [← e]
  exact hs q hq
section
variable {w h q : Int} {old p : List Int}
theorem impl_l3_ev (L pre : List Int) (m nb b : Nat) (hL : L.length = 16) (hm : m ≤ 16) (hpre : pre.length ≤ 100000) (V : List Int × Bool)
    (hnext:Ev (fun k=>impl_Encode.l0 k q (pre ++ lbsG L m) (nb:Int) (wrap64 ((b:Int)+1)) w h old w h p) V) :
    ∀ d i,i+d=m→Ev (fun k=>impl_Encode.l3 k q (pre ++ lbsG L i) (nb:Int) (b:Int) (L.take m) (m:Int) (i:Int) w h old w h p) V:=by
  intro d
  induction d with
  | zero =>
    intro i hi
    refine ev_succ ?_
    obtain rfl:i=m:=by omega
    have h1 : ¬ (i:Int) < (i:Int):=by omega
    simp only [impl_Encode.l3,h1,if_false]
    exact hnext
  | succ d ih =>
    intro i hi
    refine ev_succ ?_
    have h1:(i:Int) < (m:Int):=by omega
    have h2:0≤(i:Int):=by omega
    have h3:(i:Int) < ((L.take m).length:Int):=by rw [List.length_take];omega
    have h4:=w64s (n:=i) (by omega)
    have h5:=rd_take (l:=L) (show i < m by omega)
    have h6:(pre ++ lbsG L i).length+(lb (rd L (i:Int))).length < 140737488355328:=by
      have:=lbsG_len L i
      have:=lb_len (rd L (i:Int))
      rw [List.length_append]
      omega
    simp only [impl_Encode.l3,h1,h2,h3,h4,h5,levelBytes_eq,h6,if_true,Option.bind_some]
    have:=ih (i+1) (by omega)
    rw [lbsG_succ,← List.append_assoc] at this
    exact this
theorem impl_l2_ev (T pre : List Int) (x y : Int) (nb b : Nat) (hq : 1 ≤ q ∧ q ≤ 64) (hT : T.length = 16) (hpre : pre.length ≤ 90000) (V : List Int × Bool)
    (hnext:Ev (fun k=>impl_Encode.l0 k q (pre ++ ([wayB x y,((manyG (levL q T) 16:Nat):Int) % 256] ++ lbsG (levL q T) (manyG (levL q T) 16))) (nb:Int) (wrap64 ((b:Int)+1)) w h old w h p) V) :
    ∀ d i,i+d=16→Ev (fun k=>impl_Encode.l2 k q pre x y (updG (fun j=>rnd q (rd T (j:Int))) T i) ((manyG (levL q T) i:Nat):Int) (nb:Int) (b:Int) 16 (i:Int) w h old w h p) V:=by
  intro d
  induction d with
  | zero =>
    intro i hi
    refine ev_succ ?_
    obtain rfl:i=16:=by omega
    have h1 : ¬ ((16:Nat):Int) < 16:=by omega
    have h2:=manyG_le (levL q T) 16
    have h3:(0:Int)≤((manyG (levL q T) 16:Nat):Int):=by omega
    have h4:((manyG (levL q T) 16:Nat):Int)≤((updG (fun j=>rnd q (rd T (j:Int))) T 16).length:Int):=by rw [updG_len];omega
    have h5:pre.length+2 < 140737488355328:=by omega
    simp only [impl_Encode.l2,h1,if_false,Option.bind_some,List.length_cons,List.length_nil,Nat.reduceAdd,h5,h3,h4,if_true,Int.toNat_natCast]
    have hl:((updG (fun j=>rnd q (rd T (j:Int))) T 16).take (manyG (levL q T) 16)).length=manyG (levL q T) 16:=by rw [List.length_take,updG_len];omega
    rw [hl]
    rw [← List.append_assoc] at hnext
    have:=impl_l3_ev (w:=w) (h:=h) (q:=q) (old:=old) (p:=p) (levL q T) (pre ++ [wayB x y,((manyG (levL q T) 16:Nat):Int) % 256]) (manyG (levL q T) 16) nb b (updG_len _ _ _) h2 (by simp;omega) V hnext (manyG (levL q T) 16) 0 (by omega)
    simp only [lbsG,List.range_zero,List.flatMap_nil,List.append_nil] at this
    exact this
  | succ d ih =>
    intro i hi
    refine ev_succ ?_
    have hi16:i < 16:=by omega
    have h1:(i:Int) < 16:=by omega
    have h2:0≤(i:Int):=by omega
    have h3:(i:Int) < ((updG (fun j=>rnd q (rd T (j:Int))) T i).length:Int):=by rw [updG_len];omega
    have h4:=w64s (n:=i) (by omega)
    have h5:rd (updG (fun j=>rnd q (rd T (j:Int))) T i) (i:Int)=rd T (i:Int):=by rw [updG_at _ _ _ hi16,if_neg (by omega)]
    have h6:(updG (fun j=>rnd q (rd T (j:Int))) T i).set i (rnd q (rd T (i:Int)))=updG (fun j=>rnd q (rd T (j:Int))) T (i+1):=updG_set _ T hi16
    have h7:rd (updG (fun j=>rnd q (rd T (j:Int))) T (i+1)) (i:Int)=rd (levL q T) (i:Int):=by
      rw [levL,updG_at _ _ _ hi16,updG_at _ _ _ hi16,if_pos (by omega),if_pos hi16]
    simp only [impl_Encode.l2,h1,h2,h3,h4,h5,near_eq hq,Option.bind_some,Int.toNat_natCast,h6,h7,if_true]
    have hn:=ih (i+1) (by omega)
    unfold manyG at hn
    by_cases hz:rd (levL q T) (i:Int)=0
    · simp only [hz,if_true] at hn ⊢
      exact hn
    · simp only [hz,if_false] at hn ⊢
      exact hn
theorem impl_turn_eq' {xs : List Int} (h : xs.length = 16) : impl_turn.f xs = some (turnV xs) := by
  rw [impl_turn.f,if_pos (by omega)]
  rfl
theorem turnV_len' (xs : List Int) : (turnV xs).length = 16 := by rw [turnV, turnG_len]
theorem impl_l1_ev (X Y pre : List Int) (x y : Int) (nb b : Nat) (hq : 1 ≤ q ∧ q ≤ 64) (hX : X.length = 16) (hY : Y.length = 16) (hpre : pre.length ≤ 90000) (V : List Int × Bool)
    (hnext:Ev (fun k=>impl_Encode.l0 k q (pre ++ tellB q x y X Y) (nb:Int) (wrap64 ((b:Int)+1)) w h old w h p) V) :
    ∀ d i,i+d=16→Ev (fun k=>impl_Encode.l1 k q pre x y (updG (fun j=>wrap64 (rd X (j:Int) - rd Y (j:Int))) X i) Y (nb:Int) (b:Int) 16 (i:Int) w h old w h p) V:=by
  intro d
  induction d with
  | zero =>
    intro i hi
    refine ev_succ ?_
    obtain rfl:i=16:=by omega
    have h1 : ¬ ((16:Nat):Int) < 16:=by omega
    simp only [impl_Encode.l1,h1,if_false]
    rw [impl_turn_eq' (updG_len _ _ _)]
    simp only [Option.bind_some,turnV_len']
    have:=impl_l2_ev (w:=w) (h:=h) (q:=q) (old:=old) (p:=p) (turnV (difL X Y)) pre x y nb b hq (turnV_len' _) hpre V hnext 16 0 (by omega)
    rw [updG_0 _ _ (turnV_len' _)] at this
    exact this
  | succ d ih =>
    intro i hi
    refine ev_succ ?_
    have hi16:i < 16:=by omega
    have h1:(i:Int) < 16:=by omega
    have h2:0≤(i:Int):=by omega
    have h3:(i:Int) < ((updG (fun j=>wrap64 (rd X (j:Int) - rd Y (j:Int))) X i).length:Int):=by rw [updG_len];omega
    have h8:(i:Int) < (Y.length:Int):=by omega
    have h4:=w64s (n:=i) (by omega)
    have h5:rd (updG (fun j=>wrap64 (rd X (j:Int) - rd Y (j:Int))) X i) (i:Int)=rd X (i:Int):=by rw [updG_at _ _ _ hi16,if_neg (by omega)]
    have h6:(updG (fun j=>wrap64 (rd X (j:Int) - rd Y (j:Int))) X i).set i (wrap64 (rd X (i:Int) - rd Y (i:Int)))=updG (fun j=>wrap64 (rd X (j:Int) - rd Y (j:Int))) X (i+1):=updG_set (fun j=>wrap64 (rd X (j:Int) - rd Y (j:Int))) X hi16
    simp only [impl_Encode.l1,h1,h2,h3,h8,h4,h5,Int.toNat_natCast,h6,if_true]
    exact ih (i+1) (by omega)
theorem impl_l0_ev (ho : PicO w h old) (hp : PicO w h p) (hq : 1 ≤ q ∧ q ≤ 64) (nb : Nat) (hnb : nb ≤ 16) : ∀ d b, b + d = nb → Ev (fun k => impl_Encode.l0 k q (encG w h old p q b) (nb : Int) (b : Int) w h old w h p) (encG w h old p q nb, true) := by
  intro d
  induction d with
  | zero =>
    intro b hb
    refine ev_succ ?_
    obtain rfl:b=nb:=by omega
    have h1 : ¬ (b:Int) < (b:Int):=by omega
    simp only [impl_Encode.l0,h1,if_false]
    exact ev_ret rfl
  | succ d ih =>
    intro b hb
    refine ev_succ ?_
    have h1:(b:Int) < (nb:Int):=by omega
    have hb64:0≤(b:Int)∧(b:Int)≤64:=by omega
    have hm:=motW_bd w h old p (b:Int)
    simp only [impl_Encode.l0,h1,if_true]
    refine ev_bind (impl_motion_ev ho hp hb64) ?_
    refine ev_bind (impl_at_ev hp hb64 (by omega) (by omega)) ?_
    refine ev_bind (impl_at_ev ho hb64 (by omega) (by omega)) ?_
    simp only [blkG_len]
    have hl:=encG_len w h old p q b
    have hn:=ih (b+1) (by omega)
    rw [encG_succ,← w64s (n:=b) (by omega)] at hn
    have:=impl_l1_ev (w:=w) (h:=h) (q:=q) (old:=old) (p:=p) (blk w h p (b:Int) 0 0) (blk w h old (b:Int) (motW w h old p (b:Int)).x (motW w h old p (b:Int)).y) (encG w h old p q b) (motW w h old p (b:Int)).x (motW w h old p (b:Int)).y nb b hq (blkG_len _ _ _ _ _ _ _) (blkG_len _ _ _ _ _ _ _) (by omega) _ hn 16 0 (by omega)
    rw [updG_0 _ _ (blkG_len _ _ _ _ _ _ _)] at this
    exact this
theorem spec_l3_ev (L pre : List Int) (m b : Nat) (hL : L.length = 16) (hm : m ≤ 16) (hpre : pre.length ≤ 100000) (V : List Int × Bool)
    (hnext:Ev (fun k=>spec_Encode.l0 k q (pre ++ lbsG L m) (wrap64 ((b:Int)+1)) w h old w h p) V) :
    ∀ d i,i+d=m→Ev (fun k=>spec_Encode.l3 k q (pre ++ lbsG L i) (b:Int) L (m:Int) (i:Int) w h old w h p) V:=by
  intro d
  induction d with
  | zero =>
    intro i hi
    refine ev_succ ?_
    obtain rfl:i=m:=by omega
    have h1 : ¬ (i:Int) < (i:Int):=by omega
    simp only [spec_Encode.l3,h1,if_false]
    exact hnext
  | succ d ih =>
    intro i hi
    refine ev_succ ?_
    have h1:(i:Int) < (m:Int):=by omega
    have h2:0≤(i:Int):=by omega
    have h3:(i:Int) < (L.length:Int):=by omega
    have h4:=w64s (n:=i) (by omega)
    have hpl:(pre ++ lbsG L i).length≤100048:=by
      have:=lbsG_len L i
      rw [List.length_append]
      omega
    have h6:(pre ++ lbsG L i).length < 140737488355328:=by omega
    have h7:(pre ++ lbsG L i).length+3 < 140737488355328:=by omega
    have hn:=ih (i+1) (by omega)
    rw [lbsG_succ,← List.append_assoc] at hn
    simp only [spec_Encode.l3,h1,h2,h3,h4,h6,if_true,Option.bind_some,List.length_cons,List.length_nil,Nat.reduceAdd,h7]
    unfold lb at hn
    by_cases hv:rd L (i:Int) < 0
    · simp only [hv,if_true] at hn ⊢
      by_cases hu:wrap64 (wrap64 ((-2)*rd L (i:Int)) - 1) < 255
      · simp only [hu,if_true]
        unfold lbU at hn
        rw [if_pos hu] at hn
        exact hn
      · simp only [hu,if_false]
        rw [lbU_spec hu]
        exact hn
    · simp only [hv,if_false] at hn ⊢
      by_cases hu:wrap64 (2*rd L (i:Int)) < 255
      · simp only [hu,if_true]
        unfold lbU at hn
        rw [if_pos hu] at hn
        exact hn
      · simp only [hu,if_false]
        rw [lbU_spec hu]
        exact hn
theorem spec_l2_ev (T pre : List Int) (b : Nat) (hq : 1 ≤ q ∧ q ≤ 64) (hT : T.length = 16) (hpre : pre.length ≤ 90000) (V : List Int × Bool)
    (hnext:Ev (fun k=>spec_Encode.l0 k q (pre ++ [((manyG (levL q T) 16:Nat):Int) % 256] ++ lbsG (levL q T) (manyG (levL q T) 16)) (wrap64 ((b:Int)+1)) w h old w h p) V) :
    ∀ d i,i+d=16→Ev (fun k=>spec_Encode.l2 k q pre (b:Int) (updG (fun j=>rnd q (rd T (j:Int))) T i) ((manyG (levL q T) i:Nat):Int) (i:Int) w h old w h p) V:=by
  intro d
  induction d with
  | zero =>
    intro i hi
    refine ev_succ ?_
    obtain rfl:i=16:=by omega
    have h1 : ¬ ((16:Nat):Int) < 16:=by omega
    have h2:=manyG_le (levL q T) 16
    have h5:pre.length < 140737488355328:=by omega
    simp only [spec_Encode.l2,h1,if_false,h5,if_true]
    have:=spec_l3_ev (w:=w) (h:=h) (q:=q) (old:=old) (p:=p) (levL q T) (pre ++ [((manyG (levL q T) 16:Nat):Int) % 256]) (manyG (levL q T) 16) b (updG_len _ _ _) h2 (by simp;omega) V hnext (manyG (levL q T) 16) 0 (by omega)
    simp only [lbsG,List.range_zero,List.flatMap_nil,List.append_nil] at this
    exact this
  | succ d ih =>
    intro i hi
    refine ev_succ ?_
    have hi16:i < 16:=by omega
    have h1:(i:Int) < 16:=by omega
    have h2:0≤(i:Int):=by omega
    have h3:(i:Int) < ((updG (fun j=>rnd q (rd T (j:Int))) T i).length:Int):=by rw [updG_len];omega
    have h4:=w64s (n:=i) (by omega)
    have h5:rd (updG (fun j=>rnd q (rd T (j:Int))) T i) (i:Int)=rd T (i:Int):=by rw [updG_at _ _ _ hi16,if_neg (by omega)]
    have h6:(updG (fun j=>rnd q (rd T (j:Int))) T i).set i (rnd q (rd T (i:Int)))=updG (fun j=>rnd q (rd T (j:Int))) T (i+1):=updG_set _ T hi16
    have h7:rd (updG (fun j=>rnd q (rd T (j:Int))) T (i+1)) (i:Int)=rd (levL q T) (i:Int):=by
      rw [levL,updG_at _ _ _ hi16,updG_at _ _ _ hi16,if_pos (by omega),if_pos hi16]
    simp only [spec_Encode.l2,h1,h2,h3,h4,h5,round_eq hq,Option.bind_some,Int.toNat_natCast,h6,h7,if_true]
    have hn:=ih (i+1) (by omega)
    unfold manyG at hn
    by_cases hz:rd (levL q T) (i:Int)=0
    · simp only [hz,if_true] at hn ⊢
      exact hn
    · simp only [hz,if_false] at hn ⊢
      exact hn
theorem spec_l1_ev (X Y pre : List Int) (b : Nat) (hq : 1 ≤ q ∧ q ≤ 64) (hX : X.length = 16) (hY : Y.length = 16) (hpre : pre.length ≤ 90000) (V : List Int × Bool)
    (hnext:Ev (fun k=>spec_Encode.l0 k q (pre ++ [((manyG (levL q (turnV (difL X Y))) 16:Nat):Int) % 256] ++ lbsG (levL q (turnV (difL X Y))) (manyG (levL q (turnV (difL X Y))) 16)) (wrap64 ((b:Int)+1)) w h old w h p) V) :
    ∀ d i,i+d=16→Ev (fun k=>spec_Encode.l1 k q pre (b:Int) (updG (fun j=>wrap64 (rd X (j:Int) - rd Y (j:Int))) X i) Y (i:Int) w h old w h p) V:=by
  intro d
  induction d with
  | zero =>
    intro i hi
    refine ev_succ ?_
    obtain rfl:i=16:=by omega
    have h1 : ¬ ((16:Nat):Int) < 16:=by omega
    simp only [spec_Encode.l1,h1,if_false]
    refine ev_bind (spec_l14Turn_ev _ (updG_len _ _ _)) ?_
    have:=spec_l2_ev (w:=w) (h:=h) (q:=q) (old:=old) (p:=p) (turnV (difL X Y)) pre b hq (turnV_len' _) hpre V hnext 16 0 (by omega)
    rw [updG_0 _ _ (turnV_len' _)] at this
    exact this
  | succ d ih =>
    intro i hi
    refine ev_succ ?_
    have hi16:i < 16:=by omega
    have h1:(i:Int) < 16:=by omega
    have h2:0≤(i:Int):=by omega
    have h3:(i:Int) < ((updG (fun j=>wrap64 (rd X (j:Int) - rd Y (j:Int))) X i).length:Int):=by rw [updG_len];omega
    have h8:(i:Int) < (Y.length:Int):=by omega
    have h4:=w64s (n:=i) (by omega)
    have h5:rd (updG (fun j=>wrap64 (rd X (j:Int) - rd Y (j:Int))) X i) (i:Int)=rd X (i:Int):=by rw [updG_at _ _ _ hi16,if_neg (by omega)]
    have h6:(updG (fun j=>wrap64 (rd X (j:Int) - rd Y (j:Int))) X i).set i (wrap64 (rd X (i:Int) - rd Y (i:Int)))=updG (fun j=>wrap64 (rd X (j:Int) - rd Y (j:Int))) X (i+1):=updG_set (fun j=>wrap64 (rd X (j:Int) - rd Y (j:Int))) X hi16
    simp only [spec_Encode.l1,h1,h2,h3,h8,h4,h5,Int.toNat_natCast,h6,if_true]
    exact ih (i+1) (by omega)
theorem spec_l0_ev (ho : PicO w h old) (hp : PicO w h p) (hq : 1 ≤ q ∧ q ≤ 64) (nb : Nat) (hnb : (nb : Int) = w / 4 * (h / 4)) : ∀ d b, b + d = nb → Ev (fun k => spec_Encode.l0 k q (encG w h old p q b) (b : Int) w h old w h p) (encG w h old p q nb, true) := by
  have hbd:=blocks_bd hp
  intro d
  induction d with
  | zero =>
    intro b hb
    refine ev_succ ?_
    obtain rfl:b=nb:=by omega
    have h1 : ¬ (b:Int) < w / 4*(h / 4):=by omega
    simp only [spec_Encode.l0,spec_blocks_eq hp,Option.bind_some,h1,if_false]
    exact ev_ret rfl
  | succ d ih =>
    intro b hb
    refine ev_succ ?_
    have h1:(b:Int) < w / 4*(h / 4):=by omega
    have hb64:0≤(b:Int)∧(b:Int)≤64:=by omega
    have hm:=motW_bd w h old p (b:Int)
    have hl:=encG_len w h old p q b
    have h9:(encG w h old p q b).length < 140737488355328:=by omega
    simp only [spec_Encode.l0,spec_blocks_eq hp,Option.bind_some,h1,if_true]
    refine ev_bind (spec_motion_ev ho hp hb64) ?_
    simp only [h9,if_true]
    refine ev_bind (spec_block_ev hp hb64 (by omega) (by omega)) ?_
    refine ev_bind (spec_block_ev ho hb64 (by omega) (by omega)) ?_
    have hn:=ih (b+1) (by omega)
    rw [encG_succ,← w64s (n:=b) (by omega)] at hn
    have:=spec_l1_ev (w:=w) (h:=h) (q:=q) (old:=old) (p:=p) (blk w h p (b:Int) 0 0) (blk w h old (b:Int) (motW w h old p (b:Int)).x (motW w h old p (b:Int)).y) (encG w h old p q b ++ [wayB (motW w h old p (b:Int)).x (motW w h old p (b:Int)).y]) b hq (blkG_len _ _ _ _ _ _ _) (blkG_len _ _ _ _ _ _ _) (by simp;omega) (encG w h old p q nb,true) (by simpa [encB,tellB] using hn) 16 0 (by omega)
    rw [updG_0 _ _ (blkG_len _ _ _ _ _ _ _)] at this
    exact this
end
def encV (w0 h0 : Int) (old : List Int) (w1 h1 : Int) (p : List Int) (q : Int) : List Int × Bool := if twoB w0 h0 old w1 h1 p = true ∧ 1 ≤ q ∧ q ≤ 64 then (encG w1 h1 old p q (w1 / 4 * (h1 / 4)).toNat, true) else ([], false)
theorem spec_Encode_ev (w0 h0 : Int) (old : List Int) (w1 h1 : Int) (p : List Int) (q : Int) : Ev (fun k => spec_Encode.f k w0 h0 old w1 h1 p q) (encV w0 h0 old w1 h1 p q) := by
  unfold encV
  simp only [spec_Encode.f,Option.bind_some]
  refine ev_bind (spec_two_ev w0 h0 old w1 h1 p) (ev_ifb (fun e=>?_) (fun e=>?_))
  · obtain⟨rfl,rfl,ho,hp⟩:=twoB_of e
    have hbd:=blocks_bd hp
    obtain⟨nb,hnb⟩:=Int.eq_ofNat_of_zero_le hbd.2.2.2.2.1
    simp only [spec_in_eq,Option.bind_some]
    refine ev_succ ?_
    by_cases hq:1≤q∧q≤64
    · have hd:(!(decide (1≤q∧q≤64)))=false:=by simp [hq]
      simp only [spec_Encode.j0,hd,Bool.false_eq_true,if_false]
      rw [if_pos ⟨e,hq⟩,hnb]
      exact spec_l0_ev ho hp hq nb hnb.symm nb 0 (by omega)
    · have hd:(!(decide (1≤q∧q≤64)))=true:=by simp [hq]
      simp only [spec_Encode.j0,hd,if_true]
      rw [if_neg (fun hh=>hq hh.2)]
      exact ev_ret rfl
  · refine ev_succ ?_
    simp only [spec_Encode.j0,if_true]
    rw [if_neg (by rw [e];simp)]
    exact ev_ret rfl
theorem impl_Encode_ev (w0 h0 : Int) (old : List Int) (w1 h1 : Int) (p : List Int) (q : Int) : Ev (fun k => impl_Encode.f k w0 h0 old w1 h1 p q) (encV w0 h0 old w1 h1 p q) := by
  unfold encV
  simp only [impl_Encode.f,impl_two_eq,Option.bind_some]
  refine ev_ifb (fun e=>?_) (fun e=>?_)
  · obtain⟨rfl,rfl,ho,hp⟩:=twoB_of e
    have hbd:=blocks_bd hp
    obtain⟨nb,hnb⟩:=Int.eq_ofNat_of_zero_le hbd.2.2.2.2.1
    simp only [impl_in_eq,Option.bind_some]
    refine ev_succ ?_
    by_cases hq:1≤q∧q≤64
    · have hd:(!(decide (1≤q∧q≤64)))=false:=by simp [hq]
      simp only [impl_Encode.j0,hd,Bool.false_eq_true,if_false]
      rw [if_pos ⟨e,hq⟩,impl_blocks_eq hp,hnb]
      simp only [Option.bind_some]
      exact impl_l0_ev ho hp hq nb (by omega) nb 0 (by omega)
    · have hd:(!(decide (1≤q∧q≤64)))=true:=by simp [hq]
      simp only [impl_Encode.j0,hd,if_true]
      rw [if_neg (fun hh=>hq hh.2)]
      exact ev_ret rfl
  · refine ev_succ ?_
    simp only [impl_Encode.j0,if_true]
    rw [if_neg (by rw [e];simp)]
    exact ev_ret rfl

/-! #### Decode: what is read off the bytes -/
def BytesL (L : List Int) : Prop := ∀ x ∈ L, 0 ≤ x ∧ x ≤ 255
theorem BytesL.tail {L : List Int} (h : BytesL L) : BytesL L.tail := fun x hx => h x (List.mem_of_mem_tail hx)
theorem nextV_bd {L : List Int} (h : BytesL L) : 0 ≤ nextV L ∧ nextV L ≤ 255 := by
  cases L with
  | nil => exact ⟨by decide, by decide⟩
  | cons b L =>
    have:=h b (by simp)
    show 0≤wrap64 b∧wrap64 b≤255
    rw [w64 (by omega) (by omega)]
    exact this
theorem lvL_bytes {L : List Int} (h : BytesL L) : BytesL (lvL L) := by
  unfold lvL
  split
  · exact h.tail.tail.tail
  · exact h.tail
theorem lvRest_bytes {L : List Int} (h : BytesL L) : ∀ n, BytesL (lvRest n L)
  | 0 => h
  | n + 1 => lvL_bytes (lvRest_bytes h n)
theorem or_256 {a b : Int} (ha : 0 ≤ a ∧ a ≤ 255) (hb : 0 ≤ b ∧ b ≤ 255) : Go.bits .or .i64 (wrap64 (a * 256)) b = a * 256 + b := by
  obtain⟨m,rfl⟩:=Int.eq_ofNat_of_zero_le ha.1
  obtain⟨n,rfl⟩:=Int.eq_ofNat_of_zero_le hb.1
  rw [w64 (x:=(m:Int)*256) (by omega) (by omega)]
  have e:Go.bits .or .i64 ((m:Int)*256) (n:Int)=IntKind.i64.wrap (((BitVec.ofInt 64 ((m:Int)*256))|||(BitVec.ofInt 64 (n:Int))).toNat:Int):=rfl
  have e1:BitVec.ofInt 64 ((m:Int)*256)=BitVec.ofNat 64 (m*256):=by
    rw [show(m:Int)*256=((m*256:Nat):Int) by omega,BitVec.ofInt_natCast]
  have e2:BitVec.ofInt 64 (n:Int)=BitVec.ofNat 64 n:=BitVec.ofInt_natCast 64 n
  rw [e,e1,e2,BitVec.toNat_or,BitVec.toNat_ofNat,BitVec.toNat_ofNat,Nat.mod_eq_of_lt (by omega),Nat.mod_eq_of_lt (by omega)]
  have e3:m*256|||n=m*256+n:=by
    have h:=Nat.shiftLeft_add_eq_or_of_lt (a:=m) (b:=n) (i:=8) (by omega)
    rw [Nat.shiftLeft_eq] at h
    exact h.symm
  rw [e3,IntKind.wrap_i64]
  omega
def fillX (xs : List Int) (i : Nat) (u : Int) : List Int := if Int.tmod u 2 = 1 then (xs.set i (wrap64 (Int.tdiv u 2))).set i (wrap64 (Int.tdiv (wrap64 (-(wrap64 (u + 1)))) 2)) else xs.set i (wrap64 (Int.tdiv u 2))
/-! #### the common value -/
def gV (w h : Int) (px : List Int) (q : Int) : Nat → Nat → List Int → List Int → Option (List Int × List Int)
  | 0, _, L, out => some (L, out)
  | d + 1, k, L, out =>
    if badB L false = true then none else
    if lvShort (nextV L.tail).toNat L.tail.tail (twoS L false) = true then none else
    gV w h px q d (k + 1) (lvRest (nextV L.tail).toNat L.tail.tail) (putG w ((k : Int) % (w / 4) * 4) ((k : Int) / (w / 4) * 4) (outG (blk w h px (k : Int) (dxV L) (dyV L)) (turnV (lvList L.tail.tail (nextV L.tail).toNat)) q 16) 16 out)
structure BadNo (L : List Int) : Prop where
  two : twoS L false = false
  dx : -10 ≤ dxV L ∧ dxV L ≤ 10
  dy : -10 ≤ dyV L ∧ dyV L ≤ 10
  many : (nextV L.tail).toNat ≤ 16 ∧ 0 ≤ nextV L.tail
theorem dxV_eq {L : List Int} (h : BytesL L) : dxV L = nextV L % 8 - 2 := by
  have h1:=nextV_bd h
  unfold dxV
  rw [Int.tmod_eq_emod_of_nonneg h1.1,w64 (by omega) (by omega)]
theorem dyV_eq {L : List Int} (h : BytesL L) : dyV L = nextV L / 8 - 2 := by
  have h1:=nextV_bd h
  unfold dyV
  rw [Int.tdiv_eq_ediv_of_nonneg h1.1,w64 (x:=nextV L / 8) (by omega) (by omega),w64 (by omega) (by omega)]
theorem badNo_of {L : List Int} (h : BytesL L) (hb : badB L false = false) : BadNo L := by
  unfold badB at hb
  simp only [Bool.or_eq_false_iff,decide_eq_false_iff_not] at hb
  have h1:=nextV_bd h
  have h2:=nextV_bd h.tail
  have h3:=hb.1.1.2
  have h4:=hb.1.2
  have h5:=hb.2
  rw [dxV_eq h] at h3
  rw [dyV_eq h] at h4
  unfold manyV at h5
  refine⟨hb.1.1.1,by rw [dxV_eq h];omega,by rw [dyV_eq h];omega,⟨by omega,h2.1⟩⟩
/-! #### where the pixels go -/
theorem put_ok {w h : Int} {px : List Int} (hp : PicO w h px) {k : Nat} (hk : (k : Int) < w / 4 * (h / 4)) {n : Nat} (hn : (n : Int) = w * h) : idxOk w ((k : Int) % (w / 4) * 4) ((k : Int) / (w / 4) * 4) n := by
  have g1:=hp.w1;have g2:=hp.w2;have g3:=hp.h1;have g4:=hp.h2;have g5:=hp.wm;have g6:=hp.hm
  obtain⟨a,ha⟩:∃ a,w / 4=a:=⟨_,rfl⟩
  obtain⟨c,hc⟩:∃ c,h / 4=c:=⟨_,rfl⟩
  have ew:w=a*4:=by omega
  have eh:h=c*4:=by omega
  rw [ha,hc] at hk
  rw [ha]
  have ap:0 < a:=by omega
  have e3:=Int.emod_nonneg (k:Int) (show a≠0 by omega)
  have e4:=Int.emod_lt_of_pos (k:Int) ap
  have e5:0≤(k:Int) / a:=Int.ediv_nonneg (by omega) (by omega)
  have e6:(k:Int) / a < c:=Int.ediv_lt_of_lt_mul ap (by rw [Int.mul_comm];exact hk)
  generalize (k:Int) % a=x at *
  generalize (k:Int) / a=y at *
  refine⟨⟨by omega,g2⟩,⟨by omega,by omega⟩,⟨by omega,by omega⟩,fun i hi=>?_⟩
  unfold idxP
  rw [hn]
  have i1:0≤(i:Int) / 4∧(i:Int) / 4≤3:=by omega
  have i2:0≤(i:Int) % 4∧(i:Int) % 4≤3:=by omega
  generalize (i:Int) / 4=r at *
  generalize (i:Int) % 4=s at *
  have m1:0≤(y*4+r)*w:=Int.mul_nonneg (by omega) (by omega)
  have m2:(y*4+r)*w≤(h - 1)*w:=Int.mul_le_mul_of_nonneg_right (by omega) (by omega)
  have m3:(h - 1)*w=w*h - w:=by rw [Int.sub_mul,Int.one_mul,Int.mul_comm]
  constructor <;> omega
theorem impl_turn_eq {xs : List Int} (h : xs.length = 16) : impl_turn.f xs = some (turnV xs) := by
  rw [impl_turn.f,if_pos (by omega)]
  rfl
theorem turnV_len (xs : List Int) : (turnV xs).length = 16 := by rw [turnV, turnG_len]
theorem impl_dec_ev {w h q : Int} {px : List Int} (hp : PicO w h px) : ∀ (d k : Nat) (L out : List Int), (k : Int) + (d : Int) = w / 4 * (h / 4) → (out.length : Int) = w * h → BytesL L → Ev (fun kr => decG kr w h px q d (k : Int) L out) (gV w h px q d k L out)
  | 0, k, L, out, _, _, _ => ev_ret rfl
  | d + 1, k, L, out, hk, ho, hL => by
    have hb:=blocks_bd hp
    simp only [decG,gV]
    by_cases h1:badB L false=true
    · simp only [h1,if_true]
      exact ev_ret rfl
    · have hn:=badNo_of hL (Bool.eq_false_iff.2 h1)
      have h2 : ¬ nextV L.tail < 0:=by have:=hn.many.2;omega
      simp only [h1,h2,if_false]
      by_cases h3:lvShort (nextV L.tail).toNat L.tail.tail (twoS L false)=true
      · simp only [h3,if_true]
        exact ev_ret rfl
      · simp only [h3,if_false]
        have hk64:0≤(k:Int)∧(k:Int)≤64:=by omega
        refine ev_bind (impl_at_ev hp hk64 hn.dx hn.dy) ?_
        refine ev_some (impl_turn_eq (lvList_len' _ _ hn.many.1)) ?_
        refine ev_some (impl_corner_eq hp hk64) ?_
        have hok:=put_ok hp (k:=k) (by omega) (n:=out.length) ho
        refine ev_pos ⟨blkG_len _ _ _ _ _ _ _,turnV_len _,hok⟩ ?_
        have:=impl_dec_ev (q:=q) hp d (k+1) (lvRest (nextV L.tail).toNat L.tail.tail) (putG w ((k:Int) % (w / 4)*4) ((k:Int) / (w / 4)*4) (outG (blk w h px (k:Int) (dxV L) (dyV L)) (turnV (lvList L.tail.tail (nextV L.tail).toNat)) q 16) 16 out) (by omega) (by rw [putG_len];exact ho) (lvRest_bytes hL.tail.tail _)
        exact this
/-! #### the reference's reading -/
def decV (w h : Int) (px b : List Int) (q : Int) : Int × Int × List Int × Bool := if picB w h px = true ∧ (1 ≤ q ∧ q ≤ 64) then decOut w h (gV w h px q (w / 4 * (h / 4)).toNat 0 b (List.replicate (w * h).toNat 0)) else (0, 0, [], false)
theorem impl_Decode_ev (w h q : Int) (px b : List Int) (hb : BytesL b) : Ev (fun k => impl_Decode.f k w h px b q) (decV w h px b q) := by
  unfold decV
  simp only [impl_Decode.f,decF,impl_PictureOk_eq,Option.bind_some]
  refine ev_ite (fun e=>?_) (fun e=>ev_ret (by rw [if_neg e]))
  rw [if_pos e]
  have hp:=picO_of e.1
  have hbd:=blocks_bd hp
  rw [impl_blocks_eq hp]
  simp only [Option.bind_some]
  have g1:=hp.w1;have g2:=hp.w2;have g3:=hp.h1;have g4:=hp.h2
  have hm:=mul_bd (w:=w) (h:=h) (by omega) g2 (by omega) g4
  refine ev_pos ⟨hm,hbd.2.2.2.2.1,hbd.2.2.2.2.2⟩ ?_
  obtain⟨nb,hnb⟩:=Int.eq_ofNat_of_zero_le hbd.2.2.2.2.1
  rw [hnb]
  simp only [Int.toNat_natCast]
  exact ev_bind (impl_dec_ev (q:=q) hp nb 0 b (List.replicate (w*h).toNat 0) (by rw [hnb];omega) (by rw [List.length_replicate];omega) hb) (ev_ret rfl)
theorem out_eq (o m : List Int) (q : Int) (i : Nat) : min 255 (max 0 (wrap64 (rd o (i : Int) + wrap64 (q * rd m (i : Int))))) = outV o m q i := by
  unfold outV mn mx
  generalize wrap64 (rd o (i:Int)+wrap64 (q*rd m (i:Int)))=z
  repeat' split
  all_goals omega
theorem outG_at (o m : List Int) (q : Int) (n i : Nat) (h : i < n) (hn : n ≤ 16) : rd (outG o m q n) (i : Int) = outV o m q i := by
  unfold outG rd
  simp only [Int.toNat_natCast,List.getD_eq_getElem?_getD]
  rw [List.getElem?_append_left (by simpa using h)]
  simp [List.getElem?_map,List.getElem?_range h]
/-! #### how near a level is to its number -/
theorem dn_near {a b : Int} (hb : 0 < b) (hb2 : b ≤ 100000) (ha : -100000000 ≤ a ∧ a ≤ 100000000) : dn a b * b ≤ a ∧ a < dn a b * b + b := by
  have e:=Int.tmod_add_mul_tdiv a b
  have h1:=Int.tmod_lt_of_pos a hb
  have h2 : -b < Int.tmod a b:=by
    have:=Int.tmod_lt_of_pos (-a) hb
    rw [Int.neg_tmod] at this
    omega
  have hq : -100000000≤Int.tdiv a b∧Int.tdiv a b≤100000000:=by
    have h3:=Int.natAbs_tdiv_le_natAbs a b
    omega
  have hw:wrap64 (Int.tdiv a b)=Int.tdiv a b:=w64 (by omega) (by omega)
  have hw2:wrap64 (Int.tdiv a b - 1)=Int.tdiv a b - 1:=w64 (by omega) (by omega)
  unfold dn
  rw [hw,hw2]
  rw [Int.mul_comm b] at e
  by_cases h:Int.tmod a b < 0
  · rw [if_pos h,Int.sub_mul,Int.one_mul]
    constructor <;> omega
  · rw [if_neg h]
    constructor <;> omega
theorem rnd_near {q z : Int} (hq : 1 ≤ q ∧ q ≤ 64) (hz : -1000000 ≤ z ∧ z ≤ 1000000) : 16 * (q * rnd q z) - 8 * q ≤ z ∧ z < 16 * (q * rnd q z) + 8 * q := by
  have e1:wrap64 (16*q)=16*q:=w64 (by omega) (by omega)
  have e2:wrap64 (2*(16*q))=32*q:=by rw [w64 (by omega) (by omega)];omega
  have e3:wrap64 (2*z)=2*z:=w64 (by omega) (by omega)
  have e4:wrap64 (2*z+16*q)=2*z+16*q:=w64 (by omega) (by omega)
  have h:=dn_near (a:=2*z+16*q) (b:=32*q) (by omega) (by omega) (by omega)
  have er:rnd q z=dn (2*z+16*q) (32*q):=by unfold rnd;rw [e1,e2,e3,e4]
  rw [er]
  generalize dn (2*z+16*q) (32*q)=r at *
  have e5:r*(32*q)=32*(q*r):=by rw [Int.mul_comm r,Int.mul_assoc]
  rw [e5] at h
  generalize q*r=m at *
  omega

/-! #### what is coded, read again -/
theorem bytes_app {a b : List Int} (ha : BytesL a) (hb : BytesL b) : BytesL (a ++ b) := fun x hx => (List.mem_append.1 hx).elim (ha x) (hb x)
theorem next_cons {b : Int} (L : List Int) (h : 0 ≤ b ∧ b ≤ 255) : nextV (b :: L) = b := w64 (x := b) (by omega) (by omega)
def uOf (v : Int) : Int := if v < 0 then -2 * v - 1 else 2 * v
theorem lb_uOf {v : Int} (h : -255 ≤ v ∧ v ≤ 255) : lb v = lbU (uOf v) ∧ 0 ≤ uOf v ∧ uOf v ≤ 510 := by
  unfold lb uOf
  by_cases h0:v < 0
  · rw [if_pos h0,if_pos h0,w64 (x:=(-2)*v) (by omega) (by omega),w64 (x:=(-2)*v - 1) (by omega) (by omega)]
    exact⟨rfl,by omega,by omega⟩
  · rw [if_neg h0,if_neg h0,w64 (x:=2*v) (by omega) (by omega)]
    exact⟨rfl,by omega,by omega⟩
theorem lv_back {u : Int} (L : List Int) (h0 : 0 ≤ u) (h1 : u ≤ 510) : lvU (lbU u ++ L) = u ∧ lvL (lbU u ++ L) = L ∧ lvS (lbU u ++ L) false = false := by
  unfold lbU
  by_cases h:u < 255
  · rw [if_pos h]
    have e:u % 256=u:=by omega
    rw [e,List.singleton_append]
    have n:=next_cons (b:=u) L (by omega)
    have nn : ¬ nextV (u :: L)=255:=by omega
    refine⟨?_,?_,?_⟩
    · rw [lvU,if_neg nn,n]
    · rw [lvL,if_neg nn];rfl
    · rw [lvS,if_neg nn];rfl
  · rw [if_neg h]
    have b1:0≤(u / 256) % 256∧(u / 256) % 256≤255:=by omega
    have b2:0≤u % 256∧u % 256≤255:=by omega
    have n:nextV ([255,(u / 256) % 256,u % 256] ++ L)=255:=next_cons (b:=255) _ (by omega)
    have n1:nextV ([255,(u / 256) % 256,u % 256] ++ L).tail=(u / 256) % 256:=next_cons _ b1
    have n2:nextV ([255,(u / 256) % 256,u % 256] ++ L).tail.tail=u % 256:=next_cons _ b2
    refine⟨?_,?_,?_⟩
    · rw [lvU,if_pos n,n1,n2,or_256 b1 b2]
      omega
    · rw [lvL,if_pos n];rfl
    · rw [lvS,if_pos n];rfl
theorem lv_val {v : Int} (L : List Int) (h : -255 ≤ v ∧ v ≤ 255) : lvV (lb v ++ L) = v ∧ lvL (lb v ++ L) = L ∧ lvS (lb v ++ L) false = false := by
  obtain⟨e,h0,h1⟩:=lb_uOf h
  obtain⟨e1,e2,e3⟩:=lv_back (u:=uOf v) L h0 h1
  rw [e]
  refine⟨?_,e2,e3⟩
  unfold lvV
  rw [e1,Int.tmod_eq_emod_of_nonneg h0]
  unfold uOf
  by_cases hv:v < 0
  · rw [if_pos hv,if_neg (by omega),w64 (x:=-2*v - 1+1) (by omega) (by omega),w64 (x:=-(-2*v - 1+1)) (by omega) (by omega)]
    have e4:Int.tdiv (-(-2*v - 1+1)) 2=v:=by
      rw [show -(-2*v - 1+1)=v*2 by omega]
      exact Int.mul_tdiv_cancel v (by omega)
    rw [e4]
    exact w64 (by omega) (by omega)
  · rw [if_neg hv,if_pos (by omega)]
    have e4:Int.tdiv (2*v) 2=v:=by rw [Int.mul_comm];exact Int.mul_tdiv_cancel v (by omega)
    rw [e4]
    exact w64 (by omega) (by omega)
def lbsFrom (l : List Int) : Nat → Nat → List Int
  | 0, _ => []
  | d + 1, i => lb (rd l (i : Int)) ++ lbsFrom l d (i + 1)
theorem lbsG_from (l : List Int) : ∀ d i, lbsG l (i + d) = lbsG l i ++ lbsFrom l d i
  | 0, i => by rw [lbsFrom, List.append_nil]; rfl
  | d + 1, i => by
    rw [show i+(d+1)=(i+1)+d by omega,lbsG_from l d (i+1),lbsG_succ,lbsFrom,List.append_assoc]
def LvB (l : List Int) : Prop := ∀ i : Nat, -255 ≤ rd l (i : Int) ∧ rd l (i : Int) ≤ 255
theorem lv_rest (l R : List Int) (hl : LvB l) (m : Nat) : ∀ i, i ≤ m → lvRest i (lbsG l m ++ R) = lbsFrom l (m - i) i ++ R ∧ lvShort i (lbsG l m ++ R) false = false
  | 0, _ => by
    have:=lbsG_from l m 0
    rw [Nat.zero_add] at this
    rw [this]
    exact⟨rfl,rfl⟩
  | i + 1, hi => by
    obtain⟨h1,h2⟩:=lv_rest l R hl m i (by omega)
    obtain⟨d,hd⟩:∃ d,m - i=d+1:=⟨m - i - 1,by omega⟩
    have hd2:m - (i+1)=d:=by omega
    rw [hd,lbsFrom,List.append_assoc] at h1
    obtain⟨e1,e2,e3⟩:=lv_val (lbsFrom l d (i+1) ++ R) (hl i)
    rw [lvRest,lvShort,h1,h2,hd2]
    exact⟨e2,e3⟩
theorem lv_at (l R : List Int) (hl : LvB l) (m i : Nat) (hi : i < m) : lvAt (lbsG l m ++ R) i = rd l (i : Int) := by
  obtain⟨h1,_⟩:=lv_rest l R hl m i (by omega)
  obtain⟨d,hd⟩:∃ d,m - i=d+1:=⟨m - i - 1,by omega⟩
  rw [hd,lbsFrom,List.append_assoc] at h1
  rw [lvAt,h1]
  exact(lv_val _ (hl i)).1
theorem manyG_zero (l : List Int) : ∀ n i, manyG l n ≤ i → i < n → rd l (i : Int) = 0
  | 0, _, _, h => by omega
  | n + 1, i, h1, h2 => by
    unfold manyG at h1
    by_cases e:rd l (n:Int)=0
    · rw [if_pos e] at h1
      by_cases hi:i=n
      · rw [hi];exact e
      · exact manyG_zero l n i h1 (by omega)
    · rw [if_neg e] at h1
      omega
theorem lv_list (l R : List Int) (hl : LvB l) (h16 : l.length = 16) : lvList (lbsG l (manyG l 16) ++ R) (manyG l 16) = l := by
  have hm:=manyG_le l 16
  refine List.ext_getElem? fun i=>?_
  unfold lvList
  by_cases hi:i < manyG l 16
  · rw [List.getElem?_append_left (by simpa using hi),List.getElem?_map,List.getElem?_range hi,Option.map_some,lv_at l R hl _ i hi,rd_nat,List.getD_eq_getElem?_getD,List.getElem?_eq_getElem (by omega)]
    rfl
  · rw [List.getElem?_append_right (by simpa using Nat.le_of_not_lt hi)]
    simp only [List.length_map,List.length_range]
    by_cases h2:i < 16
    · have h3:=manyG_zero l 16 i (by omega) h2
      rw [rd_nat,List.getD_eq_getElem?_getD,List.getElem?_eq_getElem (by omega)] at h3
      rw [List.getElem?_eq_getElem (by rw [List.length_replicate];omega),List.getElem_replicate,List.getElem?_eq_getElem (by omega)]
      exact congrArg some (Eq.symm h3)
    · rw [List.getElem?_eq_none (by rw [List.length_replicate];omega),List.getElem?_eq_none (by omega)]
theorem wayB_eq {x y : Int} (hx : -2 ≤ x ∧ x ≤ 2) (hy : -2 ≤ y ∧ y ≤ 2) : wayB x y = 8 * (y + 2) + x + 2 := by
  unfold wayB
  rw [w64 (x:=y+2) (by omega) (by omega),w64 (x:=8*(y+2)) (by omega) (by omega),w64 (x:=8*(y+2)+x) (by omega) (by omega),w64 (x:=8*(y+2)+x+2) (by omega) (by omega)]
  omega
theorem lbU_bytes {u : Int} (h0 : 0 ≤ u) (h1 : u ≤ 510) : BytesL (lbU u) := by
  unfold lbU
  intro x hx
  split at hx
  · rw [List.mem_singleton] at hx;omega
  · simp only [List.mem_cons,List.not_mem_nil,or_false] at hx
    omega
theorem lbsG_bytes (l : List Int) (hl : LvB l) : ∀ n, BytesL (lbsG l n)
  | 0 => fun x hx => by simp [lbsG] at hx
  | n + 1 => by
    rw [lbsG_succ]
    obtain⟨e,h0,h1⟩:=lb_uOf (hl n)
    exact bytes_app (lbsG_bytes l hl n) (by rw [e];exact lbU_bytes h0 h1)
theorem tell_bytes {q x y : Int} {X Y : List Int} (hx : -2 ≤ x ∧ x ≤ 2) (hy : -2 ≤ y ∧ y ≤ 2) (hl : LvB (levL q (turnV (difL X Y)))) : BytesL (tellB q x y X Y) := by
  unfold tellB
  refine bytes_app (fun z hz=>?_) (lbsG_bytes _ hl _)
  have:=wayB_eq hx hy
  have h2:=manyG_le (levL q (turnV (difL X Y))) 16
  rcases List.mem_cons.1 hz with rfl|hz
  · omega
  · rw [List.mem_singleton] at hz
    omega
theorem gV_step {w h q : Int} {old : List Int} {b0 c0 x y : Int} {m : Nat} {P R L : List Int} (hx : -2 ≤ x ∧ x ≤ 2) (hy : -2 ≤ y ∧ y ≤ 2) (hb0 : b0 = 8 * (y + 2) + x + 2) (hc0 : c0 = (m : Int)) (hm : m ≤ 16) (r1 : lvRest m P = R) (r2 : lvShort m P false = false) (r3 : lvList P m = L) (d k : Nat) (out : List Int) :
    gV w h old q (d+1) k (b0 :: c0 :: P) out=gV w h old q d (k+1) R (putG w ((k:Int) % (w / 4)*4) ((k:Int) / (w / 4)*4) (outG (blk w h old (k:Int) x y) (turnV L) q 16) 16 out):=by
  have e1:nextV (b0 :: c0 :: P)=b0:=next_cons _ (by omega)
  have e2:nextV (c0 :: P)=c0:=next_cons _ (by omega)
  have dx:dxV (b0 :: c0 :: P)=x:=by
    unfold dxV
    rw [e1,Int.tmod_eq_emod_of_nonneg (by omega),show b0 % 8 - 2=x by omega]
    exact w64 (by omega) (by omega)
  have dy:dyV (b0 :: c0 :: P)=y:=by
    unfold dyV
    rw [e1,Int.tdiv_eq_ediv_of_nonneg (by omega),show b0 / 8=y+2 by omega,w64 (x:=y+2) (by omega) (by omega),show y+2 - 2=y by omega]
    exact w64 (by omega) (by omega)
  have tw:twoS (b0 :: c0 :: P) false=false:=rfl
  have mv:manyV (b0 :: c0 :: P)=c0:=e2
  have hb:badB (b0 :: c0 :: P) false=false:=by
    unfold badB
    rw [tw,dx,dy,mv,decide_eq_false (show ¬ 2 < x by omega),decide_eq_false (show ¬ 2 < y by omega),decide_eq_false (show ¬ 16 < c0 by omega)]
    rfl
  have hn:(nextV (b0 :: c0 :: P).tail).toNat=m:=by
    show(nextV (c0 :: P)).toNat=m
    rw [e2,hc0]
    exact Int.toNat_natCast m
  rw [gV,hb,tw,dx,dy,hn]
  show(if false=true then none else if lvShort m P false=true then none else gV w h old q d (k+1) (lvRest m P) (putG w ((k:Int) % (w / 4)*4) ((k:Int) / (w / 4)*4) (outG (blk w h old (k:Int) x y) (turnV (lvList P m)) q 16) 16 out))=_
  rw [r1,r2,r3]
  rfl
theorem gV_tell {w h q : Int} {old : List Int} {X Y : List Int} {x y : Int} (hx : -2 ≤ x ∧ x ≤ 2) (hy : -2 ≤ y ∧ y ≤ 2) (hl : LvB (levL q (turnV (difL X Y)))) (d k : Nat) (R out : List Int) :
    gV w h old q (d+1) k (tellB q x y X Y ++ R) out=gV w h old q d (k+1) R (putG w ((k:Int) % (w / 4)*4) ((k:Int) / (w / 4)*4) (outG (blk w h old (k:Int) x y) (turnV (levL q (turnV (difL X Y)))) q 16) 16 out):=by
  have hw:=wayB_eq hx hy
  have hl16:(levL q (turnV (difL X Y))).length=16:=updG_len _ _ _
  unfold tellB
  generalize levL q (turnV (difL X Y))=L at *
  have hm:=manyG_le L 16
  obtain⟨r1,r2⟩:=lv_rest L R hl (manyG L 16) (manyG L 16) (Nat.le_refl _)
  have r3:=lv_list L R hl hl16
  rw [Nat.sub_self] at r1
  generalize manyG L 16=m at *
  exact gV_step (P:=lbsG L m ++ R) hx hy hw (show(m:Int) % 256=(m:Int) by omega) hm r1 r2 r3 d k out
/-! #### how far the levels are from what they tell -/
def Dif (X : List Int) : Prop := X.length = 16 ∧ ∀ x ∈ X, -255 ≤ x ∧ x ≤ 255

/-! #### levels near what they tell -/
theorem lvl_bd {q l t : Int} (hq : 1 ≤ q) (ht : -4080 ≤ t ∧ t ≤ 4080) (h : 16 * (q * l) - 8 * q ≤ t ∧ t < 16 * (q * l) + 8 * q) : -255 ≤ l ∧ l ≤ 255 := by
  refine⟨Int.not_lt.1 fun hl=>?_,Int.not_lt.1 fun hl=>?_⟩
  · have:=Int.mul_le_mul_of_nonneg_left (show l ≤ -256 by omega) (show 0≤q by omega)
    omega
  · have:=Int.mul_le_mul_of_nonneg_left (show 256≤l by omega) (show 0≤q by omega)
    omega
theorem quad {B u v x y : Int} (hu : -B ≤ u ∧ u ≤ B) (hv : -B ≤ v ∧ v ≤ B) (hx : -B ≤ x ∧ x ≤ B) (hy : -B ≤ y ∧ y ≤ B) : -(4 * B) ≤ u + v + x + y ∧ u + v + x + y ≤ 4 * B := by omega
theorem pos_ {q t m : Int} (h : 16 * m - 8 * q ≤ t ∧ t < 16 * m + 8 * q) : -(8 * q) ≤ t - 16 * m ∧ t - 16 * m ≤ 8 * q := by omega
theorem neg_ {q t m : Int} (h : 16 * m - 8 * q ≤ t ∧ t < 16 * m + 8 * q) : -(8 * q) ≤ 16 * m - t ∧ 16 * m - t ≤ 8 * q := by omega
theorem negb {B x : Int} (h : -B ≤ x ∧ x ≤ B) : -B ≤ -x ∧ -x ≤ B := by omega
theorem lt16 {i : Nat} (h : i < 16) : i = 0 ∨ i = 1 ∨ i = 2 ∨ i = 3 ∨ i = 4 ∨ i = 5 ∨ i = 6 ∨ i = 7 ∨ i = 8 ∨ i = 9 ∨ i = 10 ∨ i = 11 ∨ i = 12 ∨ i = 13 ∨ i = 14 ∨ i = 15 := by omega
theorem near {q a S M E : Int} (h : S = 16 * a) (hE : -(4 * (4 * (8 * q))) ≤ E ∧ E ≤ 4 * (4 * (8 * q))) (he : E = S - 16 * M) : -(8 * q) ≤ a - M ∧ a - M ≤ 8 * q := by omega
theorem bd_ {S E : Int} (hE : -(4 * (4 * 255)) ≤ E ∧ E ≤ 4 * (4 * 255)) (he : E = S) : -4080 ≤ S ∧ S ≤ 4080 := by omega
theorem li0 {t0 t1 t2 t3 t4 t5 t6 t7 t8 t9 t10 t11 t12 t13 t14 t15 m0 m1 m2 m3 m4 m5 m6 m7 m8 m9 m10 m11 m12 m13 m14 m15 : Int} : ((t0 - 16 * m0) + (t1 - 16 * m1) + (t2 - 16 * m2) + (t3 - 16 * m3)) + ((t4 - 16 * m4) + (t5 - 16 * m5) + (t6 - 16 * m6) + (t7 - 16 * m7)) + ((t8 - 16 * m8) + (t9 - 16 * m9) + (t10 - 16 * m10) + (t11 - 16 * m11)) + ((t12 - 16 * m12) + (t13 - 16 * m13) + (t14 - 16 * m14) + (t15 - 16 * m15)) = (t0 + t1 + t2 + t3 + t4 + t5 + t6 + t7 + t8 + t9 + t10 + t11 + t12 + t13 + t14 + t15) - 16 * (m0 + m1 + m2 + m3 + m4 + m5 + m6 + m7 + m8 + m9 + m10 + m11 + m12 + m13 + m14 + m15) := by omega
theorem lb0 {a0 a1 a2 a3 a4 a5 a6 a7 a8 a9 a10 a11 a12 a13 a14 a15 : Int} : (a0 + a1 + a2 + a3) + (a4 + a5 + a6 + a7) + (a8 + a9 + a10 + a11) + (a12 + a13 + a14 + a15) = a0 + a1 + a2 + a3 + a4 + a5 + a6 + a7 + a8 + a9 + a10 + a11 + a12 + a13 + a14 + a15 := by omega
theorem li1 {t0 t1 t2 t3 t4 t5 t6 t7 t8 t9 t10 t11 t12 t13 t14 t15 m0 m1 m2 m3 m4 m5 m6 m7 m8 m9 m10 m11 m12 m13 m14 m15 : Int} : ((t0 - 16 * m0) + (t1 - 16 * m1) + (16 * m2 - t2) + (16 * m3 - t3)) + ((t4 - 16 * m4) + (t5 - 16 * m5) + (16 * m6 - t6) + (16 * m7 - t7)) + ((t8 - 16 * m8) + (t9 - 16 * m9) + (16 * m10 - t10) + (16 * m11 - t11)) + ((t12 - 16 * m12) + (t13 - 16 * m13) + (16 * m14 - t14) + (16 * m15 - t15)) = (t0 + t1 - t2 - t3 + t4 + t5 - t6 - t7 + t8 + t9 - t10 - t11 + t12 + t13 - t14 - t15) - 16 * (m0 + m1 - m2 - m3 + m4 + m5 - m6 - m7 + m8 + m9 - m10 - m11 + m12 + m13 - m14 - m15) := by omega
theorem lb1 {a0 a1 a2 a3 a4 a5 a6 a7 a8 a9 a10 a11 a12 a13 a14 a15 : Int} : (a0 + a1 + -a2 + -a3) + (a4 + a5 + -a6 + -a7) + (a8 + a9 + -a10 + -a11) + (a12 + a13 + -a14 + -a15) = a0 + a1 - a2 - a3 + a4 + a5 - a6 - a7 + a8 + a9 - a10 - a11 + a12 + a13 - a14 - a15 := by omega
theorem li2 {t0 t1 t2 t3 t4 t5 t6 t7 t8 t9 t10 t11 t12 t13 t14 t15 m0 m1 m2 m3 m4 m5 m6 m7 m8 m9 m10 m11 m12 m13 m14 m15 : Int} : ((t0 - 16 * m0) + (16 * m1 - t1) + (16 * m2 - t2) + (t3 - 16 * m3)) + ((t4 - 16 * m4) + (16 * m5 - t5) + (16 * m6 - t6) + (t7 - 16 * m7)) + ((t8 - 16 * m8) + (16 * m9 - t9) + (16 * m10 - t10) + (t11 - 16 * m11)) + ((t12 - 16 * m12) + (16 * m13 - t13) + (16 * m14 - t14) + (t15 - 16 * m15)) = (t0 - t1 - t2 + t3 + t4 - t5 - t6 + t7 + t8 - t9 - t10 + t11 + t12 - t13 - t14 + t15) - 16 * (m0 - m1 - m2 + m3 + m4 - m5 - m6 + m7 + m8 - m9 - m10 + m11 + m12 - m13 - m14 + m15) := by omega
theorem lb2 {a0 a1 a2 a3 a4 a5 a6 a7 a8 a9 a10 a11 a12 a13 a14 a15 : Int} : (a0 + -a1 + -a2 + a3) + (a4 + -a5 + -a6 + a7) + (a8 + -a9 + -a10 + a11) + (a12 + -a13 + -a14 + a15) = a0 - a1 - a2 + a3 + a4 - a5 - a6 + a7 + a8 - a9 - a10 + a11 + a12 - a13 - a14 + a15 := by omega
theorem li3 {t0 t1 t2 t3 t4 t5 t6 t7 t8 t9 t10 t11 t12 t13 t14 t15 m0 m1 m2 m3 m4 m5 m6 m7 m8 m9 m10 m11 m12 m13 m14 m15 : Int} : ((t0 - 16 * m0) + (16 * m1 - t1) + (t2 - 16 * m2) + (16 * m3 - t3)) + ((t4 - 16 * m4) + (16 * m5 - t5) + (t6 - 16 * m6) + (16 * m7 - t7)) + ((t8 - 16 * m8) + (16 * m9 - t9) + (t10 - 16 * m10) + (16 * m11 - t11)) + ((t12 - 16 * m12) + (16 * m13 - t13) + (t14 - 16 * m14) + (16 * m15 - t15)) = (t0 - t1 + t2 - t3 + t4 - t5 + t6 - t7 + t8 - t9 + t10 - t11 + t12 - t13 + t14 - t15) - 16 * (m0 - m1 + m2 - m3 + m4 - m5 + m6 - m7 + m8 - m9 + m10 - m11 + m12 - m13 + m14 - m15) := by omega
theorem lb3 {a0 a1 a2 a3 a4 a5 a6 a7 a8 a9 a10 a11 a12 a13 a14 a15 : Int} : (a0 + -a1 + a2 + -a3) + (a4 + -a5 + a6 + -a7) + (a8 + -a9 + a10 + -a11) + (a12 + -a13 + a14 + -a15) = a0 - a1 + a2 - a3 + a4 - a5 + a6 - a7 + a8 - a9 + a10 - a11 + a12 - a13 + a14 - a15 := by omega
theorem li4 {t0 t1 t2 t3 t4 t5 t6 t7 t8 t9 t10 t11 t12 t13 t14 t15 m0 m1 m2 m3 m4 m5 m6 m7 m8 m9 m10 m11 m12 m13 m14 m15 : Int} : ((t0 - 16 * m0) + (t1 - 16 * m1) + (t2 - 16 * m2) + (t3 - 16 * m3)) + ((t4 - 16 * m4) + (t5 - 16 * m5) + (t6 - 16 * m6) + (t7 - 16 * m7)) + ((16 * m8 - t8) + (16 * m9 - t9) + (16 * m10 - t10) + (16 * m11 - t11)) + ((16 * m12 - t12) + (16 * m13 - t13) + (16 * m14 - t14) + (16 * m15 - t15)) = (t0 + t1 + t2 + t3 + t4 + t5 + t6 + t7 - t8 - t9 - t10 - t11 - t12 - t13 - t14 - t15) - 16 * (m0 + m1 + m2 + m3 + m4 + m5 + m6 + m7 - m8 - m9 - m10 - m11 - m12 - m13 - m14 - m15) := by omega
theorem lb4 {a0 a1 a2 a3 a4 a5 a6 a7 a8 a9 a10 a11 a12 a13 a14 a15 : Int} : (a0 + a1 + a2 + a3) + (a4 + a5 + a6 + a7) + (-a8 + -a9 + -a10 + -a11) + (-a12 + -a13 + -a14 + -a15) = a0 + a1 + a2 + a3 + a4 + a5 + a6 + a7 - a8 - a9 - a10 - a11 - a12 - a13 - a14 - a15 := by omega
theorem li5 {t0 t1 t2 t3 t4 t5 t6 t7 t8 t9 t10 t11 t12 t13 t14 t15 m0 m1 m2 m3 m4 m5 m6 m7 m8 m9 m10 m11 m12 m13 m14 m15 : Int} : ((t0 - 16 * m0) + (t1 - 16 * m1) + (16 * m2 - t2) + (16 * m3 - t3)) + ((t4 - 16 * m4) + (t5 - 16 * m5) + (16 * m6 - t6) + (16 * m7 - t7)) + ((16 * m8 - t8) + (16 * m9 - t9) + (t10 - 16 * m10) + (t11 - 16 * m11)) + ((16 * m12 - t12) + (16 * m13 - t13) + (t14 - 16 * m14) + (t15 - 16 * m15)) = (t0 + t1 - t2 - t3 + t4 + t5 - t6 - t7 - t8 - t9 + t10 + t11 - t12 - t13 + t14 + t15) - 16 * (m0 + m1 - m2 - m3 + m4 + m5 - m6 - m7 - m8 - m9 + m10 + m11 - m12 - m13 + m14 + m15) := by omega
theorem lb5 {a0 a1 a2 a3 a4 a5 a6 a7 a8 a9 a10 a11 a12 a13 a14 a15 : Int} : (a0 + a1 + -a2 + -a3) + (a4 + a5 + -a6 + -a7) + (-a8 + -a9 + a10 + a11) + (-a12 + -a13 + a14 + a15) = a0 + a1 - a2 - a3 + a4 + a5 - a6 - a7 - a8 - a9 + a10 + a11 - a12 - a13 + a14 + a15 := by omega
theorem li6 {t0 t1 t2 t3 t4 t5 t6 t7 t8 t9 t10 t11 t12 t13 t14 t15 m0 m1 m2 m3 m4 m5 m6 m7 m8 m9 m10 m11 m12 m13 m14 m15 : Int} : ((t0 - 16 * m0) + (16 * m1 - t1) + (16 * m2 - t2) + (t3 - 16 * m3)) + ((t4 - 16 * m4) + (16 * m5 - t5) + (16 * m6 - t6) + (t7 - 16 * m7)) + ((16 * m8 - t8) + (t9 - 16 * m9) + (t10 - 16 * m10) + (16 * m11 - t11)) + ((16 * m12 - t12) + (t13 - 16 * m13) + (t14 - 16 * m14) + (16 * m15 - t15)) = (t0 - t1 - t2 + t3 + t4 - t5 - t6 + t7 - t8 + t9 + t10 - t11 - t12 + t13 + t14 - t15) - 16 * (m0 - m1 - m2 + m3 + m4 - m5 - m6 + m7 - m8 + m9 + m10 - m11 - m12 + m13 + m14 - m15) := by omega
theorem lb6 {a0 a1 a2 a3 a4 a5 a6 a7 a8 a9 a10 a11 a12 a13 a14 a15 : Int} : (a0 + -a1 + -a2 + a3) + (a4 + -a5 + -a6 + a7) + (-a8 + a9 + a10 + -a11) + (-a12 + a13 + a14 + -a15) = a0 - a1 - a2 + a3 + a4 - a5 - a6 + a7 - a8 + a9 + a10 - a11 - a12 + a13 + a14 - a15 := by omega
theorem li7 {t0 t1 t2 t3 t4 t5 t6 t7 t8 t9 t10 t11 t12 t13 t14 t15 m0 m1 m2 m3 m4 m5 m6 m7 m8 m9 m10 m11 m12 m13 m14 m15 : Int} : ((t0 - 16 * m0) + (16 * m1 - t1) + (t2 - 16 * m2) + (16 * m3 - t3)) + ((t4 - 16 * m4) + (16 * m5 - t5) + (t6 - 16 * m6) + (16 * m7 - t7)) + ((16 * m8 - t8) + (t9 - 16 * m9) + (16 * m10 - t10) + (t11 - 16 * m11)) + ((16 * m12 - t12) + (t13 - 16 * m13) + (16 * m14 - t14) + (t15 - 16 * m15)) = (t0 - t1 + t2 - t3 + t4 - t5 + t6 - t7 - t8 + t9 - t10 + t11 - t12 + t13 - t14 + t15) - 16 * (m0 - m1 + m2 - m3 + m4 - m5 + m6 - m7 - m8 + m9 - m10 + m11 - m12 + m13 - m14 + m15) := by omega
theorem lb7 {a0 a1 a2 a3 a4 a5 a6 a7 a8 a9 a10 a11 a12 a13 a14 a15 : Int} : (a0 + -a1 + a2 + -a3) + (a4 + -a5 + a6 + -a7) + (-a8 + a9 + -a10 + a11) + (-a12 + a13 + -a14 + a15) = a0 - a1 + a2 - a3 + a4 - a5 + a6 - a7 - a8 + a9 - a10 + a11 - a12 + a13 - a14 + a15 := by omega
theorem li8 {t0 t1 t2 t3 t4 t5 t6 t7 t8 t9 t10 t11 t12 t13 t14 t15 m0 m1 m2 m3 m4 m5 m6 m7 m8 m9 m10 m11 m12 m13 m14 m15 : Int} : ((t0 - 16 * m0) + (t1 - 16 * m1) + (t2 - 16 * m2) + (t3 - 16 * m3)) + ((16 * m4 - t4) + (16 * m5 - t5) + (16 * m6 - t6) + (16 * m7 - t7)) + ((16 * m8 - t8) + (16 * m9 - t9) + (16 * m10 - t10) + (16 * m11 - t11)) + ((t12 - 16 * m12) + (t13 - 16 * m13) + (t14 - 16 * m14) + (t15 - 16 * m15)) = (t0 + t1 + t2 + t3 - t4 - t5 - t6 - t7 - t8 - t9 - t10 - t11 + t12 + t13 + t14 + t15) - 16 * (m0 + m1 + m2 + m3 - m4 - m5 - m6 - m7 - m8 - m9 - m10 - m11 + m12 + m13 + m14 + m15) := by omega
theorem lb8 {a0 a1 a2 a3 a4 a5 a6 a7 a8 a9 a10 a11 a12 a13 a14 a15 : Int} : (a0 + a1 + a2 + a3) + (-a4 + -a5 + -a6 + -a7) + (-a8 + -a9 + -a10 + -a11) + (a12 + a13 + a14 + a15) = a0 + a1 + a2 + a3 - a4 - a5 - a6 - a7 - a8 - a9 - a10 - a11 + a12 + a13 + a14 + a15 := by omega
theorem li9 {t0 t1 t2 t3 t4 t5 t6 t7 t8 t9 t10 t11 t12 t13 t14 t15 m0 m1 m2 m3 m4 m5 m6 m7 m8 m9 m10 m11 m12 m13 m14 m15 : Int} : ((t0 - 16 * m0) + (t1 - 16 * m1) + (16 * m2 - t2) + (16 * m3 - t3)) + ((16 * m4 - t4) + (16 * m5 - t5) + (t6 - 16 * m6) + (t7 - 16 * m7)) + ((16 * m8 - t8) + (16 * m9 - t9) + (t10 - 16 * m10) + (t11 - 16 * m11)) + ((t12 - 16 * m12) + (t13 - 16 * m13) + (16 * m14 - t14) + (16 * m15 - t15)) = (t0 + t1 - t2 - t3 - t4 - t5 + t6 + t7 - t8 - t9 + t10 + t11 + t12 + t13 - t14 - t15) - 16 * (m0 + m1 - m2 - m3 - m4 - m5 + m6 + m7 - m8 - m9 + m10 + m11 + m12 + m13 - m14 - m15) := by omega
theorem lb9 {a0 a1 a2 a3 a4 a5 a6 a7 a8 a9 a10 a11 a12 a13 a14 a15 : Int} : (a0 + a1 + -a2 + -a3) + (-a4 + -a5 + a6 + a7) + (-a8 + -a9 + a10 + a11) + (a12 + a13 + -a14 + -a15) = a0 + a1 - a2 - a3 - a4 - a5 + a6 + a7 - a8 - a9 + a10 + a11 + a12 + a13 - a14 - a15 := by omega
theorem li10 {t0 t1 t2 t3 t4 t5 t6 t7 t8 t9 t10 t11 t12 t13 t14 t15 m0 m1 m2 m3 m4 m5 m6 m7 m8 m9 m10 m11 m12 m13 m14 m15 : Int} : ((t0 - 16 * m0) + (16 * m1 - t1) + (16 * m2 - t2) + (t3 - 16 * m3)) + ((16 * m4 - t4) + (t5 - 16 * m5) + (t6 - 16 * m6) + (16 * m7 - t7)) + ((16 * m8 - t8) + (t9 - 16 * m9) + (t10 - 16 * m10) + (16 * m11 - t11)) + ((t12 - 16 * m12) + (16 * m13 - t13) + (16 * m14 - t14) + (t15 - 16 * m15)) = (t0 - t1 - t2 + t3 - t4 + t5 + t6 - t7 - t8 + t9 + t10 - t11 + t12 - t13 - t14 + t15) - 16 * (m0 - m1 - m2 + m3 - m4 + m5 + m6 - m7 - m8 + m9 + m10 - m11 + m12 - m13 - m14 + m15) := by omega
theorem lb10 {a0 a1 a2 a3 a4 a5 a6 a7 a8 a9 a10 a11 a12 a13 a14 a15 : Int} : (a0 + -a1 + -a2 + a3) + (-a4 + a5 + a6 + -a7) + (-a8 + a9 + a10 + -a11) + (a12 + -a13 + -a14 + a15) = a0 - a1 - a2 + a3 - a4 + a5 + a6 - a7 - a8 + a9 + a10 - a11 + a12 - a13 - a14 + a15 := by omega
theorem li11 {t0 t1 t2 t3 t4 t5 t6 t7 t8 t9 t10 t11 t12 t13 t14 t15 m0 m1 m2 m3 m4 m5 m6 m7 m8 m9 m10 m11 m12 m13 m14 m15 : Int} : ((t0 - 16 * m0) + (16 * m1 - t1) + (t2 - 16 * m2) + (16 * m3 - t3)) + ((16 * m4 - t4) + (t5 - 16 * m5) + (16 * m6 - t6) + (t7 - 16 * m7)) + ((16 * m8 - t8) + (t9 - 16 * m9) + (16 * m10 - t10) + (t11 - 16 * m11)) + ((t12 - 16 * m12) + (16 * m13 - t13) + (t14 - 16 * m14) + (16 * m15 - t15)) = (t0 - t1 + t2 - t3 - t4 + t5 - t6 + t7 - t8 + t9 - t10 + t11 + t12 - t13 + t14 - t15) - 16 * (m0 - m1 + m2 - m3 - m4 + m5 - m6 + m7 - m8 + m9 - m10 + m11 + m12 - m13 + m14 - m15) := by omega
theorem lb11 {a0 a1 a2 a3 a4 a5 a6 a7 a8 a9 a10 a11 a12 a13 a14 a15 : Int} : (a0 + -a1 + a2 + -a3) + (-a4 + a5 + -a6 + a7) + (-a8 + a9 + -a10 + a11) + (a12 + -a13 + a14 + -a15) = a0 - a1 + a2 - a3 - a4 + a5 - a6 + a7 - a8 + a9 - a10 + a11 + a12 - a13 + a14 - a15 := by omega
theorem li12 {t0 t1 t2 t3 t4 t5 t6 t7 t8 t9 t10 t11 t12 t13 t14 t15 m0 m1 m2 m3 m4 m5 m6 m7 m8 m9 m10 m11 m12 m13 m14 m15 : Int} : ((t0 - 16 * m0) + (t1 - 16 * m1) + (t2 - 16 * m2) + (t3 - 16 * m3)) + ((16 * m4 - t4) + (16 * m5 - t5) + (16 * m6 - t6) + (16 * m7 - t7)) + ((t8 - 16 * m8) + (t9 - 16 * m9) + (t10 - 16 * m10) + (t11 - 16 * m11)) + ((16 * m12 - t12) + (16 * m13 - t13) + (16 * m14 - t14) + (16 * m15 - t15)) = (t0 + t1 + t2 + t3 - t4 - t5 - t6 - t7 + t8 + t9 + t10 + t11 - t12 - t13 - t14 - t15) - 16 * (m0 + m1 + m2 + m3 - m4 - m5 - m6 - m7 + m8 + m9 + m10 + m11 - m12 - m13 - m14 - m15) := by omega
theorem lb12 {a0 a1 a2 a3 a4 a5 a6 a7 a8 a9 a10 a11 a12 a13 a14 a15 : Int} : (a0 + a1 + a2 + a3) + (-a4 + -a5 + -a6 + -a7) + (a8 + a9 + a10 + a11) + (-a12 + -a13 + -a14 + -a15) = a0 + a1 + a2 + a3 - a4 - a5 - a6 - a7 + a8 + a9 + a10 + a11 - a12 - a13 - a14 - a15 := by omega
theorem li13 {t0 t1 t2 t3 t4 t5 t6 t7 t8 t9 t10 t11 t12 t13 t14 t15 m0 m1 m2 m3 m4 m5 m6 m7 m8 m9 m10 m11 m12 m13 m14 m15 : Int} : ((t0 - 16 * m0) + (t1 - 16 * m1) + (16 * m2 - t2) + (16 * m3 - t3)) + ((16 * m4 - t4) + (16 * m5 - t5) + (t6 - 16 * m6) + (t7 - 16 * m7)) + ((t8 - 16 * m8) + (t9 - 16 * m9) + (16 * m10 - t10) + (16 * m11 - t11)) + ((16 * m12 - t12) + (16 * m13 - t13) + (t14 - 16 * m14) + (t15 - 16 * m15)) = (t0 + t1 - t2 - t3 - t4 - t5 + t6 + t7 + t8 + t9 - t10 - t11 - t12 - t13 + t14 + t15) - 16 * (m0 + m1 - m2 - m3 - m4 - m5 + m6 + m7 + m8 + m9 - m10 - m11 - m12 - m13 + m14 + m15) := by omega
theorem lb13 {a0 a1 a2 a3 a4 a5 a6 a7 a8 a9 a10 a11 a12 a13 a14 a15 : Int} : (a0 + a1 + -a2 + -a3) + (-a4 + -a5 + a6 + a7) + (a8 + a9 + -a10 + -a11) + (-a12 + -a13 + a14 + a15) = a0 + a1 - a2 - a3 - a4 - a5 + a6 + a7 + a8 + a9 - a10 - a11 - a12 - a13 + a14 + a15 := by omega
theorem li14 {t0 t1 t2 t3 t4 t5 t6 t7 t8 t9 t10 t11 t12 t13 t14 t15 m0 m1 m2 m3 m4 m5 m6 m7 m8 m9 m10 m11 m12 m13 m14 m15 : Int} : ((t0 - 16 * m0) + (16 * m1 - t1) + (16 * m2 - t2) + (t3 - 16 * m3)) + ((16 * m4 - t4) + (t5 - 16 * m5) + (t6 - 16 * m6) + (16 * m7 - t7)) + ((t8 - 16 * m8) + (16 * m9 - t9) + (16 * m10 - t10) + (t11 - 16 * m11)) + ((16 * m12 - t12) + (t13 - 16 * m13) + (t14 - 16 * m14) + (16 * m15 - t15)) = (t0 - t1 - t2 + t3 - t4 + t5 + t6 - t7 + t8 - t9 - t10 + t11 - t12 + t13 + t14 - t15) - 16 * (m0 - m1 - m2 + m3 - m4 + m5 + m6 - m7 + m8 - m9 - m10 + m11 - m12 + m13 + m14 - m15) := by omega
theorem lb14 {a0 a1 a2 a3 a4 a5 a6 a7 a8 a9 a10 a11 a12 a13 a14 a15 : Int} : (a0 + -a1 + -a2 + a3) + (-a4 + a5 + a6 + -a7) + (a8 + -a9 + -a10 + a11) + (-a12 + a13 + a14 + -a15) = a0 - a1 - a2 + a3 - a4 + a5 + a6 - a7 + a8 - a9 - a10 + a11 - a12 + a13 + a14 - a15 := by omega
theorem li15 {t0 t1 t2 t3 t4 t5 t6 t7 t8 t9 t10 t11 t12 t13 t14 t15 m0 m1 m2 m3 m4 m5 m6 m7 m8 m9 m10 m11 m12 m13 m14 m15 : Int} : ((t0 - 16 * m0) + (16 * m1 - t1) + (t2 - 16 * m2) + (16 * m3 - t3)) + ((16 * m4 - t4) + (t5 - 16 * m5) + (16 * m6 - t6) + (t7 - 16 * m7)) + ((t8 - 16 * m8) + (16 * m9 - t9) + (t10 - 16 * m10) + (16 * m11 - t11)) + ((16 * m12 - t12) + (t13 - 16 * m13) + (16 * m14 - t14) + (t15 - 16 * m15)) = (t0 - t1 + t2 - t3 - t4 + t5 - t6 + t7 + t8 - t9 + t10 - t11 - t12 + t13 - t14 + t15) - 16 * (m0 - m1 + m2 - m3 - m4 + m5 - m6 + m7 + m8 - m9 + m10 - m11 - m12 + m13 - m14 + m15) := by omega
theorem lb15 {a0 a1 a2 a3 a4 a5 a6 a7 a8 a9 a10 a11 a12 a13 a14 a15 : Int} : (a0 + -a1 + a2 + -a3) + (-a4 + a5 + -a6 + a7) + (a8 + -a9 + a10 + -a11) + (-a12 + a13 + -a14 + a15) = a0 - a1 + a2 - a3 - a4 + a5 - a6 + a7 + a8 - a9 + a10 - a11 - a12 + a13 - a14 + a15 := by omega
set_option maxHeartbeats 4000000 in
set_option maxRecDepth 100000 in
theorem turn_near {q : Int} {X : List Int} (hq : 1 ≤ q ∧ q ≤ 64) (hX : Dif X) : LvB (levL q (turnV X)) ∧ ∀ i : Nat, i < 16 → -(8 * q) ≤ rd X (i : Int) - q * rd (turnV (levL q (turnV X))) (i : Int) ∧ rd X (i : Int) - q * rd (turnV (levL q (turnV X))) (i : Int) ≤ 8 * q := by
  obtain⟨hl,hb⟩:=hX
  obtain⟨a0,a1,a2,a3,a4,a5,a6,a7,a8,a9,a10,a11,a12,a13,a14,a15,rfl⟩:=turn_list16 X hl
  have g0:=hb a0 (by simp)
  have g1:=hb a1 (by simp)
  have g2:=hb a2 (by simp)
  have g3:=hb a3 (by simp)
  have g4:=hb a4 (by simp)
  have g5:=hb a5 (by simp)
  have g6:=hb a6 (by simp)
  have g7:=hb a7 (by simp)
  have g8:=hb a8 (by simp)
  have g9:=hb a9 (by simp)
  have qd:=hb a10 (by simp)
  have qe:=hb a11 (by simp)
  have qf:=hb a12 (by simp)
  have qg:=hb a13 (by simp)
  have qh:=hb a14 (by simp)
  have qi:=hb a15 (by simp)
  clear hb hl
  have qb:∀ x:Int,-255≤x∧x≤255 → -10000000≤x∧x≤10000000:=fun x h=>by omega
  have qc:∀ x:Int,-4080≤x∧x≤4080 → -1000000≤x∧x≤1000000:=fun x h=>by omega
  have qa:∀ x:Int,-4080≤x∧x≤4080 → -10000000≤x∧x≤10000000:=fun x h=>by omega
  have tp:=turn_plain (qb _ g0) (qb _ g1) (qb _ g2) (qb _ g3) (qb _ g4) (qb _ g5) (qb _ g6) (qb _ g7) (qb _ g8) (qb _ g9) (qb _ qd) (qb _ qe) (qb _ qf) (qb _ qg) (qb _ qh) (qb _ qi)
  have b0:=bd_ (S:=a0+a1+a2+a3+a4+a5+a6+a7+a8+a9+a10+a11+a12+a13+a14+a15) (quad (quad g0 g1 g2 g3) (quad g4 g5 g6 g7) (quad g8 g9 qd qe) (quad qf qg qh qi)) lb0
  have b1:=bd_ (S:=a0+a1 - a2 - a3+a4+a5 - a6 - a7+a8+a9 - a10 - a11+a12+a13 - a14 - a15) (quad (quad g0 g1 (negb (B:=255) g2) (negb (B:=255) g3)) (quad g4 g5 (negb (B:=255) g6) (negb (B:=255) g7)) (quad g8 g9 (negb (B:=255) qd) (negb (B:=255) qe)) (quad qf qg (negb (B:=255) qh) (negb (B:=255) qi))) lb1
  have b2:=bd_ (S:=a0 - a1 - a2+a3+a4 - a5 - a6+a7+a8 - a9 - a10+a11+a12 - a13 - a14+a15) (quad (quad g0 (negb (B:=255) g1) (negb (B:=255) g2) g3) (quad g4 (negb (B:=255) g5) (negb (B:=255) g6) g7) (quad g8 (negb (B:=255) g9) (negb (B:=255) qd) qe) (quad qf (negb (B:=255) qg) (negb (B:=255) qh) qi)) lb2
  have b3:=bd_ (S:=a0 - a1+a2 - a3+a4 - a5+a6 - a7+a8 - a9+a10 - a11+a12 - a13+a14 - a15) (quad (quad g0 (negb (B:=255) g1) g2 (negb (B:=255) g3)) (quad g4 (negb (B:=255) g5) g6 (negb (B:=255) g7)) (quad g8 (negb (B:=255) g9) qd (negb (B:=255) qe)) (quad qf (negb (B:=255) qg) qh (negb (B:=255) qi))) lb3
  have b4:=bd_ (S:=a0+a1+a2+a3+a4+a5+a6+a7 - a8 - a9 - a10 - a11 - a12 - a13 - a14 - a15) (quad (quad g0 g1 g2 g3) (quad g4 g5 g6 g7) (quad (negb (B:=255) g8) (negb (B:=255) g9) (negb (B:=255) qd) (negb (B:=255) qe)) (quad (negb (B:=255) qf) (negb (B:=255) qg) (negb (B:=255) qh) (negb (B:=255) qi))) lb4
  have b5:=bd_ (S:=a0+a1 - a2 - a3+a4+a5 - a6 - a7 - a8 - a9+a10+a11 - a12 - a13+a14+a15) (quad (quad g0 g1 (negb (B:=255) g2) (negb (B:=255) g3)) (quad g4 g5 (negb (B:=255) g6) (negb (B:=255) g7)) (quad (negb (B:=255) g8) (negb (B:=255) g9) qd qe) (quad (negb (B:=255) qf) (negb (B:=255) qg) qh qi)) lb5
  have b6:=bd_ (S:=a0 - a1 - a2+a3+a4 - a5 - a6+a7 - a8+a9+a10 - a11 - a12+a13+a14 - a15) (quad (quad g0 (negb (B:=255) g1) (negb (B:=255) g2) g3) (quad g4 (negb (B:=255) g5) (negb (B:=255) g6) g7) (quad (negb (B:=255) g8) g9 qd (negb (B:=255) qe)) (quad (negb (B:=255) qf) qg qh (negb (B:=255) qi))) lb6
  have b7:=bd_ (S:=a0 - a1+a2 - a3+a4 - a5+a6 - a7 - a8+a9 - a10+a11 - a12+a13 - a14+a15) (quad (quad g0 (negb (B:=255) g1) g2 (negb (B:=255) g3)) (quad g4 (negb (B:=255) g5) g6 (negb (B:=255) g7)) (quad (negb (B:=255) g8) g9 (negb (B:=255) qd) qe) (quad (negb (B:=255) qf) qg (negb (B:=255) qh) qi)) lb7
  have b8:=bd_ (S:=a0+a1+a2+a3 - a4 - a5 - a6 - a7 - a8 - a9 - a10 - a11+a12+a13+a14+a15) (quad (quad g0 g1 g2 g3) (quad (negb (B:=255) g4) (negb (B:=255) g5) (negb (B:=255) g6) (negb (B:=255) g7)) (quad (negb (B:=255) g8) (negb (B:=255) g9) (negb (B:=255) qd) (negb (B:=255) qe)) (quad qf qg qh qi)) lb8
  have b9:=bd_ (S:=a0+a1 - a2 - a3 - a4 - a5+a6+a7 - a8 - a9+a10+a11+a12+a13 - a14 - a15) (quad (quad g0 g1 (negb (B:=255) g2) (negb (B:=255) g3)) (quad (negb (B:=255) g4) (negb (B:=255) g5) g6 g7) (quad (negb (B:=255) g8) (negb (B:=255) g9) qd qe) (quad qf qg (negb (B:=255) qh) (negb (B:=255) qi))) lb9
  have b10:=bd_ (S:=a0 - a1 - a2+a3 - a4+a5+a6 - a7 - a8+a9+a10 - a11+a12 - a13 - a14+a15) (quad (quad g0 (negb (B:=255) g1) (negb (B:=255) g2) g3) (quad (negb (B:=255) g4) g5 g6 (negb (B:=255) g7)) (quad (negb (B:=255) g8) g9 qd (negb (B:=255) qe)) (quad qf (negb (B:=255) qg) (negb (B:=255) qh) qi)) lb10
  have b11:=bd_ (S:=a0 - a1+a2 - a3 - a4+a5 - a6+a7 - a8+a9 - a10+a11+a12 - a13+a14 - a15) (quad (quad g0 (negb (B:=255) g1) g2 (negb (B:=255) g3)) (quad (negb (B:=255) g4) g5 (negb (B:=255) g6) g7) (quad (negb (B:=255) g8) g9 (negb (B:=255) qd) qe) (quad qf (negb (B:=255) qg) qh (negb (B:=255) qi))) lb11
  have b12:=bd_ (S:=a0+a1+a2+a3 - a4 - a5 - a6 - a7+a8+a9+a10+a11 - a12 - a13 - a14 - a15) (quad (quad g0 g1 g2 g3) (quad (negb (B:=255) g4) (negb (B:=255) g5) (negb (B:=255) g6) (negb (B:=255) g7)) (quad g8 g9 qd qe) (quad (negb (B:=255) qf) (negb (B:=255) qg) (negb (B:=255) qh) (negb (B:=255) qi))) lb12
  have b13:=bd_ (S:=a0+a1 - a2 - a3 - a4 - a5+a6+a7+a8+a9 - a10 - a11 - a12 - a13+a14+a15) (quad (quad g0 g1 (negb (B:=255) g2) (negb (B:=255) g3)) (quad (negb (B:=255) g4) (negb (B:=255) g5) g6 g7) (quad g8 g9 (negb (B:=255) qd) (negb (B:=255) qe)) (quad (negb (B:=255) qf) (negb (B:=255) qg) qh qi)) lb13
  have b14:=bd_ (S:=a0 - a1 - a2+a3 - a4+a5+a6 - a7+a8 - a9 - a10+a11 - a12+a13+a14 - a15) (quad (quad g0 (negb (B:=255) g1) (negb (B:=255) g2) g3) (quad (negb (B:=255) g4) g5 g6 (negb (B:=255) g7)) (quad g8 (negb (B:=255) g9) (negb (B:=255) qd) qe) (quad (negb (B:=255) qf) qg qh (negb (B:=255) qi))) lb14
  have b15:=bd_ (S:=a0 - a1+a2 - a3 - a4+a5 - a6+a7+a8 - a9+a10 - a11 - a12+a13 - a14+a15) (quad (quad g0 (negb (B:=255) g1) g2 (negb (B:=255) g3)) (quad (negb (B:=255) g4) g5 (negb (B:=255) g6) g7) (quad g8 (negb (B:=255) g9) qd (negb (B:=255) qe)) (quad (negb (B:=255) qf) qg (negb (B:=255) qh) qi)) lb15
  have tw:=turn_twice [a0,a1,a2,a3,a4,a5,a6,a7,a8,a9,a10,a11,a12,a13,a14,a15] rfl (by simp only [List.all_cons,List.all_nil,Bool.and_true,Bool.and_eq_true];exact⟨decide_eq_true (qb _ g0),decide_eq_true (qb _ g1),decide_eq_true (qb _ g2),decide_eq_true (qb _ g3),decide_eq_true (qb _ g4),decide_eq_true (qb _ g5),decide_eq_true (qb _ g6),decide_eq_true (qb _ g7),decide_eq_true (qb _ g8),decide_eq_true (qb _ g9),decide_eq_true (qb _ qd),decide_eq_true (qb _ qe),decide_eq_true (qb _ qf),decide_eq_true (qb _ qg),decide_eq_true (qb _ qh),decide_eq_true (qb _ qi)⟩) (by rw [tp];simp only [List.all_cons,List.all_nil,Bool.and_true,Bool.and_eq_true];exact⟨decide_eq_true (qa _ b0),decide_eq_true (qa _ b1),decide_eq_true (qa _ b2),decide_eq_true (qa _ b3),decide_eq_true (qa _ b4),decide_eq_true (qa _ b5),decide_eq_true (qa _ b6),decide_eq_true (qa _ b7),decide_eq_true (qa _ b8),decide_eq_true (qa _ b9),decide_eq_true (qa _ b10),decide_eq_true (qa _ b11),decide_eq_true (qa _ b12),decide_eq_true (qa _ b13),decide_eq_true (qa _ b14),decide_eq_true (qa _ b15)⟩)
  rw [tp] at tw ⊢
  generalize a0+a1+a2+a3+a4+a5+a6+a7+a8+a9+a10+a11+a12+a13+a14+a15=t0 at *
  generalize a0+a1 - a2 - a3+a4+a5 - a6 - a7+a8+a9 - a10 - a11+a12+a13 - a14 - a15=t1 at *
  generalize a0 - a1 - a2+a3+a4 - a5 - a6+a7+a8 - a9 - a10+a11+a12 - a13 - a14+a15=t2 at *
  generalize a0 - a1+a2 - a3+a4 - a5+a6 - a7+a8 - a9+a10 - a11+a12 - a13+a14 - a15=t3 at *
  generalize a0+a1+a2+a3+a4+a5+a6+a7 - a8 - a9 - a10 - a11 - a12 - a13 - a14 - a15=t4 at *
  generalize a0+a1 - a2 - a3+a4+a5 - a6 - a7 - a8 - a9+a10+a11 - a12 - a13+a14+a15=t5 at *
  generalize a0 - a1 - a2+a3+a4 - a5 - a6+a7 - a8+a9+a10 - a11 - a12+a13+a14 - a15=t6 at *
  generalize a0 - a1+a2 - a3+a4 - a5+a6 - a7 - a8+a9 - a10+a11 - a12+a13 - a14+a15=t7 at *
  generalize a0+a1+a2+a3 - a4 - a5 - a6 - a7 - a8 - a9 - a10 - a11+a12+a13+a14+a15=t8 at *
  generalize a0+a1 - a2 - a3 - a4 - a5+a6+a7 - a8 - a9+a10+a11+a12+a13 - a14 - a15=t9 at *
  generalize a0 - a1 - a2+a3 - a4+a5+a6 - a7 - a8+a9+a10 - a11+a12 - a13 - a14+a15=t10 at *
  generalize a0 - a1+a2 - a3 - a4+a5 - a6+a7 - a8+a9 - a10+a11+a12 - a13+a14 - a15=t11 at *
  generalize a0+a1+a2+a3 - a4 - a5 - a6 - a7+a8+a9+a10+a11 - a12 - a13 - a14 - a15=t12 at *
  generalize a0+a1 - a2 - a3 - a4 - a5+a6+a7+a8+a9 - a10 - a11 - a12 - a13+a14+a15=t13 at *
  generalize a0 - a1 - a2+a3 - a4+a5+a6 - a7+a8 - a9 - a10+a11 - a12+a13+a14 - a15=t14 at *
  generalize a0 - a1+a2 - a3 - a4+a5 - a6+a7+a8 - a9+a10 - a11 - a12+a13 - a14+a15=t15 at *
  rw [turn_plain (qa _ b0) (qa _ b1) (qa _ b2) (qa _ b3) (qa _ b4) (qa _ b5) (qa _ b6) (qa _ b7) (qa _ b8) (qa _ b9) (qa _ b10) (qa _ b11) (qa _ b12) (qa _ b13) (qa _ b14) (qa _ b15)] at tw
  simp only [List.map_cons,List.map_nil,List.cons.injEq,and_true] at tw
  obtain⟨w0,w1,w2,w3,w4,w5,w6,w7,w8,w9,w10,w11,w12,w13,w14,w15⟩:=tw
  clear tp qa
  have n0:=rnd_near (z:=t0) hq (qc _ b0)
  have n1:=rnd_near (z:=t1) hq (qc _ b1)
  have n2:=rnd_near (z:=t2) hq (qc _ b2)
  have n3:=rnd_near (z:=t3) hq (qc _ b3)
  have n4:=rnd_near (z:=t4) hq (qc _ b4)
  have n5:=rnd_near (z:=t5) hq (qc _ b5)
  have n6:=rnd_near (z:=t6) hq (qc _ b6)
  have n7:=rnd_near (z:=t7) hq (qc _ b7)
  have n8:=rnd_near (z:=t8) hq (qc _ b8)
  have n9:=rnd_near (z:=t9) hq (qc _ b9)
  have n10:=rnd_near (z:=t10) hq (qc _ b10)
  have n11:=rnd_near (z:=t11) hq (qc _ b11)
  have n12:=rnd_near (z:=t12) hq (qc _ b12)
  have n13:=rnd_near (z:=t13) hq (qc _ b13)
  have n14:=rnd_near (z:=t14) hq (qc _ b14)
  have n15:=rnd_near (z:=t15) hq (qc _ b15)
  have eL:levL q [t0,t1,t2,t3,t4,t5,t6,t7,t8,t9,t10,t11,t12,t13,t14,t15] = [rnd q t0,rnd q t1,rnd q t2,rnd q t3,rnd q t4,rnd q t5,rnd q t6,rnd q t7,rnd q t8,rnd q t9,rnd q t10,rnd q t11,rnd q t12,rnd q t13,rnd q t14,rnd q t15]:=rfl
  rw [eL]
  have l0:=lvl_bd hq.1 b0 n0
  have l1:=lvl_bd hq.1 b1 n1
  have l2:=lvl_bd hq.1 b2 n2
  have l3:=lvl_bd hq.1 b3 n3
  have l4:=lvl_bd hq.1 b4 n4
  have l5:=lvl_bd hq.1 b5 n5
  have l6:=lvl_bd hq.1 b6 n6
  have l7:=lvl_bd hq.1 b7 n7
  have l8:=lvl_bd hq.1 b8 n8
  have l9:=lvl_bd hq.1 b9 n9
  have l10:=lvl_bd hq.1 b10 n10
  have l11:=lvl_bd hq.1 b11 n11
  have l12:=lvl_bd hq.1 b12 n12
  have l13:=lvl_bd hq.1 b13 n13
  have l14:=lvl_bd hq.1 b14 n14
  have l15:=lvl_bd hq.1 b15 n15
  generalize rnd q t0=r0 at *
  generalize rnd q t1=r1 at *
  generalize rnd q t2=r2 at *
  generalize rnd q t3=r3 at *
  generalize rnd q t4=r4 at *
  generalize rnd q t5=r5 at *
  generalize rnd q t6=r6 at *
  generalize rnd q t7=r7 at *
  generalize rnd q t8=r8 at *
  generalize rnd q t9=r9 at *
  generalize rnd q t10=r10 at *
  generalize rnd q t11=r11 at *
  generalize rnd q t12=r12 at *
  generalize rnd q t13=r13 at *
  generalize rnd q t14=r14 at *
  generalize rnd q t15=r15 at *
  clear eL g0 g1 g2 g3 g4 g5 g6 g7 g8 g9 qd qe qf qg qh qi
  refine⟨fun i=>?_,?_⟩
  · rcases Nat.lt_or_ge i 16 with h|h
    · have hm:rd [r0,r1,r2,r3,r4,r5,r6,r7,r8,r9,r10,r11,r12,r13,r14,r15] (i:Int) ∈ [r0,r1,r2,r3,r4,r5,r6,r7,r8,r9,r10,r11,r12,r13,r14,r15]:=rd_mem h
      simp only [List.mem_cons,List.not_mem_nil,or_false] at hm
      rcases hm with h|h|h|h|h|h|h|h|h|h|h|h|h|h|h|h
      · rw [h];exact l0
      · rw [h];exact l1
      · rw [h];exact l2
      · rw [h];exact l3
      · rw [h];exact l4
      · rw [h];exact l5
      · rw [h];exact l6
      · rw [h];exact l7
      · rw [h];exact l8
      · rw [h];exact l9
      · rw [h];exact l10
      · rw [h];exact l11
      · rw [h];exact l12
      · rw [h];exact l13
      · rw [h];exact l14
      · rw [h];exact l15
    · rw [rd_nat,List.getD_eq_getElem?_getD,List.getElem?_eq_none (by simpa using h)]
      exact⟨by decide,by decide⟩
  · rw [turn_plain (qb _ l0) (qb _ l1) (qb _ l2) (qb _ l3) (qb _ l4) (qb _ l5) (qb _ l6) (qb _ l7) (qb _ l8) (qb _ l9) (qb _ l10) (qb _ l11) (qb _ l12) (qb _ l13) (qb _ l14) (qb _ l15)]
    clear qb l0 b0 l1 b1 l2 b2 l3 b3 l4 b4 l5 b5 l6 b6 l7 b7 l8 b8 l9 b9 l10 b10 l11 b11 l12 b12 l13 b13 l14 b14 l15 b15
    have x0 : -(8*q)≤a0 - q*(r0+r1+r2+r3+r4+r5+r6+r7+r8+r9+r10+r11+r12+r13+r14+r15)∧a0 - q*(r0+r1+r2+r3+r4+r5+r6+r7+r8+r9+r10+r11+r12+r13+r14+r15)≤8*q:=by
      simp only [Int.mul_add,Int.mul_sub]
      exact near w0 (quad (quad (pos_ n0) (pos_ n1) (pos_ n2) (pos_ n3)) (quad (pos_ n4) (pos_ n5) (pos_ n6) (pos_ n7)) (quad (pos_ n8) (pos_ n9) (pos_ n10) (pos_ n11)) (quad (pos_ n12) (pos_ n13) (pos_ n14) (pos_ n15))) li0
    have x1 : -(8*q)≤a1 - q*(r0+r1 - r2 - r3+r4+r5 - r6 - r7+r8+r9 - r10 - r11+r12+r13 - r14 - r15)∧a1 - q*(r0+r1 - r2 - r3+r4+r5 - r6 - r7+r8+r9 - r10 - r11+r12+r13 - r14 - r15)≤8*q:=by
      simp only [Int.mul_add,Int.mul_sub]
      exact near w1 (quad (quad (pos_ n0) (pos_ n1) (neg_ n2) (neg_ n3)) (quad (pos_ n4) (pos_ n5) (neg_ n6) (neg_ n7)) (quad (pos_ n8) (pos_ n9) (neg_ n10) (neg_ n11)) (quad (pos_ n12) (pos_ n13) (neg_ n14) (neg_ n15))) li1
    have x2 : -(8*q)≤a2 - q*(r0 - r1 - r2+r3+r4 - r5 - r6+r7+r8 - r9 - r10+r11+r12 - r13 - r14+r15)∧a2 - q*(r0 - r1 - r2+r3+r4 - r5 - r6+r7+r8 - r9 - r10+r11+r12 - r13 - r14+r15)≤8*q:=by
      simp only [Int.mul_add,Int.mul_sub]
      exact near w2 (quad (quad (pos_ n0) (neg_ n1) (neg_ n2) (pos_ n3)) (quad (pos_ n4) (neg_ n5) (neg_ n6) (pos_ n7)) (quad (pos_ n8) (neg_ n9) (neg_ n10) (pos_ n11)) (quad (pos_ n12) (neg_ n13) (neg_ n14) (pos_ n15))) li2
    have x3 : -(8*q)≤a3 - q*(r0 - r1+r2 - r3+r4 - r5+r6 - r7+r8 - r9+r10 - r11+r12 - r13+r14 - r15)∧a3 - q*(r0 - r1+r2 - r3+r4 - r5+r6 - r7+r8 - r9+r10 - r11+r12 - r13+r14 - r15)≤8*q:=by
      simp only [Int.mul_add,Int.mul_sub]
      exact near w3 (quad (quad (pos_ n0) (neg_ n1) (pos_ n2) (neg_ n3)) (quad (pos_ n4) (neg_ n5) (pos_ n6) (neg_ n7)) (quad (pos_ n8) (neg_ n9) (pos_ n10) (neg_ n11)) (quad (pos_ n12) (neg_ n13) (pos_ n14) (neg_ n15))) li3
    have x4 : -(8*q)≤a4 - q*(r0+r1+r2+r3+r4+r5+r6+r7 - r8 - r9 - r10 - r11 - r12 - r13 - r14 - r15)∧a4 - q*(r0+r1+r2+r3+r4+r5+r6+r7 - r8 - r9 - r10 - r11 - r12 - r13 - r14 - r15)≤8*q:=by
      simp only [Int.mul_add,Int.mul_sub]
      exact near w4 (quad (quad (pos_ n0) (pos_ n1) (pos_ n2) (pos_ n3)) (quad (pos_ n4) (pos_ n5) (pos_ n6) (pos_ n7)) (quad (neg_ n8) (neg_ n9) (neg_ n10) (neg_ n11)) (quad (neg_ n12) (neg_ n13) (neg_ n14) (neg_ n15))) li4
    have x5 : -(8*q)≤a5 - q*(r0+r1 - r2 - r3+r4+r5 - r6 - r7 - r8 - r9+r10+r11 - r12 - r13+r14+r15)∧a5 - q*(r0+r1 - r2 - r3+r4+r5 - r6 - r7 - r8 - r9+r10+r11 - r12 - r13+r14+r15)≤8*q:=by
      simp only [Int.mul_add,Int.mul_sub]
      exact near w5 (quad (quad (pos_ n0) (pos_ n1) (neg_ n2) (neg_ n3)) (quad (pos_ n4) (pos_ n5) (neg_ n6) (neg_ n7)) (quad (neg_ n8) (neg_ n9) (pos_ n10) (pos_ n11)) (quad (neg_ n12) (neg_ n13) (pos_ n14) (pos_ n15))) li5
    have x6 : -(8*q)≤a6 - q*(r0 - r1 - r2+r3+r4 - r5 - r6+r7 - r8+r9+r10 - r11 - r12+r13+r14 - r15)∧a6 - q*(r0 - r1 - r2+r3+r4 - r5 - r6+r7 - r8+r9+r10 - r11 - r12+r13+r14 - r15)≤8*q:=by
      simp only [Int.mul_add,Int.mul_sub]
      exact near w6 (quad (quad (pos_ n0) (neg_ n1) (neg_ n2) (pos_ n3)) (quad (pos_ n4) (neg_ n5) (neg_ n6) (pos_ n7)) (quad (neg_ n8) (pos_ n9) (pos_ n10) (neg_ n11)) (quad (neg_ n12) (pos_ n13) (pos_ n14) (neg_ n15))) li6
    have x7 : -(8*q)≤a7 - q*(r0 - r1+r2 - r3+r4 - r5+r6 - r7 - r8+r9 - r10+r11 - r12+r13 - r14+r15)∧a7 - q*(r0 - r1+r2 - r3+r4 - r5+r6 - r7 - r8+r9 - r10+r11 - r12+r13 - r14+r15)≤8*q:=by
      simp only [Int.mul_add,Int.mul_sub]
      exact near w7 (quad (quad (pos_ n0) (neg_ n1) (pos_ n2) (neg_ n3)) (quad (pos_ n4) (neg_ n5) (pos_ n6) (neg_ n7)) (quad (neg_ n8) (pos_ n9) (neg_ n10) (pos_ n11)) (quad (neg_ n12) (pos_ n13) (neg_ n14) (pos_ n15))) li7
    have x8 : -(8*q)≤a8 - q*(r0+r1+r2+r3 - r4 - r5 - r6 - r7 - r8 - r9 - r10 - r11+r12+r13+r14+r15)∧a8 - q*(r0+r1+r2+r3 - r4 - r5 - r6 - r7 - r8 - r9 - r10 - r11+r12+r13+r14+r15)≤8*q:=by
      simp only [Int.mul_add,Int.mul_sub]
      exact near w8 (quad (quad (pos_ n0) (pos_ n1) (pos_ n2) (pos_ n3)) (quad (neg_ n4) (neg_ n5) (neg_ n6) (neg_ n7)) (quad (neg_ n8) (neg_ n9) (neg_ n10) (neg_ n11)) (quad (pos_ n12) (pos_ n13) (pos_ n14) (pos_ n15))) li8
    have x9 : -(8*q)≤a9 - q*(r0+r1 - r2 - r3 - r4 - r5+r6+r7 - r8 - r9+r10+r11+r12+r13 - r14 - r15)∧a9 - q*(r0+r1 - r2 - r3 - r4 - r5+r6+r7 - r8 - r9+r10+r11+r12+r13 - r14 - r15)≤8*q:=by
      simp only [Int.mul_add,Int.mul_sub]
      exact near w9 (quad (quad (pos_ n0) (pos_ n1) (neg_ n2) (neg_ n3)) (quad (neg_ n4) (neg_ n5) (pos_ n6) (pos_ n7)) (quad (neg_ n8) (neg_ n9) (pos_ n10) (pos_ n11)) (quad (pos_ n12) (pos_ n13) (neg_ n14) (neg_ n15))) li9
    have x10 : -(8*q)≤a10 - q*(r0 - r1 - r2+r3 - r4+r5+r6 - r7 - r8+r9+r10 - r11+r12 - r13 - r14+r15)∧a10 - q*(r0 - r1 - r2+r3 - r4+r5+r6 - r7 - r8+r9+r10 - r11+r12 - r13 - r14+r15)≤8*q:=by
      simp only [Int.mul_add,Int.mul_sub]
      exact near w10 (quad (quad (pos_ n0) (neg_ n1) (neg_ n2) (pos_ n3)) (quad (neg_ n4) (pos_ n5) (pos_ n6) (neg_ n7)) (quad (neg_ n8) (pos_ n9) (pos_ n10) (neg_ n11)) (quad (pos_ n12) (neg_ n13) (neg_ n14) (pos_ n15))) li10
    have x11 : -(8*q)≤a11 - q*(r0 - r1+r2 - r3 - r4+r5 - r6+r7 - r8+r9 - r10+r11+r12 - r13+r14 - r15)∧a11 - q*(r0 - r1+r2 - r3 - r4+r5 - r6+r7 - r8+r9 - r10+r11+r12 - r13+r14 - r15)≤8*q:=by
      simp only [Int.mul_add,Int.mul_sub]
      exact near w11 (quad (quad (pos_ n0) (neg_ n1) (pos_ n2) (neg_ n3)) (quad (neg_ n4) (pos_ n5) (neg_ n6) (pos_ n7)) (quad (neg_ n8) (pos_ n9) (neg_ n10) (pos_ n11)) (quad (pos_ n12) (neg_ n13) (pos_ n14) (neg_ n15))) li11
    have x12 : -(8*q)≤a12 - q*(r0+r1+r2+r3 - r4 - r5 - r6 - r7+r8+r9+r10+r11 - r12 - r13 - r14 - r15)∧a12 - q*(r0+r1+r2+r3 - r4 - r5 - r6 - r7+r8+r9+r10+r11 - r12 - r13 - r14 - r15)≤8*q:=by
      simp only [Int.mul_add,Int.mul_sub]
      exact near w12 (quad (quad (pos_ n0) (pos_ n1) (pos_ n2) (pos_ n3)) (quad (neg_ n4) (neg_ n5) (neg_ n6) (neg_ n7)) (quad (pos_ n8) (pos_ n9) (pos_ n10) (pos_ n11)) (quad (neg_ n12) (neg_ n13) (neg_ n14) (neg_ n15))) li12
    have x13 : -(8*q)≤a13 - q*(r0+r1 - r2 - r3 - r4 - r5+r6+r7+r8+r9 - r10 - r11 - r12 - r13+r14+r15)∧a13 - q*(r0+r1 - r2 - r3 - r4 - r5+r6+r7+r8+r9 - r10 - r11 - r12 - r13+r14+r15)≤8*q:=by
      simp only [Int.mul_add,Int.mul_sub]
      exact near w13 (quad (quad (pos_ n0) (pos_ n1) (neg_ n2) (neg_ n3)) (quad (neg_ n4) (neg_ n5) (pos_ n6) (pos_ n7)) (quad (pos_ n8) (pos_ n9) (neg_ n10) (neg_ n11)) (quad (neg_ n12) (neg_ n13) (pos_ n14) (pos_ n15))) li13
    have x14 : -(8*q)≤a14 - q*(r0 - r1 - r2+r3 - r4+r5+r6 - r7+r8 - r9 - r10+r11 - r12+r13+r14 - r15)∧a14 - q*(r0 - r1 - r2+r3 - r4+r5+r6 - r7+r8 - r9 - r10+r11 - r12+r13+r14 - r15)≤8*q:=by
      simp only [Int.mul_add,Int.mul_sub]
      exact near w14 (quad (quad (pos_ n0) (neg_ n1) (neg_ n2) (pos_ n3)) (quad (neg_ n4) (pos_ n5) (pos_ n6) (neg_ n7)) (quad (pos_ n8) (neg_ n9) (neg_ n10) (pos_ n11)) (quad (neg_ n12) (pos_ n13) (pos_ n14) (neg_ n15))) li14
    have x15 : -(8*q)≤a15 - q*(r0 - r1+r2 - r3 - r4+r5 - r6+r7+r8 - r9+r10 - r11 - r12+r13 - r14+r15)∧a15 - q*(r0 - r1+r2 - r3 - r4+r5 - r6+r7+r8 - r9+r10 - r11 - r12+r13 - r14+r15)≤8*q:=by
      simp only [Int.mul_add,Int.mul_sub]
      exact near w15 (quad (quad (pos_ n0) (neg_ n1) (pos_ n2) (neg_ n3)) (quad (neg_ n4) (pos_ n5) (neg_ n6) (pos_ n7)) (quad (pos_ n8) (neg_ n9) (pos_ n10) (neg_ n11)) (quad (neg_ n12) (pos_ n13) (neg_ n14) (pos_ n15))) li15
    intro i hi
    obtain rfl|rfl|rfl|rfl|rfl|rfl|rfl|rfl|rfl|rfl|rfl|rfl|rfl|rfl|rfl|rfl:=lt16 hi
    · exact x0
    · exact x1
    · exact x2
    · exact x3
    · exact x4
    · exact x5
    · exact x6
    · exact x7
    · exact x8
    · exact x9
    · exact x10
    · exact x11
    · exact x12
    · exact x13
    · exact x14
    · exact x15

theorem offG_self (a : List Int) (n : Nat) : offG a a n = 0 := by
  induction n with
  | zero => rfl
  | succ n ih => unfold offG dif; rw [ih]; split <;> omega
theorem bestOff_stay : ∀ (xs : List Wy) (m : Wy), (∀ x ∈ xs, m.o ≤ x.o) → bestOff m xs = m
  | [], m, _ => rfl
  | x :: xs, m, h => by
    unfold bestOff
    rw [if_neg (by have:=h x (by simp);omega)]
    exact bestOff_stay xs m (fun y hy=>h y (List.mem_cons_of_mem _ hy))
theorem motW_self {w h : Int} {p : List Int} (hp : PicO w h p) (bl : Int) : (motW w h p p bl).x = 0 ∧ (motW w h p p bl).y = 0 := by
  have e:motW w h p p bl=wyOf (motO w h p p bl) (0,0):=by
    unfold motW
    refine bestOff_stay _ _ (fun x hx=>?_)
    obtain⟨q,_,rfl⟩:=List.mem_map.1 hx
    have h1:(wyOf (motO w h p p bl) (0,0)).o=0:=offG_self _ _
    rw [h1]
    exact(motO_bd hp hp bl q.1 q.2).1
  rw [e]
  exact⟨rfl,rfl⟩

/-! #### the picture that is read -/
theorem rowcol {w r s r' s' : Int} (hw : 0 < w) (h1 : 0 ≤ s ∧ s < w) (h2 : 0 ≤ s' ∧ s' < w) (e : r * w + s = r' * w + s') : r = r' ∧ s = s' := by
  rcases Int.lt_trichotomy r r' with h|h|h
  · have h3:=Int.mul_le_mul_of_nonneg_right (show r+1≤r' by omega) (show 0≤w by omega)
    rw [Int.add_mul,Int.one_mul] at h3
    omega
  · subst h
    exact⟨rfl,by omega⟩
  · have h3:=Int.mul_le_mul_of_nonneg_right (show r'+1≤r by omega) (show 0≤w by omega)
    rw [Int.add_mul,Int.one_mul] at h3
    omega
def bX (w : Int) (k : Nat) : Int := (k : Int) % (w / 4) * 4
def bY (w : Int) (k : Nat) : Int := (k : Int) / (w / 4) * 4
structure Side4 (w : Int) (a : Int) : Prop where
  q : w / 4 = a
  w4 : w = a * 4
  pos : 0 < a
theorem side4_of {w h : Int} {px : List Int} (hp : PicO w h px) : Side4 w (w / 4) := ⟨rfl, by have := hp.wm; omega, by have := hp.w1; omega⟩
theorem idx_form {w a : Int} (hs : Side4 w a) (k j : Nat) (hj : j < 16) : idxP w (bX w k) (bY w k) j = (((k : Int) / a) * 4 + (j : Int) / 4) * w + (((k : Int) % a) * 4 + (j : Int) % 4) ∧ (0 ≤ ((k : Int) % a) * 4 + (j : Int) % 4 ∧ ((k : Int) % a) * 4 + (j : Int) % 4 < w) := by
  unfold idxP bX bY
  rw [hs.q]
  have e1:=Int.emod_nonneg (k:Int) (show a≠0 by have:=hs.pos;omega)
  have e2:=Int.emod_lt_of_pos (k:Int) hs.pos
  have e3:=hs.w4
  refine⟨by rw [Int.add_assoc],?_,?_⟩
  · generalize (k:Int) % a=x at *
    omega
  · generalize (k:Int) % a=x at *
    omega
theorem idx_inj {w a : Int} (hs : Side4 w a) {k k' j j' : Nat} (hj : j < 16) (hj' : j' < 16) (e : idxP w (bX w k) (bY w k) j = idxP w (bX w k') (bY w k') j') : k = k' ∧ j = j' := by
  obtain⟨f1,g1⟩:=idx_form hs k j hj
  obtain⟨f2,g2⟩:=idx_form hs k' j' hj'
  rw [f1,f2] at e
  have hw:0 < w:=by have:=hs.w4;have:=hs.pos;omega
  obtain⟨e1,e2⟩:=rowcol hw g1 g2 e
  have d1:=Int.emod_add_mul_ediv (k:Int) a
  have d2:=Int.emod_add_mul_ediv (k':Int) a
  have e3:(k:Int) / a=(k':Int) / a:=by
    generalize (k:Int) / a=y at *
    generalize (k':Int) / a=y' at *
    omega
  have e4:(k:Int) % a=(k':Int) % a:=by
    generalize (k:Int) % a=x at *
    generalize (k':Int) % a=x' at *
    omega
  rw [e3,e4] at d1
  rw [e3] at e1
  rw [e4] at e2
  exact⟨by omega,by omega⟩
theorem rd_set {l : List Int} {i p : Int} {v : Int} (hi : 0 ≤ i ∧ i < (l.length : Int)) (hp : 0 ≤ p) : rd (l.set i.toNat v) p = if p = i then v else rd l p := by
  obtain⟨i,rfl⟩:=Int.eq_ofNat_of_zero_le hi.1
  obtain⟨p,rfl⟩:=Int.eq_ofNat_of_zero_le hp
  rw [Int.toNat_natCast,rd_nat,rd_nat,List.getD_eq_getElem?_getD,List.getD_eq_getElem?_getD,List.getElem?_set]
  by_cases e:p=i
  · subst e
    rw [if_pos rfl,if_pos (by omega),if_pos rfl]
    rfl
  · rw [if_neg (fun h=>e h.symm),if_neg (by omega)]
def InB (w : Int) (k n : Nat) : Prop := ∀ j, j < 16 → 0 ≤ idxP w (bX w k) (bY w k) j ∧ idxP w (bX w k) (bY w k) j < (n : Int)
theorem put_same {w a : Int} (hs : Side4 w a) {k : Nat} {o xs : List Int} (hk : InB w k o.length) : ∀ n, n ≤ 16 → ∀ j, j < n → rd (putG w (bX w k) (bY w k) xs n o) (idxP w (bX w k) (bY w k) j) = rd xs (j : Int)
  | 0, _, _, h => by omega
  | n + 1, hn, j, hj => by
    have h1:=hk n (by omega)
    have h2:=hk j (by omega)
    rw [putG,rd_set (by rw [putG_len];exact h1) h2.1]
    by_cases e:j=n
    · subst e
      rw [if_pos rfl]
    · rw [if_neg (fun h=>e (idx_inj hs (by omega) (by omega) h).2)]
      exact put_same hs hk n (by omega) j (by omega)
theorem put_other {w : Int} {k : Nat} {o xs : List Int} (hk : InB w k o.length) {p : Int} (hp : 0 ≤ p) (hne : ∀ j, j < 16 → p ≠ idxP w (bX w k) (bY w k) j) : ∀ n, n ≤ 16 → rd (putG w (bX w k) (bY w k) xs n o) p = rd o p
  | 0, _ => rfl
  | n + 1, hn => by
    rw [putG,rd_set (by rw [putG_len];exact hk n (by omega)) hp,if_neg (hne n (by omega))]
    exact put_other hk hp hne n (by omega)
def paintG (w : Int) (val : Nat → List Int) : Nat → List Int → List Int
  | 0, o => o
  | k + 1, o => putG w (bX w k) (bY w k) (val k) 16 (paintG w val k o)
theorem paint_len (w : Int) (val : Nat → List Int) (o : List Int) : ∀ k, (paintG w val k o).length = o.length
  | 0 => rfl
  | k + 1 => by rw [paintG, putG_len, paint_len w val o k]
theorem paint_at {w a : Int} (hs : Side4 w a) (val : Nat → List Int) (o : List Int) : ∀ n, (∀ k, k < n → InB w k o.length) → ∀ k, k < n → ∀ j, j < 16 → rd (paintG w val n o) (idxP w (bX w k) (bY w k) j) = rd (val k) (j : Int)
  | 0, _, _, h, _, _ => by omega
  | n + 1, hb, k, hk, j, hj => by
    have hn:InB w n (paintG w val n o).length:=by rw [paint_len];exact hb n (by omega)
    rw [paintG]
    by_cases e:k=n
    · subst e
      exact put_same hs hn 16 (by omega) j hj
    · rw [put_other hn (hb k hk j hj).1 (fun j' hj' h=>e (idx_inj hs hj hj' h).1) 16 (by omega)]
      exact paint_at hs val o n (fun k hk=>hb k (by omega)) k (by omega) j hj
theorem in_pic {w h : Int} {px : List Int} (hp : PicO w h px) {k : Nat} (hk : (k : Int) < w / 4 * (h / 4)) {n : Nat} (hn : (n : Int) = w * h) : InB w k n := (put_ok hp hk hn).2.2.2
theorem cover {w h : Int} {px : List Int} (hp : PicO w h px) {i : Nat} (hi : (i : Int) < w * h) : ∃ k j : Nat, (k : Int) < w / 4 * (h / 4) ∧ j < 16 ∧ idxP w (bX w k) (bY w k) j = (i : Int) := by
  have hs:=side4_of hp
  have g1:=hp.w1;have g3:=hp.h1;have g5:=hp.wm;have g6:=hp.hm
  have hw:0 < w:=by omega
  obtain⟨a,ha⟩:∃ a,w / 4=a:=⟨_,rfl⟩
  obtain⟨c,hc⟩:∃ c,h / 4=c:=⟨_,rfl⟩
  rw [ha] at hs
  have x0:=Int.emod_nonneg (i:Int) (show w≠0 by omega)
  have x1:=Int.emod_lt_of_pos (i:Int) hw
  have y0:0≤(i:Int) / w:=Int.ediv_nonneg (by omega) (by omega)
  have y1:(i:Int) / w < h:=Int.ediv_lt_of_lt_mul hw (by rw [Int.mul_comm];exact hi)
  have d:=Int.emod_add_mul_ediv (i:Int) w
  generalize hx:(i:Int) % w=x at *
  generalize hy:(i:Int) / w=y at *
  have w4:=hs.w4
  have ap:=hs.pos
  have xa:0≤x / 4∧x / 4 < a:=by omega
  have yc:0≤y / 4∧y / 4 < c:=by omega
  have k0:0≤y / 4*a+x / 4:=by have:=Int.mul_nonneg yc.1 (show 0≤a by omega);omega
  obtain⟨k,hk⟩:=Int.eq_ofNat_of_zero_le k0
  obtain⟨j,hj⟩:=Int.eq_ofNat_of_zero_le (show 0≤y % 4*4+x % 4 by omega)
  have hj16:j < 16:=by omega
  have m1:(k:Int) % a=x / 4:=by
    rw [← hk,Int.add_comm,Int.add_mul_emod_self_right]
    exact Int.emod_eq_of_lt xa.1 xa.2
  have m2:(k:Int) / a=y / 4:=by
    rw [← hk,Int.add_comm,Int.add_mul_ediv_right _ _ (show a≠0 by omega),Int.ediv_eq_zero_of_lt xa.1 xa.2,Int.zero_add]
  refine⟨k,j,?_,hj16,?_⟩
  · rw [ha,hc,← hk]
    have h3:=Int.mul_le_mul_of_nonneg_right (show y / 4+1≤c by omega) (show 0≤a by omega)
    rw [Int.add_mul,Int.one_mul] at h3
    rw [Int.mul_comm a c]
    omega
  · obtain⟨f,_⟩:=idx_form hs k j hj16
    rw [f,m1,m2,show y / 4*4+(j:Int) / 4=y by omega,show x / 4*4+(j:Int) % 4=x by omega,Int.mul_comm]
    omega
theorem blk_pix {w h : Int} {px : List Int} (hp : PicO w h px) {k : Nat} (hk : (k : Int) < w / 4 * (h / 4)) {j : Nat} (hj : j < 16) : rd (blk w h px (k : Int) 0 0) (j : Int) = rd px (idxP w (bX w k) (bY w k) j) := by
  have hb:=in_pic hp hk (n:=px.length) (by have:=hp.len;omega) j hj
  have hs:=side4_of hp
  obtain⟨f,g⟩:=idx_form hs k j hj
  have hw:0 < w:=by have:=hp.w1;omega
  have g3:=hp.h1
  have y0:0≤(k:Int) / (w / 4)*4+(j:Int) / 4:=by
    have:0≤(k:Int) / (w / 4):=Int.ediv_nonneg (by omega) (by have:=hs.pos;omega)
    generalize (k:Int) / (w / 4)=z at *
    omega
  have y1:(k:Int) / (w / 4)*4+(j:Int) / 4 < h:=by
    have e6:(k:Int) / (w / 4) < h / 4:=Int.ediv_lt_of_lt_mul hs.pos (by rw [Int.mul_comm];exact hk)
    have:=hp.hm
    generalize (k:Int) / (w / 4)=z at *
    omega
  have e:rd (blk w h px (k:Int) 0 0) (j:Int)=blkE w h px (k:Int) 0 0 j:=blk_rd w h px (k:Int) 0 0 hj
  rw [e,f]
  unfold blkE pxAt
  have c1:cl h ((k:Int) / (w / 4)*4+(j:Int) / 4+0)=(k:Int) / (w / 4)*4+(j:Int) / 4:=by
    unfold cl
    rw [if_neg (by omega),if_neg (by omega),Int.add_zero]
  have c2:cl w ((k:Int) % (w / 4)*4+(j:Int) % 4+0)=(k:Int) % (w / 4)*4+(j:Int) % 4:=by
    unfold cl
    rw [if_neg (by omega),if_neg (by omega),Int.add_zero]
  rw [c1,c2]
/-! #### all blocks -/
def lvlOf (w h : Int) (old p : List Int) (q : Int) (k : Nat) : List Int := levL q (turnV (difL (blk w h p (k : Int) 0 0) (blk w h old (k : Int) (motW w h old p (k : Int)).x (motW w h old p (k : Int)).y)))
def valOf (w h : Int) (old p : List Int) (q : Int) (k : Nat) : List Int := outG (blk w h old (k : Int) (motW w h old p (k : Int)).x (motW w h old p (k : Int)).y) (turnV (lvlOf w h old p q k)) q 16
def encFrom (w h : Int) (old p : List Int) (q : Int) : Nat → Nat → List Int
  | 0, _ => []
  | d + 1, k => encB w h old p q k ++ encFrom w h old p q d (k + 1)
theorem enc_from (w h : Int) (old p : List Int) (q : Int) : ∀ d k, encG w h old p q (k + d) = encG w h old p q k ++ encFrom w h old p q d k
  | 0, k => by rw [encFrom, List.append_nil]; rfl
  | d + 1, k => by rw [show k + (d + 1) = (k + 1) + d by omega, enc_from w h old p q d (k + 1), encG_succ, encFrom, List.append_assoc]
theorem difL_at (X Y : List Int) {j : Nat} (hj : j < 16) : rd (difL X Y) (j : Int) = wrap64 (rd X (j : Int) - rd Y (j : Int)) := by
  unfold difL
  rw [updG_at _ _ _ hj,if_pos hj]
theorem dif_of {w h : Int} {old p : List Int} (ho : PicO w h old) (hp : PicO w h p) (k : Nat) (x y : Int) : Dif (difL (blk w h p (k : Int) 0 0) (blk w h old (k : Int) x y)) ∧ ∀ j : Nat, j < 16 → rd (difL (blk w h p (k : Int) 0 0) (blk w h old (k : Int) x y)) (j : Int) = rd (blk w h p (k : Int) 0 0) (j : Int) - rd (blk w h old (k : Int) x y) (j : Int) := by
  have at_:∀ j:Nat,j < 16→rd (difL (blk w h p (k:Int) 0 0) (blk w h old (k:Int) x y)) (j:Int)=rd (blk w h p (k:Int) 0 0) (j:Int) - rd (blk w h old (k:Int) x y) (j:Int):=fun j hj=>by
    have h1:0≤rd (blk w h p (k:Int) 0 0) (j:Int)∧rd (blk w h p (k:Int) 0 0) (j:Int)≤255:=blk_by hp (k:Int) 0 0 hj
    have h2:0≤rd (blk w h old (k:Int) x y) (j:Int)∧rd (blk w h old (k:Int) x y) (j:Int)≤255:=blk_by ho (k:Int) x y hj
    rw [difL_at _ _ hj,w64 (by omega) (by omega)]
  refine⟨⟨updG_len _ _ _,fun z hz=>?_⟩,at_⟩
  obtain⟨j,hj,rfl⟩:=List.getElem_of_mem hz
  have hj16:j < 16:=by rw [show(difL (blk w h p (k:Int) 0 0) (blk w h old (k:Int) x y)).length=16 from updG_len _ _ _] at hj;exact hj
  have h3:=at_ j hj16
  rw [rd_nat,List.getD_eq_getElem?_getD,List.getElem?_eq_getElem hj] at h3
  have h1:0≤rd (blk w h p (k:Int) 0 0) (j:Int)∧rd (blk w h p (k:Int) 0 0) (j:Int)≤255:=blk_by hp (k:Int) 0 0 hj16
  have h2:0≤rd (blk w h old (k:Int) x y) (j:Int)∧rd (blk w h old (k:Int) x y) (j:Int)≤255:=blk_by ho (k:Int) x y hj16
  have h4:(difL (blk w h p (k:Int) 0 0) (blk w h old (k:Int) x y))[j]=rd (blk w h p (k:Int) 0 0) (j:Int) - rd (blk w h old (k:Int) x y) (j:Int):=h3
  omega
theorem gV_all {w h q : Int} {old p : List Int} (ho : PicO w h old) (hp : PicO w h p) (hq : 1 ≤ q ∧ q ≤ 64) (o : List Int) : ∀ d k, gV w h old q d k (encFrom w h old p q d k) (paintG w (valOf w h old p q) k o) = some ([], paintG w (valOf w h old p q) (k + d) o)
  | 0, k => rfl
  | d + 1, k => by
    have hm:=motW_bd w h old p (k:Int)
    have hl:=(turn_near hq (dif_of ho hp k (motW w h old p (k:Int)).x (motW w h old p (k:Int)).y).1).1
    rw [encFrom,encB,gV_tell hm.1 hm.2 hl d k,show k+(d+1)=(k+1)+d by omega]
    exact gV_all ho hp hq o d (k+1)
theorem enc_bytes {w h q : Int} {old p : List Int} (ho : PicO w h old) (hp : PicO w h p) (hq : 1 ≤ q ∧ q ≤ 64) : ∀ n, BytesL (encG w h old p q n)
  | 0 => fun x hx => by simp [encG] at hx
  | n + 1 => by
    have hm:=motW_bd w h old p (n:Int)
    rw [encG_succ]
    exact bytes_app (enc_bytes ho hp hq n) (tell_bytes hm.1 hm.2 (turn_near hq (dif_of ho hp n (motW w h old p (n:Int)).x (motW w h old p (n:Int)).y).1).1)
theorem outV_plain {o m : List Int} {q : Int} {j : Nat} : outV o m q j = min 255 (max 0 (wrap64 (rd o (j : Int) + wrap64 (q * rd m (j : Int))))) := (out_eq o m q j).symm
theorem val_near {w h q : Int} {old p : List Int} (ho : PicO w h old) (hp : PicO w h p) (hq : 1 ≤ q ∧ q ≤ 64) (k : Nat) {j : Nat} (hj : j < 16) :
    (0≤rd (valOf w h old p q k) (j:Int)∧rd (valOf w h old p q k) (j:Int)≤255)∧rd (valOf w h old p q k) (j:Int) - rd (blk w h p (k:Int) 0 0) (j:Int)≤8*q ∧ -(8*q)≤rd (valOf w h old p q k) (j:Int) - rd (blk w h p (k:Int) 0 0) (j:Int):=by
  obtain⟨hd,hj2⟩:=dif_of ho hp k (motW w h old p (k:Int)).x (motW w h old p (k:Int)).y
  have hn:=(turn_near hq hd).2 j hj
  rw [hj2 j hj] at hn
  unfold valOf lvlOf
  rw [outG_at _ _ _ _ _ hj (by omega),outV_plain]
  have h1:0≤rd (blk w h p (k:Int) 0 0) (j:Int)∧rd (blk w h p (k:Int) 0 0) (j:Int)≤255:=blk_by hp (k:Int) 0 0 hj
  have h2:0≤rd (blk w h old (k:Int) (motW w h old p (k:Int)).x (motW w h old p (k:Int)).y) (j:Int)∧rd (blk w h old (k:Int) (motW w h old p (k:Int)).x (motW w h old p (k:Int)).y) (j:Int)≤255:=blk_by ho (k:Int) _ _ hj
  generalize q*rd (turnV (levL q (turnV (difL (blk w h p (k:Int) 0 0) (blk w h old (k:Int) (motW w h old p (k:Int)).x (motW w h old p (k:Int)).y))))) (j:Int)=z at *
  generalize rd (blk w h p (k:Int) 0 0) (j:Int)=X at *
  generalize rd (blk w h old (k:Int) (motW w h old p (k:Int)).x (motW w h old p (k:Int)).y) (j:Int)=Y at *
  rw [w64 (x:=z) (by omega) (by omega),w64 (x:=Y+z) (by omega) (by omega)]
  omega
theorem all_by {l : List Int} (h : ∀ i : Nat, i < l.length → 0 ≤ rd l (i : Int) ∧ rd l (i : Int) ≤ 255) : l.all byB = true := by
  rw [List.all_eq_true]
  intro x hx
  obtain⟨i,hi,rfl⟩:=List.getElem_of_mem hx
  have:=h i hi
  rw [rd_nat,List.getD_eq_getElem?_getD,List.getElem?_eq_getElem hi] at this
  exact decide_eq_true this
theorem dec_enc {w h q : Int} {old p : List Int} (ho : picB w h old = true) (ho2 : PicO w h old) (hp : PicO w h p) (hq : 1 ≤ q ∧ q ≤ 64) : decV w h old (encG w h old p q (w / 4 * (h / 4)).toNat) q = (w, h, paintG w (valOf w h old p q) (w / 4 * (h / 4)).toNat (List.replicate (w * h).toNat 0), true) := by
  have e:=enc_from w h old p q (w / 4*(h / 4)).toNat 0
  have e0:encG w h old p q 0 = []:=rfl
  rw [Nat.zero_add,e0,List.nil_append] at e
  have g:=gV_all ho2 hp hq (List.replicate (w*h).toNat 0) (w / 4*(h / 4)).toNat 0
  rw [Nat.zero_add] at g
  unfold decV
  rw [if_pos ⟨ho,hq⟩,e]
  have g2:gV w h old q (w / 4*(h / 4)).toNat 0 (encFrom w h old p q (w / 4*(h / 4)).toNat 0) (List.replicate (w*h).toNat 0)=some ([],paintG w (valOf w h old p q) (w / 4*(h / 4)).toNat (List.replicate (w*h).toNat 0)):=g
  rw [g2]
  rfl
theorem dec_near {w h q : Int} {old p : List Int} (ho : PicO w h old) (hp : PicO w h p) (hq : 1 ≤ q ∧ q ≤ 64) {D : List Int} (hD : paintG w (valOf w h old p q) (w / 4 * (h / 4)).toNat (List.replicate (w * h).toNat 0) = D) :
    D.length=p.length ∧ ∀ i:Nat,i < p.length→(0≤rd D (i:Int)∧rd D (i:Int)≤255)∧(0≤rd p (i:Int)∧rd p (i:Int)≤255)∧rd D (i:Int) - rd p (i:Int)≤8*q ∧ -(8*q)≤rd D (i:Int) - rd p (i:Int):=by
  have hl:=hp.len
  have hbd:=blocks_bd hp
  have g1:=hp.w1;have g3:=hp.h1
  have hrep:(List.replicate (w*h).toNat (0:Int)).length=p.length:=by rw [List.length_replicate];omega
  subst hD
  refine⟨by rw [paint_len];exact hrep,fun i hi=>?_⟩
  obtain⟨k,j,hk,hj,e⟩:=cover hp (i:=i) (by omega)
  have hb:∀ k,k < (w / 4*(h / 4)).toNat→InB w k (List.replicate (w*h).toNat (0:Int)).length:=fun k hk=>in_pic hp (by omega) (by rw [hrep];omega)
  have h1:=paint_at (side4_of hp) (valOf w h old p q) (List.replicate (w*h).toNat 0) _ hb k (by omega) j hj
  have h2:=blk_pix hp hk hj
  rw [e] at h1 h2
  rw [h1,← h2]
  obtain⟨v1,v2⟩:=val_near ho hp hq k hj
  exact⟨v1,blk_by hp (k:Int) 0 0 hj,v2⟩
/-! #### the same picture -/
theorem rnd_zero {q : Int} (hq : 1 ≤ q ∧ q ≤ 64) : rnd q 0 = 0 := by
  have h:=rnd_near hq (z:=0) (by omega)
  rcases Int.lt_trichotomy (rnd q 0) 0 with h1|h1|h1
  · have:=Int.mul_le_mul_of_nonneg_left (show rnd q 0 ≤ -1 by omega) (show 0≤q by omega)
    omega
  · exact h1
  · have:=Int.mul_le_mul_of_nonneg_left (show 1≤rnd q 0 by omega) (show 0≤q by omega)
    omega
def z16 : List Int := [0, 0, 0, 0, 0, 0, 0, 0, 0, 0, 0, 0, 0, 0, 0, 0]
theorem turn_zero : turnV z16 = z16 := turn_plain (by decide) (by decide) (by decide) (by decide) (by decide) (by decide) (by decide) (by decide) (by decide) (by decide) (by decide) (by decide) (by decide) (by decide) (by decide) (by decide)
theorem dif_same (X : List Int) : difL X X = z16 := by
  have e:(fun j:Nat=>wrap64 (rd X (j:Int) - rd X (j:Int)))=fun _=>0:=funext fun j=>by rw [Int.sub_self];exact w64 (x:=0) (by decide) (by decide)
  unfold difL
  rw [e]
  rfl
theorem lev_zero {q : Int} (hq : 1 ≤ q ∧ q ≤ 64) : levL q z16 = z16 := by
  have e:levL q z16 = [rnd q 0,rnd q 0,rnd q 0,rnd q 0,rnd q 0,rnd q 0,rnd q 0,rnd q 0,rnd q 0,rnd q 0,rnd q 0,rnd q 0,rnd q 0,rnd q 0,rnd q 0,rnd q 0]:=rfl
  rw [e,rnd_zero hq]
  rfl
theorem lvl_same {w h q : Int} {p : List Int} (hp : PicO w h p) (hq : 1 ≤ q ∧ q ≤ 64) (k : Nat) : lvlOf w h p p q k = z16 := by
  obtain⟨m1,m2⟩:=motW_self hp (k:Int)
  unfold lvlOf
  rw [m1,m2,dif_same,turn_zero,lev_zero hq]
theorem encB_same {w h q : Int} {p : List Int} (hp : PicO w h p) (hq : 1 ≤ q ∧ q ≤ 64) (k : Nat) : (encB w h p p q k).length = 2 := by
  have hl:=lvl_same hp hq k
  unfold lvlOf at hl
  unfold encB tellB
  rw [hl]
  rfl
theorem encG_same {w h q : Int} {p : List Int} (hp : PicO w h p) (hq : 1 ≤ q ∧ q ≤ 64) : ∀ n, (encG w h p p q n).length = 2 * n
  | 0 => rfl
  | n + 1 => by rw [encG_succ, List.length_append, encG_same hp hq n, encB_same hp hq n]; omega
theorem val_same {w h q : Int} {p : List Int} (hp : PicO w h p) (hq : 1 ≤ q ∧ q ≤ 64) (k : Nat) {j : Nat} (hj : j < 16) : rd (valOf w h p p q k) (j : Int) = rd (blk w h p (k : Int) 0 0) (j : Int) := by
  obtain⟨m1,m2⟩:=motW_self hp (k:Int)
  unfold valOf
  rw [lvl_same hp hq k,turn_zero,m1,m2,outG_at _ _ _ _ _ hj (by omega),outV_plain]
  have h0:rd z16 (j:Int)=0:=by
    obtain rfl|rfl|rfl|rfl|rfl|rfl|rfl|rfl|rfl|rfl|rfl|rfl|rfl|rfl|rfl|rfl:j=0∨j=1∨j=2∨j=3∨j=4∨j=5∨j=6∨j=7∨j=8∨j=9∨j=10∨j=11∨j=12∨j=13∨j=14∨j=15:=by omega
    all_goals rfl
  have h1:0≤rd (blk w h p (k:Int) 0 0) (j:Int)∧rd (blk w h p (k:Int) 0 0) (j:Int)≤255:=blk_by hp (k:Int) 0 0 hj
  rw [h0,Int.mul_zero,w64 (x:=0) (by omega) (by omega),Int.add_zero,w64 (by omega) (by omega)]
  omega
theorem dec_same {w h q : Int} {p : List Int} (hp : PicO w h p) (hq : 1 ≤ q ∧ q ≤ 64) : paintG w (valOf w h p p q) (w / 4 * (h / 4)).toNat (List.replicate (w * h).toNat 0) = p := by
  have hl:=hp.len
  have hbd:=blocks_bd hp
  have g1:=hp.w1;have g3:=hp.h1
  have hrep:(List.replicate (w*h).toNat (0:Int)).length=p.length:=by rw [List.length_replicate];omega
  have hlen:(paintG w (valOf w h p p q) (w / 4*(h / 4)).toNat (List.replicate (w*h).toNat 0)).length=p.length:=by rw [paint_len];exact hrep
  refine List.ext_getElem hlen fun i h1 h2=>?_
  obtain⟨k,j,hk,hj,e⟩:=cover hp (i:=i) (by omega)
  have hb:∀ k,k < (w / 4*(h / 4)).toNat→InB w k (List.replicate (w*h).toNat (0:Int)).length:=fun k hk=>in_pic hp (by omega) (by rw [hrep];omega)
  have f1:=paint_at (side4_of hp) (valOf w h p p q) (List.replicate (w*h).toNat 0) _ hb k (by omega) j hj
  have f2:=blk_pix hp hk hj
  rw [e] at f1 f2
  rw [val_same hp hq k hj,f2,rd_nat,rd_nat,List.getD_eq_getElem?_getD,List.getD_eq_getElem?_getD,List.getElem?_eq_getElem h1,List.getElem?_eq_getElem h2] at f1
  exact f1

theorem sameInts_refl (xs : List Int) (h : xs.length ≤ 1048576) : Ev (fun k => laws_sameInts.f k xs xs) true := by
  have key:∀ d i,i+d=xs.length→Ev (fun k=>laws_sameInts.l0 k xs xs (i:Int)) true:=by
    intro d
    induction d with
    | zero =>
      intro i hi
      refine ev_succ ?_
      have h1 : ¬ (i:Int) < (xs.length:Int):=by omega
      simp only [laws_sameInts.l0,h1,if_false]
      exact ev_ret rfl
    | succ d ih =>
      intro i hi
      refine ev_succ ?_
      have h1:(i:Int) < (xs.length:Int):=by omega
      have h2:(0:Int)≤(i:Int):=by omega
      have h4:=w64s (n:=i) (by omega)
      simp only [laws_sameInts.l0,h1,h2,h4,if_true]
      exact ih (i+1) (by omega)
  unfold laws_sameInts.f
  exact ev_pos rfl (key xs.length 0 (by omega))
theorem ev_at {α : Type} {g : Nat → Option α} {r : α} (h : Ev g r) : ∃ n, ∀ k, n ≤ k → g k = some r := h
theorem fine_all : FineAllC := by
  intro a c xs a2 c2 ys q hx hy
  obtain⟨n1,e1⟩:=ev_at (impl_Encode_ev a c xs a2 c2 ys q)
  obtain⟨n2,e2⟩:=ev_at (spec_Encode_ev a c xs a2 c2 ys q)
  by_cases hT:twoB a c xs a2 c2 ys=true∧1≤q∧q≤64
  case neg=>
    have hV:encV a c xs a2 c2 ys q=([],false):=by unfold encV;rw [if_neg hT]
    rw [hV] at e1 e2
    exact⟨n1+n2,[],false,e1 _ (by omega),e2 _ (by omega),fun _=>rfl,(fun h=>nomatch h)⟩
  have hV:encV a c xs a2 c2 ys q=(encG a2 c2 xs ys q (a2 / 4*(c2 / 4)).toNat,true):=by unfold encV;rw [if_pos hT]
  rw [hV] at e1 e2
  obtain⟨hT1,hq⟩:=hT
  obtain⟨rfl,rfl,ho,hp⟩:=twoB_of hT1
  have hpb:picB a c xs=true∧picB a c ys=true:=by
    unfold twoB at hT1
    rw [Bool.and_eq_true,Bool.and_eq_true] at hT1
    exact hT1.1
  have hbB:=enc_bytes ho hp hq (a / 4*(c / 4)).toNat
  obtain⟨n3,e3⟩:=ev_at (impl_Decode_ev a c q xs _ hbB)
  rw [dec_enc hpb.1 ho hp hq] at e3
  obtain⟨dl,dn_⟩:=dec_near ho hp hq rfl
  have hS:encV a c ys a c ys q=(encG a c ys ys q (a / 4*(c / 4)).toNat,true):=by
    unfold encV
    rw [if_pos ⟨by unfold twoB;rw [hpb.2];simp,hq⟩]
  obtain⟨n4,e4⟩:=ev_at (impl_Encode_ev a c ys a c ys q)
  rw [hS] at e4
  have hbS:=enc_bytes hp hp hq (a / 4*(c / 4)).toNat
  obtain⟨n5,e5⟩:=ev_at (impl_Decode_ev a c q ys _ hbS)
  rw [dec_enc hpb.2 hp hp hq,dec_same hp hq] at e5
  obtain⟨n6,e6⟩:=ev_at (sameInts_refl ys (by omega))
  have hbd:=blocks_bd hp
  have hsl:((encG a c ys ys q (a / 4*(c / 4)).toNat).length:Int)=2*(ys.length:Int) / 16:=by
    rw [encG_same hp hq]
    have hl:=hp.len
    have hm:=hp.wm
    have hn:=hp.hm
    obtain⟨u,hu⟩:∃ u,a / 4=u:=⟨_,rfl⟩
    obtain⟨v,hv⟩:∃ v,c / 4=v:=⟨_,rfl⟩
    have ea:a=u*4:=by omega
    have ec:c=v*4:=by omega
    have el:a*c=u*v*16:=by rw [ea,ec,Int.mul_assoc,Int.mul_left_comm 4 v 4,← Int.mul_assoc u v];rfl
    rw [hu,hv] at hbd ⊢
    rw [hl,el]
    generalize u*v=z at *
    omega
  refine⟨n1+n2+n3+n4+n5+n6,_,true,e1 _ (by omega),e2 _ (by omega),(fun h=>nomatch h),fun _=>⟨_,_,e3 _ (by omega),?_,dl,hq,dn_,e4 _ (by omega),e5 _ (by omega),hsl,e6 _ (by omega)⟩⟩
  rw [impl_PictureOk_eq]
  refine congrArg some ?_
  have hpic:=hpb.2
  unfold picB at hpic ⊢
  rw [Bool.and_eq_true] at hpic ⊢
  refine⟨by rw [dl];exact hpic.1,all_by fun i hi=>(dn_ i (by rw [← dl];exact hi)).1⟩
open Classical in
theorem FnCoded : ∀ (l0 : List Int), (l0.length ≤ maxLen ∧ ∀ y1 ∈ l0, (Lit.int .u8 y1).wf = true) → laws_FnCoded.f l0 = some true := by
  intro l0 _
  unfold laws_FnCoded.f
  split
  · rfl
  · exact if_pos fine_all
end Go.Proofs.Ytbdnpfjjaokdbaa.Pure
