/-
  The plain statement of FnDecoded: whatever the bytes are, both sides read the same; what is read is a picture of the old one's size, and one byte more is refused.
  Conditions: the statement's own.
-/
import Derived.Test.YtbdnpfjjaokdbaaHFnDecodedx0
import Derived.Test.YtbdnpfjjaokdbaaHFnDecodedx1
import Derived.Test.YtbdnpfjjaokdbaaHFnDecodedx2
import Derived.Test.YtbdnpfjjaokdbaaHFnDecodedx3
import Derived.Test.YtbdnpfjjaokdbaaHFnDecodedx4
import Derived.Test.YtbdnpfjjaokdbaaHFnDecodedx5
import Derived.Test.YtbdnpfjjaokdbaaHFnDecodedx6
import Derived.Test.YtbdnpfjjaokdbaaHFnDecodedx7
import Derived.Test.YtbdnpfjjaokdbaaHFnDecodedx8
import Derived.Test.YtbdnpfjjaokdbaaHFnDecodedx9
import Derived.Test.YtbdnpfjjaokdbaaHFnDecodedx10
import Derived.Test.YtbdnpfjjaokdbaaHFnDecodedx11
import Derived.Test.YtbdnpfjjaokdbaaHFnDecodedx12
import Derived.Test.YtbdnpfjjaokdbaaPureBase
import Derived.Laws.BitsLemmas
namespace Go.Proofs.Ytbdnpfjjaokdbaa.Pure
open Go.RowKit Go.Proofs.Ytbdnpfjjaokdbaa.HFnDecoded Go.Proofs.YtbdnpfjjaokdbaaW.PrintWords Go.Proofs.YtbdnpfjjaokdbaaW.PrintLast Go.Proofs.YtbdnpfjjaokdbaaW.PrintMore Go.Proofs.Ytbdnpfjjaokdbaa.PB
set_option linter.unusedVariables false
set_option linter.unusedSimpArgs false
theorem spec_in_eq (a lo hi : Int) : spec_l1In.f a lo hi = some (decide (lo ≤ a ∧ a ≤ hi)) := by
  unfold spec_l1In.f
  by_cases h:a ≥ lo
  · rw [if_pos h];simp [show lo≤a from h]
  · rw [if_neg h];simp;omega

theorem impl_in_eq (a lo hi : Int) : impl_in.f a lo hi = some (decide (lo ≤ a ∧ a ≤ hi)) := by
  unfold impl_in.f
  by_cases h:lo≤a
  · rw [if_pos h];simp [h]
  · rw [if_neg h];simp;omega

theorem any_not_all {α : Type} (q : α → Bool) (xs : List α) : (xs.any fun c => !q c) = !(xs.all q) := by
  induction xs with
  | nil => rfl
  | cons c cs ih => simp [List.any_cons, List.all_cons, ih]

theorem impl_PictureOk_idx_eq {α : Type} (q : α → Bool) : ∀ (l : List α) (i : Int), 0 ≤ i → (impl_PictureOk_idxO (fun x => some (q x)) l i).bind (fun t => some (decide (0 ≤ t))) = some (l.any q)
  | [], i, _ => by simp [impl_PictureOk_idxO]
  | x :: xs, i, h => by
    rw [impl_PictureOk_idxO,List.any_cons]
    simp only [Option.bind_some]
    cases q x with
    | true => simp [h]
    | false => simpa using impl_PictureOk_idx_eq q xs (i + 1) (by omega)

/-! #### PictureOk -/
def byB (x : Int) : Bool := decide (0 ≤ x ∧ x ≤ 255)
def sideP (n : Int) : Prop := 4 ≤ n ∧ n ≤ 16 ∧ n % 4 = 0
instance (n : Int) : Decidable (sideP n) := by unfold sideP; infer_instance
def picB (w h : Int) (px : List Int) : Bool := decide (sideP w ∧ sideP h ∧ (px.length : Int) = w * h) && px.all byB
theorem mul_bd {w h : Int} (h1 : 0 ≤ w) (h2 : w ≤ 16) (h3 : 0 ≤ h) (h4 : h ≤ 16) : 0 ≤ w * h ∧ w * h ≤ 256 :=
  ⟨Int.mul_nonneg h1 h3,Int.le_trans (Int.mul_le_mul h2 h4 h3 (by omega)) (by omega)⟩
theorem spec_side_eq (n : Int) : spec_l14Side.f n = some (decide (sideP n)) := by
  unfold spec_l14Side.f
  simp only [spec_in_eq,Option.bind_some]
  by_cases h:4≤n∧n≤16
  · rw [if_pos (decide_eq_true h),Int.tmod_eq_emod_of_nonneg (by omega)]
    congr 1
    rw [Bool.eq_iff_iff]
    simp only [beq_iff_eq,decide_eq_true_eq]
    exact⟨fun e=>⟨h.1,h.2,e⟩,fun e=>e.2.2⟩
  · rw [if_neg (by rw [decide_eq_false h];simp),decide_eq_false (fun e:sideP n=>h ⟨e.1,e.2.1⟩)]
theorem spec_PictureOk_ev (w h : Int) (px : List Int) : Ev (fun k => spec_PictureOk.f k w h px) (picB w h px) := by
  have hby:∀ a,spec_l11Byte.f a=some (byB a):=by
    intro a
    simp only [spec_l11Byte.f,spec_in_eq,Option.bind_some,byB]
  have key:px.length≤256 → ∀ d i,i+d=px.length→Ev (fun k=>spec_PictureOk.l0 k (i:Int) w h px) ((px.drop i).all byB):=by
    intro hl d
    induction d with
    | zero =>
      intro i hi
      refine ev_succ ?_
      have h1 : ¬ (i:Int) < (px.length:Int):=by omega
      simp only [spec_PictureOk.l0,h1,if_false]
      exact ev_ret (by rw [drop_end (by omega)];rfl)
    | succ d ih =>
      intro i hi
      refine ev_succ ?_
      have h1:(i:Int) < (px.length:Int):=by omega
      have h2:(0:Int)≤(i:Int):=by omega
      have h4:=w64s (n:=i) (by omega)
      simp only [spec_PictureOk.l0,h1,h2,h4,if_true,hby,Option.bind_some]
      rw [drop_rd px i (by omega),List.all_cons]
      refine ev_ifb (fun e=>?_) (fun e=>ev_ret (by rw [e];rfl))
      rw [e,Bool.true_and]
      exact ih (i+1) (by omega)
  unfold picB
  simp only [spec_PictureOk.f,spec_side_eq,Option.bind_some]
  have no:∀ b,b=false→Ev (fun k=>spec_PictureOk.j0 k true w h px) (b && px.all byB):=fun b hb=>by
    refine ev_succ ?_
    simp only [spec_PictureOk.j0,if_true]
    exact ev_ret (by rw [hb];rfl)
  refine ev_ifb (fun h1=>?_) (fun h1=>no _ (decide_eq_false (fun hh=>of_decide_eq_false h1 hh.1)))
  refine ev_ifb (fun h2=>?_) (fun h2=>no _ (decide_eq_false (fun hh=>of_decide_eq_false h2 hh.2.1)))
  have h1':=of_decide_eq_true h1
  have h2':=of_decide_eq_true h2
  have hm:=mul_bd (by have:=h1'.1;omega) h1'.2.1 (by have:=h2'.1;omega) h2'.2.1
  rw [w64 (x:=w*h) (by omega) (by omega)]
  by_cases h3:(px.length:Int)=w*h
  · have e:((px.length:Int) != w*h)=false:=bne_eq_false_iff_eq.2 h3
    rw [e,decide_eq_true (show sideP w∧sideP h∧(px.length:Int)=w*h from⟨h1',h2',h3⟩),Bool.true_and]
    refine ev_succ ?_
    simp only [spec_PictureOk.j0,Bool.false_eq_true,if_false]
    exact ev_eq (key (by omega) px.length 0 (by omega)) (by rw [List.drop_zero])
  · have e:((px.length:Int) != w*h)=true:=bne_iff_ne.2 h3
    rw [e]
    exact no _ (decide_eq_false (fun hh=>h3 hh.2.2))
theorem impl_PictureOk_eq (w h : Int) (px : List Int) : impl_PictureOk.f w h px = some (picB w h px) := by
  have hcon:impl_PictureOk_contains.f px=some (!(px.all byB)):=by
    have e:(fun x=>impl_PictureOk_1.f x)=fun x=>some (!(byB x)):=by
      funext x
      simp only [impl_PictureOk_1.f,impl_isByte.f,impl_in_eq,Option.bind_some,byB]
    rw [impl_PictureOk_contains.f,e,impl_PictureOk_idx_eq _ _ _ (Int.le_refl _),any_not_all]
  unfold picB impl_PictureOk.f
  simp only [impl_in_eq,hcon,Option.bind_some]
  by_cases g1:4≤w∧w≤16
  · by_cases g2:4≤h∧h≤16
    · rw [Int.tmod_eq_emod_of_nonneg (show 0≤w by omega),Int.tmod_eq_emod_of_nonneg (show 0≤h by omega),decide_eq_true g1,decide_eq_true g2]
      have hm:=mul_bd (w:=w) (h:=h) (by omega) g1.2 (by omega) g2.2
      rw [w64 (x:=w*h) (by omega) (by omega)]
      simp only [if_true]
      by_cases a:w % 4=0
      · rw [if_pos a]
        by_cases b:h % 4=0
        · rw [if_pos b]
          by_cases c:(px.length:Int)=w*h
          · rw [if_pos c,decide_eq_true (show sideP w∧sideP h∧(px.length:Int)=w*h from⟨⟨g1.1,g1.2,a⟩,⟨g2.1,g2.2,b⟩,c⟩),Bool.not_not,Bool.true_and]
          · rw [if_neg c,decide_eq_false (fun hh=>c hh.2.2),Bool.false_and]
        · rw [if_neg b,decide_eq_false (fun hh=>b hh.2.1.2.2),Bool.false_and]
      · rw [if_neg a,decide_eq_false (fun hh=>a hh.1.2.2),Bool.false_and]
    · have e:decide (sideP w∧sideP h∧(px.length:Int)=w*h)=false:=decide_eq_false (fun hh=>g2 ⟨hh.2.1.1,hh.2.1.2.1⟩)
      rw [e,decide_eq_true g1,decide_eq_false g2]
      simp
  · have e:decide (sideP w∧sideP h∧(px.length:Int)=w*h)=false:=decide_eq_false (fun hh=>g1 ⟨hh.1.1,hh.1.2.1⟩)
    rw [e,decide_eq_false g1]
    simp

/-! #### Motion: the best of some ways -/
structure Wy where
  o : Int
  d : Int
  y : Int
  x : Int
def Wy.lt (a b : Wy) : Prop := a.o < b.o ∨ (a.o = b.o ∧ (a.d < b.d ∨ (a.d = b.d ∧ (a.y < b.y ∨ (a.y = b.y ∧ a.x < b.x)))))
instance (a b : Wy) : Decidable (Wy.lt a b) := by unfold Wy.lt; infer_instance
def Wy.ahead (a b : Wy) : Prop := a.d < b.d ∨ (a.d = b.d ∧ (a.y < b.y ∨ (a.y = b.y ∧ a.x < b.x)))
instance (a b : Wy) : Decidable (Wy.ahead a b) := by unfold Wy.ahead; infer_instance
def bestLt : Wy → List Wy → Wy
  | m, [] => m
  | m, x :: xs => if Wy.lt x m then bestLt x xs else bestLt m xs
def bestOff : Wy → List Wy → Wy
  | m, [] => m
  | m, x :: xs => if x.o < m.o then bestOff x xs else bestOff m xs
theorem Wy.not_trans {a b c : Wy} (h1 : ¬ Wy.lt b a) (h2 : ¬ Wy.lt c b) : ¬ Wy.lt c a := by
  unfold Wy.lt at *
  omega
theorem bestOff_mem : ∀ (xs : List Wy) (m : Wy), (m :: xs).Pairwise Wy.ahead → bestOff m xs ∈ m :: xs ∧ ∀ x ∈ m :: xs, ¬ Wy.lt x (bestOff m xs)
  | [], m, _ => ⟨by simp [bestOff], by intro x hx; rw [List.mem_singleton] at hx; subst hx; unfold bestOff Wy.lt; omega⟩
  | y :: xs, m, hp => by
    unfold bestOff
    have hp1:=List.pairwise_cons.1 hp
    have hp2:=List.pairwise_cons.1 hp1.2
    have hmy:=hp1.1 y (by simp)
    by_cases h:y.o < m.o
    · rw [if_pos h]
      obtain⟨h1,h2⟩:=bestOff_mem xs y hp1.2
      refine⟨List.mem_cons_of_mem _ h1,fun x hx=>?_⟩
      rcases List.mem_cons.1 hx with rfl|hx
      · refine Wy.not_trans (h2 y (by simp)) ?_
        unfold Wy.lt;omega
      · exact h2 x hx
    · rw [if_neg h]
      have hp3:(m :: xs).Pairwise Wy.ahead:=List.pairwise_cons.2 ⟨fun a ha=>hp1.1 a (List.mem_cons_of_mem _ ha),hp2.2⟩
      obtain⟨h1,h2⟩:=bestOff_mem xs m hp3
      refine⟨?_,fun x hx=>?_⟩
      · rcases List.mem_cons.1 h1 with e|e
        · rw [e];simp
        · exact List.mem_cons_of_mem _ (List.mem_cons_of_mem _ e)
      · rcases List.mem_cons.1 hx with rfl|hx
        · exact h2 x (by simp)
        · rcases List.mem_cons.1 hx with rfl|hx
          · refine Wy.not_trans (h2 m (by simp)) ?_
            unfold Wy.ahead at hmy;unfold Wy.lt;omega
          · exact h2 x (List.mem_cons_of_mem _ hx)
def wyRow (o : Int → Int → Int) (y : Int) : List Int → List Wy := List.map fun x => ⟨o y x, x * x + y * y, y, x⟩
def wyAll (o : Int → Int → Int) : List Wy := (wyRow o (-2) [-2, -1, 0, 1, 2]) ++ (wyRow o (-1) [-2, -1, 0, 1, 2]) ++ (wyRow o 0 [-2, -1, 0, 1, 2]) ++ (wyRow o 1 [-2, -1, 0, 1, 2]) ++ (wyRow o 2 [-2, -1, 0, 1, 2])
def wyFar : List (Int × Int) := [(0, 0), (-1, 0), (0, -1), (0, 1), (1, 0), (-1, -1), (-1, 1), (1, -1), (1, 1), (-2, 0), (0, -2), (0, 2), (2, 0), (-2, -1), (-2, 1), (-1, -2), (-1, 2), (1, -2), (1, 2), (2, -1), (2, 1), (-2, -2), (-2, 2), (2, -2), (2, 2)]
def wyOf (o : Int → Int → Int) (p : Int × Int) : Wy := ⟨o p.1 p.2, p.2 * p.2 + p.1 * p.1, p.1, p.2⟩
theorem wy_sorted (o : Int → Int → Int) : (wyFar.map (wyOf o)).Pairwise Wy.ahead := by
  rw [List.pairwise_map]
  have h:wyFar.Pairwise (fun a b:Int × Int=>Wy.ahead (wyOf (fun _ _=>0) a) (wyOf (fun _ _=>0) b)):=by decide
  exact List.Pairwise.imp (fun h=>h) h
/-! #### Motion: a block of pixels, moved -/
structure PicO (w h : Int) (px : List Int) : Prop where
  w1 : 4 ≤ w
  w2 : w ≤ 16
  h1 : 4 ≤ h
  h2 : h ≤ 16
  wm : w % 4 = 0
  hm : h % 4 = 0
  len : (px.length : Int) = w * h
  by_ : px.all byB = true
theorem picO_of {w h : Int} {px : List Int} (hb : picB w h px = true) : PicO w h px := by
  unfold picB at hb
  simp only [Bool.and_eq_true,decide_eq_true_eq] at hb
  obtain⟨⟨a,b,c⟩,d⟩:=hb
  exact⟨a.1,a.2.1,b.1,b.2.1,a.2.2,b.2.2,c,d⟩
def cl (n x : Int) : Int := if x < 0 then 0 else if n ≤ x then n - 1 else x
theorem cl_bd {n x : Int} (h : 1 ≤ n) : 0 ≤ cl n x ∧ cl n x ≤ n - 1 := by
  unfold cl
  split
  · omega
  · split <;> omega
def pxAt (w h : Int) (px : List Int) (x y : Int) : Int := rd px (cl h y * w + cl w x)
theorem px_idx {w h a b : Int} {px : List Int} (hp : PicO w h px) (ha : 0 ≤ a ∧ a ≤ h - 1) (hb : 0 ≤ b ∧ b ≤ w - 1) : 0 ≤ a * w ∧ a * w ≤ 256 ∧ 0 ≤ a * w + b ∧ a * w + b < (px.length : Int) ∧ (px.length : Int) ≤ 256 := by
  have g1:=hp.w1;have g2:=hp.w2;have g3:=hp.h1;have g4:=hp.h2
  have e1:a*w≤(h - 1)*w:=Int.mul_le_mul_of_nonneg_right ha.2 (by omega)
  have e2:(h - 1)*w=w*h - w:=by rw [Int.sub_mul,Int.one_mul,Int.mul_comm]
  have e3:0≤a*w:=Int.mul_nonneg ha.1 (by omega)
  have e4:=(mul_bd (w:=w) (h:=h) (by omega) g2 (by omega) g4).2
  have e5:=hp.len
  refine⟨e3,?_,?_,?_,?_⟩ <;> omega
theorem pxAt_by {w h : Int} {px : List Int} (hp : PicO w h px) (x y : Int) : 0 ≤ pxAt w h px x y ∧ pxAt w h px x y ≤ 255 := by
  have g1:=hp.w1;have g3:=hp.h1
  have h5:=px_idx hp (cl_bd (n:=h) (x:=y) (by omega)) (cl_bd (n:=w) (x:=x) (by omega))
  obtain⟨m,hm⟩:=Int.eq_ofNat_of_zero_le h5.2.2.1
  unfold pxAt
  rw [hm] at h5 ⊢
  have h6:=List.all_eq_true.1 hp.by_ _ (rd_mem (xs:=px) (i:=m) (by omega))
  unfold byB at h6
  exact of_decide_eq_true h6
def blkE (w h : Int) (px : List Int) (bl dx dy : Int) (i : Nat) : Int := pxAt w h px (bl % (w / 4) * 4 + (i : Int) % 4 + dx) (bl / (w / 4) * 4 + (i : Int) / 4 + dy)
def blkG (w h : Int) (px : List Int) (bl dx dy : Int) (n : Nat) : List Int := (List.range n).map (blkE w h px bl dx dy)
abbrev blk (w h : Int) (px : List Int) (bl dx dy : Int) : List Int := blkG w h px bl dx dy 16
theorem blkG_len (w h : Int) (px : List Int) (bl dx dy : Int) (n : Nat) : (blkG w h px bl dx dy n).length = n := by simp [blkG]
theorem blkG_succ (w h : Int) (px : List Int) (bl dx dy : Int) (n : Nat) : blkG w h px bl dx dy (n + 1) = blkG w h px bl dx dy n ++ [blkE w h px bl dx dy n] := by simp [blkG, List.range_succ]
theorem blk_rd (w h : Int) (px : List Int) (bl dx dy : Int) {n i : Nat} (hi : i < n) : rd (blkG w h px bl dx dy n) (i : Int) = blkE w h px bl dx dy i := by
  simp [blkG,rd_nat,List.getD_eq_getElem?_getD,List.getElem?_map,List.getElem?_range hi]
theorem blk_by {w h : Int} {px : List Int} (hp : PicO w h px) (bl dx dy : Int) {n i : Nat} (hi : i < n) : 0 ≤ rd (blkG w h px bl dx dy n) (i : Int) ∧ rd (blkG w h px bl dx dy n) (i : Int) ≤ 255 := by
  rw [blk_rd _ _ _ _ _ _ hi]
  exact pxAt_by hp _ _
structure BlkO (w bl : Int) : Prop where
  ne : w / 4 ≠ 0
  m0 : 0 ≤ bl % (w / 4) ∧ bl % (w / 4) ≤ 64
  d0 : 0 ≤ bl / (w / 4) ∧ bl / (w / 4) ≤ 64
theorem blk_at {w h bl : Int} {px : List Int} (hp : PicO w h px) (hb : 0 ≤ bl ∧ bl ≤ 64) : BlkO w bl := by
  have g1:=hp.w1;have g2:=hp.w2
  have e3:=Int.emod_nonneg bl (show w / 4≠0 by omega)
  have e4:=Int.emod_lt_of_pos bl (show 0 < w / 4 by omega)
  have e5:0≤bl / (w / 4):=Int.ediv_nonneg hb.1 (by omega)
  have e6:bl / (w / 4)≤bl:=Int.ediv_le_self _ hb.1
  exact⟨by omega,⟨e3,by omega⟩,⟨e5,by omega⟩⟩
theorem m4_bd {b : Int} (h : 0 ≤ b ∧ b ≤ 64) : 0 ≤ b * 4 ∧ b * 4 ≤ 1000 := by omega
theorem m4_64 {b : Int} (h : 0 ≤ b ∧ b ≤ 64) : wrap64 (b * 4) = b * 4 := w64 (by omega) (by omega)
theorem mn_cl {n a : Int} (h : 1 ≤ n) : mn (mx a 0) (n - 1) = cl n a := by
  unfold mn mx cl
  split <;> split <;> (first|omega|(split <;> omega))
theorem at_idx {w h x0 y0 dx dy : Int} {px : List Int} (hp : PicO w h px) (i : Nat) (hi : i < 16) (hx : 0 ≤ x0 ∧ x0 ≤ 1000) (hy : 0 ≤ y0 ∧ y0 ≤ 1000) (hdx : -10 ≤ dx ∧ dx ≤ 10) (hdy : -10 ≤ dy ∧ dy ≤ 10) :
    wrap64 ((wrap64 ((mn (mx (wrap64 ((wrap64 (y0+(wrap64 (Int.tdiv (i:Int) 4))))+dy)) 0) (wrap64 (h - 1)))*w))+(mn (mx (wrap64 ((wrap64 (x0+(Int.tmod (i:Int) 4)))+dx)) 0) (wrap64 (w - 1))))=cl h (y0+(i:Int) / 4+dy)*w+cl w (x0+(i:Int) % 4+dx):=by
  have g1:=hp.w1;have g2:=hp.w2;have g3:=hp.h1;have g4:=hp.h2
  rw [Int.tdiv_eq_ediv_of_nonneg (by omega),Int.tmod_eq_emod_of_nonneg (by omega)]
  rw [w64 (x:=(i:Int) / 4) (by omega) (by omega),w64 (x:=y0+(i:Int) / 4) (by omega) (by omega),w64 (x:=y0+(i:Int) / 4+dy) (by omega) (by omega),w64 (x:=h - 1) (by omega) (by omega),
    w64 (x:=x0+(i:Int) % 4) (by omega) (by omega),w64 (x:=x0+(i:Int) % 4+dx) (by omega) (by omega),w64 (x:=w - 1) (by omega) (by omega),mn_cl (by omega),mn_cl (by omega)]
  have h5:=px_idx hp (cl_bd (n:=h) (x:=y0+(i:Int) / 4+dy) (by omega)) (cl_bd (n:=w) (x:=x0+(i:Int) % 4+dx) (by omega))
  rw [w64 (x:=cl h (y0+(i:Int) / 4+dy)*w) (by omega) (by omega),w64 (by omega) (by omega)]
theorem impl_corner_eq {w h bl : Int} {px : List Int} (hp : PicO w h px) (hb : 0 ≤ bl ∧ bl ≤ 64) : impl_Picture_corner.f w h px bl = some (bl % (w / 4) * 4, bl / (w / 4) * 4) := by
  have h6:=blk_at hp hb
  have g1:=hp.w1;have g2:=hp.w2
  unfold impl_Picture_corner.f
  rw [Int.tdiv_eq_ediv_of_nonneg (show 0≤w by omega),w64 (x:=w / 4) (by omega) (by omega),if_neg h6.ne,Int.tdiv_eq_ediv_of_nonneg hb.1,Int.tmod_eq_emod_of_nonneg hb.1,
    m4_64 h6.m0,w64 (x:=bl / (w / 4)) (Int.le_trans (by decide) h6.d0.1) (Int.le_trans h6.d0.2 (by decide)),m4_64 h6.d0]
theorem impl_at_ev {w h bl dx dy : Int} {px : List Int} (hp : PicO w h px) (hb : 0 ≤ bl ∧ bl ≤ 64) (hdx : -10 ≤ dx ∧ dx ≤ 10) (hdy : -10 ≤ dy ∧ dy ≤ 10) : Ev (fun k => impl_Picture_at.f k w h px bl dx dy) (blk w h px bl dx dy) := by
  have h6:=blk_at hp hb
  simp only [impl_Picture_at.f,impl_corner_eq hp hb,Option.bind_some]
  have key:∀ d i,i+d=16→Ev (fun k=>impl_Picture_at.l0 k dx dy (bl % (w / 4)*4) (bl / (w / 4)*4) (blkG w h px bl dx dy i) (i:Int) w h px) (blk w h px bl dx dy):=by
    intro d
    induction d with
    | zero =>
      intro i hi
      refine ev_succ ?_
      obtain rfl:i=16:=by omega
      have h1 : ¬ ((16:Nat):Int) < 16:=by omega
      simp only [impl_Picture_at.l0,h1,if_false]
      exact ev_ret rfl
    | succ d ih =>
      intro i hi
      refine ev_succ ?_
      have h1:(i:Int) < 16:=by omega
      have e:=at_idx hp i (by omega) (x0:=bl % (w / 4)*4) (y0:=bl / (w / 4)*4) (m4_bd h6.m0) (m4_bd h6.d0) hdx hdy
      have g1:=hp.w1;have g3:=hp.h1
      have h5:=px_idx hp (cl_bd (n:=h) (x:=bl / (w / 4)*4+(i:Int) / 4+dy) (by omega)) (cl_bd (n:=w) (x:=bl % (w / 4)*4+(i:Int) % 4+dx) (by omega))
      have h7:=h5.2.2.1
      have h8:=h5.2.2.2.1
      have h9:(blkG w h px bl dx dy i).length < 17592186044416:=by rw [blkG_len];omega
      have h4:=w64s (n:=i) (by omega)
      simp only [impl_Picture_at.l0,h1,e,h7,h8,h9,h4,if_true]
      have:=ih (i+1) (by omega)
      rw [blkG_succ] at this
      exact this
  exact key 16 0 (by omega)
theorem spec_at_eq {w h x y : Int} {px : List Int} (hp : PicO w h px) (hx : -100000 ≤ x ∧ x ≤ 100000) (hy : -100000 ≤ y ∧ y ≤ 100000) : spec_l14At.f w h px x y = some (pxAt w h px x y) := by
  have g1:=hp.w1;have g2:=hp.w2;have g3:=hp.h1;have g4:=hp.h2
  have hmax:∀ a,spec_l1Max.f 0 a=some (max 0 a):=by
    intro a;unfold spec_l1Max.f;split
    · congr 1;omega
    · congr 1;omega
  have hmin:∀ a b,spec_l1Min.f a b=some (min a b):=by
    intro a b;unfold spec_l1Min.f;split
    · congr 1;omega
    · congr 1;omega
  have hc:∀ n a:Int,1≤n→min (n - 1) (max 0 a)=cl n a:=by
    intro n a hn;unfold cl;split
    · omega
    · split <;> omega
  unfold spec_l14At.f pxAt
  simp only [hmax,hmin,Option.bind_some]
  rw [w64 (x:=w - 1) (by omega) (by omega),w64 (x:=h - 1) (by omega) (by omega),hc w x (by omega),hc h y (by omega)]
  have h5:=px_idx hp (cl_bd (n:=h) (x:=y) (by omega)) (cl_bd (n:=w) (x:=x) (by omega))
  rw [w64 (x:=cl h y*w) (by omega) (by omega),w64 (by omega) (by omega),if_pos h5.2.2.1,if_pos h5.2.2.2.1]
theorem spec_bx {b d : Int} (y x : Nat) (hx : x < 4) (hb : 0 ≤ b ∧ b ≤ 64) (hd : -10 ≤ d ∧ d ≤ 10) : wrap64 ((wrap64 ((wrap64 (b * 4)) + (x : Int))) + d) = b * 4 + ((4 * y + x : Nat) : Int) % 4 + d := by
  rw [w64 (x:=b*4) (by omega) (by omega),w64 (x:=b*4+(x:Int)) (by omega) (by omega),w64 (by omega) (by omega)]
  omega
theorem spec_by {b d : Int} (y x : Nat) (hx : x < 4) (hy : y < 4) (hb : 0 ≤ b ∧ b ≤ 64) (hd : -10 ≤ d ∧ d ≤ 10) : wrap64 ((wrap64 ((wrap64 ((wrap64 b) * 4)) + (y : Int))) + d) = b * 4 + ((4 * y + x : Nat) : Int) / 4 + d := by
  rw [w64 (x:=b) (by omega) (by omega),w64 (x:=b*4) (by omega) (by omega),w64 (x:=b*4+(y:Int)) (by omega) (by omega),w64 (by omega) (by omega)]
  omega
theorem xy_bd {b d m : Int} (hb : 0 ≤ b ∧ b ≤ 64) (hd : -10 ≤ d ∧ d ≤ 10) (hm : 0 ≤ m ∧ m ≤ 15) : -100000 ≤ b * 4 + m + d ∧ b * 4 + m + d ≤ 100000 := by omega
theorem mod_bd (n : Nat) (m : Nat) (h : n < 16) : 0 ≤ (n : Int) % 4 ∧ (n : Int) % 4 ≤ 15 := by omega
theorem div_bd (n : Nat) (m : Nat) (h : n < 16) : 0 ≤ (n : Int) / 4 ∧ (n : Int) / 4 ≤ 15 := by omega
theorem spec_block_ev {w h bl dx dy : Int} {px : List Int} (hp : PicO w h px) (hb : 0 ≤ bl ∧ bl ≤ 64) (hdx : -10 ≤ dx ∧ dx ≤ 10) (hdy : -10 ≤ dy ∧ dy ≤ 10) : Ev (fun k => spec_l14Block.f k w h px bl dx dy) (blk w h px bl dx dy) := by
  have h6:=blk_at hp hb
  have g1:=hp.w1;have g2:=hp.w2
  have ew:wrap64 (Int.tdiv w 4)=w / 4:=by rw [Int.tdiv_eq_ediv_of_nonneg (by omega),w64 (by omega) (by omega)]
  simp only [spec_l14Block.f,ew]
  have inner:∀ V,∀ y:Nat,y < 4→Ev (fun k=>spec_l14Block.l0 k bl dx dy (blkG w h px bl dx dy (4*y+4)) (w / 4) ((y+1:Nat):Int) w h px) V → ∀ d x,x+d=4→Ev (fun k=>spec_l14Block.l1 k bl dx dy (blkG w h px bl dx dy (4*y+x)) (w / 4) (y:Int) (x:Int) w h px) V:=by
    intro V y hy hnext d
    induction d with
    | zero =>
      intro x hx
      refine ev_succ ?_
      obtain rfl:x=4:=by omega
      have h1 : ¬ ((4:Nat):Int) < 4:=by omega
      have h4:=w64s (n:=y) (by omega)
      simp only [spec_l14Block.l1,h1,h4,if_false]
      exact hnext
    | succ d ih =>
      intro x hx
      refine ev_succ ?_
      have h1:(x:Int) < 4:=by omega
      have h4:=w64s (n:=x) (by omega)
      have e1:wrap64 ((wrap64 ((wrap64 ((Int.tmod bl (w / 4))*4))+(x:Int)))+dx)=bl % (w / 4)*4+((4*y+x:Nat):Int) % 4+dx:=by
        rw [Int.tmod_eq_emod_of_nonneg hb.1]
        exact spec_bx y x (by omega) h6.m0 hdx
      have e2:wrap64 ((wrap64 ((wrap64 ((wrap64 (Int.tdiv bl (w / 4)))*4))+(y:Int)))+dy)=bl / (w / 4)*4+((4*y+x:Nat):Int) / 4+dy:=by
        rw [Int.tdiv_eq_ediv_of_nonneg hb.1]
        exact spec_by y x (by omega) (by omega) h6.d0 hdy
      have h9:(blkG w h px bl dx dy (4*y+x)).length < 17592186044416:=by rw [blkG_len];omega
      have h15:4*y+x < 16:=by omega
      have h7:=h6.ne
      simp only [spec_l14Block.l1,h1,h7,e1,e2,h9,h4,if_true,if_false]
      rw [spec_at_eq hp (xy_bd h6.m0 hdx (mod_bd _ 0 h15)) (xy_bd h6.d0 hdy (div_bd _ 0 h15))]
      simp only [Option.bind_some]
      have:=ih (x+1) (by omega)
      rw [show 4*y+(x+1)=(4*y+x)+1 by omega,blkG_succ] at this
      exact this
  have outer:∀ d y,y+d=4→Ev (fun k=>spec_l14Block.l0 k bl dx dy (blkG w h px bl dx dy (4*y)) (w / 4) (y:Int) w h px) (blk w h px bl dx dy):=by
    intro d
    induction d with
    | zero =>
      intro y hy
      refine ev_succ ?_
      obtain rfl:y=4:=by omega
      have h1 : ¬ ((4:Nat):Int) < 4:=by omega
      simp only [spec_l14Block.l0,h1,if_false]
      exact ev_ret rfl
    | succ d ih =>
      intro y hy
      refine ev_succ ?_
      have h1:(y:Int) < 4:=by omega
      simp only [spec_l14Block.l0,h1,if_true]
      have:=ih (y+1) (by omega)
      rw [show 4*(y+1)=4*y+4 by omega] at this
      exact inner _ y (by omega) this 4 0 (by omega)
  exact outer 4 0 (by omega)
theorem blocks_bd {w h : Int} {px : List Int} (hp : PicO w h px) : 1 ≤ w / 4 ∧ w / 4 ≤ 4 ∧ 1 ≤ h / 4 ∧ h / 4 ≤ 4 ∧ 0 ≤ w / 4 * (h / 4) ∧ w / 4 * (h / 4) ≤ 16 := by
  have g1:=hp.w1;have g2:=hp.w2;have g3:=hp.h1;have g4:=hp.h2
  have e1:0≤w / 4*(h / 4):=Int.mul_nonneg (by omega) (by omega)
  have e2:w / 4*(h / 4)≤4*4:=Int.mul_le_mul (by omega) (by omega) (by omega) (by omega)
  exact⟨by omega,by omega,by omega,by omega,e1,by omega⟩
theorem spec_blocks_eq {w h : Int} {px : List Int} (hp : PicO w h px) : spec_l14Blocks.f w h px = some (w / 4 * (h / 4)) := by
  have h1:=blocks_bd hp
  have g1:=hp.w1;have g3:=hp.h1
  unfold spec_l14Blocks.f
  rw [Int.tdiv_eq_ediv_of_nonneg (show 0≤w by omega),Int.tdiv_eq_ediv_of_nonneg (show 0≤h by omega),w64 (x:=w / 4) (by omega) (by omega),w64 (x:=h / 4) (by omega) (by omega),w64 (by omega) (by omega)]
theorem impl_blocks_eq {w h : Int} {px : List Int} (hp : PicO w h px) : impl_Picture_blocks.f w h px = some (w / 4 * (h / 4)) := by
  have h1:=blocks_bd hp
  have g1:=hp.w1;have g3:=hp.h1
  unfold impl_Picture_blocks.f
  rw [Int.tdiv_eq_ediv_of_nonneg (show 0≤w by omega),Int.tdiv_eq_ediv_of_nonneg (show 0≤h by omega),w64 (x:=w / 4) (by omega) (by omega),w64 (x:=h / 4) (by omega) (by omega),w64 (by omega) (by omega)]

/-! #### how unlike two blocks are -/
def dif (a b : Int) : Int := if a < b then b - a else a - b
def offG (a b : List Int) : Nat → Int
  | 0 => 0
  | n + 1 => offG a b n + dif (rd a (n : Int)) (rd b (n : Int))
def ByN (a : List Int) (n : Nat) : Prop := ∀ i : Nat, i < n → 0 ≤ rd a (i : Int) ∧ rd a (i : Int) ≤ 255
theorem offG_bd {a b : List Int} {m : Nat} (ha : ByN a m) (hb : ByN b m) : ∀ n, n ≤ m → 0 ≤ offG a b n ∧ offG a b n ≤ 255 * (n : Int)
  | 0, _ => by unfold offG; omega
  | n + 1, h => by
    have h1:=offG_bd ha hb n (by omega)
    have h2:=ha n (by omega)
    have h3:=hb n (by omega)
    unfold offG dif
    split <;> omega
/-! #### the program's order of the ways -/
def cmpI (a b : Int) : Int := if a < b then -1 else if b < a then 1 else 0
def orL : List Int → Int
  | [] => 0
  | x :: xs => if x = 0 then orL xs else x
def Wy.good (a : Wy) : Prop := a.d = a.x * a.x + a.y * a.y ∧ (-2 ≤ a.x ∧ a.x ≤ 2) ∧ (-2 ≤ a.y ∧ a.y ≤ 2)
theorem sq_bd {x : Int} (h : -2 ≤ x ∧ x ≤ 2) : 0 ≤ x * x ∧ x * x ≤ 4 := by
  have:x = -2∨x = -1∨x=0∨x=1∨x=2:=by omega
  rcases this with rfl|rfl|rfl|rfl|rfl <;> decide
theorem w_far {x y : Int} (hx : -2 ≤ x ∧ x ≤ 2) (hy : -2 ≤ y ∧ y ≤ 2) : wrap64 ((wrap64 (x * x)) + (wrap64 (y * y))) = x * x + y * y := by
  have h1:=sq_bd hx
  have h2:=sq_bd hy
  rw [w64 (x:=x*x) (by omega) (by omega),w64 (x:=y*y) (by omega) (by omega),w64 (by omega) (by omega)]
/-! #### both sides -/
def motO (w h : Int) (old p : List Int) (bl : Int) (y x : Int) : Int := offG (blk w h p bl 0 0) (blk w h old bl x y) 16
def motW (w h : Int) (old p : List Int) (bl : Int) : Wy := bestOff (wyOf (motO w h old p bl) (0, 0)) ((wyFar.drop 1).map (wyOf (motO w h old p bl)))
theorem motO_bd {w h : Int} {old p : List Int} (ho : PicO w h old) (hp : PicO w h p) (bl y x : Int) : 0 ≤ motO w h old p bl y x ∧ motO w h old p bl y x ≤ 4080 := by
  have:=offG_bd (a:=blk w h p bl 0 0) (b:=blk w h old bl x y) (m:=16) (fun i hi=>blk_by hp _ _ _ hi) (fun i hi=>blk_by ho _ _ _ hi) 16 (by omega)
  unfold motO
  omega
def wayPairs (n : Nat) : List (Int × Int) := (List.range n).map fun (i : Nat) => ((i : Int) / 5 - 2, (i : Int) % 5 - 2)
def waysG (o : Int → Int → Int) (n : Nat) : List Wy := (wayPairs n).map (wyOf o)
/-! #### the reference's search -/
def mstep (o : Int → Int → Int) (s : Int × Int × Int) (q : Int × Int) : Int × Int × Int := if s.2.2 < 0 then (q.2, q.1, o q.1 q.2) else if o q.1 q.2 < s.2.2 then (q.2, q.1, o q.1 q.2) else s
def rowFrom (o : Int → Int → Int) (far y : Int) : Nat → Int × Int × Int → Int × Int × Int
  | 0, s => s
  | d + 1, s => rowFrom o far y d (if (2 - (d : Int)) * (2 - (d : Int)) + y * y = far then mstep o s (y, 2 - (d : Int)) else s)
def colFrom (o : Int → Int → Int) (far : Int) : Nat → Int × Int × Int → Int × Int × Int
  | 0, s => s
  | d + 1, s => colFrom o far d (rowFrom o far (2 - (d : Int)) 5 s)
def farFrom (o : Int → Int → Int) : Nat → Int × Int × Int → Int × Int × Int
  | 0, s => s
  | d + 1, s => farFrom o d (colFrom o (8 - (d : Int)) 5 s)
def rowP (far y : Int) : Nat → List (Int × Int)
  | 0 => []
  | d + 1 => if (2 - (d : Int)) * (2 - (d : Int)) + y * y = far then (y, 2 - (d : Int)) :: rowP far y d else rowP far y d
def colP (far : Int) : Nat → List (Int × Int)
  | 0 => []
  | d + 1 => rowP far (2 - (d : Int)) 5 ++ colP far d
def farP : Nat → List (Int × Int)
  | 0 => []
  | d + 1 => colP (8 - (d : Int)) 5 ++ farP d
theorem rowFrom_fold (o : Int → Int → Int) (far y : Int) : ∀ d s, rowFrom o far y d s = (rowP far y d).foldl (mstep o) s
  | 0, s => rfl
  | d + 1, s => by
    unfold rowFrom rowP
    rw [rowFrom_fold o far y d]
    split
    · rfl
    · rfl
theorem colFrom_fold (o : Int → Int → Int) (far : Int) : ∀ d s, colFrom o far d s = (colP far d).foldl (mstep o) s
  | 0, s => rfl
  | d + 1, s => by
    unfold colFrom colP
    rw [colFrom_fold o far d,List.foldl_append,rowFrom_fold]
theorem farFrom_fold (o : Int → Int → Int) : ∀ d s, farFrom o d s = (farP d).foldl (mstep o) s
  | 0, s => rfl
  | d + 1, s => by
    unfold farFrom farP
    rw [farFrom_fold o d,List.foldl_append,colFrom_fold]
theorem farP_all : farP 9 = wyFar := by decide +kernel
theorem farFrom_all (o : Int → Int → Int) (s : Int × Int × Int) : farFrom o 9 s = wyFar.foldl (mstep o) s := by rw [farFrom_fold, farP_all]
theorem fold_best (o : Int → Int → Int) (h0 : ∀ y x, 0 ≤ o y x) : ∀ (qs : List (Int × Int)) (q : Int × Int), qs.foldl (mstep o) (q.2, q.1, o q.1 q.2) = ((bestOff (wyOf o q) (qs.map (wyOf o))).x, (bestOff (wyOf o q) (qs.map (wyOf o))).y, (bestOff (wyOf o q) (qs.map (wyOf o))).o)
  | [], q => rfl
  | r :: qs, q => by
    have hn : ¬ o q.1 q.2 < 0:=by have:=h0 q.1 q.2;omega
    simp only [List.foldl_cons,List.map_cons,mstep,bestOff]
    rw [if_neg hn]
    by_cases h:o r.1 r.2 < o q.1 q.2
    · rw [if_pos h,if_pos (show(wyOf o r).o < (wyOf o q).o from h)]
      exact fold_best o h0 qs r
    · rw [if_neg h,if_neg (show ¬ (wyOf o r).o < (wyOf o q).o from h)]
      exact fold_best o h0 qs q
theorem search_best (o : Int → Int → Int) (h0 : ∀ y x, 0 ≤ o y x) : farFrom o 9 (0, 0, -1) = ((bestOff (wyOf o (0, 0)) ((wyFar.drop 1).map (wyOf o))).x, (bestOff (wyOf o (0, 0)) ((wyFar.drop 1).map (wyOf o))).y, (bestOff (wyOf o (0, 0)) ((wyFar.drop 1).map (wyOf o))).o) := by
  rw [farFrom_all]
  obtain⟨qs,e,e2⟩:∃ qs,wyFar=(0,0) :: qs∧wyFar.drop 1=qs:=⟨_,rfl,rfl⟩
  rw [e2,e,List.foldl_cons]
  have e3:mstep o (0,0,-1) (0,0)=(0,0,o 0 0):=by
    unfold mstep
    rw [if_pos (by decide)]
  rw [e3]
  exact fold_best o h0 qs (0,0)
set_option maxHeartbeats 2000000 in
theorem spec_motion_ev {w h bl : Int} {old p : List Int} (ho : PicO w h old) (hp : PicO w h p) (hb : 0 ≤ bl ∧ bl ≤ 64) : Ev (fun k => spec_l14Motion.f k w h old w h p bl) ((motW w h old p bl).x, (motW w h old p bl).y) := by
  simp only [spec_l14Motion.f]
  refine ev_bind (spec_block_ev hp hb (by omega) (by omega)) ?_
  have hob:=motO_bd ho hp bl
  have sum:∀ V (s:Int × Int × Int) (far y x:Int),(-2≤y∧y≤2)→(-2≤x∧x≤2) →
      Ev (fun k=>spec_l14Motion.l2 k bl (mstep (motO w h old p bl) s (y,x)).1 (mstep (motO w h old p bl) s (y,x)).2.1 (mstep (motO w h old p bl) s (y,x)).2.2 (blk w h p bl 0 0) far y (x+1) w h old) V →
      ∀ d i,i+d=16→Ev (fun k=>spec_l14Motion.l3 k bl s.1 s.2.1 s.2.2 (blk w h p bl 0 0) far y x (offG (blk w h p bl 0 0) (blk w h old bl x y) i) (blk w h old bl x y) (i:Int) w h old) V:=by
    intro V s far y x hy hx hnext d
    induction d with
    | zero =>
      intro i hi
      refine ev_succ ?_
      obtain rfl:i=16:=by omega
      have h1 : ¬ ((16:Nat):Int) < 16:=by omega
      have h4:wrap64 (x+1)=x+1:=w64 (by omega) (by omega)
      simp only [spec_l14Motion.l3,h1,h4,if_false]
      have hm:offG (blk w h p bl 0 0) (blk w h old bl x y) 16=motO w h old p bl y x:=rfl
      rw [hm]
      unfold mstep at hnext
      refine ev_ite (fun h2=>?_) (fun h2=>?_)
      · rw [if_pos h2] at hnext;exact hnext
      · rw [if_neg h2] at hnext
        refine ev_ite (fun h3=>?_) (fun h3=>?_)
        · rw [if_pos h3] at hnext;exact hnext
        · rw [if_neg h3] at hnext;exact hnext
    | succ d ih =>
      intro i hi
      refine ev_succ ?_
      have h1:(i:Int) < 16:=by omega
      have h2:0≤(i:Int):=by omega
      have h3:(i:Int) < ((blk w h p bl 0 0).length:Int):=by rw [blkG_len];omega
      have h5:(i:Int) < ((blk w h old bl x y).length:Int):=by rw [blkG_len];omega
      have h4:=w64s (n:=i) (by omega)
      have ha:0≤rd (blk w h p bl 0 0) (i:Int)∧rd (blk w h p bl 0 0) (i:Int)≤255:=blk_by hp bl 0 0 (n:=16) (i:=i) (by omega)
      have hc:0≤rd (blk w h old bl x y) (i:Int)∧rd (blk w h old bl x y) (i:Int)≤255:=blk_by ho bl x y (n:=16) (i:=i) (by omega)
      have hbd:=offG_bd (a:=blk w h p bl 0 0) (b:=blk w h old bl x y) (m:=16) (fun i hi=>blk_by hp _ _ _ hi) (fun i hi=>blk_by ho _ _ _ hi)
      have e:spec_l1Abs.f (wrap64 ((rd (blk w h p bl 0 0) (i:Int)) - (rd (blk w h old bl x y) (i:Int))))=some (dif (rd (blk w h p bl 0 0) (i:Int)) (rd (blk w h old bl x y) (i:Int))):=by
        rw [w64 (by omega) (by omega)]
        unfold spec_l1Abs.f dif
        split
        · rw [w64 (by omega) (by omega),if_pos (by omega)];congr 1;omega
        · rw [if_neg (by omega)]
      have e2:wrap64 (offG (blk w h p bl 0 0) (blk w h old bl x y) i+dif (rd (blk w h p bl 0 0) (i:Int)) (rd (blk w h old bl x y) (i:Int)))=offG (blk w h p bl 0 0) (blk w h old bl x y) (i+1):=by
        have:=hbd (i+1) (by omega)
        exact w64 (x:=offG (blk w h p bl 0 0) (blk w h old bl x y) (i+1)) (by omega) (by omega)
      simp only [spec_l14Motion.l3,h1,h2,h3,h5,h4,e,e2,if_true,Option.bind_some]
      exact ih (i+1) (by omega)
  have row:∀ V (far y:Int),(-2≤y∧y≤2) → ∀ d:Nat,d≤5 → ∀ s:Int × Int × Int,
      (Ev (fun k=>spec_l14Motion.l1 k bl (rowFrom (motO w h old p bl) far y d s).1 (rowFrom (motO w h old p bl) far y d s).2.1 (rowFrom (motO w h old p bl) far y d s).2.2 (blk w h p bl 0 0) far (y+1) w h old) V) →
      Ev (fun k=>spec_l14Motion.l2 k bl s.1 s.2.1 s.2.2 (blk w h p bl 0 0) far y (3 - (d:Int)) w h old) V:=by
    intro V far y hy d
    induction d with
    | zero =>
      intro _ s hnext
      refine ev_succ ?_
      have h1 : ¬ (3:Int) - ((0:Nat):Int)≤2:=by omega
      have h4:wrap64 (y+1)=y+1:=w64 (by omega) (by omega)
      simp only [spec_l14Motion.l2,h1,h4,if_false]
      exact hnext
    | succ d ih =>
      intro hd s hnext
      refine ev_succ ?_
      have e0:(3:Int) - ((d+1:Nat):Int)=2 - (d:Int):=by omega
      rw [e0]
      have h1:(2:Int) - (d:Int)≤2:=by omega
      have h4:wrap64 (2 - (d:Int)+1)=3 - (d:Int):=by rw [w64 (by omega) (by omega)];omega
      have e1:=w_far (x:=2 - (d:Int)) (y:=y) (by omega) hy
      simp only [spec_l14Motion.l2,h1,h4,e1,if_true]
      simp only [rowFrom] at hnext
      refine ev_ite (fun h2=>?_) (fun h2=>?_)
      · rw [if_pos h2] at hnext
        refine ev_bind (spec_block_ev ho hb (by omega) (by omega)) ?_
        refine sum V s far y (2 - (d:Int)) hy (by omega) ?_ 16 0 (by omega)
        rw [show(2:Int) - (d:Int)+1=3 - (d:Int) by omega]
        exact ih (by omega) _ hnext
      · rw [if_neg h2] at hnext
        exact ih (by omega) _ hnext
  have col:∀ V (far:Int),(0≤far∧far≤8) → ∀ d:Nat,d≤5 → ∀ s:Int × Int × Int,
      (Ev (fun k=>spec_l14Motion.l0 k bl (colFrom (motO w h old p bl) far d s).1 (colFrom (motO w h old p bl) far d s).2.1 (colFrom (motO w h old p bl) far d s).2.2 (blk w h p bl 0 0) (far+1) w h old) V) →
      Ev (fun k=>spec_l14Motion.l1 k bl s.1 s.2.1 s.2.2 (blk w h p bl 0 0) far (3 - (d:Int)) w h old) V:=by
    intro V far hf d
    induction d with
    | zero =>
      intro _ s hnext
      refine ev_succ ?_
      have h1 : ¬ (3:Int) - ((0:Nat):Int)≤2:=by omega
      have h4:wrap64 (far+1)=far+1:=w64 (by omega) (by omega)
      simp only [spec_l14Motion.l1,h1,h4,if_false]
      exact hnext
    | succ d ih =>
      intro hd s hnext
      refine ev_succ ?_
      have e0:(3:Int) - ((d+1:Nat):Int)=2 - (d:Int):=by omega
      rw [e0]
      have h1:(2:Int) - (d:Int)≤2:=by omega
      simp only [spec_l14Motion.l1,h1,if_true]
      simp only [colFrom] at hnext
      have:=row V far (2 - (d:Int)) (by omega) 5 (by omega) s (by
        rw [show(2:Int) - (d:Int)+1=3 - (d:Int) by omega]
        exact ih (by omega) _ hnext)
      exact this
  have all:∀ d:Nat,d≤9 → ∀ s:Int × Int × Int,
      Ev (fun k=>spec_l14Motion.l0 k bl s.1 s.2.1 s.2.2 (blk w h p bl 0 0) (9 - (d:Int)) w h old) ((farFrom (motO w h old p bl) d s).1,(farFrom (motO w h old p bl) d s).2.1):=by
    intro d
    induction d with
    | zero =>
      intro _ s
      refine ev_succ ?_
      have h1 : ¬ (9:Int) - ((0:Nat):Int)≤8:=by omega
      simp only [spec_l14Motion.l0,h1,if_false]
      exact ev_ret rfl
    | succ d ih =>
      intro hd s
      refine ev_succ ?_
      have e0:(9:Int) - ((d+1:Nat):Int)=8 - (d:Int):=by omega
      rw [e0]
      have h1:(8:Int) - (d:Int)≤8:=by omega
      simp only [spec_l14Motion.l0,h1,if_true]
      have:=col _ (8 - (d:Int)) (by omega) 5 (by omega) s (by
        rw [show(8:Int) - (d:Int)+1=9 - (d:Int) by omega]
        exact ih (by omega) _)
      exact this
  have:=all 9 (by omega) (0,0,-1)
  rw [search_best (motO w h old p bl) (fun y x=>(hob y x).1)] at this
  exact this

/-! #### Motion as a whole -/
def twoB (w0 h0 : Int) (old : List Int) (w1 h1 : Int) (p : List Int) : Bool := picB w0 h0 old && picB w1 h1 p && decide (w0 = w1 ∧ h0 = h1)
theorem spec_two_ev (w0 h0 : Int) (old : List Int) (w1 h1 : Int) (p : List Int) : Ev (fun k => spec_l14Two.f k w0 h0 old w1 h1 p) (twoB w0 h0 old w1 h1 p) := by
  unfold twoB
  simp only [spec_l14Two.f]
  refine ev_bind (spec_PictureOk_ev w0 h0 old) (ev_ifb (fun e=>?_) (fun e=>ev_ret (by rw [e];simp)))
  refine ev_bind (spec_PictureOk_ev w1 h1 p) (ev_ifb (fun e2=>?_) (fun e2=>ev_ret (by rw [e2];simp)))
  rw [e,e2]
  by_cases hw:w0=w1
  · simp only [hw,if_true]
    refine ev_ret ?_
    congr 1
    rw [Bool.eq_iff_iff]
    simp
  · simp only [hw,if_false]
    exact ev_ret (by simp)
theorem twoB_of {w0 h0 w1 h1 : Int} {old p : List Int} (h : twoB w0 h0 old w1 h1 p = true) : w0 = w1 ∧ h0 = h1 ∧ PicO w0 h0 old ∧ PicO w1 h1 p := by
  unfold twoB at h
  simp only [Bool.and_eq_true,decide_eq_true_eq] at h
  exact⟨h.2.1,h.2.2,picO_of h.1.1,picO_of h.1.2⟩
def motR (w0 h0 : Int) (old : List Int) (w1 h1 : Int) (p : List Int) (bl : Int) : Int × Int := if twoB w0 h0 old w1 h1 p = true ∧ 0 ≤ bl ∧ bl < w1 / 4 * (h1 / 4) then ((motW w1 h1 old p bl).x, (motW w1 h1 old p bl).y) else (0, 0)

/-! #### a block turned -/
def turnV (xs : List Int) : List Int := turnG (turnMid xs 4) 4 0
theorem turnCol_len (m : List Int) (x : Int) : (turnCol m x).length = 4 := rfl
theorem spec_l14Turn_ev (xs : List Int) (h : xs.length = 16) : Ev (fun k => spec_l14Turn.f k xs) (turnV xs) := by
  have inner:∀ (m:List Int),m.length=16 → ∀ V:List Int,∀ x:Nat,x < 4→Ev (fun k=>spec_l14Turn.l1 k m (turnG m (x+1) 0) ((x+1:Nat):Int)) V → ∀ d y,y+d=4→Ev (fun k=>spec_l14Turn.l2 k m (turnG m x y) (x:Int) (turnCol m (x:Int)) (y:Int)) V:=by
    intro m hm V x hx hnext d
    induction d with
    | zero =>
      intro y hy
      refine ev_succ ?_
      obtain rfl:y=4:=by omega
      have h1 : ¬ ((4:Nat):Int) < 4:=by omega
      have h4:=w64s (n:=x) (by omega)
      simp only [spec_l14Turn.l2,h1,h4,if_false]
      rw [turnG_next]
      exact hnext
    | succ d ih =>
      intro y hy
      refine ev_succ ?_
      have h1:(y:Int) < 4:=by omega
      have h2:0≤(y:Int):=by omega
      have h3:(y:Int) < ((turnCol m (x:Int)).length:Int):=by rw [turnCol_len];omega
      have w1:wrap64 (4*(y:Int))=4*(y:Int):=w64 (by omega) (by omega)
      have w2:wrap64 (4*(y:Int)+(x:Int))=((4*y+x:Nat):Int):=by rw [w64 (by omega) (by omega)];omega
      have h5:0≤((4*y+x:Nat):Int):=by omega
      have h6:((4*y+x:Nat):Int) < ((turnG m x y).length:Int):=by rw [turnG_len];omega
      have h7:=w64s (n:=y) (by omega)
      have hset:(turnG m x y).set (4*y+x) (rd (turnCol m (x:Int)) (y:Int))=turnG m x (y+1):=turnG_set m x y hx (by omega)
      simp only [spec_l14Turn.l2,h1,h2,h3,w1,w2,h5,h6,h7,if_true,Int.toNat_natCast,hset]
      exact ih (y+1) (by omega)
  have outer:∀ (m:List Int),m.length=16 → ∀ d x,x+d=4→Ev (fun k=>spec_l14Turn.l1 k m (turnG m x 0) (x:Int)) (turnG m 4 0):=by
    intro m hm d
    induction d with
    | zero =>
      intro x hx
      refine ev_succ ?_
      obtain rfl:x=4:=by omega
      have h1 : ¬ ((4:Nat):Int) < 4:=by omega
      simp only [spec_l14Turn.l1,h1,if_false]
      exact ev_ret rfl
    | succ d ih =>
      intro x hx
      refine ev_succ ?_
      have h1:(x:Int) < 4:=by omega
      have h2:0≤(x:Int):=by omega
      have h3:(x:Int) < (m.length:Int):=by omega
      have w1:wrap64 ((x:Int)+4)=4+(x:Int):=by rw [w64 (by omega) (by omega)];omega
      have w2:wrap64 ((x:Int)+8)=8+(x:Int):=by rw [w64 (by omega) (by omega)];omega
      have w3:wrap64 ((x:Int)+12)=12+(x:Int):=by rw [w64 (by omega) (by omega)];omega
      have a1:0≤4+(x:Int):=by omega
      have a2:0≤8+(x:Int):=by omega
      have a3:0≤12+(x:Int):=by omega
      have b1:4+(x:Int) < (m.length:Int):=by omega
      have b2:8+(x:Int) < (m.length:Int):=by omega
      have b3:12+(x:Int) < (m.length:Int):=by omega
      simp only [spec_l14Turn.l1,h1,h2,h3,w1,w2,w3,a1,a2,a3,b1,b2,b3,if_true]
      refine ev_some (a:=turnCol m (x:Int)) rfl ?_
      exact inner m hm _ x (by omega) (ih (x+1) (by omega)) 4 0 (by omega)
  have first:∀ d i,i+d=4→Ev (fun k=>spec_l14Turn.l0 k xs (turnMid xs i) (i:Int)) (turnV xs):=by
    intro d
    induction d with
    | zero =>
      intro i hi
      refine ev_succ ?_
      obtain rfl:i=4:=by omega
      have h1 : ¬ ((4:Nat):Int) < 4:=by omega
      have h2:16≤35184372088832:=by omega
      simp only [spec_l14Turn.l0,h1,h2,if_false,if_true]
      have:=outer (turnMid xs 4) (turnMid_len xs 4) 4 0 (by omega)
      rw [turnG_0] at this
      exact this
    | succ d ih =>
      intro i hi
      refine ev_succ ?_
      have h1:(i:Int) < 4:=by omega
      have w0:wrap64 (4*(i:Int))=4*(i:Int):=w64 (by omega) (by omega)
      have w1:wrap64 (4*(i:Int)+1)=4*(i:Int)+1:=w64 (by omega) (by omega)
      have w2:wrap64 (4*(i:Int)+2)=4*(i:Int)+2:=w64 (by omega) (by omega)
      have w3:wrap64 (4*(i:Int)+3)=4*(i:Int)+3:=w64 (by omega) (by omega)
      have a0:0≤4*(i:Int):=by omega
      have a1:0≤4*(i:Int)+1:=by omega
      have a2:0≤4*(i:Int)+2:=by omega
      have a3:0≤4*(i:Int)+3:=by omega
      have b0:4*(i:Int) < (xs.length:Int):=by omega
      have b1:4*(i:Int)+1 < (xs.length:Int):=by omega
      have b2:4*(i:Int)+2 < (xs.length:Int):=by omega
      have b3:4*(i:Int)+3 < (xs.length:Int):=by omega
      have h7:=w64s (n:=i) (by omega)
      simp only [spec_l14Turn.l0,h1,w0,w1,w2,w3,a0,a1,a2,a3,b0,b1,b2,b3,h7,if_true]
      refine ev_some (a:=turnRow xs (4*(i:Int))) rfl ?_
      have h8:(turnMid xs i).length+(turnRow xs (4*(i:Int))).length < 17592186044416:=by
        rw [turnMid_len,show(turnRow xs (4*(i:Int))).length=4 from rfl];omega
      simp only [h8,if_true]
      exact ih (i+1) (by omega)
  exact first 4 0 (by omega)

/-! #### Encode: the levels of a block and their bytes -/
def updG (f : Nat → Int) (X : List Int) (n : Nat) : List Int := (List.range 16).map fun j => if j < n then f j else rd X (j : Int)
theorem updG_len (f : Nat → Int) (X : List Int) (n : Nat) : (updG f X n).length = 16 := by simp [updG]
theorem updG_at (f : Nat → Int) (X : List Int) (n : Nat) {j : Nat} (hj : j < 16) : rd (updG f X n) (j : Int) = if j < n then f j else rd X (j : Int) := by
  simp [updG,rd_nat,List.getD_eq_getElem?_getD,List.getElem?_map,List.getElem?_range hj]
theorem updG_0 (f : Nat → Int) (X : List Int) (h : X.length = 16) : updG f X 0 = X := by
  refine List.ext_getElem? fun j=>?_
  by_cases hj:j < 16
  · simp [updG,List.getElem?_map,List.getElem?_range hj,rd_nat,List.getD_eq_getElem?_getD,List.getElem?_eq_getElem (show j < X.length by omega)]
  · rw [List.getElem?_eq_none (by rw [updG_len];omega),List.getElem?_eq_none (by omega)]
theorem updG_set (f : Nat → Int) (X : List Int) {i : Nat} (hi : i < 16) : (updG f X i).set i (f i) = updG f X (i + 1) := by
  refine List.ext_getElem? fun j=>?_
  by_cases hj:j < 16
  · rw [List.getElem?_set]
    by_cases he:i=j
    · subst he
      simp [updG,hj,List.getElem?_map,List.getElem?_range hj]
    · rw [if_neg he]
      simp only [updG,List.getElem?_map,List.getElem?_range hj,Option.map_some]
      by_cases h1:j < i
      · rw [if_pos h1,if_pos (by omega)]
      · rw [if_neg h1,if_neg (by omega)]
  · rw [List.getElem?_eq_none (by simp [updG];omega),List.getElem?_eq_none (by rw [updG_len];omega)]
def dn (a b : Int) : Int := if Int.tmod a b < 0 then wrap64 (wrap64 (Int.tdiv a b) - 1) else wrap64 (Int.tdiv a b)
def rnd (q z : Int) : Int := dn (wrap64 (wrap64 (2 * z) + wrap64 (16 * q))) (wrap64 (2 * wrap64 (16 * q)))
theorem q_ne {q : Int} (h : 1 ≤ q ∧ q ≤ 64) : ¬ wrap64 (2 * wrap64 (16 * q)) = 0 := by
  rw [w64 (x:=16*q) (by omega) (by omega),w64 (by omega) (by omega)]
  omega
theorem round_eq {q : Int} (h : 1 ≤ q ∧ q ≤ 64) (z : Int) : spec_l9Round.f z (wrap64 (16 * q)) = some (rnd q z) := by
  have hq:=q_ne h
  unfold spec_l9Round.f spec_l8Down.f rnd dn
  rw [if_neg hq]
  split <;> rfl
def manyG (l : List Int) : Nat → Nat
  | 0 => 0
  | i + 1 => if rd l (i : Int) = 0 then manyG l i else i + 1
theorem manyG_le (l : List Int) : ∀ n, manyG l n ≤ n
  | 0 => Nat.le_refl _
  | n + 1 => by
    unfold manyG
    split
    · exact Nat.le_succ_of_le (manyG_le l n)
    · exact Nat.le_refl _
def lbU (u : Int) : List Int := if u < 255 then [u % 256] else [255, (u / 256) % 256, u % 256]
def lb (v : Int) : List Int := lbU (if v < 0 then wrap64 (wrap64 ((-2) * v) - 1) else wrap64 (2 * v))
theorem lbU_len (u : Int) : (lbU u).length ≤ 3 := by unfold lbU; split <;> simp
theorem lb_len (v : Int) : (lb v).length ≤ 3 := lbU_len _
theorem lbU_spec {u : Int} (h : ¬ wrap64 u < 255) : [255, (wrap64 (Int.tdiv (wrap64 u) 256)) % 256, (Int.tmod (wrap64 u) 256) % 256] = lbU (wrap64 u) := by
  have hb:wrap64 u≤9223372036854775807:=by unfold wrap64;omega
  unfold lbU
  rw [if_neg h]
  generalize wrap64 u=z at *
  rw [Int.tdiv_eq_ediv_of_nonneg (by omega),Int.tmod_eq_emod_of_nonneg (by omega),w64 (by omega) (by omega)]
  rw [Int.emod_emod_of_dvd _ (Int.dvd_refl 256)]
def lbsG (l : List Int) (n : Nat) : List Int := (List.range n).flatMap fun (j : Nat) => lb (rd l (j : Int))
theorem lbsG_succ (l : List Int) (n : Nat) : lbsG l (n + 1) = lbsG l n ++ lb (rd l (n : Int)) := by simp [lbsG, List.range_succ]
theorem lbsG_len (l : List Int) (n : Nat) : (lbsG l n).length ≤ 3 * n := by
  induction n with
  | zero => exact Nat.le_refl _
  | succ n ih =>
    rw [lbsG_succ,List.length_append]
    have:=lb_len (rd l (n:Int))
    omega
def difL (X Y : List Int) : List Int := updG (fun j => wrap64 (rd X (j : Int) - rd Y (j : Int))) X 16
def levL (q : Int) (T : List Int) : List Int := updG (fun j => rnd q (rd T (j : Int))) T 16
def wayB (x y : Int) : Int := (wrap64 (wrap64 (wrap64 (8 * wrap64 (y + 2)) + x) + 2)) % 256
def tellB (q x y : Int) (X Y : List Int) : List Int := [wayB x y, ((manyG (levL q (turnV (difL X Y))) 16 : Nat) : Int) % 256] ++ lbsG (levL q (turnV (difL X Y))) (manyG (levL q (turnV (difL X Y))) 16)
def encB (w h : Int) (old p : List Int) (q : Int) (b : Nat) : List Int := tellB q (motW w h old p (b : Int)).x (motW w h old p (b : Int)).y (blk w h p (b : Int) 0 0) (blk w h old (b : Int) (motW w h old p (b : Int)).x (motW w h old p (b : Int)).y)
def encG (w h : Int) (old p : List Int) (q : Int) (n : Nat) : List Int := (List.range n).flatMap (encB w h old p q)
theorem encG_succ (w h : Int) (old p : List Int) (q : Int) (n : Nat) : encG w h old p q (n + 1) = encG w h old p q n ++ encB w h old p q n := by simp [encG, List.range_succ]
theorem encB_len (w h : Int) (old p : List Int) (q : Int) (b : Nat) : (encB w h old p q b).length ≤ 50 := by
  unfold encB tellB
  rw [List.length_append]
  have h1:=lbsG_len (levL q (turnV (difL (blk w h p (b:Int) 0 0) (blk w h old (b:Int) (motW w h old p (b:Int)).x (motW w h old p (b:Int)).y)))) (manyG (levL q (turnV (difL (blk w h p (b:Int) 0 0) (blk w h old (b:Int) (motW w h old p (b:Int)).x (motW w h old p (b:Int)).y)))) 16)
  have h2:=manyG_le (levL q (turnV (difL (blk w h p (b:Int) 0 0) (blk w h old (b:Int) (motW w h old p (b:Int)).x (motW w h old p (b:Int)).y)))) 16
  simp only [List.length_cons,List.length_nil]
  omega
theorem encG_len (w h : Int) (old p : List Int) (q : Int) (n : Nat) : (encG w h old p q n).length ≤ 50 * n := by
  induction n with
  | zero => exact Nat.le_refl _
  | succ n ih =>
    rw [encG_succ,List.length_append]
    have:=encB_len w h old p q n
    omega
theorem motW_bd (w h : Int) (old p : List Int) (bl : Int) : (-2 ≤ (motW w h old p bl).x ∧ (motW w h old p bl).x ≤ 2) ∧ (-2 ≤ (motW w h old p bl).y ∧ (motW w h old p bl).y ≤ 2) := by
  have hm:=(bestOff_mem ((wyFar.drop 1).map (wyOf (motO w h old p bl))) (wyOf (motO w h old p bl) (0,0)) (wy_sorted _)).1
  have hs:∀ q ∈ wyFar,(-2≤q.2∧q.2≤2)∧(-2≤q.1∧q.1≤2):=by decide
  have hm2:motW w h old p bl ∈ wyFar.map (wyOf (motO w h old p bl)):=hm
  obtain⟨q,hq,e⟩:=List.mem_map.1 hm2
  rw [← e]
  exact hs q hq
section
variable {w h q : Int} {old p : List Int}
theorem turnV_len' (xs : List Int) : (turnV xs).length = 16 := by rw [turnV, turnG_len]
theorem spec_l3_ev (L pre : List Int) (m b : Nat) (hL : L.length = 16) (hm : m ≤ 16) (hpre : pre.length ≤ 100000) (V : List Int × Bool)
    (hnext:Ev (fun k=>spec_Encode.l0 k q (pre ++ lbsG L m) (wrap64 ((b:Int)+1)) w h old w h p) V) :
    ∀ d i,i+d=m→Ev (fun k=>spec_Encode.l3 k q (pre ++ lbsG L i) (b:Int) L (m:Int) (i:Int) w h old w h p) V:=by
  intro d
  induction d with
  | zero =>
    intro i hi
    refine ev_succ ?_
    obtain rfl:i=m:=by omega
    have h1 : ¬ (i:Int) < (i:Int):=by omega
    simp only [spec_Encode.l3,h1,if_false]
    exact hnext
  | succ d ih =>
    intro i hi
    refine ev_succ ?_
    have h1:(i:Int) < (m:Int):=by omega
    have h2:0≤(i:Int):=by omega
    have h3:(i:Int) < (L.length:Int):=by omega
    have h4:=w64s (n:=i) (by omega)
    have hpl:(pre ++ lbsG L i).length≤100048:=by
      have:=lbsG_len L i
      rw [List.length_append]
      omega
    have h6:(pre ++ lbsG L i).length < 140737488355328:=by omega
    have h7:(pre ++ lbsG L i).length+3 < 140737488355328:=by omega
    have hn:=ih (i+1) (by omega)
    rw [lbsG_succ,← List.append_assoc] at hn
    simp only [spec_Encode.l3,h1,h2,h3,h4,h6,if_true,Option.bind_some,List.length_cons,List.length_nil,Nat.reduceAdd,h7]
    unfold lb at hn
    by_cases hv:rd L (i:Int) < 0
    · simp only [hv,if_true] at hn ⊢
      by_cases hu:wrap64 (wrap64 ((-2)*rd L (i:Int)) - 1) < 255
      · simp only [hu,if_true]
        unfold lbU at hn
        rw [if_pos hu] at hn
        exact hn
      · simp only [hu,if_false]
        rw [lbU_spec hu]
        exact hn
    · simp only [hv,if_false] at hn ⊢
      by_cases hu:wrap64 (2*rd L (i:Int)) < 255
      · simp only [hu,if_true]
        unfold lbU at hn
        rw [if_pos hu] at hn
        exact hn
      · simp only [hu,if_false]
        rw [lbU_spec hu]
        exact hn
theorem spec_l2_ev (T pre : List Int) (b : Nat) (hq : 1 ≤ q ∧ q ≤ 64) (hT : T.length = 16) (hpre : pre.length ≤ 90000) (V : List Int × Bool)
    (hnext:Ev (fun k=>spec_Encode.l0 k q (pre ++ [((manyG (levL q T) 16:Nat):Int) % 256] ++ lbsG (levL q T) (manyG (levL q T) 16)) (wrap64 ((b:Int)+1)) w h old w h p) V) :
    ∀ d i,i+d=16→Ev (fun k=>spec_Encode.l2 k q pre (b:Int) (updG (fun j=>rnd q (rd T (j:Int))) T i) ((manyG (levL q T) i:Nat):Int) (i:Int) w h old w h p) V:=by
  intro d
  induction d with
  | zero =>
    intro i hi
    refine ev_succ ?_
    obtain rfl:i=16:=by omega
    have h1 : ¬ ((16:Nat):Int) < 16:=by omega
    have h2:=manyG_le (levL q T) 16
    have h5:pre.length < 140737488355328:=by omega
    simp only [spec_Encode.l2,h1,if_false,h5,if_true]
    have:=spec_l3_ev (w:=w) (h:=h) (q:=q) (old:=old) (p:=p) (levL q T) (pre ++ [((manyG (levL q T) 16:Nat):Int) % 256]) (manyG (levL q T) 16) b (updG_len _ _ _) h2 (by simp;omega) V hnext (manyG (levL q T) 16) 0 (by omega)
    simp only [lbsG,List.range_zero,List.flatMap_nil,List.append_nil] at this
    exact this
  | succ d ih =>
    intro i hi
    refine ev_succ ?_
    have hi16:i < 16:=by omega
    have h1:(i:Int) < 16:=by omega
    have h2:0≤(i:Int):=by omega
    have h3:(i:Int) < ((updG (fun j=>rnd q (rd T (j:Int))) T i).length:Int):=by rw [updG_len];omega
    have h4:=w64s (n:=i) (by omega)
    have h5:rd (updG (fun j=>rnd q (rd T (j:Int))) T i) (i:Int)=rd T (i:Int):=by rw [updG_at _ _ _ hi16,if_neg (by omega)]
    have h6:(updG (fun j=>rnd q (rd T (j:Int))) T i).set i (rnd q (rd T (i:Int)))=updG (fun j=>rnd q (rd T (j:Int))) T (i+1):=updG_set _ T hi16
    have h7:rd (updG (fun j=>rnd q (rd T (j:Int))) T (i+1)) (i:Int)=rd (levL q T) (i:Int):=by
      rw [levL,updG_at _ _ _ hi16,updG_at _ _ _ hi16,if_pos (by omega),if_pos hi16]
    simp only [spec_Encode.l2,h1,h2,h3,h4,h5,round_eq hq,Option.bind_some,Int.toNat_natCast,h6,h7,if_true]
    have hn:=ih (i+1) (by omega)
    unfold manyG at hn
    by_cases hz:rd (levL q T) (i:Int)=0
    · simp only [hz,if_true] at hn ⊢
      exact hn
    · simp only [hz,if_false] at hn ⊢
      exact hn
theorem spec_l1_ev (X Y pre : List Int) (b : Nat) (hq : 1 ≤ q ∧ q ≤ 64) (hX : X.length = 16) (hY : Y.length = 16) (hpre : pre.length ≤ 90000) (V : List Int × Bool)
    (hnext:Ev (fun k=>spec_Encode.l0 k q (pre ++ [((manyG (levL q (turnV (difL X Y))) 16:Nat):Int) % 256] ++ lbsG (levL q (turnV (difL X Y))) (manyG (levL q (turnV (difL X Y))) 16)) (wrap64 ((b:Int)+1)) w h old w h p) V) :
    ∀ d i,i+d=16→Ev (fun k=>spec_Encode.l1 k q pre (b:Int) (updG (fun j=>wrap64 (rd X (j:Int) - rd Y (j:Int))) X i) Y (i:Int) w h old w h p) V:=by
  intro d
  induction d with
  | zero =>
    intro i hi
    refine ev_succ ?_
    obtain rfl:i=16:=by omega
    have h1 : ¬ ((16:Nat):Int) < 16:=by omega
    simp only [spec_Encode.l1,h1,if_false]
    refine ev_bind (spec_l14Turn_ev _ (updG_len _ _ _)) ?_
    have:=spec_l2_ev (w:=w) (h:=h) (q:=q) (old:=old) (p:=p) (turnV (difL X Y)) pre b hq (turnV_len' _) hpre V hnext 16 0 (by omega)
    rw [updG_0 _ _ (turnV_len' _)] at this
    exact this
  | succ d ih =>
    intro i hi
    refine ev_succ ?_
    have hi16:i < 16:=by omega
    have h1:(i:Int) < 16:=by omega
    have h2:0≤(i:Int):=by omega
    have h3:(i:Int) < ((updG (fun j=>wrap64 (rd X (j:Int) - rd Y (j:Int))) X i).length:Int):=by rw [updG_len];omega
    have h8:(i:Int) < (Y.length:Int):=by omega
    have h4:=w64s (n:=i) (by omega)
    have h5:rd (updG (fun j=>wrap64 (rd X (j:Int) - rd Y (j:Int))) X i) (i:Int)=rd X (i:Int):=by rw [updG_at _ _ _ hi16,if_neg (by omega)]
    have h6:(updG (fun j=>wrap64 (rd X (j:Int) - rd Y (j:Int))) X i).set i (wrap64 (rd X (i:Int) - rd Y (i:Int)))=updG (fun j=>wrap64 (rd X (j:Int) - rd Y (j:Int))) X (i+1):=updG_set (fun j=>wrap64 (rd X (j:Int) - rd Y (j:Int))) X hi16
    simp only [spec_Encode.l1,h1,h2,h3,h8,h4,h5,Int.toNat_natCast,h6,if_true]
    exact ih (i+1) (by omega)
theorem spec_l0_ev (ho : PicO w h old) (hp : PicO w h p) (hq : 1 ≤ q ∧ q ≤ 64) (nb : Nat) (hnb : (nb : Int) = w / 4 * (h / 4)) : ∀ d b, b + d = nb → Ev (fun k => spec_Encode.l0 k q (encG w h old p q b) (b : Int) w h old w h p) (encG w h old p q nb, true) := by
  have hbd:=blocks_bd hp
  intro d
  induction d with
  | zero =>
    intro b hb
    refine ev_succ ?_
    obtain rfl:b=nb:=by omega
    have h1 : ¬ (b:Int) < w / 4*(h / 4):=by omega
    simp only [spec_Encode.l0,spec_blocks_eq hp,Option.bind_some,h1,if_false]
    exact ev_ret rfl
  | succ d ih =>
    intro b hb
    refine ev_succ ?_
    have h1:(b:Int) < w / 4*(h / 4):=by omega
    have hb64:0≤(b:Int)∧(b:Int)≤64:=by omega
    have hm:=motW_bd w h old p (b:Int)
    have hl:=encG_len w h old p q b
    have h9:(encG w h old p q b).length < 140737488355328:=by omega
    simp only [spec_Encode.l0,spec_blocks_eq hp,Option.bind_some,h1,if_true]
    refine ev_bind (spec_motion_ev ho hp hb64) ?_
    simp only [h9,if_true]
    refine ev_bind (spec_block_ev hp hb64 (by omega) (by omega)) ?_
    refine ev_bind (spec_block_ev ho hb64 (by omega) (by omega)) ?_
    have hn:=ih (b+1) (by omega)
    rw [encG_succ,← w64s (n:=b) (by omega)] at hn
    have:=spec_l1_ev (w:=w) (h:=h) (q:=q) (old:=old) (p:=p) (blk w h p (b:Int) 0 0) (blk w h old (b:Int) (motW w h old p (b:Int)).x (motW w h old p (b:Int)).y) (encG w h old p q b ++ [wayB (motW w h old p (b:Int)).x (motW w h old p (b:Int)).y]) b hq (blkG_len _ _ _ _ _ _ _) (blkG_len _ _ _ _ _ _ _) (by simp;omega) (encG w h old p q nb,true) (by simpa [encB,tellB] using hn) 16 0 (by omega)
    rw [updG_0 _ _ (blkG_len _ _ _ _ _ _ _)] at this
    exact this
end
def encV (w0 h0 : Int) (old : List Int) (w1 h1 : Int) (p : List Int) (q : Int) : List Int × Bool := if twoB w0 h0 old w1 h1 p = true ∧ 1 ≤ q ∧ q ≤ 64 then (encG w1 h1 old p q (w1 / 4 * (h1 / 4)).toNat, true) else ([], false)
theorem spec_Encode_ev (w0 h0 : Int) (old : List Int) (w1 h1 : Int) (p : List Int) (q : Int) : Ev (fun k => spec_Encode.f k w0 h0 old w1 h1 p q) (encV w0 h0 old w1 h1 p q) := by
  unfold encV
  simp only [spec_Encode.f,Option.bind_some]
  refine ev_bind (spec_two_ev w0 h0 old w1 h1 p) (ev_ifb (fun e=>?_) (fun e=>?_))
  · obtain⟨rfl,rfl,ho,hp⟩:=twoB_of e
    have hbd:=blocks_bd hp
    obtain⟨nb,hnb⟩:=Int.eq_ofNat_of_zero_le hbd.2.2.2.2.1
    simp only [spec_in_eq,Option.bind_some]
    refine ev_succ ?_
    by_cases hq:1≤q∧q≤64
    · have hd:(!(decide (1≤q∧q≤64)))=false:=by simp [hq]
      simp only [spec_Encode.j0,hd,Bool.false_eq_true,if_false]
      rw [if_pos ⟨e,hq⟩,hnb]
      exact spec_l0_ev ho hp hq nb hnb.symm nb 0 (by omega)
    · have hd:(!(decide (1≤q∧q≤64)))=true:=by simp [hq]
      simp only [spec_Encode.j0,hd,if_true]
      rw [if_neg (fun hh=>hq hh.2)]
      exact ev_ret rfl
  · refine ev_succ ?_
    simp only [spec_Encode.j0,if_true]
    rw [if_neg (by rw [e];simp)]
    exact ev_ret rfl

/-! #### Decode: what is read off the bytes -/
def BytesL (L : List Int) : Prop := ∀ x ∈ L, 0 ≤ x ∧ x ≤ 255
theorem BytesL.tail {L : List Int} (h : BytesL L) : BytesL L.tail := fun x hx => h x (List.mem_of_mem_tail hx)
theorem nextV_bd {L : List Int} (h : BytesL L) : 0 ≤ nextV L ∧ nextV L ≤ 255 := by
  cases L with
  | nil => exact ⟨by decide, by decide⟩
  | cons b L =>
    have:=h b (by simp)
    show 0≤wrap64 b∧wrap64 b≤255
    rw [w64 (by omega) (by omega)]
    exact this
theorem lvL_bytes {L : List Int} (h : BytesL L) : BytesL (lvL L) := by
  unfold lvL
  split
  · exact h.tail.tail.tail
  · exact h.tail
theorem lvRest_bytes {L : List Int} (h : BytesL L) : ∀ n, BytesL (lvRest n L)
  | 0 => h
  | n + 1 => lvL_bytes (lvRest_bytes h n)
theorem lvS_true (L : List Int) : lvS L true = true := by unfold lvS; split <;> simp
theorem lvShort_more (L : List Int) (s : Bool) (i : Nat) (h : lvShort i L s = true) : ∀ j, lvShort (i + j) L s = true
  | 0 => h
  | j + 1 => by
    show lvS (lvRest (i+j) L) (lvShort (i+j) L s)=true
    rw [lvShort_more L s i h j]
    exact lvS_true _
theorem or_256 {a b : Int} (ha : 0 ≤ a ∧ a ≤ 255) (hb : 0 ≤ b ∧ b ≤ 255) : Go.bits .or .i64 (wrap64 (a * 256)) b = a * 256 + b := by
  obtain⟨m,rfl⟩:=Int.eq_ofNat_of_zero_le ha.1
  obtain⟨n,rfl⟩:=Int.eq_ofNat_of_zero_le hb.1
  rw [w64 (x:=(m:Int)*256) (by omega) (by omega)]
  have e:Go.bits .or .i64 ((m:Int)*256) (n:Int)=IntKind.i64.wrap (((BitVec.ofInt 64 ((m:Int)*256))|||(BitVec.ofInt 64 (n:Int))).toNat:Int):=rfl
  have e1:BitVec.ofInt 64 ((m:Int)*256)=BitVec.ofNat 64 (m*256):=by
    rw [show(m:Int)*256=((m*256:Nat):Int) by omega,BitVec.ofInt_natCast]
  have e2:BitVec.ofInt 64 (n:Int)=BitVec.ofNat 64 n:=BitVec.ofInt_natCast 64 n
  rw [e,e1,e2,BitVec.toNat_or,BitVec.toNat_ofNat,BitVec.toNat_ofNat,Nat.mod_eq_of_lt (by omega),Nat.mod_eq_of_lt (by omega)]
  have e3:m*256|||n=m*256+n:=by
    have h:=Nat.shiftLeft_add_eq_or_of_lt (a:=m) (b:=n) (i:=8) (by omega)
    rw [Nat.shiftLeft_eq] at h
    exact h.symm
  rw [e3,IntKind.wrap_i64]
  omega
theorem nextV_at {b : List Int} {at_ : Nat} (hb : BytesL b) (h : at_ < b.length) : nextV (b.drop at_) = rd b (at_ : Int) ∧ (0 ≤ rd b (at_ : Int) ∧ rd b (at_ : Int) ≤ 255) := by
  have h1:=hb _ (rd_mem h)
  rw [drop_rd b at_ h]
  exact⟨w64 (by omega) (by omega),h1⟩
theorem drop_empty {b : List Int} {at_ : Nat} (h : at_ ≤ b.length) : (b.drop at_).isEmpty = decide (at_ = b.length) := by
  rw [Bool.eq_iff_iff,List.isEmpty_iff,List.drop_eq_nil_iff,decide_eq_true_eq]
  omega
theorem drop_empty' (b : List Int) (at_ : Nat) : (b.drop at_).isEmpty = decide (b.length ≤ at_) := by
  rw [Bool.eq_iff_iff,List.isEmpty_iff,List.drop_eq_nil_iff,decide_eq_true_eq]
theorem drop_tail (b : List Int) (at_ : Nat) : (b.drop at_).tail = b.drop (at_ + 1) := by rw [List.tail_drop]
def fillX (xs : List Int) (i : Nat) (u : Int) : List Int := if Int.tmod u 2 = 1 then (xs.set i (wrap64 (Int.tdiv u 2))).set i (wrap64 (Int.tdiv (wrap64 (-(wrap64 (u + 1)))) 2)) else xs.set i (wrap64 (Int.tdiv u 2))
theorem fillX_eq (xs : List Int) (i : Nat) (L : List Int) (u : Int) (hu : lvU L = u) (h0 : 0 ≤ u) : fillX xs i u = xs.set i (lvV L) := by
  unfold fillX lvV
  rw [hu,Int.tmod_eq_emod_of_nonneg h0]
  by_cases h:u % 2=1
  · rw [if_pos h,if_neg (by omega),List.set_set]
  · rw [if_neg h,if_pos (by omega)]
/-! #### the common value -/
def gV (w h : Int) (px : List Int) (q : Int) : Nat → Nat → List Int → List Int → Option (List Int × List Int)
  | 0, _, L, out => some (L, out)
  | d + 1, k, L, out =>
    if badB L false = true then none else
    if lvShort (nextV L.tail).toNat L.tail.tail (twoS L false) = true then none else
    gV w h px q d (k + 1) (lvRest (nextV L.tail).toNat L.tail.tail) (putG w ((k : Int) % (w / 4) * 4) ((k : Int) / (w / 4) * 4) (outG (blk w h px (k : Int) (dxV L) (dyV L)) (turnV (lvList L.tail.tail (nextV L.tail).toNat)) q 16) 16 out)
structure BadNo (L : List Int) : Prop where
  two : twoS L false = false
  dx : -10 ≤ dxV L ∧ dxV L ≤ 10
  dy : -10 ≤ dyV L ∧ dyV L ≤ 10
  many : (nextV L.tail).toNat ≤ 16 ∧ 0 ≤ nextV L.tail
theorem dxV_eq {L : List Int} (h : BytesL L) : dxV L = nextV L % 8 - 2 := by
  have h1:=nextV_bd h
  unfold dxV
  rw [Int.tmod_eq_emod_of_nonneg h1.1,w64 (by omega) (by omega)]
theorem dyV_eq {L : List Int} (h : BytesL L) : dyV L = nextV L / 8 - 2 := by
  have h1:=nextV_bd h
  unfold dyV
  rw [Int.tdiv_eq_ediv_of_nonneg h1.1,w64 (x:=nextV L / 8) (by omega) (by omega),w64 (by omega) (by omega)]
theorem badNo_of {L : List Int} (h : BytesL L) (hb : badB L false = false) : BadNo L := by
  unfold badB at hb
  simp only [Bool.or_eq_false_iff,decide_eq_false_iff_not] at hb
  have h1:=nextV_bd h
  have h2:=nextV_bd h.tail
  have h3:=hb.1.1.2
  have h4:=hb.1.2
  have h5:=hb.2
  rw [dxV_eq h] at h3
  rw [dyV_eq h] at h4
  unfold manyV at h5
  refine⟨hb.1.1.1,by rw [dxV_eq h];omega,by rw [dyV_eq h];omega,⟨by omega,h2.1⟩⟩
/-! #### where the pixels go -/
theorem put_ok {w h : Int} {px : List Int} (hp : PicO w h px) {k : Nat} (hk : (k : Int) < w / 4 * (h / 4)) {n : Nat} (hn : (n : Int) = w * h) : idxOk w ((k : Int) % (w / 4) * 4) ((k : Int) / (w / 4) * 4) n := by
  have g1:=hp.w1;have g2:=hp.w2;have g3:=hp.h1;have g4:=hp.h2;have g5:=hp.wm;have g6:=hp.hm
  obtain⟨a,ha⟩:∃ a,w / 4=a:=⟨_,rfl⟩
  obtain⟨c,hc⟩:∃ c,h / 4=c:=⟨_,rfl⟩
  have ew:w=a*4:=by omega
  have eh:h=c*4:=by omega
  rw [ha,hc] at hk
  rw [ha]
  have ap:0 < a:=by omega
  have e3:=Int.emod_nonneg (k:Int) (show a≠0 by omega)
  have e4:=Int.emod_lt_of_pos (k:Int) ap
  have e5:0≤(k:Int) / a:=Int.ediv_nonneg (by omega) (by omega)
  have e6:(k:Int) / a < c:=Int.ediv_lt_of_lt_mul ap (by rw [Int.mul_comm];exact hk)
  generalize (k:Int) % a=x at *
  generalize (k:Int) / a=y at *
  refine⟨⟨by omega,g2⟩,⟨by omega,by omega⟩,⟨by omega,by omega⟩,fun i hi=>?_⟩
  unfold idxP
  rw [hn]
  have i1:0≤(i:Int) / 4∧(i:Int) / 4≤3:=by omega
  have i2:0≤(i:Int) % 4∧(i:Int) % 4≤3:=by omega
  generalize (i:Int) / 4=r at *
  generalize (i:Int) % 4=s at *
  have m1:0≤(y*4+r)*w:=Int.mul_nonneg (by omega) (by omega)
  have m2:(y*4+r)*w≤(h - 1)*w:=Int.mul_le_mul_of_nonneg_right (by omega) (by omega)
  have m3:(h - 1)*w=w*h - w:=by rw [Int.sub_mul,Int.one_mul,Int.mul_comm]
  constructor <;> omega
theorem impl_turn_eq {xs : List Int} (h : xs.length = 16) : impl_turn.f xs = some (turnV xs) := by
  rw [impl_turn.f,if_pos (by omega)]
  rfl
theorem turnV_len (xs : List Int) : (turnV xs).length = 16 := by rw [turnV, turnG_len]
theorem impl_dec_ev {w h q : Int} {px : List Int} (hp : PicO w h px) : ∀ (d k : Nat) (L out : List Int), (k : Int) + (d : Int) = w / 4 * (h / 4) → (out.length : Int) = w * h → BytesL L → Ev (fun kr => decG kr w h px q d (k : Int) L out) (gV w h px q d k L out)
  | 0, k, L, out, _, _, _ => ev_ret rfl
  | d + 1, k, L, out, hk, ho, hL => by
    have hb:=blocks_bd hp
    simp only [decG,gV]
    by_cases h1:badB L false=true
    · simp only [h1,if_true]
      exact ev_ret rfl
    · have hn:=badNo_of hL (Bool.eq_false_iff.2 h1)
      have h2 : ¬ nextV L.tail < 0:=by have:=hn.many.2;omega
      simp only [h1,h2,if_false]
      by_cases h3:lvShort (nextV L.tail).toNat L.tail.tail (twoS L false)=true
      · simp only [h3,if_true]
        exact ev_ret rfl
      · simp only [h3,if_false]
        have hk64:0≤(k:Int)∧(k:Int)≤64:=by omega
        refine ev_bind (impl_at_ev hp hk64 hn.dx hn.dy) ?_
        refine ev_some (impl_turn_eq (lvList_len' _ _ hn.many.1)) ?_
        refine ev_some (impl_corner_eq hp hk64) ?_
        have hok:=put_ok hp (k:=k) (by omega) (n:=out.length) ho
        refine ev_pos ⟨blkG_len _ _ _ _ _ _ _,turnV_len _,hok⟩ ?_
        have:=impl_dec_ev (q:=q) hp d (k+1) (lvRest (nextV L.tail).toNat L.tail.tail) (putG w ((k:Int) % (w / 4)*4) ((k:Int) / (w / 4)*4) (outG (blk w h px (k:Int) (dxV L) (dyV L)) (turnV (lvList L.tail.tail (nextV L.tail).toNat)) q 16) 16 out) (by omega) (by rw [putG_len];exact ho) (lvRest_bytes hL.tail.tail _)
        exact this
/-! #### the reference's reading -/
def decV (w h : Int) (px b : List Int) (q : Int) : Int × Int × List Int × Bool := if picB w h px = true ∧ (1 ≤ q ∧ q ≤ 64) then decOut w h (gV w h px q (w / 4 * (h / 4)).toNat 0 b (List.replicate (w * h).toNat 0)) else (0, 0, [], false)
theorem impl_Decode_ev (w h q : Int) (px b : List Int) (hb : BytesL b) : Ev (fun k => impl_Decode.f k w h px b q) (decV w h px b q) := by
  unfold decV
  simp only [impl_Decode.f,decF,impl_PictureOk_eq,Option.bind_some]
  refine ev_ite (fun e=>?_) (fun e=>ev_ret (by rw [if_neg e]))
  rw [if_pos e]
  have hp:=picO_of e.1
  have hbd:=blocks_bd hp
  rw [impl_blocks_eq hp]
  simp only [Option.bind_some]
  have g1:=hp.w1;have g2:=hp.w2;have g3:=hp.h1;have g4:=hp.h2
  have hm:=mul_bd (w:=w) (h:=h) (by omega) g2 (by omega) g4
  refine ev_pos ⟨hm,hbd.2.2.2.2.1,hbd.2.2.2.2.2⟩ ?_
  obtain⟨nb,hnb⟩:=Int.eq_ofNat_of_zero_le hbd.2.2.2.2.1
  rw [hnb]
  simp only [Int.toNat_natCast]
  exact ev_bind (impl_dec_ev (q:=q) hp nb 0 b (List.replicate (w*h).toNat 0) (by rw [hnb];omega) (by rw [List.length_replicate];omega) hb) (ev_ret rfl)
theorem spec_max_eq (a b : Int) : spec_l1Max.f a b = some (max a b) := by
  unfold spec_l1Max.f
  split
  · congr 1;omega
  · congr 1;omega
theorem spec_min_eq (a b : Int) : spec_l1Min.f a b = some (min a b) := by
  unfold spec_l1Min.f
  split
  · congr 1;omega
  · congr 1;omega
theorem out_eq (o m : List Int) (q : Int) (i : Nat) : min 255 (max 0 (wrap64 (rd o (i : Int) + wrap64 (q * rd m (i : Int))))) = outV o m q i := by
  unfold outV mn mx
  generalize wrap64 (rd o (i:Int)+wrap64 (q*rd m (i:Int)))=z
  repeat' split
  all_goals omega
theorem outG_at (o m : List Int) (q : Int) (n i : Nat) (h : i < n) (hn : n ≤ 16) : rd (outG o m q n) (i : Int) = outV o m q i := by
  unfold outG rd
  simp only [Int.toNat_natCast,List.getD_eq_getElem?_getD]
  rw [List.getElem?_append_left (by simpa using h)]
  simp [List.getElem?_map,List.getElem?_range h]
theorem spec_idx {w cx cy : Int} (i : Nat) (hi : i < 16) (h1 : 0 ≤ w ∧ w ≤ 16) (h2 : 0 ≤ cx ∧ cx ≤ 100) (h3 : 0 ≤ cy ∧ cy ≤ 100) : wrap64 ((wrap64 ((wrap64 ((wrap64 (cy + (wrap64 (Int.tdiv (i : Int) 4)))) * w)) + cx)) + (Int.tmod (i : Int) 4)) = idxP w cx cy i := by
  rw [Int.tdiv_eq_ediv_of_nonneg (by omega),Int.tmod_eq_emod_of_nonneg (by omega)]
  have hs:=dec_small w cx cy ((i:Int) / 4) (cy+(i:Int) / 4) ((cy+(i:Int) / 4)*w) ((cy+(i:Int) / 4)*w+cx) ((i:Int) % 4) h1 h2 h3 (dec_q i hi) rfl rfl rfl (dec_r i hi)
  rw [hs.1,hs.2.1,hs.2.2.1,hs.2.2.2.1,hs.2.2.2.2]
  rfl
theorem sum_lt {i d n : Nat} (h : i + (d + 1) = n) : i < n := by omega
theorem sum_lt64 {i d : Nat} (h : i + (d + 1) = 16) : 0 ≤ (i : Int) ∧ (i : Int) < 16 := by omega
theorem spec_put_ev {w h q : Int} {px b : List Int} (hp : PicO w h px) (at_ : Int) (k : Nat) (hk : (k : Int) < w / 4 * (h / 4)) (xs o out : List Int) (hx : xs.length = 16) (ho : o.length = 16) (hout : (out.length : Int) = w * h) (V : Int × Int × List Int × Bool)
    (hnext:Ev (fun kr=>spec_Decode.l0 kr b q at_ (w / 4) ((k+1:Nat):Int) w h px w h (putG w ((k:Int) % (w / 4)*4) ((k:Int) / (w / 4)*4) (outG o xs q 16) 16 out)) V) :
    ∀ (d i:Nat),i+d=16→Ev (fun kr=>spec_Decode.l2 kr b q at_ (w / 4) (k:Int) xs o (i:Int) w h px w h (putG w ((k:Int) % (w / 4)*4) ((k:Int) / (w / 4)*4) (outG o xs q 16) i out)) V:=by
  have hbd:=blocks_bd hp
  have hok:=put_ok hp hk (n:=out.length) hout
  intro d
  induction d with
  | zero =>
    intro i hi
    refine ev_succ ?_
    obtain rfl:i=16:=by omega
    have h1 : ¬ ((16:Nat):Int) < 16:=by omega
    have h4:=w64s (n:=k) (by have:=hbd.2.2.2.2.2;omega)
    simp only [spec_Decode.l2,h1,h4,if_false]
    exact hnext
  | succ d ih =>
    intro i hi
    refine ev_succ ?_
    have hi16:i < 16:=sum_lt hi
    have h1:(i:Int) < 16:=(sum_lt64 hi).2
    have h2:0≤(i:Int):=(sum_lt64 hi).1
    have h3:(i:Int) < (o.length:Int):=by rw [ho];exact h1
    have h5:(i:Int) < (xs.length:Int):=by rw [hx];exact h1
    have h4:=w64s (n:=i) (Nat.lt_trans hi16 (by decide))
    have hk64:0≤(k:Int)∧(k:Int)≤64:=⟨Int.natCast_nonneg k,Int.le_trans (Int.le_of_lt hk) (Int.le_trans hbd.2.2.2.2.2 (by decide))⟩
    have hb:=blk_at hp hk64
    have h0:=hb.ne
    have e1:wrap64 ((wrap64 (Int.tdiv (k:Int) (w / 4)))*4)=(k:Int) / (w / 4)*4:=by
      rw [Int.tdiv_eq_ediv_of_nonneg hk64.1,w64 (x:=(k:Int) / (w / 4)) (Int.le_trans (by decide) hb.d0.1) (Int.le_trans hb.d0.2 (by decide)),m4_64 hb.d0]
    have e2:wrap64 ((Int.tmod (k:Int) (w / 4))*4)=(k:Int) % (w / 4)*4:=by
      rw [Int.tmod_eq_emod_of_nonneg hk64.1,m4_64 hb.m0]
    have e3:=spec_idx i hi16 hok.1 hok.2.1 hok.2.2.1
    have h6:=hok.2.2.2 i hi16
    have h7:=h6.1
    have h8:idxP w ((k:Int) % (w / 4)*4) ((k:Int) / (w / 4)*4) i < ((putG w ((k:Int) % (w / 4)*4) ((k:Int) / (w / 4)*4) (outG o xs q 16) i out).length:Int):=by rw [putG_len];exact h6.2
    simp only [spec_Decode.l2,h1,h0,h2,h3,h5,h4,e1,e2,e3,h7,h8,if_true,if_false,spec_max_eq,spec_min_eq,Option.bind_some,out_eq]
    have:=ih (i+1) (by rw [← hi];omega)
    rw [putG,outG_at _ _ _ _ _ hi16 (Nat.le_refl _)] at this
    exact this
theorem at_plus2 (a : Nat) (h : a ≤ 4194304) : wrap64 ((a : Int) + 2) = ((a + 2 : Nat) : Int) := by
  rw [w64 (x:=(a:Int)+2) (by omega) (by omega)]
  omega
theorem byte_wrap {x : Int} (h : 0 ≤ x ∧ x ≤ 255) : wrap64 x = x := w64 (x := x) (by omega) (by omega)
theorem byte_mul {x : Int} (h : 0 ≤ x ∧ x ≤ 255) : wrap64 (x * 256) = x * 256 := w64 (x := x * 256) (by omega) (by omega)
theorem byte_two {x y : Int} (h : 0 ≤ x ∧ x ≤ 255) (g : 0 ≤ y ∧ y ≤ 255) : wrap64 (x * 256 + y) = x * 256 + y := w64 (x := x * 256 + y) (by omega) (by omega)
theorem wrap_255 : wrap64 255 = 255 := w64 (x := 255) (by omega) (by omega)
theorem at_plus1 (a : Nat) (h : a ≤ 1048576) : wrap64 ((a : Int) + 1) = ((a + 1 : Nat) : Int) := w64s (n := a) (by omega)
theorem spec_levels_ev {w h q : Int} {px b : List Int} (hb : BytesL b) (hlen : b.length ≤ 1048576) (k : Int) (dx dy : Int) (out : List Int) (L0 : List Int) (m : Nat) (hm : m ≤ 16) (V : Int × Int × List Int × Bool)
    (hbad:lvShort m L0 false=true→V=(0,0,[],false))
    (hnext:lvShort m L0 false=false → ∀ at_:Nat,at_≤b.length→b.drop at_=lvRest m L0→Ev (fun kr=>(spec_l14Turn.f kr (lvList L0 m)).bind fun t191=>((spec_l14Block.f kr w h px k dx dy).bind fun t194=>(spec_Decode.l2 kr b q (at_:Int) (w / 4) k t191 t194 0 w h px w h out))) V) :
    ∀ (d i:Nat),i+d=m→lvShort i L0 false=false → ∀ at_:Nat,at_≤b.length→b.drop at_=lvRest i L0→Ev (fun kr=>spec_Decode.l1 kr b q (at_:Int) (w / 4) k dx dy (m:Int) (lvList L0 i) (i:Int) w h px w h out) V:=by
  intro d
  induction d with
  | zero =>
    intro i hi hs at_ hat hd
    refine ev_succ ?_
    obtain rfl:i=m:=by omega
    have h1 : ¬ (i:Int) < (i:Int):=by omega
    simp only [spec_Decode.l1,h1,if_false]
    exact hnext hs at_ hat hd
  | succ d ih =>
    intro i hi hs at_ hat hd
    refine ev_succ ?_
    have h1:(i:Int) < (m:Int):=by omega
    have hi0:0≤(i:Int):=by omega
    have hil:(i:Int) < ((lvList L0 i).length:Int):=by rw [lvList_len' _ _ (by omega)];omega
    have hiw:=w64s (n:=i) (by omega)
    have hstep:lvShort (i+1) L0 false=lvS (b.drop at_) false:=by
      show lvS (lvRest i L0) (lvShort i L0 false)=_
      rw [hs,hd]
    have hlist:∀ u,lvU (b.drop at_)=u→0≤u→fillX (lvList L0 i) i u=lvList L0 (i+1):=by
      intro u hu h0
      rw [fillX_eq _ _ _ u hu h0,hd,lvList_set _ _ (by omega)]
    have short:lvS (b.drop at_) false=true→V=(0,0,[],false):=by
      intro h
      refine hbad ?_
      have h2:=lvShort_more L0 false (i+1) (by rw [hstep,h]) d
      rwa [show i+1+d=m by omega] at h2
    by_cases hend:b.length≤at_
    · have h2:(at_:Int) ≥ (b.length:Int):=by omega
      simp only [spec_Decode.l1,h1,h2,if_true]
      have h3:lvS (b.drop at_) false=true:=by
        have h4:(b.drop at_).isEmpty=true:=by rw [drop_empty'];exact decide_eq_true hend
        unfold lvS
        split <;> simp [h4]
      exact ev_ret (by rw [short h3])
    · have hlt_at:at_+1≤1048576:=by omega
      have h2 : ¬ (at_:Int) ≥ (b.length:Int):=by omega
      have h3:0≤(at_:Int):=by omega
      have h4:(at_:Int) < (b.length:Int):=by omega
      have hn:=nextV_at hb (at_:=at_) (by omega)
      have hu:=hn.2
      have he1:(b.drop at_).isEmpty=false:=by rw [drop_empty'];exact decide_eq_false hend
      by_cases h255:rd b (at_:Int)=255
      · have hS:lvS (b.drop at_) false=(decide (b.length≤at_+1)||decide (b.length≤at_+2)):=by
          unfold lvS
          rw [hn.1,if_pos h255,he1,drop_tail,drop_tail,drop_empty',drop_empty']
          simp
        by_cases hlong:at_+3≤b.length
        · have h5 : ¬ (((at_+3:Nat):Int) > (b.length:Int)):=by omega
          have h6:0≤((at_+1:Nat):Int):=by omega
          have h7:((at_+1:Nat):Int) < (b.length:Int):=by omega
          have h8:0≤((at_+1+1:Nat):Int):=by omega
          have h9:((at_+1+1:Nat):Int) < (b.length:Int):=by omega
          have hp1:=nextV_at hb (at_:=at_+1) (by omega)
          have hp2:=nextV_at hb (at_:=at_+1+1) (by omega)
          have hu1:=hp1.2
          have hu2:=hp2.2
          have hU:lvU (b.drop at_)=rd b ((at_+1:Nat):Int)*256+rd b ((at_+1+1:Nat):Int):=by
            unfold lvU
            rw [hn.1,if_pos h255,drop_tail,drop_tail,hp1.1,hp2.1,or_256 hu1 hu2]
          have hrest:b.drop (at_+3)=lvRest (i+1) L0:=by
            show _=lvL (lvRest i L0)
            rw [← hd]
            unfold lvL
            rw [hn.1,if_pos h255,drop_tail,drop_tail,drop_tail]
          have hsh:lvShort (i+1) L0 false=false:=by
            rw [hstep,hS,decide_eq_false (by omega),decide_eq_false (by omega)]
            rfl
          have hf:=hlist _ hU (by omega)
          have:=ih (i+1) (by omega) hsh (at_+3) hlong hrest
          rw [← hf] at this
          have e0:=byte_wrap hu
          have w1:=at_plus1 at_ (Nat.le_of_succ_le hlt_at)
          have w2:wrap64 (((at_+1:Nat):Int)+2)=((at_+3:Nat):Int):=at_plus2 (at_+1) (Nat.le_trans hlt_at (by decide))
          have w3:=at_plus1 (at_+1) hlt_at
          have e1:=byte_wrap hu1
          have e2:=byte_wrap hu2
          have e3:=byte_mul hu1
          have e4:=byte_two hu1 hu2
          simp only [spec_Decode.l1,h1,h2,h3,h4,e0,h255,wrap_255,w1,w2,w3,h5,h6,h7,h8,h9,e1,e2,e3,e4,hi0,hil,hiw,if_true,if_false,Option.bind_some,Int.toNat_natCast]
          unfold fillX at this
          refine ev_ite (fun hc=>?_) (fun hc=>?_)
          · rw [if_pos hc] at this;exact this
          · rw [if_neg hc] at this;exact this
        · have h5:((at_+3:Nat):Int) > (b.length:Int):=by omega
          have hsv:lvS (b.drop at_) false=true:=by
            rw [hS]
            by_cases h6:b.length≤at_+1
            · rw [decide_eq_true h6];rfl
            · rw [decide_eq_true (show b.length≤at_+2 by omega)];simp
          have e0:=byte_wrap hu
          have w1:=at_plus1 at_ (Nat.le_of_succ_le hlt_at)
          have w2:wrap64 (((at_+1:Nat):Int)+2)=((at_+3:Nat):Int):=at_plus2 (at_+1) (Nat.le_trans hlt_at (by decide))
          simp only [spec_Decode.l1,h1,h2,h3,h4,e0,h255,wrap_255,w1,w2,h5,if_true,if_false]
          exact ev_ret (by rw [short hsv])
      · have hS:lvS (b.drop at_) false=false:=by
          unfold lvS
          rw [hn.1,if_neg h255,he1]
          rfl
        have hU:lvU (b.drop at_)=rd b (at_:Int):=by
          unfold lvU
          rw [hn.1,if_neg h255]
        have hrest:b.drop (at_+1)=lvRest (i+1) L0:=by
          show _=lvL (lvRest i L0)
          rw [← hd]
          unfold lvL
          rw [hn.1,if_neg h255,drop_tail]
        have hf:=hlist _ hU hu.1
        have:=ih (i+1) (by omega) (by rw [hstep,hS]) (at_+1) (by omega) hrest
        rw [← hf] at this
        have e0:=byte_wrap hu
        have w1:=at_plus1 at_ (Nat.le_of_succ_le hlt_at)
        simp only [spec_Decode.l1,h1,h2,h3,h4,e0,h255,w1,hi0,hil,hiw,if_true,if_false,Option.bind_some,Int.toNat_natCast]
        unfold fillX at this
        refine ev_ite (fun hc=>?_) (fun hc=>?_)
        · rw [if_pos hc] at this;exact this
        · rw [if_neg hc] at this;exact this
theorem spec_blocks_dec_ev {w h q : Int} {px b : List Int} (hp : PicO w h px) (hb : BytesL b) (hlen : b.length ≤ 1048576) : ∀ (d k : Nat) (at_ : Nat) (out : List Int), (k : Int) + (d : Int) = w / 4 * (h / 4) → (out.length : Int) = w * h → at_ ≤ b.length →
    Ev (fun kr=>spec_Decode.l0 kr b q (at_:Int) (w / 4) (k:Int) w h px w h out) (decOut w h (gV w h px q d k (b.drop at_) out)):=by
  have hbd:=blocks_bd hp
  intro d
  induction d with
  | zero =>
    intro k at_ out hk ho hat
    refine ev_succ ?_
    have h1 : ¬ (k:Int) < w / 4*(h / 4):=by omega
    simp only [spec_Decode.l0,spec_blocks_eq hp,Option.bind_some,h1,if_false,gV,decOut]
    rw [drop_empty hat]
    by_cases he:at_=b.length
    · have h2:(at_:Int)=(b.length:Int):=by omega
      simp only [h2,he,decide_true,if_true]
      exact ev_ret rfl
    · have h2 : ¬ (at_:Int)=(b.length:Int):=by omega
      simp only [h2,he,decide_false,if_false,Bool.false_eq_true]
      exact ev_ret rfl
  | succ d ih =>
    intro k at_ out hk ho hat
    refine ev_succ ?_
    have hL:BytesL (b.drop at_):=fun x hx=>hb x (List.mem_of_mem_drop hx)
    have h1:(k:Int) < w / 4*(h / 4):=by omega
    have htwo:twoS (b.drop at_) false=decide (b.length≤at_+1):=by
      unfold twoS
      rw [drop_tail,drop_empty',drop_empty',Bool.false_or]
      by_cases h6:b.length≤at_
      · rw [decide_eq_true h6,decide_eq_true (show b.length≤at_+1 by omega)];rfl
      · rw [decide_eq_false h6];rfl
    rw [gV]
    by_cases hend:b.length≤at_+1
    · have h2:((at_+2:Nat):Int) > (b.length:Int):=by omega
      have h3:badB (b.drop at_) false=true:=by
        unfold badB
        rw [htwo,decide_eq_true hend]
        rfl
      have w2:wrap64 ((at_:Int)+2)=((at_+2:Nat):Int):=at_plus2 at_ (Nat.le_trans hat (Nat.le_trans hlen (by decide)))
      simp only [spec_Decode.l0,spec_blocks_eq hp,Option.bind_some,h1,w2,h2,h3,if_true,decOut]
      exact ev_ret rfl
    · have h2 : ¬ ((at_+2:Nat):Int) > (b.length:Int):=by omega
      have h3:0≤(at_:Int):=by omega
      have h4:(at_:Int) < (b.length:Int):=by omega
      have h5:0≤((at_+1:Nat):Int):=by omega
      have h6:((at_+1:Nat):Int) < (b.length:Int):=by omega
      have hn:=nextV_at hb (at_:=at_) (by omega)
      have hn1:=nextV_at hb (at_:=at_+1) (by omega)
      have hP:=hn.2
      have hM:=hn1.2
      have tfalse:twoS (b.drop at_) false=false:=by rw [htwo];exact decide_eq_false hend
      have eM:nextV (b.drop at_).tail=rd b ((at_+1:Nat):Int):=by rw [drop_tail];exact hn1.1
      have ex:wrap64 ((wrap64 (Int.tmod (rd b (at_:Int)) 8)) - 2)=dxV (b.drop at_):=by
        rw [dxV_eq hL,hn.1,Int.tmod_eq_emod_of_nonneg hP.1,w64 (x:=rd b (at_:Int) % 8) (by omega) (by omega),w64 (x:=rd b (at_:Int) % 8 - 2) (by omega) (by omega)]
      have ey:(Int.tdiv (rd b (at_:Int)) 8) % 256 - 2=dyV (b.drop at_):=by
        rw [dyV_eq hL,hn.1,Int.tdiv_eq_ediv_of_nonneg hP.1]
        omega
      have em:=byte_wrap hM
      have w2:wrap64 ((at_:Int)+2)=((at_+2:Nat):Int):=at_plus2 at_ (Nat.le_trans hat (Nat.le_trans hlen (by decide)))
      have w1:=at_plus1 at_ (Nat.le_trans hat hlen)
      simp only [spec_Decode.l0,spec_blocks_eq hp,Option.bind_some,h1,w2,h2,h3,h4,w1,h5,h6,ex,ey,em,if_true,if_false]
      clear w1 w2 ex ey em
      have bad:∀ at' mm,badB (b.drop at_) false=true→Ev (fun kr=>spec_Decode.j2 kr b q at' (w / 4) (k:Int) (dxV (b.drop at_)) (dyV (b.drop at_)) mm true w h px w h out) (decOut w h (if badB (b.drop at_) false=true then none else if lvShort (nextV (b.drop at_).tail).toNat (b.drop at_).tail.tail (twoS (b.drop at_) false)=true then none else gV w h px q d (k+1) (lvRest (nextV (b.drop at_).tail).toNat (b.drop at_).tail.tail) (putG w ((k:Int) % (w / 4)*4) ((k:Int) / (w / 4)*4) (outG (blk w h px (k:Int) (dxV (b.drop at_)) (dyV (b.drop at_))) (turnV (lvList (b.drop at_).tail.tail (nextV (b.drop at_).tail).toNat)) q 16) 16 out))):=by
        intro at' mm hbad
        refine ev_succ ?_
        simp only [spec_Decode.j2,hbad,if_true,decOut]
        exact ev_ret rfl
      refine ev_ite (fun c1=>bad _ _ ?_) (fun c1=>ev_ite (fun c2=>bad _ _ ?_) (fun c2=>?_))
      · unfold badB;rw [decide_eq_true (show 2 < dxV (b.drop at_) from c1)];simp
      · unfold badB;rw [decide_eq_true (show 2 < dyV (b.drop at_) from c2)];simp
      · by_cases c3:rd b ((at_+1:Nat):Int) > 16
        · have h7:badB (b.drop at_) false=true:=by
            unfold badB manyV
            rw [eM,decide_eq_true (show 16 < rd b ((at_+1:Nat):Int) from c3)]
            simp
          have:=bad ((at_+2:Nat):Int) (rd b ((at_+1:Nat):Int)) h7
          simp only [decide_eq_true c3]
          exact this
        · have h7 : ¬ badB (b.drop at_) false=true:=by
            unfold badB manyV
            rw [tfalse,eM,decide_eq_false (show ¬ 2 < dxV (b.drop at_) from c1),decide_eq_false (show ¬ 2 < dyV (b.drop at_) from c2),decide_eq_false (show ¬ 16 < rd b ((at_+1:Nat):Int) from c3)]
            simp
          have hno:=badNo_of hL (Bool.eq_false_iff.2 h7)
          obtain⟨m,hm⟩:=Int.eq_ofNat_of_zero_le hM.1
          have hm16:m≤16:=by omega
          have eM2:(nextV (b.drop at_).tail).toNat=m:=by rw [eM,hm,Int.toNat_natCast]
          have eT:(b.drop at_).tail.tail=b.drop (at_+2):=by rw [drop_tail,drop_tail]
          rw [if_neg h7,eM2,eT,tfalse]
          simp only [decide_eq_false c3,hm]
          refine ev_succ ?_
          simp only [spec_Decode.j2,Bool.false_eq_true,if_false]
          refine ev_neg (by rw [decide_eq_true_eq];omega) ?_
          refine ev_pos (by decide) ?_
          have:=spec_levels_ev (w:=w) (h:=h) (q:=q) (px:=px) hb hlen (k:Int) (dxV (b.drop at_)) (dyV (b.drop at_)) out (b.drop (at_+2)) m hm16
            (decOut w h (if lvShort m (b.drop (at_+2)) false=true then none else gV w h px q d (k+1) (lvRest m (b.drop (at_+2))) (putG w ((k:Int) % (w / 4)*4) ((k:Int) / (w / 4)*4) (outG (blk w h px (k:Int) (dxV (b.drop at_)) (dyV (b.drop at_))) (turnV (lvList (b.drop (at_+2)) m)) q 16) 16 out)))
            (fun hs=>by rw [if_pos hs];rfl)
            (fun hs at' hat' hd'=>by
              rw [hs,if_neg (by simp)]
              refine ev_bind (spec_l14Turn_ev _ (lvList_len' _ _ hm16)) ?_
              refine ev_bind (spec_block_ev hp (by omega) hno.dx hno.dy) ?_
              refine spec_put_ev hp (at':Int) k h1 _ _ out (turnV_len _) (blkG_len _ _ _ _ _ _ _) ho _ ?_ 16 0 (by omega)
              rw [← hd']
              exact ih (k+1) at' _ (by omega) (by rw [putG_len];exact ho) hat')
            m 0 (by omega) rfl (at_+2) (by omega) rfl
          rw [lvList_0] at this
          exact this
theorem spec_Decode_ev (w h q : Int) (px b : List Int) (hb : BytesL b) (hlen : b.length ≤ 1048576) : Ev (fun k => spec_Decode.f k w h px b q) (decV w h px b q) := by
  unfold decV
  simp only [spec_Decode.f]
  have no : ¬ (picB w h px=true∧(1≤q∧q≤64))→Ev (fun k=>spec_Decode.j0 k b q true w h px) (if picB w h px=true∧(1≤q∧q≤64) then decOut w h (gV w h px q (w / 4*(h / 4)).toNat 0 b (List.replicate (w*h).toNat 0)) else (0,0,[],false)):=fun hn=>by
    refine ev_succ ?_
    simp only [spec_Decode.j0,if_true]
    exact ev_ret (by rw [if_neg hn])
  refine ev_bind (spec_PictureOk_ev w h px) (ev_ifb (fun e=>?_) (fun e=>no (fun hh=>by rw [e] at hh;exact absurd hh.1 (by simp))))
  simp only [spec_in_eq,Option.bind_some]
  by_cases hq:1≤q∧q≤64
  · have hp:=picO_of e
    have hbd:=blocks_bd hp
    have g1:=hp.w1;have g2:=hp.w2;have g3:=hp.h1;have g4:=hp.h2
    have hm:=mul_bd (w:=w) (h:=h) (by omega) g2 (by omega) g4
    have hwh:wrap64 (w*h)=w*h:=w64 (by omega) (by omega)
    have hw4:wrap64 (Int.tdiv w 4)=w / 4:=by rw [Int.tdiv_eq_ediv_of_nonneg (by omega),w64 (by omega) (by omega)]
    have h2:(w*h).toNat≤35184372088832:=by omega
    rw [if_pos ⟨e,hq⟩,decide_eq_true hq]
    refine ev_succ ?_
    have h0:=hm.1
    simp only [spec_Decode.j0,Bool.not_true,Bool.false_eq_true,if_false,hwh,h0,h2,hw4,if_true]
    obtain⟨nb,hnb⟩:=Int.eq_ofNat_of_zero_le hbd.2.2.2.2.1
    have:=spec_blocks_dec_ev (q:=q) hp hb hlen nb 0 0 (List.replicate (w*h).toNat 0) (by rw [hnb];omega) (by rw [List.length_replicate];omega) (by omega)
    rw [List.drop_zero] at this
    rw [hnb,Int.toNat_natCast]
    exact this
  · rw [decide_eq_false hq]
    exact no (fun hh=>hq hh.2)

/-! ### longer bytes are read the same; the pixels are bytes -/
theorem ne_app {L R : List Int} (h : L.isEmpty = false) : nextV (L ++ R) = nextV L ∧ (L ++ R).tail = L.tail ++ R ∧ (L ++ R).isEmpty = false := by
  cases L with
  | nil => cases h
  | cons a L => exact ⟨rfl, rfl, rfl⟩
theorem lv_app {L R : List Int} (h : lvS L false = false) : lvL (L ++ R) = lvL L ++ R ∧ lvS (L ++ R) false = false ∧ lvV (L ++ R) = lvV L := by
  unfold lvS at h
  by_cases h1:nextV L=255
  · rw [if_pos h1] at h
    simp only [Bool.false_or,Bool.or_eq_false_iff] at h
    obtain⟨⟨a,b⟩,c⟩:=h
    obtain⟨a1,a2,a3⟩:=ne_app (R:=R) a
    obtain⟨b1,b2,b3⟩:=ne_app (R:=R) b
    obtain⟨c1,c2,c3⟩:=ne_app (R:=R) c
    refine⟨?_,?_,?_⟩
    · unfold lvL
      rw [a1,if_pos h1,if_pos h1,a2,b2,c2]
    · unfold lvS
      rw [a1,if_pos h1,a2,b2,a3,b3,c3]
      rfl
    · have e:lvU (L ++ R)=lvU L:=by
        unfold lvU
        rw [a1,a2,b1,b2,c1]
      unfold lvV
      rw [e]
  · rw [if_neg h1] at h
    simp only [Bool.false_or] at h
    obtain⟨a1,a2,a3⟩:=ne_app (R:=R) h
    refine⟨?_,?_,?_⟩
    · unfold lvL
      rw [a1,if_neg h1,if_neg h1,a2]
    · unfold lvS
      rw [a1,if_neg h1,a3]
      rfl
    · have e:lvU (L ++ R)=lvU L:=by
        unfold lvU
        rw [a1,if_neg h1,if_neg h1]
      unfold lvV
      rw [e]
theorem short_le {L : List Int} {n : Nat} (h : lvShort n L false = false) {j : Nat} (hj : j ≤ n) : lvShort j L false = false := by
  cases e:lvShort j L false with
  | false => rfl
  | true =>
    have h1:=lvShort_more L false j e (n - j)
    rw [show j+(n - j)=n by omega,h] at h1
    cases h1
theorem short_at {L : List Int} {n : Nat} (h : lvShort n L false = false) {j : Nat} (hj : j < n) : lvS (lvRest j L) false = false := by
  have h1:=short_le h (show j+1≤n from hj)
  have h0:=short_le h (show j≤n by omega)
  unfold lvShort at h1
  rw [h0] at h1
  exact h1
theorem rest_app {L R : List Int} : ∀ n, lvShort n L false = false → lvRest n (L ++ R) = lvRest n L ++ R ∧ lvShort n (L ++ R) false = false
  | 0, _ => ⟨rfl, rfl⟩
  | n + 1, h => by
    obtain⟨i1,i2⟩:=rest_app (R:=R) n (short_le h (by omega))
    obtain⟨j1,j2,_⟩:=lv_app (R:=R) (short_at h (show n < n+1 by omega))
    refine⟨?_,?_⟩
    · show lvL (lvRest n (L ++ R))=lvL (lvRest n L) ++ R
      rw [i1,j1]
    · show lvS (lvRest n (L ++ R)) (lvShort n (L ++ R) false)=false
      rw [i2,i1,j2]
theorem list_app {L R : List Int} {n : Nat} (h : lvShort n L false = false) : lvList (L ++ R) n = lvList L n := by
  unfold lvList
  refine congrArg (· ++ _) (List.map_congr_left fun j hj=>?_)
  have hj:=List.mem_range.1 hj
  show lvV (lvRest j (L ++ R))=lvV (lvRest j L)
  rw [(rest_app j (short_le h (by omega))).1]
  exact(lv_app (short_at h hj)).2.2
theorem gV_app (w h : Int) (px : List Int) (q : Int) (R : List Int) : ∀ d k L out L' out', gV w h px q d k L out = some (L', out') → gV w h px q d k (L ++ R) out = some (L' ++ R, out')
  | 0, k, L, out, L', out', e => by
    simp only [gV,Option.some.injEq,Prod.mk.injEq] at e ⊢
    obtain⟨rfl,rfl⟩:=e
    exact⟨rfl,rfl⟩
  | d + 1, k, L, out, L', out', e => by
    unfold gV at e
    split at e
    · cases e
    · split at e
      · cases e
      · rename_i hb hs
        have ht:twoS L false=false:=by
          cases e2:twoS L false with
          | false => rfl
          | true => exact absurd (by unfold badB; rw [e2]; rfl) hb
        have ht2:=ht
        unfold twoS at ht2
        simp only [Bool.false_or,Bool.or_eq_false_iff] at ht2
        obtain⟨a1,a2,a3⟩:=ne_app (R:=R) ht2.1
        obtain⟨b1,b2,b3⟩:=ne_app (R:=R) ht2.2
        have tA:twoS (L ++ R) false=false:=by
          unfold twoS
          rw [a2,a3,b3]
          rfl
        have dxA:dxV (L ++ R)=dxV L:=by unfold dxV;rw [a1]
        have dyA:dyV (L ++ R)=dyV L:=by unfold dyV;rw [a1]
        have mA:manyV (L ++ R)=manyV L:=by unfold manyV;rw [a2,b1]
        have bA:badB (L ++ R) false=badB L false:=by
          unfold badB
          rw [tA,ht,dxA,dyA,mA]
        rw [ht] at hs
        have hs2:lvShort (nextV L.tail).toNat L.tail.tail false=false:=by
          cases e3:lvShort (nextV L.tail).toNat L.tail.tail false with
          | false => rfl
          | true => exact absurd e3 hs
        obtain⟨r1,r2⟩:=rest_app (R:=R) _ hs2
        unfold gV
        rw [bA,if_neg hb,tA,a2,b1,b2,if_neg (by rw [r2];exact Bool.false_ne_true),r1,dxA,dyA,list_app hs2]
        exact gV_app w h px q R d (k+1) _ _ L' out' e
theorem mnmx_bd (x : Int) : 0 ≤ mn (mx x 0) 255 ∧ mn (mx x 0) 255 ≤ 255 := by
  unfold mn mx
  split <;> split <;> omega
theorem putG_bytes {w x y : Int} {xs : List Int} (hx : ∀ i : Nat, i < 16 → 0 ≤ rd xs (i : Int) ∧ rd xs (i : Int) ≤ 255) {o : List Int} (ho : BytesL o) : ∀ n, n ≤ 16 → BytesL (putG w x y xs n o)
  | 0, _ => ho
  | n + 1, hn => fun v hv => by
    rcases List.mem_or_eq_of_mem_set hv with hv|rfl
    · exact putG_bytes hx ho n (by omega) v hv
    · exact hx n (by omega)
theorem gV_bytes (w h : Int) (px : List Int) (q : Int) : ∀ d k L out L' out', BytesL out → gV w h px q d k L out = some (L', out') → BytesL out' ∧ out'.length = out.length
  | 0, k, L, out, L', out', ho, e => by
    simp only [gV,Option.some.injEq,Prod.mk.injEq] at e
    rw [← e.2]
    exact⟨ho,rfl⟩
  | d + 1, k, L, out, L', out', ho, e => by
    unfold gV at e
    split at e
    · cases e
    · split at e
      · cases e
      · obtain⟨h1,h2⟩:=gV_bytes w h px q d (k+1) _ _ L' out' (putG_bytes (fun i hi=>by rw [outG_at _ _ q 16 i hi (by omega)];exact mnmx_bd _) ho 16 (by omega)) e
        exact⟨h1,by rw [h2,putG_len]⟩
theorem all_bytes {l : List Int} (h : BytesL l) : l.all byB = true := List.all_eq_true.2 fun x hx => by
  unfold byB
  exact decide_eq_true (h x hx)
theorem bytes_app {a b : List Int} (ha : BytesL a) (hb : BytesL b) : BytesL (a ++ b) := fun x hx => (List.mem_append.1 hx).elim (ha x) (hb x)
theorem lbU_by (u : Int) : BytesL (lbU u) := by
  intro x hx
  unfold lbU at hx
  split at hx
  · rw [List.mem_singleton.1 hx];omega
  · simp only [List.mem_cons,List.mem_nil_iff,or_false] at hx
    rcases hx with rfl|rfl|rfl <;> omega
theorem encG_by (w h : Int) (old p : List Int) (q : Int) : ∀ n, BytesL (encG w h old p q n)
  | 0 => fun x hx => by simp [encG] at hx
  | n + 1 => by
    rw [encG_succ]
    refine bytes_app (encG_by w h old p q n) ?_
    unfold encB tellB
    refine bytes_app (fun x hx=>?_) (fun x hx=>?_)
    · simp only [List.mem_cons,List.mem_nil_iff,or_false] at hx
      rcases hx with rfl|rfl
      · unfold wayB;omega
      · omega
    · unfold lbsG at hx
      obtain⟨j,_,hj⟩:=List.mem_flatMap.1 hx
      exact lbU_by _ x hj

theorem sameInts_refl (xs : List Int) (h : xs.length ≤ 1048576) : Ev (fun k => laws_sameInts.f k xs xs) true := by
  have key:∀ d i,i+d=xs.length→Ev (fun k=>laws_sameInts.l0 k xs xs (i:Int)) true:=by
    intro d
    induction d with
    | zero =>
      intro i hi
      refine ev_succ ?_
      have h1 : ¬ (i:Int) < (xs.length:Int):=by omega
      simp only [laws_sameInts.l0,h1,if_false]
      exact ev_ret rfl
    | succ d ih =>
      intro i hi
      refine ev_succ ?_
      have h1:(i:Int) < (xs.length:Int):=by omega
      have h2:(0:Int)≤(i:Int):=by omega
      have h4:=w64s (n:=i) (by omega)
      simp only [laws_sameInts.l0,h1,h2,h4,if_true]
      exact ih (i+1) (by omega)
  unfold laws_sameInts.f
  exact ev_pos rfl (key xs.length 0 (by omega))
theorem ev_at {α : Type} {g : Nat → Option α} {r : α} (h : Ev g r) : ∃ n, ∀ k, n ≤ k → g k = some r := h
theorem enc_tot : EncTot := by
  intro a c xs a2 c2 ys q hx hy
  obtain⟨n,e⟩:=ev_at (spec_Encode_ev a c xs a2 c2 ys q)
  by_cases hT:twoB a c xs a2 c2 ys=true∧1≤q∧q≤64
  case neg=>
    have hV:encV a c xs a2 c2 ys q=([],false):=by unfold encV;rw [if_neg hT]
    rw [hV] at e
    exact⟨n,[],false,e n (Nat.le_refl _),Nat.zero_le _,fun x hx=>nomatch hx⟩
  have hV:encV a c xs a2 c2 ys q=(encG a2 c2 xs ys q (a2 / 4*(c2 / 4)).toNat,true):=by unfold encV;rw [if_pos hT]
  rw [hV] at e
  obtain⟨_,_,_,hp⟩:=twoB_of hT.1
  have hbd:=blocks_bd hp
  have hl:=encG_len a2 c2 xs ys q (a2 / 4*(c2 / 4)).toNat
  exact⟨n,_,true,e n (Nat.le_refl _),by omega,encG_by _ _ _ _ _ _⟩
theorem fine_all : FineAllD := by
  intro a c xs bs q hx hb hby
  have hB:BytesL bs:=hby
  have hB2:BytesL (bs ++ [0]):=bytes_app hB (fun x hx=>by rw [List.mem_singleton.1 hx];omega)
  obtain⟨n1,e1⟩:=ev_at (impl_Decode_ev a c q xs bs hB)
  obtain⟨n2,e2⟩:=ev_at (spec_Decode_ev a c q xs bs hB (by omega))
  obtain⟨n3,e3⟩:=ev_at (impl_Decode_ev a c q xs (bs ++ [0]) hB2)
  have hsame:∀ ps:List Int,ps.length≤1048576 → ∃ n,∀ k,n≤k→laws_sameInts.f k ps ps=some true:=fun ps h=>ev_at (sameInts_refl ps h)
  have no:∀ V:Int × Int × List Int × Bool,decV a c xs bs q=(0,0,[],false)→FineD a c xs bs q:=by
    intro _ hV
    rw [hV] at e1 e2
    obtain⟨n4,e4⟩:=hsame [] (Nat.zero_le _)
    exact⟨n1+n2+n4,0,0,[],false,e1 _ (by omega),e2 _ (by omega),e4 _ (by omega),fun _=>⟨rfl,rfl⟩,(fun h=>nomatch h)⟩
  by_cases hp:picB a c xs=true∧(1≤q∧q≤64)
  case neg=>exact no (0,0,[],false) (by unfold decV;rw [if_neg hp])
  obtain⟨r,hr⟩:∃ r,gV a c xs q (a / 4*(c / 4)).toNat 0 bs (List.replicate (a*c).toNat 0)=r:=⟨_,rfl⟩
  have hV:decV a c xs bs q=decOut a c r:=by unfold decV;rw [if_pos hp,hr]
  cases r with
  | none => exact no (0, 0, [], false) hV
  | some r =>
    obtain⟨L',out⟩:=r
    cases L' with
    | cons y L' => exact no (0, 0, [], false) hV
    | nil =>
      have hV1:decV a c xs bs q=(a,c,out,true):=hV
      have hV2:decV a c xs (bs ++ [0]) q=(0,0,[],false):=by
        unfold decV
        rw [if_pos hp,gV_app a c xs q [0] _ _ _ _ _ _ hr]
        rfl
      rw [hV1] at e1 e2
      rw [hV2] at e3
      have hpo:=picO_of hp.1
      have g1:=hpo.w1;have g2:=hpo.w2;have g3:=hpo.h1;have g4:=hpo.h2;have g5:=hpo.wm;have g6:=hpo.hm
      have hm:=mul_bd (w:=a) (h:=c) (by omega) g2 (by omega) g4
      obtain⟨o1,o2⟩:=gV_bytes a c xs q _ _ _ _ _ _ (fun x hx=>by rw [(List.mem_replicate.1 hx).2];omega) hr
      rw [List.length_replicate] at o2
      obtain⟨n4,e4⟩:=hsame out (by omega)
      obtain⟨n5,e5⟩:=ev_at (spec_PictureOk_ev a c out)
      have hpic:picB a c out=true:=by
        unfold picB
        rw [Bool.and_eq_true]
        refine⟨decide_eq_true ⟨⟨g1,g2,g5⟩,⟨g3,g4,g6⟩,by omega⟩,all_bytes o1⟩
      rw [hpic] at e5
      exact⟨n1+n2+n3+n4+n5,a,c,out,true,e1 _ (by omega),e2 _ (by omega),e4 _ (by omega),(fun h=>nomatch h),fun _=>⟨rfl,rfl,e5 _ (by omega),0,0,[],e3 _ (by omega)⟩⟩
open Classical in
theorem FnDecoded : ∀ (l0 : List Int), (l0.length ≤ maxLen ∧ ∀ y1 ∈ l0, (Lit.int .u8 y1).wf = true) → laws_FnDecoded.f l0 = some true := by
  intro l0 _
  unfold laws_FnDecoded.f
  split
  · rfl
  · exact if_pos ⟨enc_tot,fine_all⟩
end Go.Proofs.Ytbdnpfjjaokdbaa.Pure
