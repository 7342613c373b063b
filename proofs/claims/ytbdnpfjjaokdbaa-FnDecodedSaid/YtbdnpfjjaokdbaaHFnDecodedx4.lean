-- Laid by myprint.py, a program of this repo, out of the kit's printer and this repo's own texts (wip/hand).
import Derived.Test.YtbdnpfjjaokdbaaHFnDecodedx0
import Derived.Test.YtbdnpfjjaokdbaaHFnDecodedx1
import Derived.Test.YtbdnpfjjaokdbaaHFnDecodedx2
import Derived.Test.YtbdnpfjjaokdbaaHFnDecodedx3
namespace Go.Proofs.Ytbdnpfjjaokdbaa.HFnDecoded
open Go.RowKit Go.Proofs.YtbdnpfjjaokdbaaW.PrintWords Go.Proofs.YtbdnpfjjaokdbaaW.PrintLast Go.Proofs.YtbdnpfjjaokdbaaW.PrintMore
attribute [local go_sem] max2_int min2_int max_two min_two max_three min_three max_four min_four   -- for this text's walks alone
set_option linter.unusedVariables false
set_option linter.unusedSimpArgs false
theorem Ea : type_of% @Aside0.mk := @Aside0.mk
theorem Eb : type_of% @blk_drew := @blk_drew
theorem Ec : type_of% @blk_alloc := @blk_alloc
theorem Ed : type_of% @blk_drewN := @blk_drewN
theorem Ee : type_of% @below_set := @below_set
theorem Ef : type_of% @Kd.R_drew := @Kd.R_drew
theorem Eg : type_of% @pw_below_drewN := @pw_below_drewN
theorem Eh : type_of% @blk_cell := @blk_cell
theorem Ei : type_of% @below_drew1 := @below_drew1
theorem Ej : type_of% @below_alloc := @below_alloc
theorem Ek : type_of% @blk_frozen := @blk_frozen
theorem El : type_of% @Kd.R_alloc := @Kd.R_alloc
theorem Em : type_of% @Kd.R_drewN := @Kd.R_drewN
theorem En : type_of% @any_of := @any_of
theorem Eo : type_of% @blk_below := @blk_below
theorem Ep : type_of% @Kd.R_mono := @Kd.R_mono

/-! ### spec_Decode: function 34 -/
mutual
def spec_Decode.j0 : Nat → List Int → Int → Bool → Int → Int → List Int → Option (Int × Int × List Int × Bool)
 | 0, _, _, _, _, _, _ => none
 | k + 1, x1, x2, x27, x154000, x154001, x154002 => if x27 = true then (some (0, 0, ([] : List Int), false)) else (if 0 ≤ (wrap64 (x154000 * x154001)) then (if (wrap64 (x154000 * x154001) : Int).toNat ≤ 35184372088832 then (spec_Decode.l0 k x1 x2 0 (wrap64 (Int.tdiv x154000 4)) 0 x154000 x154001 x154002 x154000 x154001 (List.replicate (wrap64 (x154000 * x154001) : Int).toNat 0)) else (none)) else (none))
def spec_Decode.l0 : Nat → List Int → Int → Int → Int → Int → Int → Int → List Int → Int → Int → List Int → Option (Int × Int × List Int × Bool)
 | 0, _, _, _, _, _, _, _, _, _, _, _ => none
 | k + 1, x1, x2, x9, x10, x11, x154000, x154001, x154002, x161000, x161001, x161002 => (spec_l14Blocks.f x154000 x154001 x154002).bind fun vh => (if x11 < vh then (if (wrap64 (x9 + 2)) > (x1.length : Int) then (some (0, 0, ([] : List Int), false)) else (if 0 ≤ x9 then (if x9 < (x1.length : Int) then (if 0 ≤ (wrap64 (x9 + 1)) then (if (wrap64 (x9 + 1)) < (x1.length : Int) then (if (wrap64 ((wrap64 (Int.tmod (rd x1 x9) 8)) - 2)) > 2 then (spec_Decode.j2 k x1 x2 (wrap64 (x9 + 2)) x10 x11 (wrap64 ((wrap64 (Int.tmod (rd x1 x9) 8)) - 2)) (((Int.tdiv (rd x1 x9) 8) % 256) - 2) (wrap64 (rd x1 (wrap64 (x9 + 1)))) true x154000 x154001 x154002 x161000 x161001 x161002) else (if (((Int.tdiv (rd x1 x9) 8) % 256) - 2) > 2 then (spec_Decode.j2 k x1 x2 (wrap64 (x9 + 2)) x10 x11 (wrap64 ((wrap64 (Int.tmod (rd x1 x9) 8)) - 2)) (((Int.tdiv (rd x1 x9) 8) % 256) - 2) (wrap64 (rd x1 (wrap64 (x9 + 1)))) true x154000 x154001 x154002 x161000 x161001 x161002) else (spec_Decode.j2 k x1 x2 (wrap64 (x9 + 2)) x10 x11 (wrap64 ((wrap64 (Int.tmod (rd x1 x9) 8)) - 2)) (((Int.tdiv (rd x1 x9) 8) % 256) - 2) (wrap64 (rd x1 (wrap64 (x9 + 1)))) (decide ((wrap64 (rd x1 (wrap64 (x9 + 1)))) > 16)) x154000 x154001 x154002 x161000 x161001 x161002))) else (none)) else (none)) else (none)) else (none))) else (if x9 = (x1.length : Int) then (some (x161000, x161001, x161002, true)) else (some (0, 0, ([] : List Int), false))))
def spec_Decode.j2 : Nat → List Int → Int → Int → Int → Int → Int → Int → Int → Bool → Int → Int → List Int → Int → Int → List Int → Option (Int × Int × List Int × Bool)
 | 0, _, _, _, _, _, _, _, _, _, _, _, _, _, _, _ => none
 | k + 1, x1, x2, x9, x10, x11, x12, x13, x14, x86, x154000, x154001, x154002, x161000, x161001, x161002 => if x86 = true then (some (0, 0, ([] : List Int), false)) else (if 16 ≤ 35184372088832 then (spec_Decode.l1 k x1 x2 x9 x10 x11 x12 x13 x14 (List.replicate 16 0) 0 x154000 x154001 x154002 x161000 x161001 x161002) else (none))
def spec_Decode.l1 : Nat → List Int → Int → Int → Int → Int → Int → Int → Int → List Int → Int → Int → Int → List Int → Int → Int → List Int → Option (Int × Int × List Int × Bool)
 | 0, _, _, _, _, _, _, _, _, _, _, _, _, _, _, _, _ => none
 | k + 1, x1, x2, x9, x10, x11, x12, x13, x14, x15, x16, x154000, x154001, x154002, x161000, x161001, x161002 => if x16 < x14 then (if x9 ≥ (x1.length : Int) then (some (0, 0, ([] : List Int), false)) else (if 0 ≤ x9 then (if x9 < (x1.length : Int) then (if (wrap64 (rd x1 x9)) = 255 then (if (wrap64 ((wrap64 (x9 + 1)) + 2)) > (x1.length : Int) then (some (0, 0, ([] : List Int), false)) else (if 0 ≤ (wrap64 (x9 + 1)) then (if (wrap64 (x9 + 1)) < (x1.length : Int) then (if 0 ≤ (wrap64 ((wrap64 (x9 + 1)) + 1)) then (if (wrap64 ((wrap64 (x9 + 1)) + 1)) < (x1.length : Int) then (if 0 ≤ x16 then (if x16 < (x15.length : Int) then ((some (x15.set (x16 : Int).toNat (wrap64 (Int.tdiv (wrap64 ((wrap64 ((wrap64 (rd x1 (wrap64 (x9 + 1)))) * 256)) + (wrap64 (rd x1 (wrap64 ((wrap64 (x9 + 1)) + 1)))))) 2)) : List Int)).bind fun za => (if (Int.tmod (wrap64 ((wrap64 ((wrap64 (rd x1 (wrap64 (x9 + 1)))) * 256)) + (wrap64 (rd x1 (wrap64 ((wrap64 (x9 + 1)) + 1)))))) 2) = 1 then (spec_Decode.l1 k x1 x2 (wrap64 ((wrap64 (x9 + 1)) + 2)) x10 x11 x12 x13 x14 (za.set (x16 : Int).toNat (wrap64 (Int.tdiv (wrap64 (-(wrap64 ((wrap64 ((wrap64 ((wrap64 (rd x1 (wrap64 (x9 + 1)))) * 256)) + (wrap64 (rd x1 (wrap64 ((wrap64 (x9 + 1)) + 1)))))) + 1)))) 2))) (wrap64 (x16 + 1)) x154000 x154001 x154002 x161000 x161001 x161002) else (spec_Decode.l1 k x1 x2 (wrap64 ((wrap64 (x9 + 1)) + 2)) x10 x11 x12 x13 x14 za (wrap64 (x16 + 1)) x154000 x154001 x154002 x161000 x161001 x161002))) else (none)) else (none)) else (none)) else (none)) else (none)) else (none))) else (if 0 ≤ x16 then (if x16 < (x15.length : Int) then ((some (x15.set (x16 : Int).toNat (wrap64 (Int.tdiv (wrap64 (rd x1 x9)) 2)) : List Int)).bind fun y173 => (if (Int.tmod (wrap64 (rd x1 x9)) 2) = 1 then (spec_Decode.l1 k x1 x2 (wrap64 (x9 + 1)) x10 x11 x12 x13 x14 (y173.set (x16 : Int).toNat (wrap64 (Int.tdiv (wrap64 (-(wrap64 ((wrap64 (rd x1 x9)) + 1)))) 2))) (wrap64 (x16 + 1)) x154000 x154001 x154002 x161000 x161001 x161002) else (spec_Decode.l1 k x1 x2 (wrap64 (x9 + 1)) x10 x11 x12 x13 x14 y173 (wrap64 (x16 + 1)) x154000 x154001 x154002 x161000 x161001 x161002))) else (none)) else (none))) else (none)) else (none))) else ((spec_l14Turn.f k x15).bind fun t175 => ((spec_l14Block.f k x154000 x154001 x154002 x11 x12 x13).bind fun t178 => (spec_Decode.l2 k x1 x2 x9 x10 x11 t175 t178 0 x154000 x154001 x154002 x161000 x161001 x161002)))
def spec_Decode.l2 : Nat → List Int → Int → Int → Int → Int → List Int → List Int → Int → Int → Int → List Int → Int → Int → List Int → Option (Int × Int × List Int × Bool)
 | 0, _, _, _, _, _, _, _, _, _, _, _, _, _, _ => none
 | k + 1, x1, x2, x9, x10, x11, x15, x18, x19, x154000, x154001, x154002, x161000, x161001, x161002 => if x19 < 16 then (if x10 = 0 then (none) else (if 0 ≤ x19 then (if x19 < (x18.length : Int) then (if x19 < (x15.length : Int) then ((spec_l1Max.f 0 (wrap64 ((rd x18 x19) + (wrap64 (x2 * (rd x15 x19)))))).bind fun t183 => ((spec_l1Min.f 255 t183).bind fun ve => (if 0 ≤ (wrap64 ((wrap64 ((wrap64 ((wrap64 ((wrap64 ((wrap64 (Int.tdiv x11 x10)) * 4)) + (wrap64 (Int.tdiv x19 4)))) * x154000)) + (wrap64 ((Int.tmod x11 x10) * 4)))) + (Int.tmod x19 4))) then (if (wrap64 ((wrap64 ((wrap64 ((wrap64 ((wrap64 ((wrap64 (Int.tdiv x11 x10)) * 4)) + (wrap64 (Int.tdiv x19 4)))) * x154000)) + (wrap64 ((Int.tmod x11 x10) * 4)))) + (Int.tmod x19 4))) < (x161002.length : Int) then (spec_Decode.l2 k x1 x2 x9 x10 x11 x15 x18 (wrap64 (x19 + 1)) x154000 x154001 x154002 x161000 x161001 (x161002.set ((wrap64 ((wrap64 ((wrap64 ((wrap64 ((wrap64 ((wrap64 (Int.tdiv x11 x10)) * 4)) + (wrap64 (Int.tdiv x19 4)))) * x154000)) + (wrap64 ((Int.tmod x11 x10) * 4)))) + (Int.tmod x19 4))) : Int).toNat ve)) else (none)) else (none)))) else (none)) else (none)) else (none))) else (spec_Decode.l0 k x1 x2 x9 x10 (wrap64 (x11 + 1)) x154000 x154001 x154002 x161000 x161001 x161002)
end
def spec_Decode.f (k : Nat) (a0_0 : Int) (a0_1 : Int) (l0_2 : List Int) (l1 : List Int) (a2 : Int) : Option (Int × Int × List Int × Bool) := (spec_PictureOk.f k a0_0 a0_1 l0_2).bind fun t155 => (if t155 = true then ((spec_l1In.f a2 1 64).bind fun vd => (spec_Decode.j0 k l1 a2 (!vd) a0_0 a0_1 l0_2)) else (spec_Decode.j0 k l1 a2 true a0_0 a0_1 l0_2))
theorem spec_Decode.mono_l : ∀ k, (∀ y0 y1 y2 y3 y4 y5, LeO (spec_Decode.j0 k y0 y1 y2 y3 y4 y5) (spec_Decode.j0 (k + 1) y0 y1 y2 y3 y4 y5)) ∧ (∀ y0 y1 y2 y3 y4 y5 y6 y7 y8 y9 y10, LeO (spec_Decode.l0 k y0 y1 y2 y3 y4 y5 y6 y7 y8 y9 y10) (spec_Decode.l0 (k + 1) y0 y1 y2 y3 y4 y5 y6 y7 y8 y9 y10)) ∧ (∀ y0 y1 y2 y3 y4 y5 y6 y7 y8 y9 y10 y11 y12 y13 y14, LeO (spec_Decode.j2 k y0 y1 y2 y3 y4 y5 y6 y7 y8 y9 y10 y11 y12 y13 y14) (spec_Decode.j2 (k + 1) y0 y1 y2 y3 y4 y5 y6 y7 y8 y9 y10 y11 y12 y13 y14)) ∧ (∀ y0 y1 y2 y3 y4 y5 y6 y7 y8 y9 y10 y11 y12 y13 y14 y15, LeO (spec_Decode.l1 k y0 y1 y2 y3 y4 y5 y6 y7 y8 y9 y10 y11 y12 y13 y14 y15) (spec_Decode.l1 (k + 1) y0 y1 y2 y3 y4 y5 y6 y7 y8 y9 y10 y11 y12 y13 y14 y15)) ∧ (∀ y0 y1 y2 y3 y4 y5 y6 y7 y8 y9 y10 y11 y12 y13, LeO (spec_Decode.l2 k y0 y1 y2 y3 y4 y5 y6 y7 y8 y9 y10 y11 y12 y13) (spec_Decode.l2 (k + 1) y0 y1 y2 y3 y4 y5 y6 y7 y8 y9 y10 y11 y12 y13))
 | 0 => ⟨fun _ _ _ _ _ _ r h => by simp [spec_Decode.j0] at h, fun _ _ _ _ _ _ _ _ _ _ _ r h => by simp [spec_Decode.l0] at h, fun _ _ _ _ _ _ _ _ _ _ _ _ _ _ _ r h => by simp [spec_Decode.j2] at h, fun _ _ _ _ _ _ _ _ _ _ _ _ _ _ _ _ r h => by simp [spec_Decode.l1] at h, fun _ _ _ _ _ _ _ _ _ _ _ _ _ _ r h => by simp [spec_Decode.l2] at h⟩
 | k + 1 => by
  obtain⟨ih0,ih1,ih2,ih3,ih4⟩:=spec_Decode.mono_l k
  refine⟨?_,?_,?_,?_,?_⟩
  ·intro y0 y1 y2 y3 y4 y5
   unfold spec_Decode.j0
   repeat' first
   | (with_reducible exact ih0 _ _ _ _ _ _)
   | (with_reducible exact ih1 _ _ _ _ _ _ _ _ _ _ _)
   | (with_reducible exact ih2 _ _ _ _ _ _ _ _ _ _ _ _ _ _ _)
   | (with_reducible exact ih3 _ _ _ _ _ _ _ _ _ _ _ _ _ _ _ _)
   | (with_reducible exact ih4 _ _ _ _ _ _ _ _ _ _ _ _ _ _)
   | (with_reducible exact spec_PictureOk.mono _ _ _ _)
   | (with_reducible exact spec_l14Block.mono _ _ _ _ _ _ _)
   | (with_reducible exact spec_l14Turn.mono _ _)
   | (with_reducible exact LeO.refl _)
   | (with_reducible exact LeO.none _)
   | (with_reducible refine LeO.ite ?_ ?_)
   | (with_reducible refine LeO.bind ?_ (fun _ => ?_))
   | exact ih0 _ _ _ _ _ _
   | exact ih1 _ _ _ _ _ _ _ _ _ _ _
   | exact ih2 _ _ _ _ _ _ _ _ _ _ _ _ _ _ _
   | exact ih3 _ _ _ _ _ _ _ _ _ _ _ _ _ _ _ _
   | exact ih4 _ _ _ _ _ _ _ _ _ _ _ _ _ _
   | exact spec_PictureOk.mono _ _ _ _
   | exact spec_l14Block.mono _ _ _ _ _ _ _
   | exact spec_l14Turn.mono _ _
   | exact LeO.none _
   | refine LeO.ite ?_ ?_
   | refine LeO.bind ?_ (fun _ => ?_)
  ·intro y0 y1 y2 y3 y4 y5 y6 y7 y8 y9 y10
   unfold spec_Decode.l0
   repeat' first
   | (with_reducible exact ih0 _ _ _ _ _ _)
   | (with_reducible exact ih1 _ _ _ _ _ _ _ _ _ _ _)
   | (with_reducible exact ih2 _ _ _ _ _ _ _ _ _ _ _ _ _ _ _)
   | (with_reducible exact ih3 _ _ _ _ _ _ _ _ _ _ _ _ _ _ _ _)
   | (with_reducible exact ih4 _ _ _ _ _ _ _ _ _ _ _ _ _ _)
   | (with_reducible exact spec_PictureOk.mono _ _ _ _)
   | (with_reducible exact spec_l14Block.mono _ _ _ _ _ _ _)
   | (with_reducible exact spec_l14Turn.mono _ _)
   | (with_reducible exact LeO.refl _)
   | (with_reducible exact LeO.none _)
   | (with_reducible refine LeO.ite ?_ ?_)
   | (with_reducible refine LeO.bind ?_ (fun _ => ?_))
   | exact ih0 _ _ _ _ _ _
   | exact ih1 _ _ _ _ _ _ _ _ _ _ _
   | exact ih2 _ _ _ _ _ _ _ _ _ _ _ _ _ _ _
   | exact ih3 _ _ _ _ _ _ _ _ _ _ _ _ _ _ _ _
   | exact ih4 _ _ _ _ _ _ _ _ _ _ _ _ _ _
   | exact spec_PictureOk.mono _ _ _ _
   | exact spec_l14Block.mono _ _ _ _ _ _ _
   | exact spec_l14Turn.mono _ _
   | exact LeO.none _
   | refine LeO.ite ?_ ?_
   | refine LeO.bind ?_ (fun _ => ?_)
  ·intro y0 y1 y2 y3 y4 y5 y6 y7 y8 y9 y10 y11 y12 y13 y14
   unfold spec_Decode.j2
   repeat' first
   | (with_reducible exact ih0 _ _ _ _ _ _)
   | (with_reducible exact ih1 _ _ _ _ _ _ _ _ _ _ _)
   | (with_reducible exact ih2 _ _ _ _ _ _ _ _ _ _ _ _ _ _ _)
   | (with_reducible exact ih3 _ _ _ _ _ _ _ _ _ _ _ _ _ _ _ _)
   | (with_reducible exact ih4 _ _ _ _ _ _ _ _ _ _ _ _ _ _)
   | (with_reducible exact spec_PictureOk.mono _ _ _ _)
   | (with_reducible exact spec_l14Block.mono _ _ _ _ _ _ _)
   | (with_reducible exact spec_l14Turn.mono _ _)
   | (with_reducible exact LeO.refl _)
   | (with_reducible exact LeO.none _)
   | (with_reducible refine LeO.ite ?_ ?_)
   | (with_reducible refine LeO.bind ?_ (fun _ => ?_))
   | exact ih0 _ _ _ _ _ _
   | exact ih1 _ _ _ _ _ _ _ _ _ _ _
   | exact ih2 _ _ _ _ _ _ _ _ _ _ _ _ _ _ _
   | exact ih3 _ _ _ _ _ _ _ _ _ _ _ _ _ _ _ _
   | exact ih4 _ _ _ _ _ _ _ _ _ _ _ _ _ _
   | exact spec_PictureOk.mono _ _ _ _
   | exact spec_l14Block.mono _ _ _ _ _ _ _
   | exact spec_l14Turn.mono _ _
   | exact LeO.none _
   | refine LeO.ite ?_ ?_
   | refine LeO.bind ?_ (fun _ => ?_)
  ·intro y0 y1 y2 y3 y4 y5 y6 y7 y8 y9 y10 y11 y12 y13 y14 y15
   unfold spec_Decode.l1
   repeat' first
   | (with_reducible exact ih0 _ _ _ _ _ _)
   | (with_reducible exact ih1 _ _ _ _ _ _ _ _ _ _ _)
   | (with_reducible exact ih2 _ _ _ _ _ _ _ _ _ _ _ _ _ _ _)
   | (with_reducible exact ih3 _ _ _ _ _ _ _ _ _ _ _ _ _ _ _ _)
   | (with_reducible exact ih4 _ _ _ _ _ _ _ _ _ _ _ _ _ _)
   | (with_reducible exact spec_PictureOk.mono _ _ _ _)
   | (with_reducible exact spec_l14Block.mono _ _ _ _ _ _ _)
   | (with_reducible exact spec_l14Turn.mono _ _)
   | (with_reducible exact LeO.refl _)
   | (with_reducible exact LeO.none _)
   | (with_reducible refine LeO.ite ?_ ?_)
   | (with_reducible refine LeO.bind ?_ (fun _ => ?_))
   | exact ih0 _ _ _ _ _ _
   | exact ih1 _ _ _ _ _ _ _ _ _ _ _
   | exact ih2 _ _ _ _ _ _ _ _ _ _ _ _ _ _ _
   | exact ih3 _ _ _ _ _ _ _ _ _ _ _ _ _ _ _ _
   | exact ih4 _ _ _ _ _ _ _ _ _ _ _ _ _ _
   | exact spec_PictureOk.mono _ _ _ _
   | exact spec_l14Block.mono _ _ _ _ _ _ _
   | exact spec_l14Turn.mono _ _
   | exact LeO.none _
   | refine LeO.ite ?_ ?_
   | refine LeO.bind ?_ (fun _ => ?_)
  ·intro y0 y1 y2 y3 y4 y5 y6 y7 y8 y9 y10 y11 y12 y13
   unfold spec_Decode.l2
   repeat' first
   | (with_reducible exact ih0 _ _ _ _ _ _)
   | (with_reducible exact ih1 _ _ _ _ _ _ _ _ _ _ _)
   | (with_reducible exact ih2 _ _ _ _ _ _ _ _ _ _ _ _ _ _ _)
   | (with_reducible exact ih3 _ _ _ _ _ _ _ _ _ _ _ _ _ _ _ _)
   | (with_reducible exact ih4 _ _ _ _ _ _ _ _ _ _ _ _ _ _)
   | (with_reducible exact spec_PictureOk.mono _ _ _ _)
   | (with_reducible exact spec_l14Block.mono _ _ _ _ _ _ _)
   | (with_reducible exact spec_l14Turn.mono _ _)
   | (with_reducible exact LeO.refl _)
   | (with_reducible exact LeO.none _)
   | (with_reducible refine LeO.ite ?_ ?_)
   | (with_reducible refine LeO.bind ?_ (fun _ => ?_))
   | exact ih0 _ _ _ _ _ _
   | exact ih1 _ _ _ _ _ _ _ _ _ _ _
   | exact ih2 _ _ _ _ _ _ _ _ _ _ _ _ _ _ _
   | exact ih3 _ _ _ _ _ _ _ _ _ _ _ _ _ _ _ _
   | exact ih4 _ _ _ _ _ _ _ _ _ _ _ _ _ _
   | exact spec_PictureOk.mono _ _ _ _
   | exact spec_l14Block.mono _ _ _ _ _ _ _
   | exact spec_l14Turn.mono _ _
   | exact LeO.none _
   | refine LeO.ite ?_ ?_
   | refine LeO.bind ?_ (fun _ => ?_)
theorem spec_Decode.mono : ∀ a0 a1 a2 a3 a4 k, LeO (spec_Decode.f k a0 a1 a2 a3 a4) (spec_Decode.f (k + 1) a0 a1 a2 a3 a4) := by
 intro a0 a1 a2 a3 a4 k
 obtain⟨ih0,ih1,ih2,ih3,ih4⟩:=spec_Decode.mono_l k
 unfold spec_Decode.f
 repeat' first
   | (with_reducible exact ih0 _ _ _ _ _ _)
   | (with_reducible exact ih1 _ _ _ _ _ _ _ _ _ _ _)
   | (with_reducible exact ih2 _ _ _ _ _ _ _ _ _ _ _ _ _ _ _)
   | (with_reducible exact ih3 _ _ _ _ _ _ _ _ _ _ _ _ _ _ _ _)
   | (with_reducible exact ih4 _ _ _ _ _ _ _ _ _ _ _ _ _ _)
   | (with_reducible exact spec_PictureOk.mono _ _ _ _)
   | (with_reducible exact spec_l14Block.mono _ _ _ _ _ _ _)
   | (with_reducible exact spec_l14Turn.mono _ _)
   | (with_reducible exact LeO.refl _)
   | (with_reducible exact LeO.none _)
   | (with_reducible refine LeO.ite ?_ ?_)
   | (with_reducible refine LeO.bind ?_ (fun _ => ?_))
   | exact ih0 _ _ _ _ _ _
   | exact ih1 _ _ _ _ _ _ _ _ _ _ _
   | exact ih2 _ _ _ _ _ _ _ _ _ _ _ _ _ _ _
   | exact ih3 _ _ _ _ _ _ _ _ _ _ _ _ _ _ _ _
   | exact ih4 _ _ _ _ _ _ _ _ _ _ _ _ _ _
   | exact spec_PictureOk.mono _ _ _ _
   | exact spec_l14Block.mono _ _ _ _ _ _ _
   | exact spec_l14Turn.mono _ _
   | exact LeO.none _
   | refine LeO.ite ?_ ?_
   | refine LeO.bind ?_ (fun _ => ?_)
def spec_Decode.T3 : Bool × List (List Nat × List Nat) := (true, [([], []), ([0], [0]), ([], []), ([2], [2]), ([], []), ([4], [4]), ([], []), ([6], [6]), ([5, 7], [5, 7]), ([8, 8], [8]), ([1, 3, 9], [1, 3, 9]), ([], []), ([11, 10, 0, 1, 2, 3, 4, 5, 6, 7, 8, 9, 10, 11], [10, 11])])
def spec_Decode.B3 : List Nat := [0, 1, 0, 4, 0, 16, 0, 64, 240, 496, 1023, 0, 4095]
theorem spec_Decode.tab3 : rtab .any (opsOf Try.f34 3) = spec_Decode.T3 := by kernel_rfl
theorem spec_Decode.bits3 : waitsOk spec_Decode.T3.2 spec_Decode.B3 = true := by kernel_rfl
def spec_Decode.T28 : Bool × List (List Nat × List Nat) := (true, [([], []), ([], []), ([0, 1], [0, 1]), ([2], [2]), ([3], [3]), ([4], [4]), ([], []), ([], []), ([7], [7]), ([6, 8], [6, 8]), ([9], [9]), ([10], [10]), ([5, 11], [5, 11]), ([12, 0, 1, 2, 3, 4, 5, 6, 7, 8, 9, 10, 11, 12], [12])])
def spec_Decode.B28 : List Nat := [0, 0, 3, 7, 15, 31, 0, 0, 128, 448, 960, 1984, 4095, 8191]
theorem spec_Decode.tab28 : rtab .any (opsOf Try.f34 28) = spec_Decode.T28 := by kernel_rfl
theorem spec_Decode.bits28 : waitsOk spec_Decode.T28.2 spec_Decode.B28 = true := by kernel_rfl
def spec_Decode.T38 : Bool × List (List Nat × List Nat) := (true, [([], []), ([0], [0]), ([], []), ([], []), ([2, 3], [2, 3]), ([4], [4]), ([], []), ([6], [6]), ([5, 7], [5, 7]), ([], []), ([9], [9]), ([8, 10], [8, 10]), ([], []), ([], []), ([12, 13], [12, 13]), ([14], [14]), ([11, 15], [11, 15]), ([], []), ([17], [17]), ([16, 18], [16, 18]), ([], []), ([], []), ([20, 21], [20, 21]), ([22], [22]), ([], []), ([], []), ([], []), ([25, 26], [25, 26]), ([27], [27]), ([24, 28], [24, 28]), ([23, 29], [23, 29]), ([30], [30]), ([31, 31], [31]), ([1, 19, 0, 1, 2, 3, 4, 5, 6, 7, 8, 9, 10, 11, 12, 13, 14, 15, 16, 17, 18, 19, 20, 21, 22, 23, 24, 25, 26, 27, 28, 29, 30, 31, 32], [1, 19]), ([33, 32, 32, 0, 1, 2, 3, 4, 5, 6, 7, 8, 9, 10, 11, 12, 13, 14, 15, 16, 17, 18, 19, 20, 21, 22, 23, 24, 25, 26, 27, 28, 29, 30, 31, 32], [32, 33])])
def spec_Decode.B38 : List Nat := [0, 1, 0, 0, 12, 28, 0, 64, 252, 0, 512, 2044, 0, 0, 12288, 28672, 65532, 0, 131072, 524284, 0, 0, 3145728, 7340032, 0, 0, 0, 100663296, 234881024, 520093696, 1072693248, 2146435072, 4293918720, 8589934591, 17179869183]
theorem spec_Decode.tab38 : rtab .any (opsOf Try.f34 38) = spec_Decode.T38 := by kernel_rfl
theorem spec_Decode.bits38 : waitsOk spec_Decode.T38.2 spec_Decode.B38 = true := by kernel_rfl
set_option maxHeartbeats 8000000 in
set_option maxRecDepth 100000 in
theorem spec_Decode.calls (k : Nat) (a0_0 : Int) (a0_1 : Int) (A0_2 : Option Addr) (c0_2 : Nat) (l0_2 : List Int) (A1 : Option Addr) (c1 : Nat) (l1 : List Int) (a2 : Int) (r1 : Int) (r2 : Int) (r3 : List Int) (r4 : Bool) (w : World) (hr0_2 : Kd.C (Kd.int .i64) w A0_2 l0_2.length l0_2) (hc0_2 : l0_2.length ≤ c0_2) (hr1 : Kd.C (Kd.int .u8) w A1 l1.length l1) (hc1 : l1.length ≤ c1) (h : spec_Decode.f k a0_0 a0_1 l0_2 l1 a2 = some (r1, r2, r3, r4)) :
  Calls Try.prog 34 #[.agg #[.int .i64 a0_0,.int .i64 a0_1,.slice A0_2 l0_2.length c0_2],.slice A1 l1.length c1,.int .i64 a2] w fun e w'=>∃ v2_:Value,e=.returned (.tuple #[.agg #[.int .i64 r1,.int .i64 r2,v2_],.bool r4])∧Kd.R (Kd.int .i64) 2 w' w.heap.size (fun _=>True) v2_ r3∧Below w.heap.size w w':=by
 have hu27:=Try.underlying27
 have va:=Ea hr0_2
 have zy:=Ea hc0_2
 clear hr0_2 hc0_2
 have HR1:=Ea hr1
 have HC1:=Ea hc1
 clear hr1 hc1
 have HB:=Ea (Below.refl w.heap.size w)
 have H:((spec_PictureOk.f k a0_0 a0_1 l0_2).bind fun t155=>(if t155=true then ((spec_l1In.f a2 1 64).bind fun vd=>(spec_Decode.j0 k l1 a2 (!vd) a0_0 a0_1 l0_2)) else (spec_Decode.j0 k l1 a2 true a0_0 a0_1 l0_2)))=some (r1,r2,r3,r4):=h
 clear h
 have HC4:=Ea H
 clear H
 go_enter Try.func34,Try.ntmps34
 go_upto_region 1 with (first|((with_reducible refine gate_dst (N:=3) rfl ?_);refine box_event ?hg (N:=3) ?hd (cs:=#[.int .i64 a0_0,.int .i64 a0_1,.slice A0_2 l0_2.length c0_2]) (t:=27) ?hr ?_;(case hd=>rfl);(case hg=>rfl);(case hr=>first|(go_simp;done)|(go_simp;rfl));intro qf hg w5 hbox hb;have yh:=Ea (below_step (by repeat(first|(with_reducible first|exact HB.out|apply Ej|apply Eg|apply Ei)|exact HB.out)) hb);have yi:=Ea (hbox);have yj:=Ea ((by rw [hg];exact(below_size (by repeat(first|(with_reducible first|exact HB.out|apply Ej|apply Eg|apply Ei)|exact HB.out))):w.heap.size≤qf));have yl:=Ea ((by rw [hg];exact(below_size (by repeat(first|(with_reducible first|exact HB.out|apply Ej|apply Eg|apply Ei)|exact HB.out))):w.heap.size≤qf));clear HB;have HB:=yh;have qa:=yi;have GW153:=yj;have qq:=yl;clear yh yi yj yl;clear hb hbox hg)|((with_reducible refine gate_dst (N:=6) rfl ?_);refine box_event ?hg (N:=6) ?hd (cs:=#[.int .i64 0,.int .i64 0,.slice none 0 0]) (t:=27) ?hr ?_;(case hd=>rfl);(case hg=>rfl);(case hr=>first|(go_simp;done)|(go_simp;rfl));intro qi hg w6 hbox hb;have yh:=Ea (Eo (g:=qf) (o:=.cells #[.int .i64 a0_0,.int .i64 a0_1,.slice A0_2 l0_2.length c0_2] 27 (0,0)) (by(with_reducible repeat(first|refine Ed ?_ _|refine Eb ?_|refine Ec ?_ _));exact qa.out) hb);have yi:=Ea (below_step (by repeat(first|(with_reducible first|exact HB.out|apply Ej|apply Eg|apply Ei|refine Ee ?_ qq.out)|exact HB.out)) hb);have yj:=Ea (hbox);have yl:=Ea ((by rw [hg];exact(below_size (by repeat(first|(with_reducible first|exact HB.out|apply Ej|apply Eg|apply Ei|refine Ee ?_ qq.out)|exact HB.out))):w.heap.size≤qi));have yp:=Ea ((by rw [hg];exact(below_size (by repeat(first|(with_reducible first|exact HB.out|apply Ej|apply Eg|apply Ei|refine Ee ?_ qq.out)|exact HB.out))):w.heap.size≤qi));have ys:=Ea ((by rw [hg];exact Nat.ne_of_lt (blk_lt (g:=qf) (o:=.cells #[.int .i64 a0_0,.int .i64 a0_1,.slice A0_2 l0_2.length c0_2] 27 (0,0)) (by(with_reducible repeat(first|refine Ed ?_ _|refine Eb ?_|refine Ec ?_ _));exact qa.out)):qf≠qi));have vj:=Ea ((by rw [hg];exact Nat.ne_of_gt (blk_lt (g:=qf) (o:=.cells #[.int .i64 a0_0,.int .i64 a0_1,.slice A0_2 l0_2.length c0_2] 27 (0,0)) (by(with_reducible repeat(first|refine Ed ?_ _|refine Eb ?_|refine Ec ?_ _));exact qa.out)):qi≠qf));clear qa;clear HB;have qa:=yh;have HB:=yi;have qc:=yj;have GW154:=yl;have qt:=yp;have yf:=ys;have yg:=vj;clear yh yi yj yl yp ys vj;clear hb hbox hg))
 (try simp only [Act.put,List.setIfInBounds_toArray,List.set_cons_zero,List.set_cons_succ])
 go_cut [27] (fun v27 wc=>∃ (kq:Nat) (x27_3:Bool),v27=.bool x27_3∧Aside0 (spec_Decode.j0 kq l1 a2 x27_3 a0_0 a0_1 l0_2=some (r1,r2,r3,r4))∧Aside0 (kq≤k)∧Aside0 (wc.heap[qf]? = some (.cells #[.int .i64 a0_0,.int .i64 a0_1,(.slice A0_2 l0_2.length c0_2)] 27 (0,0)))∧Aside0 (wc.heap[qi]? = some (.cells #[.int .i64 0,.int .i64 0,(.slice none 0 0)] 27 (0,0)))∧Aside0 (Below w.heap.size w wc))
 case first=>
  have H:=HC4.out
  clear HC4
  replace H:=Option.bind_eq_some_iff.mp H
  obtain⟨t155,A70,H⟩:=H
  replace H:(if t155=true then ((spec_l1In.f a2 1 64).bind fun vd=>(spec_Decode.j0 k l1 a2 (!vd) a0_0 a0_1 l0_2)) else (spec_Decode.j0 k l1 a2 true a0_0 a0_1 l0_2))=some (r1,r2,r3,r4):=H
  have A7:=Ea A70
  clear A70
  by_cases c8:t155=true
  ·subst c8
   have H1:((spec_l1In.f a2 1 64).bind fun vd=>(spec_Decode.j0 k l1 a2 (!vd) a0_0 a0_1 l0_2))=some (r1,r2,r3,r4):=by rw [if_pos rfl] at H;exact H
   clear H
   have H:=H1
   clear H1
   replace H:=Option.bind_eq_some_iff.mp H
   obtain⟨vd,A90,H⟩:=H
   replace H:(spec_Decode.j0 k l1 a2 (!vd) a0_0 a0_1 l0_2)=some (r1,r2,r3,r4):=H
   have A9:=Ea A90
   clear A90
   have H':=Ea H
   clear H
   have hnb10:=yf.out
   have hnc10:=yg.out
   have zm:w6.cell? ⟨qf,0,none⟩=some (.int .i64 a0_0):=(Eh qa.out 0).trans rfl
   have zn:w6.cell? ⟨qf,1,none⟩=some (.int .i64 a0_1):=(Eh qa.out 1).trans rfl
   have zo:w6.cell? ⟨qf,2,none⟩=some (.slice A0_2 l0_2.length c0_2):=(Eh qa.out 2).trans rfl
   have zs:=Ek qa.out 0
   have zt:=Ek qa.out 1
   have zu:=Ek qa.out 2
   go_wp2_with (first|((with_reducible refine gate_callee (f:=15) rfl ?_);refine goesL_ (some 21) rfl rfl Try.func15 (by kernel_rfl) rfl #[.agg #[.int .i64 a0_0,.int .i64 a0_1,.slice A0_2 l0_2.length c0_2]] rfl (by(try simp only [List.map_toArray,List.map_cons,List.map_nil]);first|done|rfl|(simp only [List.length_drop,List.length_take];rfl)) ?_;(with_reducible refine(spec_PictureOk.calls k a0_0 a0_1 _ _ l0_2 true _ ?side1 ?side2 A7.out).mono ?_);(case side1=>repeat(first|exact(Kd.C_below va.out HB.out)|(with_reducible refine Kd.C_alloc ?_ _)|(with_reducible refine Kd.C_drewN ?_ _)|(with_reducible refine Kd.C_drew ?_)));(case side2=>exact zy.out);rintro e w12 ⟨rfl,hb⟩;refine⟨_,rfl,?_⟩;have yh:=Ea (Eo (g:=qf) (o:=.cells #[.int .i64 a0_0,.int .i64 a0_1,.slice A0_2 l0_2.length c0_2] 27 (0,0)) (by(with_reducible repeat(first|refine Ed ?_ _|refine Eb ?_|refine Ec ?_ _));exact qa.out) hb);have yi:=Ea (Eo (g:=qi) (o:=.cells #[.int .i64 0,.int .i64 0,.slice none 0 0] 27 (0,0)) (by(with_reducible repeat(first|refine Ed ?_ _|refine Eb ?_|refine Ec ?_ _));exact qc.out) hb);have yj:=Ea (below_step (by repeat(first|(with_reducible first|exact HB.out|apply Ej|apply Eg|apply Ei|refine Ee ?_ qq.out|refine Ee ?_ qt.out)|exact HB.out)) hb);clear qa;clear qc;clear HB;have qa:=yh;have qc:=yi;have HB:=yj;clear yh yi yj;(try clear hb);(try clear hb2);(try clear hk);(try clear hi))|(go_at_call 57;(with_reducible refine(spec_l1In.calls a2 1 64 vd _ A9.out).mono ?_);rintro e w' ⟨rfl,⟨nd,rfl⟩⟩))
   go_meet
   case rel=>exact⟨_,(!vd),(by first|rfl|(simp;done)|(simp [*];done)),H',⟨by first|omega|exact Nat.le_refl _⟩,⟨by(with_reducible repeat(first|refine Ed ?_ _|refine Eb ?_|refine Ec ?_ _));exact qa.out⟩,⟨by(with_reducible repeat(first|refine Ed ?_ _|refine Eb ?_|refine Ec ?_ _));exact qc.out⟩,⟨by repeat(first|(with_reducible first|exact HB.out|apply Ej|apply Eg|apply Ei|refine Ee ?_ qq.out|refine Ee ?_ qt.out)|exact HB.out)⟩⟩
  ·replace c8:=Bool.eq_false_iff.mpr c8
   subst c8
   have H1:(spec_Decode.j0 k l1 a2 true a0_0 a0_1 l0_2)=some (r1,r2,r3,r4):=by rw [if_neg (show ¬ (false=true) by decide)] at H;exact H
   clear H
   have H:=H1
   clear H1
   have H':=Ea H
   clear H
   have hnb13:=yf.out
   have hnc13:=yg.out
   have zp:w6.cell? ⟨qf,0,none⟩=some (.int .i64 a0_0):=(Eh qa.out 0).trans rfl
   have zq:w6.cell? ⟨qf,1,none⟩=some (.int .i64 a0_1):=(Eh qa.out 1).trans rfl
   have zr:w6.cell? ⟨qf,2,none⟩=some (.slice A0_2 l0_2.length c0_2):=(Eh qa.out 2).trans rfl
   have zv:=Ek qa.out 0
   have zw:=Ek qa.out 1
   have zx:=Ek qa.out 2
   go_wp2_with (first|((with_reducible refine gate_callee (f:=15) rfl ?_);refine goesL_ (some 21) rfl rfl Try.func15 (by kernel_rfl) rfl #[.agg #[.int .i64 a0_0,.int .i64 a0_1,.slice A0_2 l0_2.length c0_2]] rfl (by(try simp only [List.map_toArray,List.map_cons,List.map_nil]);first|done|rfl|(simp only [List.length_drop,List.length_take];rfl)) ?_;(with_reducible refine(spec_PictureOk.calls k a0_0 a0_1 _ _ l0_2 false _ ?side1 ?side2 A7.out).mono ?_);(case side1=>repeat(first|exact(Kd.C_below va.out HB.out)|(with_reducible refine Kd.C_alloc ?_ _)|(with_reducible refine Kd.C_drewN ?_ _)|(with_reducible refine Kd.C_drew ?_)));(case side2=>exact zy.out);rintro e w15 ⟨rfl,hb⟩;refine⟨_,rfl,?_⟩;have yh:=Ea (Eo (g:=qf) (o:=.cells #[.int .i64 a0_0,.int .i64 a0_1,.slice A0_2 l0_2.length c0_2] 27 (0,0)) (by(with_reducible repeat(first|refine Ed ?_ _|refine Eb ?_|refine Ec ?_ _));exact qa.out) hb);have yi:=Ea (Eo (g:=qi) (o:=.cells #[.int .i64 0,.int .i64 0,.slice none 0 0] 27 (0,0)) (by(with_reducible repeat(first|refine Ed ?_ _|refine Eb ?_|refine Ec ?_ _));exact qc.out) hb);have yj:=Ea (below_step (by repeat(first|(with_reducible first|exact HB.out|apply Ej|apply Eg|apply Ei|refine Ee ?_ qq.out|refine Ee ?_ qt.out)|exact HB.out)) hb);clear qa;clear qc;clear HB;have qa:=yh;have qc:=yi;have HB:=yj;clear yh yi yj;(try clear hb);(try clear hb2);(try clear hk);(try clear hi)))
   go_meet
   case rel=>exact⟨_,(true),(by first|rfl|(simp;done)|(simp [*];done)),H',⟨by first|omega|exact Nat.le_refl _⟩,⟨by(with_reducible repeat(first|refine Ed ?_ _|refine Eb ?_|refine Ec ?_ _));exact qa.out⟩,⟨by(with_reducible repeat(first|refine Ed ?_ _|refine Eb ?_|refine Ec ?_ _));exact qc.out⟩,⟨by repeat(first|(with_reducible first|exact HB.out|apply Ej|apply Eg|apply Ei|refine Ee ?_ qq.out|refine Ee ?_ qt.out)|exact HB.out)⟩⟩
 case rest=>
  clear HC4
  try clear c1
  try clear p2
  try clear c3
  try clear c8
  try clear c10
  try clear c13
  try clear c15
  try clear zm
  try clear zn
  try clear zo
  try clear zp
  try clear zq
  try clear zr
  try clear zs
  try clear zt
  try clear zu
  try clear zv
  try clear zw
  try clear zx
  obtain⟨kq,x27_3,rfl,HA,HJ3,qa,qc,HB⟩:=hcut
  cases kq with
  | zero => exact absurd HA.out (by simp [spec_Decode.j0])
  | succ kj3 =>
   have H:=HA.out
   clear HA
   simp only [spec_Decode.j0] at H
   by_cases c16:x27_3=true
   ·subst c16
    have H1:(some (0,0,([]:List Int),false))=some (r1,r2,r3,r4):=by rw [if_pos rfl] at H;exact H
    clear H
    have H:=H1
    clear H1
    simp only [Option.some.injEq,Prod.mk.injEq] at H
    obtain⟨rfl,rfl,rfl,rfl⟩:=H
    have hnb17:=yg.out
    have hnc17:=yf.out
    have hcz18_0:wc.cell? ⟨qi,0,none⟩=some (.int .i64 0):=(Eh qc.out 0).trans rfl
    have hcz18_1:wc.cell? ⟨qi,1,none⟩=some (.int .i64 0):=(Eh qc.out 1).trans rfl
    have hcz18_2:wc.cell? ⟨qi,2,none⟩=some (.slice none 0 0):=(Eh qc.out 2).trans rfl
    have hfz18_0:=Ek qc.out 0
    have hfz18_1:=Ek qc.out 1
    have hfz18_2:=Ek qc.out 2
    go_wp2
    refine bodyPost_ret (results_ct rfl _ _ qi 27 #[.int .i64 0,.int .i64 0,.slice none 0 0] (0,0) _ rfl (by(with_reducible repeat(first|refine Ed ?_ _|refine Eb ?_|refine Ec ?_ _));refine blk_put (cs:=#[.int .i64 0,.int .i64 0,.slice none 0 0]) ?_ 2 _ rfl;(with_reducible repeat(first|refine Ed ?_ _|refine Eb ?_|refine Ec ?_ _));refine blk_put (cs:=#[.int .i64 0,.int .i64 0,.slice none 0 0]) ?_ 1 _ rfl;(with_reducible repeat(first|refine Ed ?_ _|refine Eb ?_|refine Ec ?_ _));refine blk_put (cs:=#[.int .i64 0,.int .i64 0,.slice none 0 0]) ?_ 0 _ rfl;(with_reducible repeat(first|refine Ed ?_ _|refine Eb ?_|refine Ec ?_ _));exact qc.out) Try.underlying27 rfl (by kernel_rfl)) rfl ?_
    exact⟨_,by first|rfl|(simp [errW_none,errW_some] <;> rfl)|(simp [*,errW_none,errW_some] <;> rfl),by first|exact Kd.R_nil _ _ _ _ _|exact Kd.N_nil _ _ _ _ _|exact Kd.V_nil _ _ _ _ _|exact Kd.Q_nil _ _ _ _ _|exact Kd.S_nil _ _ _ _ _,by repeat(first|(with_reducible first|exact HB.out|apply Ej|apply Eg|apply Ei|refine Ee ?_ qq.out|refine Ee ?_ qt.out)|exact HB.out)⟩
   ·replace c16:=Bool.eq_false_iff.mpr c16
    subst c16
    have H1:(if 0≤(wrap64 (a0_0*a0_1)) then (if (wrap64 (a0_0*a0_1):Int).toNat≤35184372088832 then (spec_Decode.l0 kj3 l1 a2 0 (wrap64 (Int.tdiv a0_0 4)) 0 a0_0 a0_1 l0_2 a0_0 a0_1 (List.replicate (wrap64 (a0_0*a0_1):Int).toNat 0)) else (none)) else (none))=some (r1,r2,r3,r4):=by rw [if_neg (show ¬ (false=true) by decide)] at H;exact H
    clear H
    have H:=H1
    clear H1
    obtain⟨zj,zc⟩:∃ j_:Int,(wrap64 (a0_0*a0_1))=j_:=⟨_,rfl⟩
    replace H:(if 0≤(zj) then (if (zj:Int).toNat≤35184372088832 then (spec_Decode.l0 kj3 l1 a2 0 (wrap64 (Int.tdiv a0_0 4)) 0 a0_0 a0_1 l0_2 a0_0 a0_1 (List.replicate (zj:Int).toNat 0)) else (none)) else (none))=some (r1,r2,r3,r4):=by first|(rw [zc] at H;exact H)|(simp only [zc] at H ⊢;exact H)
    have hji19w:(IntKind.i64.wrap (a0_0*a0_1))=zj:=(i64_w _).trans zc
    by_cases c20:0≤(zj)
    ·rw [if_pos c20] at H
     have c20b0:=eq_true c20
     have c20b1:decide (0≤(zj))=true:=decide_eq_true c20
     clear c20
     by_cases c21:(zj:Int).toNat≤35184372088832
     ·rw [if_pos c21] at H
      have c21b0:=eq_true c21
      have c21b1:decide ((zj:Int).toNat≤35184372088832)=true:=decide_eq_true c21
      clear c21
      obtain⟨y157,hy157⟩:∃ y_:List Int,y_=(List.replicate (zj:Int).toNat 0):=⟨_,rfl⟩
      replace H:(spec_Decode.l0 kj3 l1 a2 0 (wrap64 (Int.tdiv a0_0 4)) 0 a0_0 a0_1 l0_2 a0_0 a0_1 y157)=some (r1,r2,r3,r4):=by first|(rw [hy157];with_reducible exact H)|(have zi:=(Option.bind_some _ _).symm.trans H;rw [hy157];with_reducible exact zi)|(have zi:=(Option.bind_some _ _).symm.trans H;with_reducible exact zi)|with_reducible exact H|(rw [hy157];exact H)|exact H
      have Ny157:=Ea hy157
      clear hy157
      have H':=Ea H
      clear H
      try go_wp2
      have yh:=Ea (Eb qa.out)
      have yi:=Ea (Eb qc.out)
      have yj:=Ea (Ei HB.out)
      clear qa
      clear qc
      clear HB
      have qa:=yh
      have qc:=yi
      have HB:=yj
      clear yh yi yj
      refine start_ (n:=13) (S:=fun w'=>w'.cell? ⟨qf,0,none⟩=some (.int .i64 a0_0)∧w'.cell? ⟨qf,1,none⟩=some (.int .i64 a0_1)∧w'.cell? ⟨qf,2,none⟩=some (.slice A0_2 l0_2.length c0_2)) (ds:=[]) #[false,false,false,false,false,false,false,false,false,false,false,false,false] (by kernel_rfl) rfl rfl ⟨(Eh qa.out 0).trans rfl,(Eh qa.out 1).trans rfl,(Eh qa.out 2).trans rfl⟩ (fun ya=>?_);refine with_tabW spec_Decode.tab3 spec_Decode.bits3 (fun HT_ HW_=>?_)
      generalize wc.drew=w22 at qa qc HB ya ⊢
      refine pure_ (i:=0) (N:=some 29) (v:=?_) (a':=?_) #[true,false,false,false,false,false,false,false,false,false,false,false,false] rfl rfl (En HT_.out (by kernel_rfl)) (fun _ _ _ h=>h) (Or.inl ⟨by rfl,?_⟩) ?_ ?_
      rotate_left
      ·intro w'
       go_simp
       with_reducible rfl
      rotate_left
      ·simp only [Act.put,List.setIfInBounds_toArray,List.set_cons_zero,List.set_cons_succ,i64_w,i32_w]
       rfl
      refine pure_ (i:=2) (N:=some 31) (v:=?_) (a':=?_) #[true,false,true,false,false,false,false,false,false,false,false,false,false] rfl rfl (En HT_.out (by kernel_rfl)) (fun _ _ _ h=>h) (Or.inl ⟨by rfl,?_⟩) ?_ ?_
      rotate_left
      ·intro w'
       go_simp
       with_reducible rfl
      rotate_left
      ·simp only [Act.put,List.setIfInBounds_toArray,List.set_cons_zero,List.set_cons_succ,i64_w,i32_w]
       rfl
      refine pure_ (i:=4) (N:=some 33) (v:=?_) (a':=?_) #[true,false,true,false,true,false,false,false,false,false,false,false,false] rfl rfl (En HT_.out (by kernel_rfl)) (fun _ _ _ h=>h) (Or.inl ⟨by rfl,?_⟩) ?_ ?_
      rotate_left
      ·intro w'
       go_simp
       with_reducible rfl
      rotate_left
      ·simp only [Act.put,List.setIfInBounds_toArray,List.set_cons_zero,List.set_cons_succ,i64_w,i32_w]
       rfl
      refine pure_ (i:=6) (N:=some 35) (v:=?_) (a':=?_) #[true,false,true,false,true,false,true,false,false,false,false,false,false] rfl rfl (En HT_.out (by kernel_rfl)) (fun _ _ _ h=>h) (Or.inl ⟨by rfl,?_⟩) ?_ ?_
      rotate_left
      ·intro w'
       go_simp
       with_reducible rfl
      rotate_left
      ·simp only [Act.put,List.setIfInBounds_toArray,List.set_cons_zero,List.set_cons_succ,i64_w,i32_w]
       rfl
      refine take_ (i:=1) (N:=some 30) (v:=?_) (a':=?_) #[true,true,true,false,true,false,true,false,false,false,false,false,false] rfl rfl (take_ofW HT_.out HW_.out (by kernel_rfl)) (fun _ _ _ h=>h) (Or.inl ⟨by rfl,?_⟩) ya ?_ ?_
      rotate_left
      ·rintro w' ⟨s0,s1,s2⟩
       go_simp
       with_reducible rfl
      rotate_left
      ·simp only [Act.put,List.setIfInBounds_toArray,List.set_cons_zero,List.set_cons_succ,i64_w,i32_w]
       rfl
      refine take_ (i:=3) (N:=some 32) (v:=?_) (a':=?_) #[true,true,true,true,true,false,true,false,false,false,false,false,false] rfl rfl (take_ofW HT_.out HW_.out (by kernel_rfl)) (fun _ _ _ h=>h) (Or.inl ⟨by rfl,?_⟩) ya ?_ ?_
      rotate_left
      ·rintro w' ⟨s0,s1,s2⟩
       go_simp
       with_reducible rfl
      rotate_left
      ·simp only [Act.put,List.setIfInBounds_toArray,List.set_cons_zero,List.set_cons_succ,i64_w,i32_w]
       rfl
      refine take_ (i:=5) (N:=some 34) (v:=?_) (a':=?_) #[true,true,true,true,true,true,true,false,false,false,false,false,false] rfl rfl (take_ofW HT_.out HW_.out (by kernel_rfl)) (fun _ _ _ h=>h) (Or.inl ⟨by rfl,?_⟩) ya ?_ ?_
      rotate_left
      ·rintro w' ⟨s0,s1,s2⟩
       go_simp
       with_reducible rfl
      rotate_left
      ·simp only [Act.put,List.setIfInBounds_toArray,List.set_cons_zero,List.set_cons_succ,i64_w,i32_w]
       rfl
      refine take_ (i:=7) (N:=some 36) (v:=?_) (a':=?_) #[true,true,true,true,true,true,true,true,false,false,false,false,false] rfl rfl (take_ofW HT_.out HW_.out (by kernel_rfl)) (fun _ _ _ h=>h) (Or.inl ⟨by rfl,?_⟩) ya ?_ ?_
      rotate_left
      ·rintro w' ⟨s0,s1,s2⟩
       go_simp
       with_reducible rfl
      rotate_left
      ·simp only [Act.put,List.setIfInBounds_toArray,List.set_cons_zero,List.set_cons_succ,i64_w,i32_w]
       rfl
      refine pure_ (i:=8) (N:=some 37) (v:=?_) (a':=?_) #[true,true,true,true,true,true,true,true,true,false,false,false,false] rfl rfl (En HT_.out (by kernel_rfl)) (fun _ _ _ h=>h) (Or.inl ⟨by rfl,?_⟩) ?_ ?_
      rotate_left
      ·intro w'
       go_simp
       with_reducible rfl
      rotate_left
      ·simp only [Act.put,List.setIfInBounds_toArray,List.set_cons_zero,List.set_cons_succ,i64_w,i32_w]
       rfl
      refine join_ (σ:=Value × Nat) 1 #[true,true,true,true,true,true,true,true,true,true,true,true,false] (fun s_=>[(38,s_.1),(8,.pointer (some ⟨s_.2,0,none⟩)),(39,.agg #[.int .i64 a0_0,.int .i64 a0_1,s_.1])]) (fun s_ w'=>(w'.cell? ⟨qf,0,none⟩=some (.int .i64 a0_0)∧w'.cell? ⟨qf,1,none⟩=some (.int .i64 a0_1)∧w'.cell? ⟨qf,2,none⟩=some (.slice A0_2 l0_2.length c0_2))∧(Kd.R (Kd.int .i64) 2 w' w.heap.size (fun _=>True) s_.1 y157)∧(w'.heap[qf]? = some (.cells #[.int .i64 a0_0,.int .i64 a0_1,.slice A0_2 l0_2.length c0_2] 27 (0,0)))∧(w'.heap[qi]? = some (.cells #[.int .i64 0,.int .i64 0,.slice none 0 0] 27 (0,0)))∧(w'.heap[s_.2]? = some (.cells #[.int .i64 0,.int .i64 0,.slice none 0 0] 27 (0,0)))∧(w.heap.size≤s_.2)∧(w.heap.size≤s_.2)∧(qf≠s_.2)∧(s_.2≠qf)∧(qi≠s_.2)∧(s_.2≠qi)∧(Below w.heap.size w w')) ?_ ?_
      rotate_left
      ·intro hCont
       refine two_ (i:=9) (j:=11) (Ni:=some 38) (Nj:=some 8) #[true,true,true,true,true,true,true,true,true,true,false,false,false] #[true,true,true,true,true,true,true,true,true,false,false,true,false] rfl rfl rfl rfl (two_of HT_.out (by kernel_rfl)) (by decide) (by decide) (fun K hK=>?_) (fun K hK=>?_)
       ·skip
        refine Kd.R_make_step (Kd.int .i64) _ 2 (by rfl) (N:=38) rfl 22 _ _ rfl zj rfl rfl Try.underlying22 (.int .i64 0) 8 info2 rfl (by decide) (by omega) 0 (ok:=fun _=>True) (okp:=fun _=>True) rfl (fun _ hk=>hk) trivial (of_decide_eq_true (by first|(with_reducible assumption)|assumption)) (Nat.le_trans (Nat.mul_le_mul_right _ (of_decide_eq_true (by first|(with_reducible assumption)|assumption):zj.toNat≤35184372088832)) (by omega)) (Below.refl _ _) (Nat.le_refl _) ?_
        intro v158 w23 ho24 hb hg_ hnew_
        clear hg_ hnew_
        (first|rw [← Ny157.out] at ho24|(simp only [Int.reduceToNat] at ho24;rw [← Ny157.out] at ho24))
        have yh:=Ea (Kd.R_lower ho24 (below_size (by repeat(first|(with_reducible first|exact HB.out|apply Ej|apply Eg|apply Ei|refine Ee ?_ qq.out|refine Ee ?_ qt.out)|exact HB.out))))
        have yi:=Ea (Eo (g:=qf) (o:=.cells #[.int .i64 a0_0,.int .i64 a0_1,.slice A0_2 l0_2.length c0_2] 27 (0,0)) (by(with_reducible repeat(first|refine Ed ?_ _|refine Eb ?_|refine Ec ?_ _));exact qa.out) hb)
        have yj:=Ea (Eo (g:=qi) (o:=.cells #[.int .i64 0,.int .i64 0,.slice none 0 0] 27 (0,0)) (by(with_reducible repeat(first|refine Ed ?_ _|refine Eb ?_|refine Ec ?_ _));exact qc.out) hb)
        have yl:=Ea (below_step (by repeat(first|(with_reducible first|exact HB.out|apply Ej|apply Eg|apply Ei|refine Ee ?_ qq.out|refine Ee ?_ qt.out)|exact HB.out)) hb)
        clear qa
        clear qc
        clear HB
        have yx:=yh
        have qa:=yi
        have qc:=yj
        have HB:=yl
        clear yh yi yj yl
        clear hb ho24
        obtain⟨Ao25,co25,eo25⟩:=Kd.R_slice yx.out
        (first|subst eo25|(injection eo25 with f1_ f2_ f3_;have f4_:=f1_.symm;have f5_:=f3_.symm;clear f1_ f2_ f3_;subst f4_;subst f5_))
        refine hK.out _ _ ⟨(Eh qa.out 0).trans rfl,(Eh qa.out 1).trans rfl,(Eh qa.out 2).trans rfl⟩ (fun ya=>?_)
        clear hK K
        refine norm_ (a':=?_) ?_ ?_
        rotate_left
        ·show Act.put _ (some 38) _=_
         simp only [Act.put,List.setIfInBounds_toArray,List.set_cons_zero,List.set_cons_succ,i64_w,i32_w]
         rfl
        refine pure_ (i:=10) (N:=some 39) (v:=?_) (a':=?_) #[true,true,true,true,true,true,true,true,true,true,true,false,false] rfl rfl (En HT_.out (by kernel_rfl)) (fun _ _ _ h=>h) (Or.inl ⟨by rfl,?_⟩) ?_ ?_
        rotate_left
        ·intro w'
         go_simp
         with_reducible rfl
        rotate_left
        ·simp only [Act.put,List.setIfInBounds_toArray,List.set_cons_zero,List.set_cons_succ,i64_w,i32_w]
         rfl
        refine one_ (i:=11) (N:=some 8) #[true,true,true,true,true,true,true,true,true,true,true,true,false] rfl rfl (one_of HT_.out (by kernel_rfl)) (by decide) (fun K hK=>?_)
        refine box_step ?hg (N:=8) ?hd (cs:=#[.int .i64 0,.int .i64 0,.slice none 0 0]) (t:=27) ?hr ?_;(case hd=>rfl);(case hg=>rfl);(case hr=>first|(go_simp;done)|(go_simp;rfl))
        intro ql hg w26 hbox hb
        have yh:=Ea (Kd.R_below (by(with_reducible repeat(first|apply El|apply Em|apply Ef));exact yx.out) hb)
        have yi:=Ea (Eo (g:=qf) (o:=.cells #[.int .i64 a0_0,.int .i64 a0_1,.slice A0_2 l0_2.length c0_2] 27 (0,0)) (by(with_reducible repeat(first|refine Ed ?_ _|refine Eb ?_|refine Ec ?_ _));exact qa.out) hb)
        have yj:=Ea (Eo (g:=qi) (o:=.cells #[.int .i64 0,.int .i64 0,.slice none 0 0] 27 (0,0)) (by(with_reducible repeat(first|refine Ed ?_ _|refine Eb ?_|refine Ec ?_ _));exact qc.out) hb)
        have yl:=Ea (below_step (by repeat(first|(with_reducible first|exact HB.out|apply Ej|apply Eg|apply Ei|refine Ee ?_ qq.out|refine Ee ?_ qt.out)|exact HB.out)) hb)
        have yp:=Ea (hbox)
        have ys:=Ea ((by rw [hg];exact(below_size (by repeat(first|(with_reducible first|exact HB.out|apply Ej|apply Eg|apply Ei|refine Ee ?_ qq.out|refine Ee ?_ qt.out)|exact HB.out))):w.heap.size≤ql))
        have vj:=Ea ((by rw [hg];exact(below_size (by repeat(first|(with_reducible first|exact HB.out|apply Ej|apply Eg|apply Ei|refine Ee ?_ qq.out|refine Ee ?_ qt.out)|exact HB.out))):w.heap.size≤ql))
        have n7_:=Ea ((by rw [hg];exact Nat.ne_of_lt (blk_lt (g:=qf) (o:=.cells #[.int .i64 a0_0,.int .i64 a0_1,.slice A0_2 l0_2.length c0_2] 27 (0,0)) (by(with_reducible repeat(first|refine Ed ?_ _|refine Eb ?_|refine Ec ?_ _));exact qa.out)):qf≠ql))
        have n8_:=Ea ((by rw [hg];exact Nat.ne_of_gt (blk_lt (g:=qf) (o:=.cells #[.int .i64 a0_0,.int .i64 a0_1,.slice A0_2 l0_2.length c0_2] 27 (0,0)) (by(with_reducible repeat(first|refine Ed ?_ _|refine Eb ?_|refine Ec ?_ _));exact qa.out)):ql≠qf))
        have n9_:=Ea ((by rw [hg];exact Nat.ne_of_lt (blk_lt (g:=qi) (o:=.cells #[.int .i64 0,.int .i64 0,.slice none 0 0] 27 (0,0)) (by(with_reducible repeat(first|refine Ed ?_ _|refine Eb ?_|refine Ec ?_ _));exact qc.out)):qi≠ql))
        have n10_:=Ea ((by rw [hg];exact Nat.ne_of_gt (blk_lt (g:=qi) (o:=.cells #[.int .i64 0,.int .i64 0,.slice none 0 0] 27 (0,0)) (by(with_reducible repeat(first|refine Ed ?_ _|refine Eb ?_|refine Ec ?_ _));exact qc.out)):ql≠qi))
        clear yx
        clear qa
        clear qc
        clear HB
        have yx:=yh
        have qa:=yi
        have qc:=yj
        have HB:=yl
        have qd:=yp
        have GW160:=ys
        have qz:=vj
        have qm:=n7_
        have yd:=n8_
        have qx:=n9_
        have ye:=n10_
        clear yh yi yj yl yp ys vj n7_ n8_ n9_ n10_
        clear hb hbox hg
        refine hK.out _ _ ⟨(Eh qa.out 0).trans rfl,(Eh qa.out 1).trans rfl,(Eh qa.out 2).trans rfl⟩ (fun ya=>?_)
        clear hK K
        refine norm_ (a':=?_) ?_ ?_
        rotate_left
        ·show Act.put _ (some 8) _=_
         simp only [Act.put,List.setIfInBounds_toArray,List.set_cons_zero,List.set_cons_succ,i64_w,i32_w]
         rfl
        exact norm_ (by simp only [putAll,Act.put,List.setIfInBounds_toArray,List.set_cons_zero,List.set_cons_succ]) (hCont (.slice Ao25 y157.length co25,ql) _ ⟨ya,(by(with_reducible repeat(first|apply El|apply Em|apply Ef));exact yx.out),(by(with_reducible repeat(first|refine Ed ?_ _|refine Eb ?_|refine Ec ?_ _));exact qa.out),(by(with_reducible repeat(first|refine Ed ?_ _|refine Eb ?_|refine Ec ?_ _));exact qc.out),(by(with_reducible repeat(first|refine Ed ?_ _|refine Eb ?_|refine Ec ?_ _));exact qd.out),GW160.out,qz.out,qm.out,yd.out,qx.out,ye.out,(by repeat(first|(with_reducible first|exact HB.out|apply Ej|apply Eg|apply Ei|refine Ee ?_ qq.out|refine Ee ?_ qt.out|refine Ee ?_ qz.out)|exact HB.out))⟩)
       ·skip
        refine box_step ?hg (N:=8) ?hd (cs:=#[.int .i64 0,.int .i64 0,.slice none 0 0]) (t:=27) ?hr ?_;(case hd=>rfl);(case hg=>rfl);(case hr=>first|(go_simp;done)|(go_simp;rfl))
        intro ql hg w23 hbox hb
        have yh:=Ea (Eo (g:=qf) (o:=.cells #[.int .i64 a0_0,.int .i64 a0_1,.slice A0_2 l0_2.length c0_2] 27 (0,0)) (by(with_reducible repeat(first|refine Ed ?_ _|refine Eb ?_|refine Ec ?_ _));exact qa.out) hb)
        have yi:=Ea (Eo (g:=qi) (o:=.cells #[.int .i64 0,.int .i64 0,.slice none 0 0] 27 (0,0)) (by(with_reducible repeat(first|refine Ed ?_ _|refine Eb ?_|refine Ec ?_ _));exact qc.out) hb)
        have yj:=Ea (below_step (by repeat(first|(with_reducible first|exact HB.out|apply Ej|apply Eg|apply Ei|refine Ee ?_ qq.out|refine Ee ?_ qt.out)|exact HB.out)) hb)
        have yl:=Ea (hbox)
        have yp:=Ea ((by rw [hg];exact(below_size (by repeat(first|(with_reducible first|exact HB.out|apply Ej|apply Eg|apply Ei|refine Ee ?_ qq.out|refine Ee ?_ qt.out)|exact HB.out))):w.heap.size≤ql))
        have ys:=Ea ((by rw [hg];exact(below_size (by repeat(first|(with_reducible first|exact HB.out|apply Ej|apply Eg|apply Ei|refine Ee ?_ qq.out|refine Ee ?_ qt.out)|exact HB.out))):w.heap.size≤ql))
        have vj:=Ea ((by rw [hg];exact Nat.ne_of_lt (blk_lt (g:=qf) (o:=.cells #[.int .i64 a0_0,.int .i64 a0_1,.slice A0_2 l0_2.length c0_2] 27 (0,0)) (by(with_reducible repeat(first|refine Ed ?_ _|refine Eb ?_|refine Ec ?_ _));exact qa.out)):qf≠ql))
        have n7_:=Ea ((by rw [hg];exact Nat.ne_of_gt (blk_lt (g:=qf) (o:=.cells #[.int .i64 a0_0,.int .i64 a0_1,.slice A0_2 l0_2.length c0_2] 27 (0,0)) (by(with_reducible repeat(first|refine Ed ?_ _|refine Eb ?_|refine Ec ?_ _));exact qa.out)):ql≠qf))
        have n8_:=Ea ((by rw [hg];exact Nat.ne_of_lt (blk_lt (g:=qi) (o:=.cells #[.int .i64 0,.int .i64 0,.slice none 0 0] 27 (0,0)) (by(with_reducible repeat(first|refine Ed ?_ _|refine Eb ?_|refine Ec ?_ _));exact qc.out)):qi≠ql))
        have n9_:=Ea ((by rw [hg];exact Nat.ne_of_gt (blk_lt (g:=qi) (o:=.cells #[.int .i64 0,.int .i64 0,.slice none 0 0] 27 (0,0)) (by(with_reducible repeat(first|refine Ed ?_ _|refine Eb ?_|refine Ec ?_ _));exact qc.out)):ql≠qi))
        clear qa
        clear qc
        clear HB
        have qa:=yh
        have qc:=yi
        have HB:=yj
        have qd:=yl
        have GW160:=yp
        have qz:=ys
        have qm:=vj
        have yd:=n7_
        have qx:=n8_
        have ye:=n9_
        clear yh yi yj yl yp ys vj n7_ n8_ n9_
        clear hb hbox hg
        refine hK.out _ _ ⟨(Eh qa.out 0).trans rfl,(Eh qa.out 1).trans rfl,(Eh qa.out 2).trans rfl⟩ (fun ya=>?_)
        clear hK K
        refine norm_ (a':=?_) ?_ ?_
        rotate_left
        ·show Act.put _ (some 8) _=_
         simp only [Act.put,List.setIfInBounds_toArray,List.set_cons_zero,List.set_cons_succ,i64_w,i32_w]
         rfl
        refine one_ (i:=9) (N:=some 38) #[true,true,true,true,true,true,true,true,true,true,false,true,false] rfl rfl (one_of HT_.out (by kernel_rfl)) (by decide) (fun K hK=>?_)
        refine Kd.R_make_step (Kd.int .i64) _ 2 (by rfl) (N:=38) rfl 22 _ _ rfl zj rfl rfl Try.underlying22 (.int .i64 0) 8 info2 rfl (by decide) (by omega) 0 (ok:=fun _=>True) (okp:=fun _=>True) rfl (fun _ hk=>hk) trivial (of_decide_eq_true (by first|(with_reducible assumption)|assumption)) (Nat.le_trans (Nat.mul_le_mul_right _ (of_decide_eq_true (by first|(with_reducible assumption)|assumption):zj.toNat≤35184372088832)) (by omega)) (Below.refl _ _) (Nat.le_refl _) ?_
        intro v158 w24 ho25 hb hg_ hnew_
        clear hg_ hnew_
        (first|rw [← Ny157.out] at ho25|(simp only [Int.reduceToNat] at ho25;rw [← Ny157.out] at ho25))
        have yh:=Ea (Kd.R_lower ho25 (below_size (by repeat(first|(with_reducible first|exact HB.out|apply Ej|apply Eg|apply Ei|refine Ee ?_ qq.out|refine Ee ?_ qt.out|refine Ee ?_ qz.out)|exact HB.out))))
        have yi:=Ea (Eo (g:=qf) (o:=.cells #[.int .i64 a0_0,.int .i64 a0_1,.slice A0_2 l0_2.length c0_2] 27 (0,0)) (by(with_reducible repeat(first|refine Ed ?_ _|refine Eb ?_|refine Ec ?_ _));exact qa.out) hb)
        have yj:=Ea (Eo (g:=qi) (o:=.cells #[.int .i64 0,.int .i64 0,.slice none 0 0] 27 (0,0)) (by(with_reducible repeat(first|refine Ed ?_ _|refine Eb ?_|refine Ec ?_ _));exact qc.out) hb)
        have yl:=Ea (Eo (g:=ql) (o:=.cells #[.int .i64 0,.int .i64 0,.slice none 0 0] 27 (0,0)) (by(with_reducible repeat(first|refine Ed ?_ _|refine Eb ?_|refine Ec ?_ _));exact qd.out) hb)
        have yp:=Ea (below_step (by repeat(first|(with_reducible first|exact HB.out|apply Ej|apply Eg|apply Ei|refine Ee ?_ qq.out|refine Ee ?_ qt.out|refine Ee ?_ qz.out)|exact HB.out)) hb)
        clear qa
        clear qc
        clear qd
        clear HB
        have yx:=yh
        have qa:=yi
        have qc:=yj
        have qd:=yl
        have HB:=yp
        clear yh yi yj yl yp
        clear hb ho25
        obtain⟨Ao26,co26,eo26⟩:=Kd.R_slice yx.out
        (first|subst eo26|(injection eo26 with f1_ f2_ f3_;have f4_:=f1_.symm;have f5_:=f3_.symm;clear f1_ f2_ f3_;subst f4_;subst f5_))
        refine hK.out _ _ ⟨(Eh qa.out 0).trans rfl,(Eh qa.out 1).trans rfl,(Eh qa.out 2).trans rfl⟩ (fun ya=>?_)
        clear hK K
        refine norm_ (a':=?_) ?_ ?_
        rotate_left
        ·show Act.put _ (some 38) _=_
         simp only [Act.put,List.setIfInBounds_toArray,List.set_cons_zero,List.set_cons_succ,i64_w,i32_w]
         rfl
        refine pure_ (i:=10) (N:=some 39) (v:=?_) (a':=?_) #[true,true,true,true,true,true,true,true,true,true,true,true,false] rfl rfl (En HT_.out (by kernel_rfl)) (fun _ _ _ h=>h) (Or.inl ⟨by rfl,?_⟩) ?_ ?_
        rotate_left
        ·intro w'
         go_simp
         with_reducible rfl
        rotate_left
        ·simp only [Act.put,List.setIfInBounds_toArray,List.set_cons_zero,List.set_cons_succ,i64_w,i32_w]
         rfl
        exact norm_ (by simp only [putAll,Act.put,List.setIfInBounds_toArray,List.set_cons_zero,List.set_cons_succ]) (hCont (.slice Ao26 y157.length co26,ql) _ ⟨ya,(by(with_reducible repeat(first|apply El|apply Em|apply Ef));exact yx.out),(by(with_reducible repeat(first|refine Ed ?_ _|refine Eb ?_|refine Ec ?_ _));exact qa.out),(by(with_reducible repeat(first|refine Ed ?_ _|refine Eb ?_|refine Ec ?_ _));exact qc.out),(by(with_reducible repeat(first|refine Ed ?_ _|refine Eb ?_|refine Ec ?_ _));exact qd.out),GW160.out,qz.out,qm.out,yd.out,qx.out,ye.out,(by repeat(first|(with_reducible first|exact HB.out|apply Ej|apply Eg|apply Ei|refine Ee ?_ qq.out|refine Ee ?_ qt.out|refine Ee ?_ qz.out)|exact HB.out))⟩)
      rintro⟨v158,ql⟩ w27 ⟨hS_,h0_,h1_,h2_,h3_,h4_,h5_,h6_,h7_,h8_,h9_,h10_⟩
      have yh:Aside0 (Kd.R (Kd.int .i64) 2 w27 w.heap.size (fun _=>True) v158 y157):=⟨h0_⟩
      have yi:Aside0 (w27.heap[qf]? = some (.cells #[.int .i64 a0_0,.int .i64 a0_1,.slice A0_2 l0_2.length c0_2] 27 (0,0))):=⟨h1_⟩
      have yj:Aside0 (w27.heap[qi]? = some (.cells #[.int .i64 0,.int .i64 0,.slice none 0 0] 27 (0,0))):=⟨h2_⟩
      have yl:Aside0 (w27.heap[ql]? = some (.cells #[.int .i64 0,.int .i64 0,.slice none 0 0] 27 (0,0))):=⟨h3_⟩
      have yp:Aside0 (w.heap.size≤ql):=⟨h4_⟩
      have ys:Aside0 (w.heap.size≤ql):=⟨h5_⟩
      have vj:Aside0 (qf≠ql):=⟨h6_⟩
      have n7_:Aside0 (ql≠qf):=⟨h7_⟩
      have n8_:Aside0 (qi≠ql):=⟨h8_⟩
      have n9_:Aside0 (ql≠qi):=⟨h9_⟩
      have n10_:Aside0 (Below w.heap.size w w27):=⟨h10_⟩
      clear qa
      clear qc
      clear HB
      clear h0_ h1_ h2_ h3_ h4_ h5_ h6_ h7_ h8_ h9_ h10_
      have yx:=yh
      have qa:=yi
      have qc:=yj
      have qd:=yl
      have GW160:=yp
      have qz:=ys
      have qm:=vj
      have yd:=n7_
      have qx:=n8_
      have ye:=n9_
      have HB:=n10_
      clear yh yi yj yl yp ys vj n7_ n8_ n9_ n10_
      have ya:w27.cell? ⟨qf,0,none⟩=some (.int .i64 a0_0)∧w27.cell? ⟨qf,1,none⟩=some (.int .i64 a0_1)∧w27.cell? ⟨qf,2,none⟩=some (.slice A0_2 l0_2.length c0_2):=hS_
      obtain⟨Ao28,co28,eo28⟩:=Kd.R_slice yx.out
      (first|subst eo28|(injection eo28 with f1_ f2_ f3_;have f4_:=f1_.symm;have f5_:=f3_.symm;clear f1_ f2_ f3_;subst f4_;subst f5_))
      refine norm_ (a':=?_) ?_ ?_
      rotate_left
      ·simp only [putAll,Act.put,List.setIfInBounds_toArray,List.set_cons_zero,List.set_cons_succ]
       rfl
      refine one_ (i:=12) (N:=none) #[true,true,true,true,true,true,true,true,true,true,true,true,true] rfl rfl (one_of HT_.out (by kernel_rfl)) (by decide) (fun K hK=>?_)
      have hs29:w27.cell? ⟨ql,0,none⟩=some (.int .i64 0):=(Eh qd.out 0).trans rfl
      have hfs29:=Ek qd.out 0
      have hns29_0:=qm.out
      have hns29_1:=qx.out
      have hms29_0:=yd.out
      have hms29_1:=ye.out
      have hs30:w27.cell? ⟨ql,1,none⟩=some (.int .i64 0):=(Eh qd.out 1).trans rfl
      have hfs30:=Ek qd.out 1
      have hns30_0:=qm.out
      have hns30_1:=qx.out
      have hms30_0:=yd.out
      have hms30_1:=ye.out
      have hs31:w27.cell? ⟨ql,2,none⟩=some (.slice none 0 0):=(Eh qd.out 2).trans rfl
      have hfs31:=Ek qd.out 2
      have hns31_0:=qm.out
      have hns31_1:=qx.out
      have hms31_0:=yd.out
      have hms31_1:=ye.out
      refine skip_ (w1:=?_) (by rfl) rfl ?_ ?_
      rotate_left
      ·go_simp
       rfl
      refine hK.out _ _ ⟨((cell_far (p:=⟨ql,_,none⟩) qm.out _).trans (((cell_far (p:=⟨ql,_,none⟩) qm.out _).trans (((cell_far (p:=⟨ql,_,none⟩) qm.out _).trans (ya.1)))))),((cell_far (p:=⟨ql,_,none⟩) qm.out _).trans (((cell_far (p:=⟨ql,_,none⟩) qm.out _).trans (((cell_far (p:=⟨ql,_,none⟩) qm.out _).trans (ya.2.1)))))),((cell_far (p:=⟨ql,_,none⟩) qm.out _).trans (((cell_far (p:=⟨ql,_,none⟩) qm.out _).trans (((cell_far (p:=⟨ql,_,none⟩) qm.out _).trans (ya.2.2))))))⟩ (fun ya=>?_)
      clear hK K
      refine done_ (done_of HT_.out (by kernel_rfl)) ?_
      have hnb32:=yf.out
      have hnc32:=yg.out
      have hnb33:=qm.out
      have hnc33:=yd.out
      have hcz34_0:w27.cell? ⟨qf,0,none⟩=some (.int .i64 a0_0):=(Eh qa.out 0).trans rfl
      have hcz34_1:w27.cell? ⟨qf,1,none⟩=some (.int .i64 a0_1):=(Eh qa.out 1).trans rfl
      have hcz34_2:w27.cell? ⟨qf,2,none⟩=some (.slice A0_2 l0_2.length c0_2):=(Eh qa.out 2).trans rfl
      have hfz34_0:=Ek qa.out 0
      have hfz34_1:=Ek qa.out 1
      have hfz34_2:=Ek qa.out 2
      try go_wp2
      go_loopg [9,11] kj3 (fun kq v9 v11 w'=>∃ (qj:Int) (qn:Int) (qv:Int) (qp:Int) (qh:List Int) (qk:Value),v9=.int .i64 qj∧v11=.int .i64 qn∧Aside0 (spec_Decode.l0 kq l1 a2 qj (wrap64 (Int.tdiv a0_0 4)) qn a0_0 a0_1 l0_2 a0_0 a0_1 qh=some (r1,r2,r3,r4))∧Aside0 (kq≤kj3)∧Aside0 (Kd.R (Kd.int .i64) 2 w' w.heap.size (fun _=>True) qk qh)∧Aside0 (w'.heap[qf]? = some (.cells #[.int .i64 a0_0,.int .i64 a0_1,(.slice A0_2 l0_2.length c0_2)] 27 (0,0)))∧Aside0 (w'.heap[qi]? = some (.cells #[.int .i64 qv,.int .i64 qp,(.slice none 0 0)] 27 (0,0)))∧Aside0 (w'.heap[ql]? = some (.cells #[.int .i64 a0_0,.int .i64 a0_1,qk] 27 (0,0)))∧Aside0 (Below w.heap.size w w'))
      case atStart=>exact⟨(0),(0),(0),(0),(y157),(.slice Ao28 y157.length co28),(by first|rfl|(simp;done)|(simp [*];done)),(by first|rfl|(simp;done)|(simp [*];done)),H',⟨Nat.le_refl _⟩,⟨by(with_reducible repeat(first|apply El|apply Em|apply Ef));exact Ep (Kd.R_far (p:=⟨ql,2,none⟩) (Kd.R_far (p:=⟨ql,1,none⟩) (Kd.R_far (p:=⟨ql,0,none⟩) (Kd.R_types yx.out qd.out (by decide)) (fun _ hk=>hk.2) (.int .i64 a0_0)) (fun _ hk=>hk.2) (.int .i64 a0_1)) (fun _ hk=>hk.2) (.slice Ao28 y157.length co28)) (fun _ hk=>trivial)⟩,⟨by(with_reducible repeat(first|refine Ed ?_ _|refine Eb ?_|refine Ec ?_ _));refine blk_far ?_ qm.out _;(with_reducible repeat(first|refine Ed ?_ _|refine Eb ?_|refine Ec ?_ _));refine blk_far ?_ qm.out _;(with_reducible repeat(first|refine Ed ?_ _|refine Eb ?_|refine Ec ?_ _));refine blk_far ?_ qm.out _;(with_reducible repeat(first|refine Ed ?_ _|refine Eb ?_|refine Ec ?_ _));exact qa.out⟩,⟨by(with_reducible repeat(first|refine Ed ?_ _|refine Eb ?_|refine Ec ?_ _));refine blk_far ?_ qx.out _;(with_reducible repeat(first|refine Ed ?_ _|refine Eb ?_|refine Ec ?_ _));refine blk_far ?_ qx.out _;(with_reducible repeat(first|refine Ed ?_ _|refine Eb ?_|refine Ec ?_ _));refine blk_far ?_ qx.out _;(with_reducible repeat(first|refine Ed ?_ _|refine Eb ?_|refine Ec ?_ _));exact qc.out⟩,⟨by(with_reducible repeat(first|refine Ed ?_ _|refine Eb ?_|refine Ec ?_ _));refine blk_put (cs:=#[.int .i64 a0_0,.int .i64 a0_1,.slice none 0 0]) ?_ 2 _ rfl;(with_reducible repeat(first|refine Ed ?_ _|refine Eb ?_|refine Ec ?_ _));refine blk_put (cs:=#[.int .i64 a0_0,.int .i64 0,.slice none 0 0]) ?_ 1 _ rfl;(with_reducible repeat(first|refine Ed ?_ _|refine Eb ?_|refine Ec ?_ _));refine blk_put (cs:=#[.int .i64 0,.int .i64 0,.slice none 0 0]) ?_ 0 _ rfl;(with_reducible repeat(first|refine Ed ?_ _|refine Eb ?_|refine Ec ?_ _));exact qd.out⟩,⟨by repeat(first|(with_reducible first|exact HB.out|apply Ej|apply Eg|apply Ei|refine Ee ?_ qq.out|refine Ee ?_ qt.out|refine Ee ?_ qz.out)|exact HB.out)⟩⟩
      case round=>
       clear H'
       try clear c1
       try clear c2
       try clear p2
       try clear c3
       try clear p6
       try clear c8
       try clear c10
       try clear c13
       try clear c15
       try clear c16
       try clear c17
       try clear c20
       try clear c20b0
       try clear c20b1
       try clear c21
       try clear c21b0
       try clear c21b1
       try clear c32
       try clear c33
       try clear c34
       try clear zm
       try clear zn
       try clear zo
       try clear zp
       try clear zq
       try clear zr
       try clear hcz18_0
       try clear hcz18_1
       try clear hcz18_2
       try clear hcz34_0
       try clear hcz34_1
       try clear hcz34_2
       try clear zs
       try clear zt
       try clear zu
       try clear zv
       try clear zw
       try clear zx
       try clear hfz18_0
       try clear hfz18_1
       try clear hfz18_2
       try clear hfz34_0
       try clear hfz34_1
       try clear hfz34_2
       try clear p2
       obtain⟨qj,qn,qv,qp,qh,qk,rfl,rfl,HA,HK2,qb,qa,qc,qd,HB⟩:=hrel
       cases gk with
       | zero => exact absurd HA.out (by simp [spec_Decode.l0])
       | succ k2 =>
        have H:=HA.out
        clear HA
        simp only [spec_Decode.l0] at H
        replace H:=Option.bind_eq_some_iff.mp H
        obtain⟨vh,A350,H⟩:=H
        replace H:(if qn < vh then (if (wrap64 (qj+2)) > (l1.length:Int) then (some (0,0,([]:List Int),false)) else (if 0≤qj then (if qj < (l1.length:Int) then (if 0≤(wrap64 (qj+1)) then (if (wrap64 (qj+1)) < (l1.length:Int) then (if (wrap64 ((wrap64 (Int.tmod (rd l1 qj) 8)) - 2)) > 2 then (spec_Decode.j2 k2 l1 a2 (wrap64 (qj+2)) (wrap64 (Int.tdiv a0_0 4)) qn (wrap64 ((wrap64 (Int.tmod (rd l1 qj) 8)) - 2)) (((Int.tdiv (rd l1 qj) 8) % 256) - 2) (wrap64 (rd l1 (wrap64 (qj+1)))) true a0_0 a0_1 l0_2 a0_0 a0_1 qh) else (if (((Int.tdiv (rd l1 qj) 8) % 256) - 2) > 2 then (spec_Decode.j2 k2 l1 a2 (wrap64 (qj+2)) (wrap64 (Int.tdiv a0_0 4)) qn (wrap64 ((wrap64 (Int.tmod (rd l1 qj) 8)) - 2)) (((Int.tdiv (rd l1 qj) 8) % 256) - 2) (wrap64 (rd l1 (wrap64 (qj+1)))) true a0_0 a0_1 l0_2 a0_0 a0_1 qh) else (spec_Decode.j2 k2 l1 a2 (wrap64 (qj+2)) (wrap64 (Int.tdiv a0_0 4)) qn (wrap64 ((wrap64 (Int.tmod (rd l1 qj) 8)) - 2)) (((Int.tdiv (rd l1 qj) 8) % 256) - 2) (wrap64 (rd l1 (wrap64 (qj+1)))) (decide ((wrap64 (rd l1 (wrap64 (qj+1)))) > 16)) a0_0 a0_1 l0_2 a0_0 a0_1 qh))) else (none)) else (none)) else (none)) else (none))) else (if qj=(l1.length:Int) then (some (a0_0,a0_1,qh,true)) else (some (0,0,([]:List Int),false))))=some (r1,r2,r3,r4):=H
        have A35:=Ea A350
        clear A350
        by_cases c36:qn < vh
        ·rw [if_pos c36] at H
         have c36b0:decide (qn < vh)=true:=decide_eq_true c36
         clear c36
         by_cases c37:(wrap64 (qj+2)) > (l1.length:Int)
         ·rw [if_pos c37] at H
          have c37b0:decide ((l1.length:Int) < (wrap64 (qj+2)))=true:=decide_eq_true c37
          clear c37
          simp only [Option.some.injEq,Prod.mk.injEq] at H
          obtain⟨rfl,rfl,rfl,rfl⟩:=H
          have hnb38:=yf.out
          have hnc38:=yg.out
          have hnb39:=qm.out
          have hnc39:=yd.out
          have hcz40_0:wr.cell? ⟨qf,0,none⟩=some (.int .i64 a0_0):=(Eh qa.out 0).trans rfl
          have hcz40_1:wr.cell? ⟨qf,1,none⟩=some (.int .i64 a0_1):=(Eh qa.out 1).trans rfl
          have hcz40_2:wr.cell? ⟨qf,2,none⟩=some (.slice A0_2 l0_2.length c0_2):=(Eh qa.out 2).trans rfl
          have hfz40_0:=Ek qa.out 0
          have hfz40_1:=Ek qa.out 1
          have hfz40_2:=Ek qa.out 2
          go_wp2_with (first|((with_reducible refine gate_callee (f:=67) rfl ?_);refine goesL_ (some 45) rfl rfl Try.func67 (by kernel_rfl) rfl #[.agg #[.int .i64 a0_0,.int .i64 a0_1,.slice A0_2 l0_2.length c0_2]] rfl (by(try simp only [List.map_toArray,List.map_cons,List.map_nil]);first|done|rfl|(simp only [List.length_drop,List.length_take];rfl)) ?_;(with_reducible refine(spec_l14Blocks.calls a0_0 a0_1 _ _ l0_2 vh _ ?side1 ?side2 A35.out).mono ?_);(case side1=>repeat(first|exact(Kd.C_below va.out HB.out)|(with_reducible refine Kd.C_alloc ?_ _)|(with_reducible refine Kd.C_drewN ?_ _)|(with_reducible refine Kd.C_drew ?_)));(case side2=>exact zy.out);rintro e w41 ⟨rfl,hb⟩;refine⟨_,rfl,?_⟩;have yh:=Ea (Kd.R_below (by(with_reducible repeat(first|apply El|apply Em|apply Ef));exact qb.out) hb);have yi:=Ea (Eo (g:=qf) (o:=.cells #[.int .i64 a0_0,.int .i64 a0_1,.slice A0_2 l0_2.length c0_2] 27 (0,0)) (by(with_reducible repeat(first|refine Ed ?_ _|refine Eb ?_|refine Ec ?_ _));exact qa.out) hb);have yj:=Ea (Eo (g:=qi) (o:=.cells #[.int .i64 qv,.int .i64 qp,.slice none 0 0] 27 (0,0)) (by(with_reducible repeat(first|refine Ed ?_ _|refine Eb ?_|refine Ec ?_ _));exact qc.out) hb);have yl:=Ea (Eo (g:=ql) (o:=.cells #[.int .i64 a0_0,.int .i64 a0_1,qk] 27 (0,0)) (by(with_reducible repeat(first|refine Ed ?_ _|refine Eb ?_|refine Ec ?_ _));exact qd.out) hb);have yp:=Ea (below_step (by repeat(first|(with_reducible first|exact HB.out|apply Ej|apply Eg|apply Ei|refine Ee ?_ qq.out|refine Ee ?_ qt.out|refine Ee ?_ qz.out)|exact HB.out)) hb);clear qb;clear qa;clear qc;clear qd;clear HB;have qb:=yh;have qa:=yi;have qc:=yj;have qd:=yl;have HB:=yp;clear yh yi yj yl yp;(try clear hb);(try clear hb2);(try clear hk);(try clear hi);have hnb42:=qx.out;have hnc42:=ye.out;have hcz43_0:w41.cell? ⟨qi,0,none⟩=some (.int .i64 qv):=(Eh qc.out 0).trans rfl;have hcz43_1:w41.cell? ⟨qi,1,none⟩=some (.int .i64 qp):=(Eh qc.out 1).trans rfl;have hcz43_2:w41.cell? ⟨qi,2,none⟩=some (.slice none 0 0):=(Eh qc.out 2).trans rfl;have hfz43_0:=Ek qc.out 0;have hfz43_1:=Ek qc.out 1;have hfz43_2:=Ek qc.out 2))
          refine bodyPost_ret (results_ct rfl _ _ qi 27 #[.int .i64 0,.int .i64 0,.slice none 0 0] (0,0) _ rfl (by(with_reducible repeat(first|refine Ed ?_ _|refine Eb ?_|refine Ec ?_ _));refine blk_put (cs:=#[.int .i64 0,.int .i64 0,.slice none 0 0]) ?_ 2 _ rfl;(with_reducible repeat(first|refine Ed ?_ _|refine Eb ?_|refine Ec ?_ _));refine blk_put (cs:=#[.int .i64 0,.int .i64 qp,.slice none 0 0]) ?_ 1 _ rfl;(with_reducible repeat(first|refine Ed ?_ _|refine Eb ?_|refine Ec ?_ _));refine blk_put (cs:=#[.int .i64 qv,.int .i64 qp,.slice none 0 0]) ?_ 0 _ rfl;(with_reducible repeat(first|refine Ed ?_ _|refine Eb ?_|refine Ec ?_ _));exact qc.out) Try.underlying27 rfl (by kernel_rfl)) rfl ?_
          exact⟨_,by first|rfl|(simp [errW_none,errW_some] <;> rfl)|(simp only [← zc];first|rfl|(simp [errW_none,errW_some] <;> rfl))|(simp [*,errW_none,errW_some] <;> rfl),by first|exact Kd.R_nil _ _ _ _ _|exact Kd.N_nil _ _ _ _ _|exact Kd.V_nil _ _ _ _ _|exact Kd.Q_nil _ _ _ _ _|exact Kd.S_nil _ _ _ _ _,by repeat(first|(with_reducible first|exact HB.out|apply Ej|apply Eg|apply Ei|refine Ee ?_ qq.out|refine Ee ?_ qt.out|refine Ee ?_ qz.out)|exact HB.out)⟩
         ·rw [if_neg c37] at H
          have c37b0:decide ((l1.length:Int) < (wrap64 (qj+2)))=false:=decide_eq_false c37
          clear c37
          by_cases c44:0≤qj
          ·rw [if_pos c44] at H
           have c44b0:decide (0≤qj)=true:=decide_eq_true c44
           clear c44
           by_cases c45:qj < (l1.length:Int)
           ·rw [if_pos c45] at H
            have c45b0:decide (qj < (l1.length:Int))=true:=decide_eq_true c45
            clear c45
            obtain⟨ym,zk⟩:∃ j_:Int,(wrap64 (qj+1))=j_:=⟨_,rfl⟩
            replace H:(if 0≤(ym) then (if (ym) < (l1.length:Int) then (if (wrap64 ((wrap64 (Int.tmod (rd l1 qj) 8)) - 2)) > 2 then (spec_Decode.j2 k2 l1 a2 (wrap64 (qj+2)) (wrap64 (Int.tdiv a0_0 4)) qn (wrap64 ((wrap64 (Int.tmod (rd l1 qj) 8)) - 2)) (((Int.tdiv (rd l1 qj) 8) % 256) - 2) (wrap64 (rd l1 (ym))) true a0_0 a0_1 l0_2 a0_0 a0_1 qh) else (if (((Int.tdiv (rd l1 qj) 8) % 256) - 2) > 2 then (spec_Decode.j2 k2 l1 a2 (wrap64 (qj+2)) (wrap64 (Int.tdiv a0_0 4)) qn (wrap64 ((wrap64 (Int.tmod (rd l1 qj) 8)) - 2)) (((Int.tdiv (rd l1 qj) 8) % 256) - 2) (wrap64 (rd l1 (ym))) true a0_0 a0_1 l0_2 a0_0 a0_1 qh) else (spec_Decode.j2 k2 l1 a2 (wrap64 (qj+2)) (wrap64 (Int.tdiv a0_0 4)) qn (wrap64 ((wrap64 (Int.tmod (rd l1 qj) 8)) - 2)) (((Int.tdiv (rd l1 qj) 8) % 256) - 2) (wrap64 (rd l1 (ym))) (decide ((wrap64 (rd l1 (ym))) > 16)) a0_0 a0_1 l0_2 a0_0 a0_1 qh))) else (none)) else (none))=some (r1,r2,r3,r4):=by first|(rw [zk] at H;exact H)|(simp only [zk] at H ⊢;exact H)
            (try rw [zk] at A35)
            have hji46w:(IntKind.i64.wrap (qj+1))=ym:=(i64_w _).trans zk
            by_cases c47:0≤(ym)
            ·rw [if_pos c47] at H
             have c47b0:decide (0≤(ym))=true:=decide_eq_true c47
             clear c47
             by_cases c48:(ym) < (l1.length:Int)
             ·rw [if_pos c48] at H
              have c48b0:decide ((ym) < (l1.length:Int))=true:=decide_eq_true c48
              clear c48
              have HC49:=Ea H
              clear H
              have hnb50:=yf.out
              have hnc50:=yg.out
              have hnb51:=qm.out
              have hnc51:=yd.out
              have hcz52_0:wr.cell? ⟨qf,0,none⟩=some (.int .i64 a0_0):=(Eh qa.out 0).trans rfl
              have hcz52_1:wr.cell? ⟨qf,1,none⟩=some (.int .i64 a0_1):=(Eh qa.out 1).trans rfl
              have hcz52_2:wr.cell? ⟨qf,2,none⟩=some (.slice A0_2 l0_2.length c0_2):=(Eh qa.out 2).trans rfl
              have hfz52_0:=Ek qa.out 0
              have hfz52_1:=Ek qa.out 1
              have hfz52_2:=Ek qa.out 2
              go_upto_region 15 with (first|((with_reducible refine gate_callee (f:=67) rfl ?_);refine goesL_ (some 45) rfl rfl Try.func67 (by kernel_rfl) rfl #[.agg #[.int .i64 a0_0,.int .i64 a0_1,.slice A0_2 l0_2.length c0_2]] rfl (by(try simp only [List.map_toArray,List.map_cons,List.map_nil]);first|done|rfl|(simp only [List.length_drop,List.length_take];rfl)) ?_;(with_reducible refine(spec_l14Blocks.calls a0_0 a0_1 _ _ l0_2 vh _ ?side1 ?side2 A35.out).mono ?_);(case side1=>repeat(first|exact(Kd.C_below va.out HB.out)|(with_reducible refine Kd.C_alloc ?_ _)|(with_reducible refine Kd.C_drewN ?_ _)|(with_reducible refine Kd.C_drew ?_)));(case side2=>exact zy.out);rintro e w53 ⟨rfl,hb⟩;refine⟨_,rfl,?_⟩;have yh:=Ea (Kd.R_below (by(with_reducible repeat(first|apply El|apply Em|apply Ef));exact qb.out) hb);have yi:=Ea (Eo (g:=qf) (o:=.cells #[.int .i64 a0_0,.int .i64 a0_1,.slice A0_2 l0_2.length c0_2] 27 (0,0)) (by(with_reducible repeat(first|refine Ed ?_ _|refine Eb ?_|refine Ec ?_ _));exact qa.out) hb);have yj:=Ea (Eo (g:=qi) (o:=.cells #[.int .i64 qv,.int .i64 qp,.slice none 0 0] 27 (0,0)) (by(with_reducible repeat(first|refine Ed ?_ _|refine Eb ?_|refine Ec ?_ _));exact qc.out) hb);have yl:=Ea (Eo (g:=ql) (o:=.cells #[.int .i64 a0_0,.int .i64 a0_1,qk] 27 (0,0)) (by(with_reducible repeat(first|refine Ed ?_ _|refine Eb ?_|refine Ec ?_ _));exact qd.out) hb);have yp:=Ea (below_step (by repeat(first|(with_reducible first|exact HB.out|apply Ej|apply Eg|apply Ei|refine Ee ?_ qq.out|refine Ee ?_ qt.out|refine Ee ?_ qz.out)|exact HB.out)) hb);clear qb;clear qa;clear qc;clear qd;clear HB;have qb:=yh;have qa:=yi;have qc:=yj;have qd:=yl;have HB:=yp;clear yh yi yj yl yp;(try clear hb);(try clear hb2);(try clear hk);(try clear hi);have p162:0≤(qj:Int):=of_decide_eq_true (by first|(with_reducible assumption)|assumption);have q162:qj < (l1.length:Int):=of_decide_eq_true (by first|(with_reducible assumption)|assumption);obtain⟨yq,e162,zf⟩:=Kd.at_int HR1.out qj p162 q162;cases e162;replace zf:=(HB.out.cell (World.block_lt_of_cell? w _ zf)).trans zf;replace p162:=eq_true p162;replace q162:=eq_true q162;have p163:0≤(qj:Int):=of_decide_eq_true (by first|(with_reducible assumption)|assumption);have q163:qj < (l1.length:Int):=of_decide_eq_true (by first|(with_reducible assumption)|assumption);obtain⟨ad163,e163,zg⟩:=Kd.at_int HR1.out qj p163 q163;obtain rfl:yq=ad163:=(by injection e163);replace zg:=(HB.out.cell (World.block_lt_of_cell? w _ zg)).trans zg;replace p163:=eq_true p163;replace q163:=eq_true q163;have p164:0≤((ym):Int):=of_decide_eq_true (by first|(with_reducible assumption)|assumption);have q164:(ym) < (l1.length:Int):=of_decide_eq_true (by first|(with_reducible assumption)|assumption);obtain⟨ad164,e164,zh⟩:=Kd.at_int HR1.out (ym) p164 q164;obtain rfl:yq=ad164:=(by injection e164);replace zh:=(HB.out.cell (World.block_lt_of_cell? w _ zh)).trans zh;replace p164:=eq_true p164;replace q164:=eq_true q164))
              (try simp only [Act.put,List.setIfInBounds_toArray,List.set_cons_zero,List.set_cons_succ])
              go_cut [86] (fun v86 wc=>∃ (kq:Nat) (x86_48:Bool),v86=.bool x86_48∧Aside0 (spec_Decode.j2 kq l1 a2 (wrap64 (qj+2)) (wrap64 (Int.tdiv a0_0 4)) qn (wrap64 ((wrap64 (Int.tmod (rd l1 qj) 8)) - 2)) (((Int.tdiv (rd l1 qj) 8) % 256) - 2) (wrap64 (rd l1 (ym))) x86_48 a0_0 a0_1 l0_2 a0_0 a0_1 qh=some (r1,r2,r3,r4))∧Aside0 (kq≤k2)∧Aside0 (Kd.R (Kd.int .i64) 2 wc w.heap.size (fun _=>True) qk qh)∧Aside0 (wc.heap[qf]? = some (.cells #[.int .i64 a0_0,.int .i64 a0_1,(.slice A0_2 l0_2.length c0_2)] 27 (0,0)))∧Aside0 (wc.heap[qi]? = some (.cells #[.int .i64 qv,.int .i64 qp,(.slice none 0 0)] 27 (0,0)))∧Aside0 (wc.heap[ql]? = some (.cells #[.int .i64 a0_0,.int .i64 a0_1,qk] 27 (0,0)))∧Aside0 (Below w.heap.size w wc))
              case first=>
               have H:=HC49.out
               clear HC49
               by_cases c54:(wrap64 ((wrap64 (Int.tmod (rd l1 qj) 8)) - 2)) > 2
               ·rw [if_pos c54] at H
                have vb:decide (2 < (wrap64 ((wrap64 (Int.tmod (rd l1 qj) 8)) - 2)))=true:=decide_eq_true c54
                clear c54
                (first|rw [vb]|(simp only [i64_w,i32_w];rw [vb])|skip)
                have H':=Ea H
                clear H
                go_wp2
                go_meet
                case rel=>exact⟨_,(true),(by first|rfl|(simp;done)|(simp [*];done)),H',⟨by have:=HJ3.out;have:=HK2.out;first|omega|exact Nat.le_refl _⟩,⟨by(with_reducible repeat(first|apply El|apply Em|apply Ef));exact qb.out⟩,⟨by(with_reducible repeat(first|refine Ed ?_ _|refine Eb ?_|refine Ec ?_ _));exact qa.out⟩,⟨by(with_reducible repeat(first|refine Ed ?_ _|refine Eb ?_|refine Ec ?_ _));exact qc.out⟩,⟨by(with_reducible repeat(first|refine Ed ?_ _|refine Eb ?_|refine Ec ?_ _));exact qd.out⟩,⟨by repeat(first|(with_reducible first|exact HB.out|apply Ej|apply Eg|apply Ei|refine Ee ?_ qq.out|refine Ee ?_ qt.out|refine Ee ?_ qz.out)|exact HB.out)⟩⟩
               ·rw [if_neg c54] at H
                have vb:decide (2 < (wrap64 ((wrap64 (Int.tmod (rd l1 qj) 8)) - 2)))=false:=decide_eq_false c54
                clear c54
                (first|rw [vb]|(simp only [i64_w,i32_w];rw [vb])|skip)
                by_cases c55:(((Int.tdiv (rd l1 qj) 8) % 256) - 2) > 2
                ·rw [if_pos c55] at H
                 have c55b0:decide (2 < (((Int.tdiv (rd l1 qj) 8) % 256) - 2))=true:=decide_eq_true c55
                 clear c55
                 have H':=Ea H
                 clear H
                 go_wp2
                 go_meet
                 case rel=>exact⟨_,(true),(by first|rfl|(simp;done)|(simp [*];done)),H',⟨by have:=HJ3.out;have:=HK2.out;first|omega|exact Nat.le_refl _⟩,⟨by(with_reducible repeat(first|apply El|apply Em|apply Ef));exact qb.out⟩,⟨by(with_reducible repeat(first|refine Ed ?_ _|refine Eb ?_|refine Ec ?_ _));exact qa.out⟩,⟨by(with_reducible repeat(first|refine Ed ?_ _|refine Eb ?_|refine Ec ?_ _));exact qc.out⟩,⟨by(with_reducible repeat(first|refine Ed ?_ _|refine Eb ?_|refine Ec ?_ _));exact qd.out⟩,⟨by repeat(first|(with_reducible first|exact HB.out|apply Ej|apply Eg|apply Ei|refine Ee ?_ qq.out|refine Ee ?_ qt.out|refine Ee ?_ qz.out)|exact HB.out)⟩⟩
                ·rw [if_neg c55] at H
                 have c55b0:decide (2 < (((Int.tdiv (rd l1 qj) 8) % 256) - 2))=false:=decide_eq_false c55
                 clear c55
                 have H':=Ea H
                 clear H
                 go_wp2
                 go_meet
                 case rel=>exact⟨_,(decide ((wrap64 (rd l1 (ym))) > 16)),(by first|rfl|(simp;done)|(simp only [← zk] <;> (first|rfl|simp))|(simp [*];done)),H',⟨by have:=HJ3.out;have:=HK2.out;first|omega|exact Nat.le_refl _⟩,⟨by(with_reducible repeat(first|apply El|apply Em|apply Ef));exact qb.out⟩,⟨by(with_reducible repeat(first|refine Ed ?_ _|refine Eb ?_|refine Ec ?_ _));exact qa.out⟩,⟨by(with_reducible repeat(first|refine Ed ?_ _|refine Eb ?_|refine Ec ?_ _));exact qc.out⟩,⟨by(with_reducible repeat(first|refine Ed ?_ _|refine Eb ?_|refine Ec ?_ _));exact qd.out⟩,⟨by repeat(first|(with_reducible first|exact HB.out|apply Ej|apply Eg|apply Ei|refine Ee ?_ qq.out|refine Ee ?_ qt.out|refine Ee ?_ qz.out)|exact HB.out)⟩⟩
              case rest=>
               clear HC49
               try clear c1
               try clear p1
               try clear q1
               try clear hx1
               try clear c2
               try clear p2
               try clear c3
               try clear c4
               try clear c5
               try clear c6
               try clear p6
               try clear c8
               try clear c10
               try clear c13
               try clear c15
               try clear c16
               try clear p16
               try clear q16
               try clear hx16
               try clear c17
               try clear c20
               try clear c20b0
               try clear c20b1
               try clear c21
               try clear c21b0
               try clear c21b1
               try clear c32
               try clear c33
               try clear c34
               try clear c36
               try clear c36b0
               try clear c37
               try clear c37b0
               try clear c38
               try clear c39
               try clear c42
               try clear c44
               try clear c44b0
               try clear c45
               try clear c45b0
               try clear c47
               try clear c47b0
               try clear c48
               try clear c48b0
               try clear c50
               try clear c51
               try clear c54
               try clear vb
               try clear c55
               try clear c55b0
               try clear zm
               try clear zn
               try clear zo
               try clear zp
               try clear zq
               try clear zr
               try clear hcz18_0
               try clear hcz18_1
               try clear hcz18_2
               try clear hcz34_0
               try clear hcz34_1
               try clear hcz34_2
               try clear hcz40_0
               try clear hcz40_1
               try clear hcz40_2
               try clear hcz43_0
               try clear hcz43_1
               try clear hcz43_2
               try clear hcz52_0
               try clear hcz52_1
               try clear hcz52_2
               try clear zs
               try clear zt
               try clear zu
               try clear zv
               try clear zw
               try clear zx
               try clear hfz18_0
               try clear hfz18_1
               try clear hfz18_2
               try clear hfz34_0
               try clear hfz34_1
               try clear hfz34_2
               try clear hfz40_0
               try clear hfz40_1
               try clear hfz40_2
               try clear hfz43_0
               try clear hfz43_1
               try clear hfz43_2
               try clear hfz52_0
               try clear hfz52_1
               try clear hfz52_2
               try clear zf
               try clear zg
               try clear zh
               try clear p162
               try clear p163
               try clear p164
               try clear p2
               try clear p6
               try clear q162
               try clear q163
               try clear q164
               obtain⟨kq,x86_48,rfl,HA,zl,qb,qa,qc,qd,HB⟩:=hcut
               cases kq with
               | zero => exact absurd HA.out (by simp [spec_Decode.j2])
               | succ kj48 =>
                have H:=HA.out
                clear HA
                simp only [spec_Decode.j2] at H
                by_cases c56:x86_48=true
                ·subst c56
                 have H1:(some (0,0,([]:List Int),false))=some (r1,r2,r3,r4):=by rw [if_pos rfl] at H;exact H
                 clear H
                 have H:=H1
                 clear H1
                 simp only [Option.some.injEq,Prod.mk.injEq] at H
                 obtain⟨rfl,rfl,rfl,rfl⟩:=H
                 have hnb57:=yg.out
                 have hnc57:=yf.out
                 have hnb58:=qx.out
                 have hnc58:=ye.out
                 have hcz59_0:wc.cell? ⟨qi,0,none⟩=some (.int .i64 qv):=(Eh qc.out 0).trans rfl
                 have hcz59_1:wc.cell? ⟨qi,1,none⟩=some (.int .i64 qp):=(Eh qc.out 1).trans rfl
                 have hcz59_2:wc.cell? ⟨qi,2,none⟩=some (.slice none 0 0):=(Eh qc.out 2).trans rfl
                 have hfz59_0:=Ek qc.out 0
                 have hfz59_1:=Ek qc.out 1
                 have hfz59_2:=Ek qc.out 2
                 go_wp2
                 refine bodyPost_ret (results_ct rfl _ _ qi 27 #[.int .i64 0,.int .i64 0,.slice none 0 0] (0,0) _ rfl (by(with_reducible repeat(first|refine Ed ?_ _|refine Eb ?_|refine Ec ?_ _));refine blk_put (cs:=#[.int .i64 0,.int .i64 0,.slice none 0 0]) ?_ 2 _ rfl;(with_reducible repeat(first|refine Ed ?_ _|refine Eb ?_|refine Ec ?_ _));refine blk_put (cs:=#[.int .i64 0,.int .i64 qp,.slice none 0 0]) ?_ 1 _ rfl;(with_reducible repeat(first|refine Ed ?_ _|refine Eb ?_|refine Ec ?_ _));refine blk_put (cs:=#[.int .i64 qv,.int .i64 qp,.slice none 0 0]) ?_ 0 _ rfl;(with_reducible repeat(first|refine Ed ?_ _|refine Eb ?_|refine Ec ?_ _));exact qc.out) Try.underlying27 rfl (by kernel_rfl)) rfl ?_
                 exact⟨_,by first|rfl|(simp [errW_none,errW_some] <;> rfl)|(simp only [← zc,← zk];first|rfl|(simp [errW_none,errW_some] <;> rfl))|(simp [*,errW_none,errW_some] <;> rfl),by first|exact Kd.R_nil _ _ _ _ _|exact Kd.N_nil _ _ _ _ _|exact Kd.V_nil _ _ _ _ _|exact Kd.Q_nil _ _ _ _ _|exact Kd.S_nil _ _ _ _ _,by repeat(first|(with_reducible first|exact HB.out|apply Ej|apply Eg|apply Ei|refine Ee ?_ qq.out|refine Ee ?_ qt.out|refine Ee ?_ qz.out)|exact HB.out)⟩
                ·replace c56:=Bool.eq_false_iff.mpr c56
                 subst c56
                 have H1:(if 16≤35184372088832 then (spec_Decode.l1 kj48 l1 a2 (wrap64 (qj+2)) (wrap64 (Int.tdiv a0_0 4)) qn (wrap64 ((wrap64 (Int.tmod (rd l1 qj) 8)) - 2)) (((Int.tdiv (rd l1 qj) 8) % 256) - 2) (wrap64 (rd l1 (ym))) (List.replicate 16 0) 0 a0_0 a0_1 l0_2 a0_0 a0_1 qh) else (none))=some (r1,r2,r3,r4):=by rw [if_neg (show ¬ (false=true) by decide)] at H;exact H
                 clear H
                 have H:=H1
                 clear H1
                 by_cases c60:16≤35184372088832
                 ·rw [if_pos c60] at H
                  have c60b0:=eq_true c60
                  have c60b1:decide (16≤35184372088832)=true:=decide_eq_true c60
                  clear c60
                  obtain⟨y165,hy165⟩:∃ y_:List Int,y_=(List.replicate 16 0):=⟨_,rfl⟩
                  replace H:(spec_Decode.l1 kj48 l1 a2 (wrap64 (qj+2)) (wrap64 (Int.tdiv a0_0 4)) qn (wrap64 ((wrap64 (Int.tmod (rd l1 qj) 8)) - 2)) (((Int.tdiv (rd l1 qj) 8) % 256) - 2) (wrap64 (rd l1 (ym))) y165 0 a0_0 a0_1 l0_2 a0_0 a0_1 qh)=some (r1,r2,r3,r4):=by first|(rw [hy165];with_reducible exact H)|(have zi:=(Option.bind_some _ _).symm.trans H;rw [hy165];with_reducible exact zi)|(have zi:=(Option.bind_some _ _).symm.trans H;with_reducible exact zi)|with_reducible exact H|(rw [hy165];exact H)|exact H
                  have Ny165:=Ea hy165
                  clear hy165
                  have H':=Ea H
                  clear H
                  go_wp2_with (first|((with_reducible refine gate_dst (N:=88) rfl ?_);refine Kd.R_make (Kd.int .i64) _ 2 rfl (N:=88) rfl 22 _ _ rfl 16 rfl rfl Try.underlying22 (.int .i64 0) 8 info2 rfl (by decide) (by omega) 0 (ok:=fun _=>True) (okp:=fun _=>True) rfl (fun _ hk=>hk) trivial (by omega) (by omega) (Below.refl _ _) (Nat.le_refl _) ?_;intro v166 w61 ho62 hb hg_ hnew_;clear hg_ hnew_;(first|rw [← Ny165.out] at ho62|(simp only [Int.reduceToNat] at ho62;rw [← Ny165.out] at ho62));have yh:=Ea (Kd.R_elder' (by(with_reducible repeat(first|apply El|apply Em|apply Ef));exact qb.out) (Kd.R_base ho62) hb);have yi:=Ea (Kd.R_lower (Kd.R_new' ho62 (Kd.R_lt (by(with_reducible repeat(first|apply El|apply Em|apply Ef));exact qb.out))) (below_size (by repeat(first|(with_reducible first|exact HB.out|apply Ej|apply Eg|apply Ei|refine Ee ?_ qq.out|refine Ee ?_ qt.out|refine Ee ?_ qz.out)|exact HB.out))));have yj:=Ea (Eo (g:=qf) (o:=.cells #[.int .i64 a0_0,.int .i64 a0_1,.slice A0_2 l0_2.length c0_2] 27 (0,0)) (by(with_reducible repeat(first|refine Ed ?_ _|refine Eb ?_|refine Ec ?_ _));exact qa.out) hb);have yl:=Ea (Eo (g:=qi) (o:=.cells #[.int .i64 qv,.int .i64 qp,.slice none 0 0] 27 (0,0)) (by(with_reducible repeat(first|refine Ed ?_ _|refine Eb ?_|refine Ec ?_ _));exact qc.out) hb);have yp:=Ea (Eo (g:=ql) (o:=.cells #[.int .i64 a0_0,.int .i64 a0_1,qk] 27 (0,0)) (by(with_reducible repeat(first|refine Ed ?_ _|refine Eb ?_|refine Ec ?_ _));exact qd.out) hb);have ys:=Ea (below_step (by repeat(first|(with_reducible first|exact HB.out|apply Ej|apply Eg|apply Ei|refine Ee ?_ qq.out|refine Ee ?_ qt.out|refine Ee ?_ qz.out)|exact HB.out)) hb);clear qb;clear qa;clear qc;clear qd;clear HB;have qb:=yh;have HO167:=yi;have qa:=yj;have qc:=yl;have qd:=yp;have HB:=ys;clear yh yi yj yl yp ys;clear hb ho62))
                  go_loopg [9,16] kj48 (fun kq v9 v16 w'=>∃ (qu:Int) (qw:List Int) (qg:Int) (qr:Int) (qo:Int),v9=.int .i64 qu∧v16=.int .i64 qg∧Aside0 (spec_Decode.l1 kq l1 a2 qu (wrap64 (Int.tdiv a0_0 4)) qn (wrap64 ((wrap64 (Int.tmod (rd l1 qj) 8)) - 2)) (((Int.tdiv (rd l1 qj) 8) % 256) - 2) (wrap64 (rd l1 (ym))) qw qg a0_0 a0_1 l0_2 a0_0 a0_1 qh=some (r1,r2,r3,r4))∧Aside0 (kq≤kj48)∧Aside0 (Kd.R (Kd.int .i64) 2 w' w.heap.size (fun k_=>some k_≠(qk:Value).ownBlock) v166 qw)∧Aside0 (Kd.R (Kd.int .i64) 2 w' w.heap.size (fun k_=>some k_≠(v166:Value).ownBlock) qk qh)∧Aside0 (w'.heap[qf]? = some (.cells #[.int .i64 a0_0,.int .i64 a0_1,(.slice A0_2 l0_2.length c0_2)] 27 (0,0)))∧Aside0 (w'.heap[qi]? = some (.cells #[.int .i64 qr,.int .i64 qo,(.slice none 0 0)] 27 (0,0)))∧Aside0 (w'.heap[ql]? = some (.cells #[.int .i64 a0_0,.int .i64 a0_1,qk] 27 (0,0)))∧Aside0 (Below w.heap.size w w'))
                  case atStart=>exact⟨((wrap64 (qj+2))),(y165),(0),(qv),(qp),(by first|rfl|(simp;done)|(simp [*];done)),(by first|rfl|(simp;done)|(simp [*];done)),H',⟨Nat.le_refl _⟩,⟨by(with_reducible repeat(first|apply El|apply Em|apply Ef));exact Ep HO167.out (fun _ hk=>hk.2)⟩,⟨by(with_reducible repeat(first|apply El|apply Em|apply Ef));exact Ep qb.out (fun _ hk=>hk.2)⟩,⟨by(with_reducible repeat(first|refine Ed ?_ _|refine Eb ?_|refine Ec ?_ _));exact qa.out⟩,⟨by(with_reducible repeat(first|refine Ed ?_ _|refine Eb ?_|refine Ec ?_ _));exact qc.out⟩,⟨by(with_reducible repeat(first|refine Ed ?_ _|refine Eb ?_|refine Ec ?_ _));exact qd.out⟩,⟨by repeat(first|(with_reducible first|exact HB.out|apply Ej|apply Eg|apply Ei|refine Ee ?_ qq.out|refine Ee ?_ qt.out|refine Ee ?_ qz.out)|exact HB.out)⟩⟩
                  case round=>
                   clear H'
                   try clear c1
                   try clear p1
                   try clear q1
                   try clear hx1
                   try clear c2
                   try clear p2
                   try clear c3
                   try clear c4
                   try clear c5
                   try clear c6
                   try clear p6
                   try clear c8
                   try clear c10
                   try clear c13
                   try clear c15
                   try clear c16
                   try clear p16
                   try clear q16
                   try clear hx16
                   try clear c17
                   try clear c20
                   try clear c20b0
                   try clear c20b1
                   try clear c21
                   try clear c21b0
                   try clear c21b1
                   try clear c32
                   try clear c33
                   try clear c34
                   try clear c36
                   try clear c36b0
                   try clear c37
                   try clear c37b0
                   try clear c38
                   try clear c39
                   try clear c42
                   try clear c44
                   try clear c44b0
                   try clear c45
                   try clear c45b0
                   try clear c47
                   try clear c47b0
                   try clear c48
                   try clear c48b0
                   try clear c50
                   try clear c51
                   try clear c54
                   try clear vb
                   try clear c55
                   try clear c55b0
                   try clear c56
                   try clear c57
                   try clear c58
                   try clear c60
                   try clear c60b0
                   try clear c60b1
                   try clear zm
                   try clear zn
                   try clear zo
                   try clear zp
                   try clear zq
                   try clear zr
                   try clear hcz18_0
                   try clear hcz18_1
                   try clear hcz18_2
                   try clear hcz34_0
                   try clear hcz34_1
                   try clear hcz34_2
                   try clear hcz40_0
                   try clear hcz40_1
                   try clear hcz40_2
                   try clear hcz43_0
                   try clear hcz43_1
                   try clear hcz43_2
                   try clear hcz52_0
                   try clear hcz52_1
                   try clear hcz52_2
                   try clear hcz59_0
                   try clear hcz59_1
                   try clear hcz59_2
                   try clear zs
                   try clear zt
                   try clear zu
                   try clear zv
                   try clear zw
                   try clear zx
                   try clear hfz18_0
                   try clear hfz18_1
                   try clear hfz18_2
                   try clear hfz34_0
                   try clear hfz34_1
                   try clear hfz34_2
                   try clear hfz40_0
                   try clear hfz40_1
                   try clear hfz40_2
                   try clear hfz43_0
                   try clear hfz43_1
                   try clear hfz43_2
                   try clear hfz52_0
                   try clear hfz52_1
                   try clear hfz52_2
                   try clear hfz59_0
                   try clear hfz59_1
                   try clear hfz59_2
                   try clear zf
                   try clear zg
                   try clear zh
                   try clear p1
                   try clear p16
                   try clear p162
                   try clear p163
                   try clear p164
                   try clear p2
                   try clear p6
                   try clear q1
                   try clear q16
                   try clear q162
                   try clear q163
                   try clear q164
                   obtain⟨qu,qw,qg,qr,qo,rfl,rfl,HA,HK4,qe,qb,qa,qc,qd,HB⟩:=hrel
                   cases gk with
                   | zero => exact absurd HA.out (by simp [spec_Decode.l1])
                   | succ k4 =>
                    have H:=HA.out
                    clear HA
                    simp only [spec_Decode.l1] at H
                    by_cases c63:qg < (wrap64 (rd l1 (ym)))
                    ·rw [if_pos c63] at H
                     have c63b0:decide (qg < (wrap64 (rd l1 (ym))))=true:=decide_eq_true c63
                     clear c63
                     by_cases c64:qu ≥ (l1.length:Int)
                     ·rw [if_pos c64] at H
                      have c64b0:decide ((l1.length:Int)≤qu)=true:=decide_eq_true c64
                      clear c64
                      simp only [Option.some.injEq,Prod.mk.injEq] at H
                      obtain⟨rfl,rfl,rfl,rfl⟩:=H
                      have hnb65:=yg.out
                      have hnc65:=yf.out
                      have hnb66:=qx.out
                      have hnc66:=ye.out
                      have hcz67_0:wr.cell? ⟨qi,0,none⟩=some (.int .i64 qr):=(Eh qc.out 0).trans rfl
                      have hcz67_1:wr.cell? ⟨qi,1,none⟩=some (.int .i64 qo):=(Eh qc.out 1).trans rfl
                      have hcz67_2:wr.cell? ⟨qi,2,none⟩=some (.slice none 0 0):=(Eh qc.out 2).trans rfl
                      have hfz67_0:=Ek qc.out 0
                      have hfz67_1:=Ek qc.out 1
                      have hfz67_2:=Ek qc.out 2
                      go_wp2
                      refine bodyPost_ret (results_ct rfl _ _ qi 27 #[.int .i64 0,.int .i64 0,.slice none 0 0] (0,0) _ rfl (by(with_reducible repeat(first|refine Ed ?_ _|refine Eb ?_|refine Ec ?_ _));refine blk_put (cs:=#[.int .i64 0,.int .i64 0,.slice none 0 0]) ?_ 2 _ rfl;(with_reducible repeat(first|refine Ed ?_ _|refine Eb ?_|refine Ec ?_ _));refine blk_put (cs:=#[.int .i64 0,.int .i64 qo,.slice none 0 0]) ?_ 1 _ rfl;(with_reducible repeat(first|refine Ed ?_ _|refine Eb ?_|refine Ec ?_ _));refine blk_put (cs:=#[.int .i64 qr,.int .i64 qo,.slice none 0 0]) ?_ 0 _ rfl;(with_reducible repeat(first|refine Ed ?_ _|refine Eb ?_|refine Ec ?_ _));exact qc.out) Try.underlying27 rfl (by kernel_rfl)) rfl ?_
                      exact⟨_,by first|rfl|(simp [errW_none,errW_some] <;> rfl)|(simp only [← zc,← zk];first|rfl|(simp [errW_none,errW_some] <;> rfl))|(simp [*,errW_none,errW_some] <;> rfl),by first|exact Kd.R_nil _ _ _ _ _|exact Kd.N_nil _ _ _ _ _|exact Kd.V_nil _ _ _ _ _|exact Kd.Q_nil _ _ _ _ _|exact Kd.S_nil _ _ _ _ _,by repeat(first|(with_reducible first|exact HB.out|apply Ej|apply Eg|apply Ei|refine Ee ?_ qq.out|refine Ee ?_ qt.out|refine Ee ?_ qz.out)|exact HB.out)⟩
                     ·rw [if_neg c64] at H
                      have c64b0:decide ((l1.length:Int)≤qu)=false:=decide_eq_false c64
                      clear c64
                      by_cases c68:0≤qu
                      ·rw [if_pos c68] at H
                       have c68b0:decide (0≤qu)=true:=decide_eq_true c68
                       clear c68
                       by_cases c69:qu < (l1.length:Int)
                       ·rw [if_pos c69] at H
                        have c69b0:decide (qu < (l1.length:Int))=true:=decide_eq_true c69
                        clear c69
                        by_cases c70:(wrap64 (rd l1 qu))=255
                        ·rw [if_pos c70] at H
                         have c70b0:((wrap64 (rd l1 qu)) == 255)=true:=beq_iff_eq.mpr c70
                         have c70b1:((wrap64 (rd l1 qu)) != 255)=false:=bne_eq_false_iff_eq.mpr c70
                         clear c70
                         by_cases c71:(wrap64 ((wrap64 (qu+1))+2)) > (l1.length:Int)
                         ·rw [if_pos c71] at H
                          have c71b0:decide ((l1.length:Int) < (wrap64 ((wrap64 (qu+1))+2)))=true:=decide_eq_true c71
                          clear c71
                          simp only [Option.some.injEq,Prod.mk.injEq] at H
                          obtain⟨rfl,rfl,rfl,rfl⟩:=H
                          have yv:0≤(qu:Int):=of_decide_eq_true (by first|(with_reducible assumption)|assumption)
                          have yw:qu < (l1.length:Int):=of_decide_eq_true (by first|(with_reducible assumption)|assumption)
                          obtain⟨zb,e168,yc⟩:=Kd.at_int HR1.out qu yv yw
                          obtain rfl:yq=zb:=(by injection e168)
                          replace yc:=(HB.out.cell (World.block_lt_of_cell? w _ yc)).trans yc
                          replace yv:=eq_true yv
                          replace yw:=eq_true yw
                          have hnb72:=yg.out
                          have hnc72:=yf.out
                          have hnb73:=qx.out
                          have hnc73:=ye.out
                          have hcz74_0:wr.cell? ⟨qi,0,none⟩=some (.int .i64 qr):=(Eh qc.out 0).trans rfl
                          have hcz74_1:wr.cell? ⟨qi,1,none⟩=some (.int .i64 qo):=(Eh qc.out 1).trans rfl
                          have hcz74_2:wr.cell? ⟨qi,2,none⟩=some (.slice none 0 0):=(Eh qc.out 2).trans rfl
                          have hfz74_0:=Ek qc.out 0
                          have hfz74_1:=Ek qc.out 1
                          have hfz74_2:=Ek qc.out 2
                          go_wp2
                          refine bodyPost_ret (results_ct rfl _ _ qi 27 #[.int .i64 0,.int .i64 0,.slice none 0 0] (0,0) _ rfl (by(with_reducible repeat(first|refine Ed ?_ _|refine Eb ?_|refine Ec ?_ _));refine blk_put (cs:=#[.int .i64 0,.int .i64 0,.slice none 0 0]) ?_ 2 _ rfl;(with_reducible repeat(first|refine Ed ?_ _|refine Eb ?_|refine Ec ?_ _));refine blk_put (cs:=#[.int .i64 0,.int .i64 qo,.slice none 0 0]) ?_ 1 _ rfl;(with_reducible repeat(first|refine Ed ?_ _|refine Eb ?_|refine Ec ?_ _));refine blk_put (cs:=#[.int .i64 qr,.int .i64 qo,.slice none 0 0]) ?_ 0 _ rfl;(with_reducible repeat(first|refine Ed ?_ _|refine Eb ?_|refine Ec ?_ _));exact qc.out) Try.underlying27 rfl (by kernel_rfl)) rfl ?_
                          exact⟨_,by first|rfl|(simp [errW_none,errW_some] <;> rfl)|(simp only [← zc,← zk];first|rfl|(simp [errW_none,errW_some] <;> rfl))|(simp [*,errW_none,errW_some] <;> rfl),by first|exact Kd.R_nil _ _ _ _ _|exact Kd.N_nil _ _ _ _ _|exact Kd.V_nil _ _ _ _ _|exact Kd.Q_nil _ _ _ _ _|exact Kd.S_nil _ _ _ _ _,by repeat(first|(with_reducible first|exact HB.out|apply Ej|apply Eg|apply Ei|refine Ee ?_ qq.out|refine Ee ?_ qt.out|refine Ee ?_ qz.out)|exact HB.out)⟩
                         ·rw [if_neg c71] at H
                          have c71b0:decide ((l1.length:Int) < (wrap64 ((wrap64 (qu+1))+2)))=false:=decide_eq_false c71
                          clear c71
                          obtain⟨yb,vi⟩:∃ j_:Int,(wrap64 (qu+1))=j_:=⟨_,rfl⟩
                          replace H:(if 0≤(yb) then (if (yb) < (l1.length:Int) then (if 0≤(wrap64 ((yb)+1)) then (if (wrap64 ((yb)+1)) < (l1.length:Int) then (if 0≤qg then (if qg < (qw.length:Int) then ((some (qw.set (qg:Int).toNat (wrap64 (Int.tdiv (wrap64 ((wrap64 ((wrap64 (rd l1 (yb)))*256))+(wrap64 (rd l1 (wrap64 ((yb)+1)))))) 2)):List Int)).bind fun za=>(if (Int.tmod (wrap64 ((wrap64 ((wrap64 (rd l1 (yb)))*256))+(wrap64 (rd l1 (wrap64 ((yb)+1)))))) 2)=1 then (spec_Decode.l1 k4 l1 a2 (wrap64 ((yb)+2)) (wrap64 (Int.tdiv a0_0 4)) qn (wrap64 ((wrap64 (Int.tmod (rd l1 qj) 8)) - 2)) (((Int.tdiv (rd l1 qj) 8) % 256) - 2) (wrap64 (rd l1 (ym))) (za.set (qg:Int).toNat (wrap64 (Int.tdiv (wrap64 (-(wrap64 ((wrap64 ((wrap64 ((wrap64 (rd l1 (yb)))*256))+(wrap64 (rd l1 (wrap64 ((yb)+1))))))+1)))) 2))) (wrap64 (qg+1)) a0_0 a0_1 l0_2 a0_0 a0_1 qh) else (spec_Decode.l1 k4 l1 a2 (wrap64 ((yb)+2)) (wrap64 (Int.tdiv a0_0 4)) qn (wrap64 ((wrap64 (Int.tmod (rd l1 qj) 8)) - 2)) (((Int.tdiv (rd l1 qj) 8) % 256) - 2) (wrap64 (rd l1 (ym))) za (wrap64 (qg+1)) a0_0 a0_1 l0_2 a0_0 a0_1 qh))) else (none)) else (none)) else (none)) else (none)) else (none)) else (none))=some (r1,r2,r3,r4):=by first|(rw [vi] at H;exact H)|(simp only [vi] at H ⊢;exact H)
                          (try rw [vi] at c71b0)
                          have hji75w:(IntKind.i64.wrap (qu+1))=yb:=(i64_w _).trans vi
                          by_cases c76:0≤(yb)
                          ·rw [if_pos c76] at H
                           have c76b0:decide (0≤(yb))=true:=decide_eq_true c76
                           clear c76
                           by_cases c77:(yb) < (l1.length:Int)
                           ·rw [if_pos c77] at H
                            have c77b0:decide ((yb) < (l1.length:Int))=true:=decide_eq_true c77
                            clear c77
                            obtain⟨yk,hji78⟩:∃ j_:Int,(wrap64 ((yb)+1))=j_:=⟨_,rfl⟩
                            replace H:(if 0≤(yk) then (if (yk) < (l1.length:Int) then (if 0≤qg then (if qg < (qw.length:Int) then ((some (qw.set (qg:Int).toNat (wrap64 (Int.tdiv (wrap64 ((wrap64 ((wrap64 (rd l1 (yb)))*256))+(wrap64 (rd l1 (yk))))) 2)):List Int)).bind fun za=>(if (Int.tmod (wrap64 ((wrap64 ((wrap64 (rd l1 (yb)))*256))+(wrap64 (rd l1 (yk))))) 2)=1 then (spec_Decode.l1 k4 l1 a2 (wrap64 ((yb)+2)) (wrap64 (Int.tdiv a0_0 4)) qn (wrap64 ((wrap64 (Int.tmod (rd l1 qj) 8)) - 2)) (((Int.tdiv (rd l1 qj) 8) % 256) - 2) (wrap64 (rd l1 (ym))) (za.set (qg:Int).toNat (wrap64 (Int.tdiv (wrap64 (-(wrap64 ((wrap64 ((wrap64 ((wrap64 (rd l1 (yb)))*256))+(wrap64 (rd l1 (yk)))))+1)))) 2))) (wrap64 (qg+1)) a0_0 a0_1 l0_2 a0_0 a0_1 qh) else (spec_Decode.l1 k4 l1 a2 (wrap64 ((yb)+2)) (wrap64 (Int.tdiv a0_0 4)) qn (wrap64 ((wrap64 (Int.tmod (rd l1 qj) 8)) - 2)) (((Int.tdiv (rd l1 qj) 8) % 256) - 2) (wrap64 (rd l1 (ym))) za (wrap64 (qg+1)) a0_0 a0_1 l0_2 a0_0 a0_1 qh))) else (none)) else (none)) else (none)) else (none))=some (r1,r2,r3,r4):=by first|(rw [hji78] at H;exact H)|(simp only [hji78] at H ⊢;exact H)
                            have hji78w:(IntKind.i64.wrap ((yb)+1))=yk:=(i64_w _).trans hji78
                            by_cases c79:0≤(yk)
                            ·rw [if_pos c79] at H
                             have c79b0:decide (0≤(yk))=true:=decide_eq_true c79
                             clear c79
                             by_cases c80:(yk) < (l1.length:Int)
                             ·rw [if_pos c80] at H
                              have c80b0:decide ((yk) < (l1.length:Int))=true:=decide_eq_true c80
                              clear c80
                              by_cases c81:0≤qg
                              ·rw [if_pos c81] at H
                               have c81b0:decide (0≤qg)=true:=decide_eq_true c81
                               clear c81
                               by_cases c82:qg < (qw.length:Int)
                               ·rw [if_pos c82] at H
                                have c82b0:decide (qg < (qw.length:Int))=true:=decide_eq_true c82
                                clear c82
                                obtain⟨za,hy171⟩:∃ y_:List Int,y_=(qw.set (qg:Int).toNat (wrap64 (Int.tdiv (wrap64 ((wrap64 ((wrap64 (rd l1 (yb)))*256))+(wrap64 (rd l1 (yk))))) 2))):=⟨_,rfl⟩
                                replace H:(if (Int.tmod (wrap64 ((wrap64 ((wrap64 (rd l1 (yb)))*256))+(wrap64 (rd l1 (yk))))) 2)=1 then (spec_Decode.l1 k4 l1 a2 (wrap64 ((yb)+2)) (wrap64 (Int.tdiv a0_0 4)) qn (wrap64 ((wrap64 (Int.tmod (rd l1 qj) 8)) - 2)) (((Int.tdiv (rd l1 qj) 8) % 256) - 2) (wrap64 (rd l1 (ym))) (za.set (qg:Int).toNat (wrap64 (Int.tdiv (wrap64 (-(wrap64 ((wrap64 ((wrap64 ((wrap64 (rd l1 (yb)))*256))+(wrap64 (rd l1 (yk)))))+1)))) 2))) (wrap64 (qg+1)) a0_0 a0_1 l0_2 a0_0 a0_1 qh) else (spec_Decode.l1 k4 l1 a2 (wrap64 ((yb)+2)) (wrap64 (Int.tdiv a0_0 4)) qn (wrap64 ((wrap64 (Int.tmod (rd l1 qj) 8)) - 2)) (((Int.tdiv (rd l1 qj) 8) % 256) - 2) (wrap64 (rd l1 (ym))) za (wrap64 (qg+1)) a0_0 a0_1 l0_2 a0_0 a0_1 qh))=some (r1,r2,r3,r4):=by first|(rw [hy171];with_reducible exact H)|(have zi:=(Option.bind_some _ _).symm.trans H;rw [hy171];with_reducible exact zi)|(have zi:=(Option.bind_some _ _).symm.trans H;with_reducible exact zi)|with_reducible exact H|(rw [hy171];exact H)|exact H
                                have Ny171:=Ea hy171
                                clear hy171
                                by_cases c84:(Int.tmod (wrap64 ((wrap64 ((wrap64 (rd l1 (yb)))*256))+(wrap64 (rd l1 (yk))))) 2)=1
                                ·rw [if_pos c84] at H
                                 have c84b0:((Int.tmod (wrap64 ((wrap64 ((wrap64 (rd l1 (yb)))*256))+(wrap64 (rd l1 (yk))))) 2) == 1)=true:=beq_iff_eq.mpr c84
                                 have c84b1:((Int.tmod (wrap64 ((wrap64 ((wrap64 (rd l1 (yb)))*256))+(wrap64 (rd l1 (yk))))) 2) != 1)=false:=bne_eq_false_iff_eq.mpr c84
                                 clear c84
                                 obtain⟨y172,hy172⟩:∃ y_:List Int,y_=(za.set (qg:Int).toNat (wrap64 (Int.tdiv (wrap64 (-(wrap64 ((wrap64 ((wrap64 ((wrap64 (rd l1 (yb)))*256))+(wrap64 (rd l1 (yk)))))+1)))) 2))):=⟨_,rfl⟩
                                 replace H:(spec_Decode.l1 k4 l1 a2 (wrap64 ((yb)+2)) (wrap64 (Int.tdiv a0_0 4)) qn (wrap64 ((wrap64 (Int.tmod (rd l1 qj) 8)) - 2)) (((Int.tdiv (rd l1 qj) 8) % 256) - 2) (wrap64 (rd l1 (ym))) y172 (wrap64 (qg+1)) a0_0 a0_1 l0_2 a0_0 a0_1 qh)=some (r1,r2,r3,r4):=by first|(rw [hy172];with_reducible exact H)|(have zi:=(Option.bind_some _ _).symm.trans H;rw [hy172];with_reducible exact zi)|(have zi:=(Option.bind_some _ _).symm.trans H;with_reducible exact zi)|with_reducible exact H|(rw [hy172];exact H)|exact H
                                 have Ny172:=Ea hy172
                                 clear hy172
                                 have H':=Ea H
                                 clear H
                                 have yv:0≤(qu:Int):=of_decide_eq_true (by first|(with_reducible assumption)|assumption)
                                 have yw:qu < (l1.length:Int):=of_decide_eq_true (by first|(with_reducible assumption)|assumption)
                                 obtain⟨zb,e168,yc⟩:=Kd.at_int HR1.out qu yv yw
                                 obtain rfl:yq=zb:=(by injection e168)
                                 replace yc:=(HB.out.cell (World.block_lt_of_cell? w _ yc)).trans yc
                                 replace yv:=eq_true yv
                                 replace yw:=eq_true yw
                                 try go_wp2
                                 have yh:=Ea (Ef qe.out)
                                 have yi:=Ea (Ef qb.out)
                                 have yj:=Ea (Eb qa.out)
                                 have yl:=Ea (Eb qc.out)
                                 have yp:=Ea (Eb qd.out)
                                 have ys:=Ea (Ei HB.out)
                                 clear qe
                                 clear qb
                                 clear qa
                                 clear qc
                                 clear qd
                                 clear HB
                                 have qe:=yh
                                 have qb:=yi
                                 have qa:=yj
                                 have qc:=yl
                                 have qd:=yp
                                 have HB:=ys
                                 clear yh yi yj yl yp ys
                                 have p169:0≤((yb):Int):=of_decide_eq_true (by first|(with_reducible assumption)|assumption)
                                 have q169:(yb) < (l1.length:Int):=of_decide_eq_true (by first|(with_reducible assumption)|assumption)
                                 obtain⟨ad169,e169,yn⟩:=Kd.at_int HR1.out (yb) p169 q169
                                 have zd:=yn
                                 obtain rfl:yq=ad169:=(by injection e169)
                                 replace yn:=(HB.out.cell (World.block_lt_of_cell? w _ yn)).trans yn
                                 replace p169:=eq_true p169
                                 replace q169:=eq_true q169
                                 have p170:0≤((yk):Int):=of_decide_eq_true (by first|(with_reducible assumption)|assumption)
                                 have q170:(yk) < (l1.length:Int):=of_decide_eq_true (by first|(with_reducible assumption)|assumption)
                                 obtain⟨ad170,e170,yo⟩:=Kd.at_int HR1.out (yk) p170 q170
                                 have ze:=yo
                                 obtain rfl:yq=ad170:=(by injection e170)
                                 replace yo:=(HB.out.cell (World.block_lt_of_cell? w _ yo)).trans yo
                                 replace p170:=eq_true p170
                                 replace q170:=eq_true q170
                                 refine start_ (n:=14) (S:=fun w'=>w'.cell? (yq.add ((yb)).toNat)=some (.int .u8 (rd l1 (yb)))∧w'.cell? (yq.add ((yk)).toNat)=some (.int .u8 (rd l1 (yk)))) (ds:=[]) #[false,false,false,false,false,false,false,false,false,false,false,false,false,false] (by kernel_rfl) rfl rfl ⟨((HB.out.cell (World.block_lt_of_cell? w _ zd)).trans zd),((HB.out.cell (World.block_lt_of_cell? w _ ze)).trans ze)⟩ (fun ya=>?_);refine with_tabW spec_Decode.tab28 spec_Decode.bits28 (fun HT_ HW_=>?_)
                                 generalize wr.drew=w86 at qe qb qa qc qd HB yn yo ya ⊢
                                 refine pure_ (i:=0) (N:=some 114) (v:=?_) (a':=?_) #[true,false,false,false,false,false,false,false,false,false,false,false,false,false] rfl rfl (En HT_.out (by kernel_rfl)) (fun _ _ _ h=>h) (Or.inl ⟨by rfl,?_⟩) ?_ ?_
                                 rotate_left
                                 ·intro w'
                                  go_simp
                                  with_reducible rfl
                                 rotate_left
                                 ·simp only [Act.put,List.setIfInBounds_toArray,List.set_cons_zero,List.set_cons_succ,i64_w,i32_w]
                                  rfl
                                 refine pure_ (i:=1) (N:=some 115) (v:=?_) (a':=?_) #[true,true,false,false,false,false,false,false,false,false,false,false,false,false] rfl rfl (En HT_.out (by kernel_rfl)) (fun _ _ _ h=>h) (Or.inl ⟨by rfl,?_⟩) ?_ ?_
                                 rotate_left
                                 ·intro w'
                                  go_simp
                                  with_reducible rfl
                                 rotate_left
                                 ·simp only [Act.put,List.setIfInBounds_toArray,List.set_cons_zero,List.set_cons_succ,i64_w,i32_w]
                                  rfl
                                 refine pure_ (i:=2) (N:=some 116) (v:=?_) (a':=?_) #[true,true,true,false,false,false,false,false,false,false,false,false,false,false] rfl rfl (En HT_.out (by kernel_rfl)) (fun _ _ _ h=>h) (Or.inl ⟨by rfl,?_⟩) ?_ ?_
                                 rotate_left
                                 ·intro w'
                                  go_simp
                                  with_reducible rfl
                                 rotate_left
                                 ·simp only [Act.put,List.setIfInBounds_toArray,List.set_cons_zero,List.set_cons_succ,i64_w,i32_w]
                                  rfl
                                 refine pure_ (i:=6) (N:=some 120) (v:=?_) (a':=?_) #[true,true,true,false,false,false,true,false,false,false,false,false,false,false] rfl rfl (En HT_.out (by kernel_rfl)) (fun _ _ _ h=>h) (Or.inl ⟨by rfl,?_⟩) ?_ ?_
                                 rotate_left
                                 ·intro w'
                                  go_simp
                                  with_reducible rfl
                                 rotate_left
                                 ·simp only [Act.put,List.setIfInBounds_toArray,List.set_cons_zero,List.set_cons_succ,i64_w,i32_w]
                                  rfl
                                 refine pure_ (i:=7) (N:=some 121) (v:=?_) (a':=?_) #[true,true,true,false,false,false,true,true,false,false,false,false,false,false] rfl rfl (En HT_.out (by kernel_rfl)) (fun _ _ _ h=>h) (Or.inl ⟨by rfl,?_⟩) ?_ ?_
                                 rotate_left
                                 ·intro w'
                                  go_simp
                                  with_reducible rfl
                                 rotate_left
                                 ·simp only [Act.put,List.setIfInBounds_toArray,List.set_cons_zero,List.set_cons_succ,i64_w,i32_w]
                                  rfl
                                 refine pure_ (i:=8) (N:=some 122) (v:=?_) (a':=?_) #[true,true,true,false,false,false,true,true,true,false,false,false,false,false] rfl rfl (En HT_.out (by kernel_rfl)) (fun _ _ _ h=>h) (Or.inl ⟨by rfl,?_⟩) ?_ ?_
                                 rotate_left
                                 ·intro w'
                                  go_simp
                                  with_reducible rfl
                                 rotate_left
                                 ·simp only [Act.put,List.setIfInBounds_toArray,List.set_cons_zero,List.set_cons_succ,i64_w,i32_w]
                                  rfl
                                 refine pure_ (i:=9) (N:=some 123) (v:=?_) (a':=?_) #[true,true,true,false,false,false,true,true,true,true,false,false,false,false] rfl rfl (En HT_.out (by kernel_rfl)) (fun _ _ _ h=>h) (Or.inl ⟨by rfl,?_⟩) ?_ ?_
                                 rotate_left
                                 ·intro w'
                                  go_simp
                                  with_reducible rfl
                                 rotate_left
                                 ·simp only [Act.put,List.setIfInBounds_toArray,List.set_cons_zero,List.set_cons_succ,i64_w,i32_w]
                                  rfl
                                 refine take_ (i:=3) (N:=some 117) (v:=?_) (a':=?_) #[true,true,true,true,false,false,true,true,true,true,false,false,false,false] rfl rfl (take_ofW HT_.out HW_.out (by kernel_rfl)) (fun _ _ _ h=>h) (Or.inl ⟨by rfl,?_⟩) ya ?_ ?_
                                 rotate_left
                                 ·rintro w' ⟨s0,s1⟩
                                  go_simp
                                  with_reducible rfl
                                 rotate_left
                                 ·simp only [Act.put,List.setIfInBounds_toArray,List.set_cons_zero,List.set_cons_succ,i64_w,i32_w]
                                  rfl
                                 refine pure_ (i:=4) (N:=some 118) (v:=?_) (a':=?_) #[true,true,true,true,true,false,true,true,true,true,false,false,false,false] rfl rfl (En HT_.out (by kernel_rfl)) (fun _ _ _ h=>h) (Or.inl ⟨by rfl,?_⟩) ?_ ?_
                                 rotate_left
                                 ·intro w'
                                  go_simp
                                  with_reducible rfl
                                 rotate_left
                                 ·simp only [Act.put,List.setIfInBounds_toArray,List.set_cons_zero,List.set_cons_succ,i64_w,i32_w]
                                  rfl
                                 refine pure_ (i:=5) (N:=some 119) (v:=?_) (a':=?_) #[true,true,true,true,true,true,true,true,true,true,false,false,false,false] rfl rfl (En HT_.out (by kernel_rfl)) (fun _ _ _ h=>h) (Or.inl ⟨by rfl,?_⟩) ?_ ?_
                                 rotate_left
                                 ·intro w'
                                  go_simp
                                  with_reducible rfl
                                 rotate_left
                                 ·simp only [Act.put,List.setIfInBounds_toArray,List.set_cons_zero,List.set_cons_succ,i64_w,i32_w]
                                  rfl
                                 refine take_ (i:=10) (N:=some 124) (v:=?_) (a':=?_) #[true,true,true,true,true,true,true,true,true,true,true,false,false,false] rfl rfl (take_ofW HT_.out HW_.out (by kernel_rfl)) (fun _ _ _ h=>h) (Or.inl ⟨by rfl,?_⟩) ya ?_ ?_
                                 rotate_left
                                 ·rintro w' ⟨s0,s1⟩
                                  go_simp
                                  with_reducible rfl
                                 rotate_left
                                 ·simp only [Act.put,List.setIfInBounds_toArray,List.set_cons_zero,List.set_cons_succ,i64_w,i32_w]
                                  rfl
                                 refine pure_ (i:=11) (N:=some 125) (v:=?_) (a':=?_) #[true,true,true,true,true,true,true,true,true,true,true,true,false,false] rfl rfl (En HT_.out (by kernel_rfl)) (fun _ _ _ h=>h) (Or.inl ⟨by rfl,?_⟩) ?_ ?_
                                 rotate_left
                                 ·intro w'
                                  go_simp
                                  with_reducible rfl
                                 rotate_left
                                 ·simp only [Act.put,List.setIfInBounds_toArray,List.set_cons_zero,List.set_cons_succ,i64_w,i32_w]
                                  rfl
                                 refine pure_ (i:=12) (N:=some 126) (v:=?_) (a':=?_) #[true,true,true,true,true,true,true,true,true,true,true,true,true,false] rfl rfl (En HT_.out (by kernel_rfl)) (fun _ _ _ h=>h) (Or.inl ⟨by rfl,?_⟩) ?_ ?_
                                 rotate_left
                                 ·intro w'
                                  go_simp
                                  with_reducible rfl
                                 rotate_left
                                 ·simp only [Act.put,List.setIfInBounds_toArray,List.set_cons_zero,List.set_cons_succ,i64_w,i32_w]
                                  rfl
                                 refine pure_ (i:=13) (N:=some 17) (v:=?_) (a':=?_) #[true,true,true,true,true,true,true,true,true,true,true,true,true,true] rfl rfl (En HT_.out (by kernel_rfl)) (fun _ _ _ h=>h) (Or.inl ⟨by rfl,?_⟩) ?_ ?_
                                 rotate_left
                                 ·intro w'
                                  go_simp
                                  with_reducible rfl
                                 rotate_left
                                 ·simp only [Act.put,List.setIfInBounds_toArray,List.set_cons_zero,List.set_cons_succ,i64_w,i32_w]
                                  rfl
                                 refine done_ (done_of HT_.out (by kernel_rfl)) ?_
                                 have p83:0≤(qg:Int):=of_decide_eq_true (by first|(with_reducible assumption)|assumption)
                                 have q83:(qg:Int) < ((qw.length:Int):Int):=of_decide_eq_true (by first|(with_reducible assumption)|assumption)
                                 obtain⟨yy,vf,eo83,gb83,gl83,cl83,HG83⟩:=Kd.R_form qe.out (by omega)
                                 (first|cases eo83|(injection eo83 with ea_ en_ ec_;(first|subst ea_|(injection ea_ with ea_;subst ea_));subst ec_;clear en_))
                                 have GB83:=Ea gb83
                                 have GG83:=Ea HG83
                                 clear gb83 gl83 HG83
                                 obtain⟨hx83_0,hf83_0⟩:=Kd.R_celln 0 qe.out (qg:Int) p83 q83
                                 replace p83:=eq_true p83
                                 replace q83:=eq_true q83
                                 obtain⟨hy87_,hz87_⟩:=Kd.R_celln 0 qe.out (qg:Int) (of_decide_eq_true (by first|(with_reducible assumption)|assumption)) (of_decide_eq_true (by first|(with_reducible assumption)|assumption))
                                 have HP87:=Kd.R_putg qe.out (qg:Int) (wrap64 (Int.tdiv (wrap64 ((wrap64 ((wrap64 (rd l1 (yb)))*256))+(wrap64 (rd l1 (yk))))) 2))
                                 try go_wp2_with (first|((with_reducible refine gate_store (t:=2) (p:=133) rfl ?_);refine store_event (t:=2) (p:=133) (v:=?vo_w88) (w1:=(w86.setCell ⟨yy,(qg:Int).toNat,none⟩ (.int .i64 (wrap64 (Int.tdiv (wrap64 ((wrap64 ((wrap64 (rd l1 (yb)))*256))+(wrap64 (rd l1 (yk))))) 2))))) ?hg ?ho ?hn ?hr ?_;(case ho=>rfl);(case hg=>rfl);(case hn=>rfl);(case hr=>first|(go_simp;done)|(go_simp;rfl));intro w88 hw;have hg:w86.grownBy w88 (some yy):=(by rw [hw];exact HP87.2);have hp_:Kd.R (Kd.int .i64) 2 w88 w.heap.size (fun k_=>some k_≠(qk:Value).ownBlock) (.slice (some ⟨yy,0,none⟩) qw.length vf) za:=(by rw [hw,Ny171.out];exact HP87.1);clear HP87;have yh:=Ea (hp_);have yi:=Ea (Kd.R_after (v:=(.slice (some ⟨yy,0,none⟩) qw.length vf)) (v1:=(.slice (some ⟨yy,0,none⟩) qw.length vf)) (ok:=(fun _=>True)) (by(with_reducible repeat(first|apply El|apply Em|apply Ef));exact Ep qb.out (fun _ hk=>⟨trivial,hk⟩)) hg (.inl rfl));have yj:=Ea (blk_grown (g:=qf) (o:=.cells #[.int .i64 a0_0,.int .i64 a0_1,.slice A0_2 l0_2.length c0_2] 27 (0,0)) (by(with_reducible repeat(first|refine Ed ?_ _|refine Eb ?_|refine Ec ?_ _));exact qa.out) hg (Kd.R_ne qe.out qa.out (by decide)));have yl:=Ea (blk_grown (g:=qi) (o:=.cells #[.int .i64 qr,.int .i64 qo,.slice none 0 0] 27 (0,0)) (by(with_reducible repeat(first|refine Ed ?_ _|refine Eb ?_|refine Ec ?_ _));exact qc.out) hg (Kd.R_ne qe.out qc.out (by decide)));have yp:=Ea (blk_grown (g:=ql) (o:=.cells #[.int .i64 a0_0,.int .i64 a0_1,qk] 27 (0,0)) (by(with_reducible repeat(first|refine Ed ?_ _|refine Eb ?_|refine Ec ?_ _));exact qd.out) hg (Kd.R_ne qe.out qd.out (by decide)));have ys:=Ea ((by rw [hw];exact Ee (HB.out) GB83.out:Below w.heap.size w w88));clear qe;clear qb;clear qa;clear qc;clear qd;clear HB;have qe:=yh;have qb:=yi;have qa:=yj;have qc:=yl;have qd:=yp;have HB:=ys;clear yh yi yj yl yp ys;clear hg hw hp_;have p85:0≤(qg:Int):=of_decide_eq_true (by first|(with_reducible assumption)|assumption);have q85:(qg:Int) < ((qw.length:Int):Int):=of_decide_eq_true (by first|(with_reducible assumption)|assumption);obtain⟨hx85_0,hf85_0⟩:=Kd.R_celln 0 qe.out (qg:Int) p85 q85;replace p85:=eq_true p85;replace q85:=eq_true q85;obtain⟨hy89_,hz89_⟩:=Kd.R_celln 0 qe.out (qg:Int) (of_decide_eq_true (by first|(with_reducible assumption)|assumption)) (of_decide_eq_true (by first|(with_reducible assumption)|assumption));have HP89:=Kd.R_putg qe.out (qg:Int) (wrap64 (Int.tdiv (wrap64 (-(wrap64 ((wrap64 ((wrap64 ((wrap64 (rd l1 (yb)))*256))+(wrap64 (rd l1 (yk)))))+1)))) 2)))|((with_reducible refine gate_store (t:=2) (p:=143) rfl ?_);refine store_event (t:=2) (p:=143) (v:=?vo_w90) (w1:=(w88.setCell ⟨yy,(qg:Int).toNat,none⟩ (.int .i64 (wrap64 (Int.tdiv (wrap64 (-(wrap64 ((wrap64 ((wrap64 ((wrap64 (rd l1 (yb)))*256))+(wrap64 (rd l1 (yk)))))+1)))) 2))))) ?hg ?ho ?hn ?hr ?_;(case ho=>rfl);(case hg=>rfl);(case hn=>rfl);(case hr=>first|(go_simp;done)|(go_simp;rfl));intro w90 hw;have hg:w88.grownBy w90 (some yy):=(by rw [hw];exact HP89.2);have hp_:Kd.R (Kd.int .i64) 2 w90 w.heap.size (fun k_=>some k_≠(qk:Value).ownBlock) (.slice (some ⟨yy,0,none⟩) qw.length vf) y172:=(by rw [hw,Ny172.out];exact HP89.1);clear HP89;have yh:=Ea (hp_);have yi:=Ea (Kd.R_after (v:=(.slice (some ⟨yy,0,none⟩) qw.length vf)) (v1:=(.slice (some ⟨yy,0,none⟩) qw.length vf)) (ok:=(fun _=>True)) (by(with_reducible repeat(first|apply El|apply Em|apply Ef));exact qb.out) hg (.inl rfl));have yj:=Ea (blk_grown (g:=qf) (o:=.cells #[.int .i64 a0_0,.int .i64 a0_1,.slice A0_2 l0_2.length c0_2] 27 (0,0)) (by(with_reducible repeat(first|refine Ed ?_ _|refine Eb ?_|refine Ec ?_ _));exact qa.out) hg (Kd.R_ne qe.out qa.out (by decide)));have yl:=Ea (blk_grown (g:=qi) (o:=.cells #[.int .i64 qr,.int .i64 qo,.slice none 0 0] 27 (0,0)) (by(with_reducible repeat(first|refine Ed ?_ _|refine Eb ?_|refine Ec ?_ _));exact qc.out) hg (Kd.R_ne qe.out qc.out (by decide)));have yp:=Ea (blk_grown (g:=ql) (o:=.cells #[.int .i64 a0_0,.int .i64 a0_1,qk] 27 (0,0)) (by(with_reducible repeat(first|refine Ed ?_ _|refine Eb ?_|refine Ec ?_ _));exact qd.out) hg (Kd.R_ne qe.out qd.out (by decide)));have ys:=Ea ((by rw [hw];exact Ee (HB.out) GB83.out:Below w.heap.size w w90));clear qe;clear qb;clear qa;clear qc;clear qd;clear HB;have qe:=yh;have qb:=yi;have qa:=yj;have qc:=yl;have qd:=yp;have HB:=ys;clear yh yi yj yl yp ys;clear hg hw hp_))
                                 go_roundg k4
                                 case measure=>have:=HJ3.out;have:=HK2.out;have:=zl.out;have:=HK4.out;omega
                                 case rel=>exact⟨(wrap64 ((yb)+2)),(y172),(wrap64 (qg+1)),(qr),(qo),(by first|rfl|(simp;done)|(simp only [← vi] <;> (first|rfl|simp))|(simp [*];done)),(by first|rfl|(simp;done)|(simp [*];done)),H',⟨by have:=HJ3.out;have:=HK2.out;have:=zl.out;have:=HK4.out;omega⟩,⟨by(with_reducible repeat(first|apply El|apply Em|apply Ef));exact qe.out⟩,⟨by(with_reducible repeat(first|apply El|apply Em|apply Ef));exact Ep qb.out (fun _ hk=>hk.2)⟩,⟨by(with_reducible repeat(first|refine Ed ?_ _|refine Eb ?_|refine Ec ?_ _));exact qa.out⟩,⟨by(with_reducible repeat(first|refine Ed ?_ _|refine Eb ?_|refine Ec ?_ _));exact qc.out⟩,⟨by(with_reducible repeat(first|refine Ed ?_ _|refine Eb ?_|refine Ec ?_ _));exact qd.out⟩,⟨by repeat(first|(with_reducible first|exact HB.out|apply Ej|apply Eg|apply Ei|refine Ee ?_ qq.out|refine Ee ?_ qt.out|refine Ee ?_ qz.out)|exact HB.out)⟩⟩
                                ·rw [if_neg c84] at H
                                 have c84b0:((Int.tmod (wrap64 ((wrap64 ((wrap64 (rd l1 (yb)))*256))+(wrap64 (rd l1 (yk))))) 2) == 1)=false:=beq_eq_false_iff_ne.mpr c84
                                 have c84b1:((Int.tmod (wrap64 ((wrap64 ((wrap64 (rd l1 (yb)))*256))+(wrap64 (rd l1 (yk))))) 2) != 1)=true:=bne_iff_ne.mpr c84
                                 have H':=Ea H
                                 clear H
                                 have yv:0≤(qu:Int):=of_decide_eq_true (by first|(with_reducible assumption)|assumption)
                                 have yw:qu < (l1.length:Int):=of_decide_eq_true (by first|(with_reducible assumption)|assumption)
                                 obtain⟨zb,e168,yc⟩:=Kd.at_int HR1.out qu yv yw
                                 obtain rfl:yq=zb:=(by injection e168)
                                 replace yc:=(HB.out.cell (World.block_lt_of_cell? w _ yc)).trans yc
                                 replace yv:=eq_true yv
                                 replace yw:=eq_true yw
                                 try go_wp2
                                 have yh:=Ea (Ef qe.out)
                                 have yi:=Ea (Ef qb.out)
                                 have yj:=Ea (Eb qa.out)
                                 have yl:=Ea (Eb qc.out)
                                 have yp:=Ea (Eb qd.out)
                                 have ys:=Ea (Ei HB.out)
                                 clear qe
                                 clear qb
                                 clear qa
                                 clear qc
                                 clear qd
                                 clear HB
                                 have qe:=yh
                                 have qb:=yi
                                 have qa:=yj
                                 have qc:=yl
                                 have qd:=yp
                                 have HB:=ys
                                 clear yh yi yj yl yp ys
                                 have p169:0≤((yb):Int):=of_decide_eq_true (by first|(with_reducible assumption)|assumption)
                                 have q169:(yb) < (l1.length:Int):=of_decide_eq_true (by first|(with_reducible assumption)|assumption)
                                 obtain⟨ad169,e169,yn⟩:=Kd.at_int HR1.out (yb) p169 q169
                                 have zd:=yn
                                 obtain rfl:yq=ad169:=(by injection e169)
                                 replace yn:=(HB.out.cell (World.block_lt_of_cell? w _ yn)).trans yn
                                 replace p169:=eq_true p169
                                 replace q169:=eq_true q169
                                 have p170:0≤((yk):Int):=of_decide_eq_true (by first|(with_reducible assumption)|assumption)
                                 have q170:(yk) < (l1.length:Int):=of_decide_eq_true (by first|(with_reducible assumption)|assumption)
                                 obtain⟨ad170,e170,yo⟩:=Kd.at_int HR1.out (yk) p170 q170
                                 have ze:=yo
                                 obtain rfl:yq=ad170:=(by injection e170)
                                 replace yo:=(HB.out.cell (World.block_lt_of_cell? w _ yo)).trans yo
                                 replace p170:=eq_true p170
                                 replace q170:=eq_true q170
                                 refine start_ (n:=14) (S:=fun w'=>w'.cell? (yq.add ((yb)).toNat)=some (.int .u8 (rd l1 (yb)))∧w'.cell? (yq.add ((yk)).toNat)=some (.int .u8 (rd l1 (yk)))) (ds:=[]) #[false,false,false,false,false,false,false,false,false,false,false,false,false,false] (by kernel_rfl) rfl rfl ⟨((HB.out.cell (World.block_lt_of_cell? w _ zd)).trans zd),((HB.out.cell (World.block_lt_of_cell? w _ ze)).trans ze)⟩ (fun ya=>?_);refine with_tabW spec_Decode.tab28 spec_Decode.bits28 (fun HT_ HW_=>?_)
                                 generalize wr.drew=w91 at qe qb qa qc qd HB yn yo ya ⊢
                                 refine pure_ (i:=0) (N:=some 114) (v:=?_) (a':=?_) #[true,false,false,false,false,false,false,false,false,false,false,false,false,false] rfl rfl (En HT_.out (by kernel_rfl)) (fun _ _ _ h=>h) (Or.inl ⟨by rfl,?_⟩) ?_ ?_
                                 rotate_left
                                 ·intro w'
                                  go_simp
                                  with_reducible rfl
                                 rotate_left
                                 ·simp only [Act.put,List.setIfInBounds_toArray,List.set_cons_zero,List.set_cons_succ,i64_w,i32_w]
                                  rfl
                                 refine pure_ (i:=1) (N:=some 115) (v:=?_) (a':=?_) #[true,true,false,false,false,false,false,false,false,false,false,false,false,false] rfl rfl (En HT_.out (by kernel_rfl)) (fun _ _ _ h=>h) (Or.inl ⟨by rfl,?_⟩) ?_ ?_
                                 rotate_left
                                 ·intro w'
                                  go_simp
                                  with_reducible rfl
                                 rotate_left
                                 ·simp only [Act.put,List.setIfInBounds_toArray,List.set_cons_zero,List.set_cons_succ,i64_w,i32_w]
                                  rfl
                                 refine pure_ (i:=2) (N:=some 116) (v:=?_) (a':=?_) #[true,true,true,false,false,false,false,false,false,false,false,false,false,false] rfl rfl (En HT_.out (by kernel_rfl)) (fun _ _ _ h=>h) (Or.inl ⟨by rfl,?_⟩) ?_ ?_
                                 rotate_left
                                 ·intro w'
                                  go_simp
                                  with_reducible rfl
                                 rotate_left
                                 ·simp only [Act.put,List.setIfInBounds_toArray,List.set_cons_zero,List.set_cons_succ,i64_w,i32_w]
                                  rfl
                                 refine pure_ (i:=6) (N:=some 120) (v:=?_) (a':=?_) #[true,true,true,false,false,false,true,false,false,false,false,false,false,false] rfl rfl (En HT_.out (by kernel_rfl)) (fun _ _ _ h=>h) (Or.inl ⟨by rfl,?_⟩) ?_ ?_
                                 rotate_left
                                 ·intro w'
                                  go_simp
                                  with_reducible rfl
                                 rotate_left
                                 ·simp only [Act.put,List.setIfInBounds_toArray,List.set_cons_zero,List.set_cons_succ,i64_w,i32_w]
                                  rfl
                                 refine pure_ (i:=7) (N:=some 121) (v:=?_) (a':=?_) #[true,true,true,false,false,false,true,true,false,false,false,false,false,false] rfl rfl (En HT_.out (by kernel_rfl)) (fun _ _ _ h=>h) (Or.inl ⟨by rfl,?_⟩) ?_ ?_
                                 rotate_left
                                 ·intro w'
                                  go_simp
                                  with_reducible rfl
                                 rotate_left
                                 ·simp only [Act.put,List.setIfInBounds_toArray,List.set_cons_zero,List.set_cons_succ,i64_w,i32_w]
                                  rfl
                                 refine pure_ (i:=8) (N:=some 122) (v:=?_) (a':=?_) #[true,true,true,false,false,false,true,true,true,false,false,false,false,false] rfl rfl (En HT_.out (by kernel_rfl)) (fun _ _ _ h=>h) (Or.inl ⟨by rfl,?_⟩) ?_ ?_
                                 rotate_left
                                 ·intro w'
                                  go_simp
                                  with_reducible rfl
                                 rotate_left
                                 ·simp only [Act.put,List.setIfInBounds_toArray,List.set_cons_zero,List.set_cons_succ,i64_w,i32_w]
                                  rfl
                                 refine pure_ (i:=9) (N:=some 123) (v:=?_) (a':=?_) #[true,true,true,false,false,false,true,true,true,true,false,false,false,false] rfl rfl (En HT_.out (by kernel_rfl)) (fun _ _ _ h=>h) (Or.inl ⟨by rfl,?_⟩) ?_ ?_
                                 rotate_left
                                 ·intro w'
                                  go_simp
                                  with_reducible rfl
                                 rotate_left
                                 ·simp only [Act.put,List.setIfInBounds_toArray,List.set_cons_zero,List.set_cons_succ,i64_w,i32_w]
                                  rfl
                                 refine take_ (i:=3) (N:=some 117) (v:=?_) (a':=?_) #[true,true,true,true,false,false,true,true,true,true,false,false,false,false] rfl rfl (take_ofW HT_.out HW_.out (by kernel_rfl)) (fun _ _ _ h=>h) (Or.inl ⟨by rfl,?_⟩) ya ?_ ?_
                                 rotate_left
                                 ·rintro w' ⟨s0,s1⟩
                                  go_simp
                                  with_reducible rfl
                                 rotate_left
                                 ·simp only [Act.put,List.setIfInBounds_toArray,List.set_cons_zero,List.set_cons_succ,i64_w,i32_w]
                                  rfl
                                 refine pure_ (i:=4) (N:=some 118) (v:=?_) (a':=?_) #[true,true,true,true,true,false,true,true,true,true,false,false,false,false] rfl rfl (En HT_.out (by kernel_rfl)) (fun _ _ _ h=>h) (Or.inl ⟨by rfl,?_⟩) ?_ ?_
                                 rotate_left
                                 ·intro w'
                                  go_simp
                                  with_reducible rfl
                                 rotate_left
                                 ·simp only [Act.put,List.setIfInBounds_toArray,List.set_cons_zero,List.set_cons_succ,i64_w,i32_w]
                                  rfl
                                 refine pure_ (i:=5) (N:=some 119) (v:=?_) (a':=?_) #[true,true,true,true,true,true,true,true,true,true,false,false,false,false] rfl rfl (En HT_.out (by kernel_rfl)) (fun _ _ _ h=>h) (Or.inl ⟨by rfl,?_⟩) ?_ ?_
                                 rotate_left
                                 ·intro w'
                                  go_simp
                                  with_reducible rfl
                                 rotate_left
                                 ·simp only [Act.put,List.setIfInBounds_toArray,List.set_cons_zero,List.set_cons_succ,i64_w,i32_w]
                                  rfl
                                 refine take_ (i:=10) (N:=some 124) (v:=?_) (a':=?_) #[true,true,true,true,true,true,true,true,true,true,true,false,false,false] rfl rfl (take_ofW HT_.out HW_.out (by kernel_rfl)) (fun _ _ _ h=>h) (Or.inl ⟨by rfl,?_⟩) ya ?_ ?_
                                 rotate_left
                                 ·rintro w' ⟨s0,s1⟩
                                  go_simp
                                  with_reducible rfl
                                 rotate_left
                                 ·simp only [Act.put,List.setIfInBounds_toArray,List.set_cons_zero,List.set_cons_succ,i64_w,i32_w]
                                  rfl
                                 refine pure_ (i:=11) (N:=some 125) (v:=?_) (a':=?_) #[true,true,true,true,true,true,true,true,true,true,true,true,false,false] rfl rfl (En HT_.out (by kernel_rfl)) (fun _ _ _ h=>h) (Or.inl ⟨by rfl,?_⟩) ?_ ?_
                                 rotate_left
                                 ·intro w'
                                  go_simp
                                  with_reducible rfl
                                 rotate_left
                                 ·simp only [Act.put,List.setIfInBounds_toArray,List.set_cons_zero,List.set_cons_succ,i64_w,i32_w]
                                  rfl
                                 refine pure_ (i:=12) (N:=some 126) (v:=?_) (a':=?_) #[true,true,true,true,true,true,true,true,true,true,true,true,true,false] rfl rfl (En HT_.out (by kernel_rfl)) (fun _ _ _ h=>h) (Or.inl ⟨by rfl,?_⟩) ?_ ?_
                                 rotate_left
                                 ·intro w'
                                  go_simp
                                  with_reducible rfl
                                 rotate_left
                                 ·simp only [Act.put,List.setIfInBounds_toArray,List.set_cons_zero,List.set_cons_succ,i64_w,i32_w]
                                  rfl
                                 refine pure_ (i:=13) (N:=some 17) (v:=?_) (a':=?_) #[true,true,true,true,true,true,true,true,true,true,true,true,true,true] rfl rfl (En HT_.out (by kernel_rfl)) (fun _ _ _ h=>h) (Or.inl ⟨by rfl,?_⟩) ?_ ?_
                                 rotate_left
                                 ·intro w'
                                  go_simp
                                  with_reducible rfl
                                 rotate_left
                                 ·simp only [Act.put,List.setIfInBounds_toArray,List.set_cons_zero,List.set_cons_succ,i64_w,i32_w]
                                  rfl
                                 refine done_ (done_of HT_.out (by kernel_rfl)) ?_
                                 have p83:0≤(qg:Int):=of_decide_eq_true (by first|(with_reducible assumption)|assumption)
                                 have q83:(qg:Int) < ((qw.length:Int):Int):=of_decide_eq_true (by first|(with_reducible assumption)|assumption)
                                 obtain⟨yy,vf,eo83,gb83,gl83,cl83,HG83⟩:=Kd.R_form qe.out (by omega)
                                 (first|cases eo83|(injection eo83 with ea_ en_ ec_;(first|subst ea_|(injection ea_ with ea_;subst ea_));subst ec_;clear en_))
                                 have GB83:=Ea gb83
                                 have GG83:=Ea HG83
                                 clear gb83 gl83 HG83
                                 obtain⟨hx83_0,hf83_0⟩:=Kd.R_celln 0 qe.out (qg:Int) p83 q83
                                 replace p83:=eq_true p83
                                 replace q83:=eq_true q83
                                 obtain⟨hy92_,hz92_⟩:=Kd.R_celln 0 qe.out (qg:Int) (of_decide_eq_true (by first|(with_reducible assumption)|assumption)) (of_decide_eq_true (by first|(with_reducible assumption)|assumption))
                                 have HP92:=Kd.R_putg qe.out (qg:Int) (wrap64 (Int.tdiv (wrap64 ((wrap64 ((wrap64 (rd l1 (yb)))*256))+(wrap64 (rd l1 (yk))))) 2))
                                 try go_wp2_with (first|((with_reducible refine gate_store (t:=2) (p:=133) rfl ?_);refine store_event (t:=2) (p:=133) (v:=?vo_w93) (w1:=(w91.setCell ⟨yy,(qg:Int).toNat,none⟩ (.int .i64 (wrap64 (Int.tdiv (wrap64 ((wrap64 ((wrap64 (rd l1 (yb)))*256))+(wrap64 (rd l1 (yk))))) 2))))) ?hg ?ho ?hn ?hr ?_;(case ho=>rfl);(case hg=>rfl);(case hn=>rfl);(case hr=>first|(go_simp;done)|(go_simp;rfl));intro w93 hw;have hg:w91.grownBy w93 (some yy):=(by rw [hw];exact HP92.2);have hp_:Kd.R (Kd.int .i64) 2 w93 w.heap.size (fun k_=>some k_≠(qk:Value).ownBlock) (.slice (some ⟨yy,0,none⟩) qw.length vf) za:=(by rw [hw,Ny171.out];exact HP92.1);clear HP92;have yh:=Ea (hp_);have yi:=Ea (Kd.R_after (v:=(.slice (some ⟨yy,0,none⟩) qw.length vf)) (v1:=(.slice (some ⟨yy,0,none⟩) qw.length vf)) (ok:=(fun _=>True)) (by(with_reducible repeat(first|apply El|apply Em|apply Ef));exact Ep qb.out (fun _ hk=>⟨trivial,hk⟩)) hg (.inl rfl));have yj:=Ea (blk_grown (g:=qf) (o:=.cells #[.int .i64 a0_0,.int .i64 a0_1,.slice A0_2 l0_2.length c0_2] 27 (0,0)) (by(with_reducible repeat(first|refine Ed ?_ _|refine Eb ?_|refine Ec ?_ _));exact qa.out) hg (Kd.R_ne qe.out qa.out (by decide)));have yl:=Ea (blk_grown (g:=qi) (o:=.cells #[.int .i64 qr,.int .i64 qo,.slice none 0 0] 27 (0,0)) (by(with_reducible repeat(first|refine Ed ?_ _|refine Eb ?_|refine Ec ?_ _));exact qc.out) hg (Kd.R_ne qe.out qc.out (by decide)));have yp:=Ea (blk_grown (g:=ql) (o:=.cells #[.int .i64 a0_0,.int .i64 a0_1,qk] 27 (0,0)) (by(with_reducible repeat(first|refine Ed ?_ _|refine Eb ?_|refine Ec ?_ _));exact qd.out) hg (Kd.R_ne qe.out qd.out (by decide)));have ys:=Ea ((by rw [hw];exact Ee (HB.out) GB83.out:Below w.heap.size w w93));clear qe;clear qb;clear qa;clear qc;clear qd;clear HB;have qe:=yh;have qb:=yi;have qa:=yj;have qc:=yl;have qd:=yp;have HB:=ys;clear yh yi yj yl yp ys;clear hg hw hp_))
                                 go_roundg k4
                                 case measure=>have:=HJ3.out;have:=HK2.out;have:=zl.out;have:=HK4.out;omega
                                 case rel=>exact⟨(wrap64 ((yb)+2)),(za),(wrap64 (qg+1)),(qr),(qo),(by first|rfl|(simp;done)|(simp only [← vi] <;> (first|rfl|simp))|(simp [*];done)),(by first|rfl|(simp;done)|(simp [*];done)),H',⟨by have:=HJ3.out;have:=HK2.out;have:=zl.out;have:=HK4.out;omega⟩,⟨by(with_reducible repeat(first|apply El|apply Em|apply Ef));exact qe.out⟩,⟨by(with_reducible repeat(first|apply El|apply Em|apply Ef));exact Ep qb.out (fun _ hk=>hk.2)⟩,⟨by(with_reducible repeat(first|refine Ed ?_ _|refine Eb ?_|refine Ec ?_ _));exact qa.out⟩,⟨by(with_reducible repeat(first|refine Ed ?_ _|refine Eb ?_|refine Ec ?_ _));exact qc.out⟩,⟨by(with_reducible repeat(first|refine Ed ?_ _|refine Eb ?_|refine Ec ?_ _));exact qd.out⟩,⟨by repeat(first|(with_reducible first|exact HB.out|apply Ej|apply Eg|apply Ei|refine Ee ?_ qq.out|refine Ee ?_ qt.out|refine Ee ?_ qz.out)|exact HB.out)⟩⟩
                               ·rw [if_neg c82] at H
                                exact absurd H (by simp)
                              ·rw [if_neg c81] at H
                               exact absurd H (by simp)
                             ·rw [if_neg c80] at H
                              exact absurd H (by simp)
                            ·rw [if_neg c79] at H
                             exact absurd H (by simp)
                           ·rw [if_neg c77] at H
                            exact absurd H (by simp)
                          ·rw [if_neg c76] at H
                           exact absurd H (by simp)
                        ·rw [if_neg c70] at H
                         have c70b0:((wrap64 (rd l1 qu)) == 255)=false:=beq_eq_false_iff_ne.mpr c70
                         have c70b1:((wrap64 (rd l1 qu)) != 255)=true:=bne_iff_ne.mpr c70
                         by_cases c94:0≤qg
                         ·rw [if_pos c94] at H
                          have c94b0:decide (0≤qg)=true:=decide_eq_true c94
                          clear c94
                          by_cases c95:qg < (qw.length:Int)
                          ·rw [if_pos c95] at H
                           have c95b0:decide (qg < (qw.length:Int))=true:=decide_eq_true c95
                           clear c95
                           obtain⟨y173,hy173⟩:∃ y_:List Int,y_=(qw.set (qg:Int).toNat (wrap64 (Int.tdiv (wrap64 (rd l1 qu)) 2))):=⟨_,rfl⟩
                           replace H:(if (Int.tmod (wrap64 (rd l1 qu)) 2)=1 then (spec_Decode.l1 k4 l1 a2 (wrap64 (qu+1)) (wrap64 (Int.tdiv a0_0 4)) qn (wrap64 ((wrap64 (Int.tmod (rd l1 qj) 8)) - 2)) (((Int.tdiv (rd l1 qj) 8) % 256) - 2) (wrap64 (rd l1 (ym))) (y173.set (qg:Int).toNat (wrap64 (Int.tdiv (wrap64 (-(wrap64 ((wrap64 (rd l1 qu))+1)))) 2))) (wrap64 (qg+1)) a0_0 a0_1 l0_2 a0_0 a0_1 qh) else (spec_Decode.l1 k4 l1 a2 (wrap64 (qu+1)) (wrap64 (Int.tdiv a0_0 4)) qn (wrap64 ((wrap64 (Int.tmod (rd l1 qj) 8)) - 2)) (((Int.tdiv (rd l1 qj) 8) % 256) - 2) (wrap64 (rd l1 (ym))) y173 (wrap64 (qg+1)) a0_0 a0_1 l0_2 a0_0 a0_1 qh))=some (r1,r2,r3,r4):=by first|(rw [hy173];with_reducible exact H)|(have zi:=(Option.bind_some _ _).symm.trans H;rw [hy173];with_reducible exact zi)|(have zi:=(Option.bind_some _ _).symm.trans H;with_reducible exact zi)|with_reducible exact H|(rw [hy173];exact H)|exact H
                           have Ny173:=Ea hy173
                           clear hy173
                           by_cases c97:(Int.tmod (wrap64 (rd l1 qu)) 2)=1
                           ·rw [if_pos c97] at H
                            have c97b0:((Int.tmod (wrap64 (rd l1 qu)) 2) == 1)=true:=beq_iff_eq.mpr c97
                            have c97b1:((Int.tmod (wrap64 (rd l1 qu)) 2) != 1)=false:=bne_eq_false_iff_eq.mpr c97
                            clear c97
                            obtain⟨y174,hy174⟩:∃ y_:List Int,y_=(y173.set (qg:Int).toNat (wrap64 (Int.tdiv (wrap64 (-(wrap64 ((wrap64 (rd l1 qu))+1)))) 2))):=⟨_,rfl⟩
                            replace H:(spec_Decode.l1 k4 l1 a2 (wrap64 (qu+1)) (wrap64 (Int.tdiv a0_0 4)) qn (wrap64 ((wrap64 (Int.tmod (rd l1 qj) 8)) - 2)) (((Int.tdiv (rd l1 qj) 8) % 256) - 2) (wrap64 (rd l1 (ym))) y174 (wrap64 (qg+1)) a0_0 a0_1 l0_2 a0_0 a0_1 qh)=some (r1,r2,r3,r4):=by first|(rw [hy174];with_reducible exact H)|(have zi:=(Option.bind_some _ _).symm.trans H;rw [hy174];with_reducible exact zi)|(have zi:=(Option.bind_some _ _).symm.trans H;with_reducible exact zi)|with_reducible exact H|(rw [hy174];exact H)|exact H
                            have Ny174:=Ea hy174
                            clear hy174
                            have H':=Ea H
                            clear H
                            have yv:0≤(qu:Int):=of_decide_eq_true (by first|(with_reducible assumption)|assumption)
                            have yw:qu < (l1.length:Int):=of_decide_eq_true (by first|(with_reducible assumption)|assumption)
                            obtain⟨zb,e168,yc⟩:=Kd.at_int HR1.out qu yv yw
                            obtain rfl:yq=zb:=(by injection e168)
                            replace yc:=(HB.out.cell (World.block_lt_of_cell? w _ yc)).trans yc
                            replace yv:=eq_true yv
                            replace yw:=eq_true yw
                            have p96:0≤(qg:Int):=of_decide_eq_true (by first|(with_reducible assumption)|assumption)
                            have q96:(qg:Int) < ((qw.length:Int):Int):=of_decide_eq_true (by first|(with_reducible assumption)|assumption)
                            obtain⟨yz,vg,eo96,gb96,gl96,cl96,HG96⟩:=Kd.R_form qe.out (by omega)
                            (first|cases eo96|(injection eo96 with ea_ en_ ec_;(first|subst ea_|(injection ea_ with ea_;subst ea_));subst ec_;clear en_))
                            have GB96:=Ea gb96
                            have GG96:=Ea HG96
                            clear gb96 gl96 HG96
                            obtain⟨hx96_0,hf96_0⟩:=Kd.R_celln 0 qe.out (qg:Int) p96 q96
                            replace p96:=eq_true p96
                            replace q96:=eq_true q96
                            have HP99:=Kd.R_putg qe.out (qg:Int) (wrap64 (Int.tdiv (wrap64 (rd l1 qu)) 2))
                            go_wp2_with (first|((with_reducible refine gate_store (t:=2) (p:=133) rfl ?_);refine store_event (t:=2) (p:=133) (v:=?vo_w100) (w1:=(wr.setCell ⟨yz,(qg:Int).toNat,none⟩ (.int .i64 (wrap64 (Int.tdiv (wrap64 (rd l1 qu)) 2))))) ?hg ?ho ?hn ?hr ?_;(case ho=>rfl);(case hg=>rfl);(case hn=>rfl);(case hr=>first|(go_simp;done)|(go_simp;rfl));intro w100 hw;have hg:wr.grownBy w100 (some yz):=(by rw [hw];exact HP99.2);have hp_:Kd.R (Kd.int .i64) 2 w100 w.heap.size (fun k_=>some k_≠(qk:Value).ownBlock) (.slice (some ⟨yz,0,none⟩) qw.length vg) y173:=(by rw [hw,Ny173.out];exact HP99.1);clear HP99;have yh:=Ea (hp_);have yi:=Ea (Kd.R_after (v:=(.slice (some ⟨yz,0,none⟩) qw.length vg)) (v1:=(.slice (some ⟨yz,0,none⟩) qw.length vg)) (ok:=(fun _=>True)) (by(with_reducible repeat(first|apply El|apply Em|apply Ef));exact Ep qb.out (fun _ hk=>⟨trivial,hk⟩)) hg (.inl rfl));have yj:=Ea (blk_grown (g:=qf) (o:=.cells #[.int .i64 a0_0,.int .i64 a0_1,.slice A0_2 l0_2.length c0_2] 27 (0,0)) (by(with_reducible repeat(first|refine Ed ?_ _|refine Eb ?_|refine Ec ?_ _));exact qa.out) hg (Kd.R_ne qe.out qa.out (by decide)));have yl:=Ea (blk_grown (g:=qi) (o:=.cells #[.int .i64 qr,.int .i64 qo,.slice none 0 0] 27 (0,0)) (by(with_reducible repeat(first|refine Ed ?_ _|refine Eb ?_|refine Ec ?_ _));exact qc.out) hg (Kd.R_ne qe.out qc.out (by decide)));have yp:=Ea (blk_grown (g:=ql) (o:=.cells #[.int .i64 a0_0,.int .i64 a0_1,qk] 27 (0,0)) (by(with_reducible repeat(first|refine Ed ?_ _|refine Eb ?_|refine Ec ?_ _));exact qd.out) hg (Kd.R_ne qe.out qd.out (by decide)));have ys:=Ea ((by rw [hw];exact Ee (HB.out) GB96.out:Below w.heap.size w w100));clear qe;clear qb;clear qa;clear qc;clear qd;clear HB;have qe:=yh;have qb:=yi;have qa:=yj;have qc:=yl;have qd:=yp;have HB:=ys;clear yh yi yj yl yp ys;clear hg hw hp_;have p98:0≤(qg:Int):=of_decide_eq_true (by first|(with_reducible assumption)|assumption);have q98:(qg:Int) < ((qw.length:Int):Int):=of_decide_eq_true (by first|(with_reducible assumption)|assumption);obtain⟨hx98_0,hf98_0⟩:=Kd.R_celln 0 qe.out (qg:Int) p98 q98;replace p98:=eq_true p98;replace q98:=eq_true q98;obtain⟨hy101_,hz101_⟩:=Kd.R_celln 0 qe.out (qg:Int) (of_decide_eq_true (by first|(with_reducible assumption)|assumption)) (of_decide_eq_true (by first|(with_reducible assumption)|assumption));have HP101:=Kd.R_putg qe.out (qg:Int) (wrap64 (Int.tdiv (wrap64 (-(wrap64 ((wrap64 (rd l1 qu))+1)))) 2)))|((with_reducible refine gate_store (t:=2) (p:=143) rfl ?_);refine store_event (t:=2) (p:=143) (v:=?vo_w102) (w1:=(w100.setCell ⟨yz,(qg:Int).toNat,none⟩ (.int .i64 (wrap64 (Int.tdiv (wrap64 (-(wrap64 ((wrap64 (rd l1 qu))+1)))) 2))))) ?hg ?ho ?hn ?hr ?_;(case ho=>rfl);(case hg=>rfl);(case hn=>rfl);(case hr=>first|(go_simp;done)|(go_simp;rfl));intro w102 hw;have hg:w100.grownBy w102 (some yz):=(by rw [hw];exact HP101.2);have hp_:Kd.R (Kd.int .i64) 2 w102 w.heap.size (fun k_=>some k_≠(qk:Value).ownBlock) (.slice (some ⟨yz,0,none⟩) qw.length vg) y174:=(by rw [hw,Ny174.out];exact HP101.1);clear HP101;have yh:=Ea (hp_);have yi:=Ea (Kd.R_after (v:=(.slice (some ⟨yz,0,none⟩) qw.length vg)) (v1:=(.slice (some ⟨yz,0,none⟩) qw.length vg)) (ok:=(fun _=>True)) (by(with_reducible repeat(first|apply El|apply Em|apply Ef));exact qb.out) hg (.inl rfl));have yj:=Ea (blk_grown (g:=qf) (o:=.cells #[.int .i64 a0_0,.int .i64 a0_1,.slice A0_2 l0_2.length c0_2] 27 (0,0)) (by(with_reducible repeat(first|refine Ed ?_ _|refine Eb ?_|refine Ec ?_ _));exact qa.out) hg (Kd.R_ne qe.out qa.out (by decide)));have yl:=Ea (blk_grown (g:=qi) (o:=.cells #[.int .i64 qr,.int .i64 qo,.slice none 0 0] 27 (0,0)) (by(with_reducible repeat(first|refine Ed ?_ _|refine Eb ?_|refine Ec ?_ _));exact qc.out) hg (Kd.R_ne qe.out qc.out (by decide)));have yp:=Ea (blk_grown (g:=ql) (o:=.cells #[.int .i64 a0_0,.int .i64 a0_1,qk] 27 (0,0)) (by(with_reducible repeat(first|refine Ed ?_ _|refine Eb ?_|refine Ec ?_ _));exact qd.out) hg (Kd.R_ne qe.out qd.out (by decide)));have ys:=Ea ((by rw [hw];exact Ee (HB.out) GB96.out:Below w.heap.size w w102));clear qe;clear qb;clear qa;clear qc;clear qd;clear HB;have qe:=yh;have qb:=yi;have qa:=yj;have qc:=yl;have qd:=yp;have HB:=ys;clear yh yi yj yl yp ys;clear hg hw hp_))
                            go_roundg k4
                            case measure=>have:=HJ3.out;have:=HK2.out;have:=zl.out;have:=HK4.out;omega
                            case rel=>exact⟨(wrap64 (qu+1)),(y174),(wrap64 (qg+1)),(qr),(qo),(by first|rfl|(simp;done)|(simp [*];done)),(by first|rfl|(simp;done)|(simp [*];done)),H',⟨by have:=HJ3.out;have:=HK2.out;have:=zl.out;have:=HK4.out;omega⟩,⟨by(with_reducible repeat(first|apply El|apply Em|apply Ef));exact qe.out⟩,⟨by(with_reducible repeat(first|apply El|apply Em|apply Ef));exact Ep qb.out (fun _ hk=>hk.2)⟩,⟨by(with_reducible repeat(first|refine Ed ?_ _|refine Eb ?_|refine Ec ?_ _));exact qa.out⟩,⟨by(with_reducible repeat(first|refine Ed ?_ _|refine Eb ?_|refine Ec ?_ _));exact qc.out⟩,⟨by(with_reducible repeat(first|refine Ed ?_ _|refine Eb ?_|refine Ec ?_ _));exact qd.out⟩,⟨by repeat(first|(with_reducible first|exact HB.out|apply Ej|apply Eg|apply Ei|refine Ee ?_ qq.out|refine Ee ?_ qt.out|refine Ee ?_ qz.out)|exact HB.out)⟩⟩
                           ·rw [if_neg c97] at H
                            have c97b0:((Int.tmod (wrap64 (rd l1 qu)) 2) == 1)=false:=beq_eq_false_iff_ne.mpr c97
                            have c97b1:((Int.tmod (wrap64 (rd l1 qu)) 2) != 1)=true:=bne_iff_ne.mpr c97
                            have H':=Ea H
                            clear H
                            have yv:0≤(qu:Int):=of_decide_eq_true (by first|(with_reducible assumption)|assumption)
                            have yw:qu < (l1.length:Int):=of_decide_eq_true (by first|(with_reducible assumption)|assumption)
                            obtain⟨zb,e168,yc⟩:=Kd.at_int HR1.out qu yv yw
                            obtain rfl:yq=zb:=(by injection e168)
                            replace yc:=(HB.out.cell (World.block_lt_of_cell? w _ yc)).trans yc
                            replace yv:=eq_true yv
                            replace yw:=eq_true yw
                            have p96:0≤(qg:Int):=of_decide_eq_true (by first|(with_reducible assumption)|assumption)
                            have q96:(qg:Int) < ((qw.length:Int):Int):=of_decide_eq_true (by first|(with_reducible assumption)|assumption)
                            obtain⟨yz,vg,eo96,gb96,gl96,cl96,HG96⟩:=Kd.R_form qe.out (by omega)
                            (first|cases eo96|(injection eo96 with ea_ en_ ec_;(first|subst ea_|(injection ea_ with ea_;subst ea_));subst ec_;clear en_))
                            have GB96:=Ea gb96
                            have GG96:=Ea HG96
                            clear gb96 gl96 HG96
                            obtain⟨hx96_0,hf96_0⟩:=Kd.R_celln 0 qe.out (qg:Int) p96 q96
                            replace p96:=eq_true p96
                            replace q96:=eq_true q96
                            have HP103:=Kd.R_putg qe.out (qg:Int) (wrap64 (Int.tdiv (wrap64 (rd l1 qu)) 2))
                            go_wp2_with (first|((with_reducible refine gate_store (t:=2) (p:=133) rfl ?_);refine store_event (t:=2) (p:=133) (v:=?vo_w104) (w1:=(wr.setCell ⟨yz,(qg:Int).toNat,none⟩ (.int .i64 (wrap64 (Int.tdiv (wrap64 (rd l1 qu)) 2))))) ?hg ?ho ?hn ?hr ?_;(case ho=>rfl);(case hg=>rfl);(case hn=>rfl);(case hr=>first|(go_simp;done)|(go_simp;rfl));intro w104 hw;have hg:wr.grownBy w104 (some yz):=(by rw [hw];exact HP103.2);have hp_:Kd.R (Kd.int .i64) 2 w104 w.heap.size (fun k_=>some k_≠(qk:Value).ownBlock) (.slice (some ⟨yz,0,none⟩) qw.length vg) y173:=(by rw [hw,Ny173.out];exact HP103.1);clear HP103;have yh:=Ea (hp_);have yi:=Ea (Kd.R_after (v:=(.slice (some ⟨yz,0,none⟩) qw.length vg)) (v1:=(.slice (some ⟨yz,0,none⟩) qw.length vg)) (ok:=(fun _=>True)) (by(with_reducible repeat(first|apply El|apply Em|apply Ef));exact Ep qb.out (fun _ hk=>⟨trivial,hk⟩)) hg (.inl rfl));have yj:=Ea (blk_grown (g:=qf) (o:=.cells #[.int .i64 a0_0,.int .i64 a0_1,.slice A0_2 l0_2.length c0_2] 27 (0,0)) (by(with_reducible repeat(first|refine Ed ?_ _|refine Eb ?_|refine Ec ?_ _));exact qa.out) hg (Kd.R_ne qe.out qa.out (by decide)));have yl:=Ea (blk_grown (g:=qi) (o:=.cells #[.int .i64 qr,.int .i64 qo,.slice none 0 0] 27 (0,0)) (by(with_reducible repeat(first|refine Ed ?_ _|refine Eb ?_|refine Ec ?_ _));exact qc.out) hg (Kd.R_ne qe.out qc.out (by decide)));have yp:=Ea (blk_grown (g:=ql) (o:=.cells #[.int .i64 a0_0,.int .i64 a0_1,qk] 27 (0,0)) (by(with_reducible repeat(first|refine Ed ?_ _|refine Eb ?_|refine Ec ?_ _));exact qd.out) hg (Kd.R_ne qe.out qd.out (by decide)));have ys:=Ea ((by rw [hw];exact Ee (HB.out) GB96.out:Below w.heap.size w w104));clear qe;clear qb;clear qa;clear qc;clear qd;clear HB;have qe:=yh;have qb:=yi;have qa:=yj;have qc:=yl;have qd:=yp;have HB:=ys;clear yh yi yj yl yp ys;clear hg hw hp_))
                            go_roundg k4
                            case measure=>have:=HJ3.out;have:=HK2.out;have:=zl.out;have:=HK4.out;omega
                            case rel=>exact⟨(wrap64 (qu+1)),(y173),(wrap64 (qg+1)),(qr),(qo),(by first|rfl|(simp;done)|(simp [*];done)),(by first|rfl|(simp;done)|(simp [*];done)),H',⟨by have:=HJ3.out;have:=HK2.out;have:=zl.out;have:=HK4.out;omega⟩,⟨by(with_reducible repeat(first|apply El|apply Em|apply Ef));exact qe.out⟩,⟨by(with_reducible repeat(first|apply El|apply Em|apply Ef));exact Ep qb.out (fun _ hk=>hk.2)⟩,⟨by(with_reducible repeat(first|refine Ed ?_ _|refine Eb ?_|refine Ec ?_ _));exact qa.out⟩,⟨by(with_reducible repeat(first|refine Ed ?_ _|refine Eb ?_|refine Ec ?_ _));exact qc.out⟩,⟨by(with_reducible repeat(first|refine Ed ?_ _|refine Eb ?_|refine Ec ?_ _));exact qd.out⟩,⟨by repeat(first|(with_reducible first|exact HB.out|apply Ej|apply Eg|apply Ei|refine Ee ?_ qq.out|refine Ee ?_ qt.out|refine Ee ?_ qz.out)|exact HB.out)⟩⟩
                          ·rw [if_neg c95] at H
                           exact absurd H (by simp)
                         ·rw [if_neg c94] at H
                          exact absurd H (by simp)
                       ·rw [if_neg c69] at H
                        exact absurd H (by simp)
                      ·rw [if_neg c68] at H
                       exact absurd H (by simp)
                    ·rw [if_neg c63] at H
                     have c63b0:decide (qg < (wrap64 (rd l1 (ym))))=false:=decide_eq_false c63
                     clear c63
                     replace H:=Option.bind_eq_some_iff.mp H
                     obtain⟨t175,A1050,H⟩:=H
                     replace H:((spec_l14Block.f k4 a0_0 a0_1 l0_2 qn (wrap64 ((wrap64 (Int.tmod (rd l1 qj) 8)) - 2)) (((Int.tdiv (rd l1 qj) 8) % 256) - 2)).bind fun t178=>(spec_Decode.l2 k4 l1 a2 qu (wrap64 (Int.tdiv a0_0 4)) qn t175 t178 0 a0_0 a0_1 l0_2 a0_0 a0_1 qh))=some (r1,r2,r3,r4):=H
                     have A105:=Ea A1050
                     clear A1050
                     replace H:=Option.bind_eq_some_iff.mp H
                     obtain⟨t178,A1060,H⟩:=H
                     replace H:(spec_Decode.l2 k4 l1 a2 qu (wrap64 (Int.tdiv a0_0 4)) qn t175 t178 0 a0_0 a0_1 l0_2 a0_0 a0_1 qh)=some (r1,r2,r3,r4):=H
                     have A106:=Ea A1060
                     clear A1060
                     have H':=Ea H
                     clear H
                     obtain⟨Ao107,co107,eo107⟩:=Kd.R_slice qe.out
                     subst eo107
                     go_wp2_with (first|((with_reducible refine gate_callee (f:=54) rfl ?_);refine goesL_ (some 145) rfl rfl Try.func54 (by kernel_rfl) rfl #[.slice Ao107 qw.length co107] rfl (by(try simp only [List.map_toArray,List.map_cons,List.map_nil]);first|done|rfl|(simp only [List.length_drop,List.length_take];rfl)) ?_;(with_reducible refine(spec_l14Turn.calls k4 _ _ qw t175 _ ?side1 ?side2 A105.out).mono ?_);(case side1=>repeat(first|exact(Kd.R_reads' qe.out).2.2|(with_reducible refine Kd.C_alloc ?_ _)|(with_reducible refine Kd.C_drewN ?_ _)|(with_reducible refine Kd.C_drew ?_)));(case side2=>exact(Kd.R_reads' qe.out).2.1);rintro e w108 ⟨v176,rfl,ho0,hb⟩;refine⟨_,rfl,?_⟩;have yh:=Ea (Kd.R_elder' (by(with_reducible repeat(first|apply El|apply Em|apply Ef));exact qe.out) (Kd.R_base ho0) hb);have yi:=Ea (Kd.R_elder' (by(with_reducible repeat(first|apply El|apply Em|apply Ef));exact qb.out) (Kd.R_base ho0) hb);have yj:=Ea (Kd.R_lower (Kd.R_new' (Kd.R_new' ho0 (Kd.R_lt (by(with_reducible repeat(first|apply El|apply Em|apply Ef));exact qe.out))) (Kd.R_lt (by(with_reducible repeat(first|apply El|apply Em|apply Ef));exact qb.out))) (below_size (by repeat(first|(with_reducible first|exact HB.out|apply Ej|apply Eg|apply Ei|refine Ee ?_ qq.out|refine Ee ?_ qt.out|refine Ee ?_ qz.out)|exact HB.out))));have yl:=Ea (Eo (g:=qf) (o:=.cells #[.int .i64 a0_0,.int .i64 a0_1,.slice A0_2 l0_2.length c0_2] 27 (0,0)) (by(with_reducible repeat(first|refine Ed ?_ _|refine Eb ?_|refine Ec ?_ _));exact qa.out) hb);have yp:=Ea (Eo (g:=qi) (o:=.cells #[.int .i64 qr,.int .i64 qo,.slice none 0 0] 27 (0,0)) (by(with_reducible repeat(first|refine Ed ?_ _|refine Eb ?_|refine Ec ?_ _));exact qc.out) hb);have ys:=Ea (Eo (g:=ql) (o:=.cells #[.int .i64 a0_0,.int .i64 a0_1,qk] 27 (0,0)) (by(with_reducible repeat(first|refine Ed ?_ _|refine Eb ?_|refine Ec ?_ _));exact qd.out) hb);have vj:=Ea (below_step (by repeat(first|(with_reducible first|exact HB.out|apply Ej|apply Eg|apply Ei|refine Ee ?_ qq.out|refine Ee ?_ qt.out|refine Ee ?_ qz.out)|exact HB.out)) hb);clear qe;clear qb;clear qa;clear qc;clear qd;clear HB;have qe:=yh;have qb:=yi;have HO177:=yj;have qa:=yl;have qc:=yp;have qd:=ys;have HB:=vj;clear yh yi yj yl yp ys vj;(try clear hb);(try clear hb2);(try clear hk);(try clear hi);(try clear ho0);have hnb109:=yf.out;have hnc109:=yg.out;have hnb110:=qm.out;have hnc110:=yd.out;have hcz111_0:w108.cell? ⟨qf,0,none⟩=some (.int .i64 a0_0):=(Eh qa.out 0).trans rfl;have hcz111_1:w108.cell? ⟨qf,1,none⟩=some (.int .i64 a0_1):=(Eh qa.out 1).trans rfl;have hcz111_2:w108.cell? ⟨qf,2,none⟩=some (.slice A0_2 l0_2.length c0_2):=(Eh qa.out 2).trans rfl;have hfz111_0:=Ek qa.out 0;have hfz111_1:=Ek qa.out 1;have hfz111_2:=Ek qa.out 2)|((with_reducible refine gate_callee (f:=73) rfl ?_);refine goesL_ (some 150) rfl rfl Try.func73 (by kernel_rfl) rfl #[.agg #[.int .i64 a0_0,.int .i64 a0_1,.slice A0_2 l0_2.length c0_2],.int .i64 qn,.int .i64 (wrap64 ((wrap64 (Int.tmod (rd l1 qj) 8)) - 2)),.int .i64 (((Int.tdiv (rd l1 qj) 8) % 256) - 2)] rfl (by(try simp only [List.map_toArray,List.map_cons,List.map_nil]);first|done|rfl|(simp only [List.length_drop,List.length_take];rfl)) ?_;(with_reducible refine(spec_l14Block.calls k4 a0_0 a0_1 _ _ l0_2 qn (wrap64 ((wrap64 (Int.tmod (rd l1 qj) 8)) - 2)) (((Int.tdiv (rd l1 qj) 8) % 256) - 2) t178 _ ?side1 ?side2 A106.out).mono ?_);(case side1=>repeat(first|exact(Kd.C_below va.out HB.out)|(with_reducible refine Kd.C_alloc ?_ _)|(with_reducible refine Kd.C_drewN ?_ _)|(with_reducible refine Kd.C_drew ?_)));(case side2=>exact zy.out);rintro e w112 ⟨v179,rfl,ho0,hb⟩;refine⟨_,rfl,?_⟩;have yh:=Ea (Kd.R_elder' (by(with_reducible repeat(first|apply El|apply Em|apply Ef));exact qe.out) (Kd.R_base ho0) hb);have yi:=Ea (Kd.R_elder' (by(with_reducible repeat(first|apply El|apply Em|apply Ef));exact qb.out) (Kd.R_base ho0) hb);have yj:=Ea (Kd.R_elder' (by(with_reducible repeat(first|apply El|apply Em|apply Ef));exact HO177.out) (Kd.R_base ho0) hb);have yl:=Ea (Kd.R_lower (Kd.R_new' (Kd.R_new' (Kd.R_new' ho0 (Kd.R_lt (by(with_reducible repeat(first|apply El|apply Em|apply Ef));exact qe.out))) (Kd.R_lt (by(with_reducible repeat(first|apply El|apply Em|apply Ef));exact qb.out))) (Kd.R_lt (by(with_reducible repeat(first|apply El|apply Em|apply Ef));exact HO177.out))) (below_size (by repeat(first|(with_reducible first|exact HB.out|apply Ej|apply Eg|apply Ei|refine Ee ?_ qq.out|refine Ee ?_ qt.out|refine Ee ?_ qz.out)|exact HB.out))));have yp:=Ea (Eo (g:=qf) (o:=.cells #[.int .i64 a0_0,.int .i64 a0_1,.slice A0_2 l0_2.length c0_2] 27 (0,0)) (by(with_reducible repeat(first|refine Ed ?_ _|refine Eb ?_|refine Ec ?_ _));exact qa.out) hb);have ys:=Ea (Eo (g:=qi) (o:=.cells #[.int .i64 qr,.int .i64 qo,.slice none 0 0] 27 (0,0)) (by(with_reducible repeat(first|refine Ed ?_ _|refine Eb ?_|refine Ec ?_ _));exact qc.out) hb);have vj:=Ea (Eo (g:=ql) (o:=.cells #[.int .i64 a0_0,.int .i64 a0_1,qk] 27 (0,0)) (by(with_reducible repeat(first|refine Ed ?_ _|refine Eb ?_|refine Ec ?_ _));exact qd.out) hb);have n7_:=Ea (below_step (by repeat(first|(with_reducible first|exact HB.out|apply Ej|apply Eg|apply Ei|refine Ee ?_ qq.out|refine Ee ?_ qt.out|refine Ee ?_ qz.out)|exact HB.out)) hb);clear qe;clear qb;clear HO177;clear qa;clear qc;clear qd;clear HB;have qe:=yh;have qb:=yi;have HO177:=yj;have HO180:=yl;have qa:=yp;have qc:=ys;have qd:=vj;have HB:=n7_;clear yh yi yj yl yp ys vj n7_;(try clear hb);(try clear hb2);(try clear hk);(try clear hi);(try clear ho0)))
                     go_loopg [19] k4 (fun kq v19 w'=>∃ (yt:List Int) (yu:List Int) (qs:Int) (qy:List Int) (qk:Value),v19=.int .i64 qs∧Aside0 (spec_Decode.l2 kq l1 a2 qu (wrap64 (Int.tdiv a0_0 4)) qn yt yu qs a0_0 a0_1 l0_2 a0_0 a0_1 qy=some (r1,r2,r3,r4))∧Aside0 (kq≤k4)∧Aside0 (Kd.R (Kd.int .i64) 2 w' w.heap.size (fun k_=>some k_≠(v179:Value).ownBlock∧some k_≠(qk:Value).ownBlock) v176 yt)∧Aside0 (Kd.R (Kd.int .i64) 2 w' w.heap.size (fun k_=>some k_≠(v176:Value).ownBlock∧some k_≠(qk:Value).ownBlock) v179 yu)∧Aside0 (Kd.R (Kd.int .i64) 2 w' w.heap.size (fun k_=>some k_≠(v176:Value).ownBlock∧some k_≠(v179:Value).ownBlock) qk qy)∧Aside0 (w'.heap[qf]? = some (.cells #[.int .i64 a0_0,.int .i64 a0_1,(.slice A0_2 l0_2.length c0_2)] 27 (0,0)))∧Aside0 (w'.heap[qi]? = some (.cells #[.int .i64 qr,.int .i64 qo,(.slice none 0 0)] 27 (0,0)))∧Aside0 (w'.heap[ql]? = some (.cells #[.int .i64 a0_0,.int .i64 a0_1,qk] 27 (0,0)))∧Aside0 (Below w.heap.size w w'))
                     case atStart=>exact⟨(t175),(t178),(0),(qh),(qk),(by first|rfl|(simp;done)|(simp [*];done)),H',⟨Nat.le_refl _⟩,⟨by(with_reducible repeat(first|apply El|apply Em|apply Ef));exact Ep HO177.out (fun _ hk=>⟨hk.2,hk.1.2⟩)⟩,⟨by(with_reducible repeat(first|apply El|apply Em|apply Ef));exact Ep HO180.out (fun _ hk=>⟨hk.2,hk.1.2⟩)⟩,⟨by(with_reducible repeat(first|apply El|apply Em|apply Ef));exact Ep qb.out (fun _ hk=>⟨hk.1.2,hk.2⟩)⟩,⟨by(with_reducible repeat(first|refine Ed ?_ _|refine Eb ?_|refine Ec ?_ _));exact qa.out⟩,⟨by(with_reducible repeat(first|refine Ed ?_ _|refine Eb ?_|refine Ec ?_ _));exact qc.out⟩,⟨by(with_reducible repeat(first|refine Ed ?_ _|refine Eb ?_|refine Ec ?_ _));exact qd.out⟩,⟨by repeat(first|(with_reducible first|exact HB.out|apply Ej|apply Eg|apply Ei|refine Ee ?_ qq.out|refine Ee ?_ qt.out|refine Ee ?_ qz.out)|exact HB.out)⟩⟩
                     case round=>
                      clear H'
                      try clear c1
                      try clear p1
                      try clear q1
                      try clear hx1
                      try clear p2
                      try clear c5
                      try clear c6
                      try clear p6
                      try clear c7
                      try clear c8
                      try clear p8
                      try clear q8
                      try clear hx8
                      try clear hf8
                      try clear c9
                      try clear p9
                      try clear q9
                      try clear hx9
                      try clear hf9
                      try clear c10
                      try clear c11
                      try clear p16
                      try clear q16
                      try clear hx16
                      try clear p17
                      try clear q17
                      try clear hx17
                      try clear c54
                      try clear c63
                      try clear c63b0
                      try clear c64
                      try clear c64b0
                      try clear p64
                      try clear c65
                      try clear c66
                      try clear c68
                      try clear c68b0
                      try clear c69
                      try clear c69b0
                      try clear c70
                      try clear c70b0
                      try clear c70b1
                      try clear c71
                      try clear c71b0
                      try clear c72
                      try clear c73
                      try clear c76
                      try clear c76b0
                      try clear c77
                      try clear c77b0
                      try clear c79
                      try clear c79b0
                      try clear c80
                      try clear c80b0
                      try clear c81
                      try clear c81b0
                      try clear c82
                      try clear c82b0
                      try clear p83
                      try clear q83
                      try clear hx83
                      try clear hf83
                      try clear c84
                      try clear c84b0
                      try clear c84b1
                      try clear p85
                      try clear q85
                      try clear hx85
                      try clear hf85
                      try clear c94
                      try clear c94b0
                      try clear c95
                      try clear c95b0
                      try clear p96
                      try clear q96
                      try clear hx96
                      try clear hf96
                      try clear c97
                      try clear c97b0
                      try clear c97b1
                      try clear p98
                      try clear q98
                      try clear hx98
                      try clear hf98
                      try clear c109
                      try clear c110
                      try clear hcz111_0
                      try clear hcz111_1
                      try clear hcz111_2
                      try clear hcz67_0
                      try clear hcz67_1
                      try clear hcz67_2
                      try clear hcz74_0
                      try clear hcz74_1
                      try clear hcz74_2
                      try clear hfz111_0
                      try clear hfz111_1
                      try clear hfz111_2
                      try clear hfz67_0
                      try clear hfz67_1
                      try clear hfz67_2
                      try clear hfz74_0
                      try clear hfz74_1
                      try clear hfz74_2
                      try clear yc
                      try clear yn
                      try clear yo
                      try clear hx83_0
                      try clear hx85_0
                      try clear hx96_0
                      try clear hx98_0
                      try clear p163
                      try clear p164
                      try clear yv
                      try clear p169
                      try clear p170
                      try clear p2
                      try clear p6
                      try clear p83
                      try clear p85
                      try clear p96
                      try clear p98
                      try clear q1
                      try clear q16
                      try clear q162
                      try clear q163
                      try clear q164
                      try clear yw
                      try clear q169
                      try clear q170
                      try clear q83
                      try clear q85
                      try clear q96
                      try clear q98
                      obtain⟨yt,yu,qs,qy,qk,rfl,HA,HK5,qe,zz,qb,qa,qc,qd,HB⟩:=hrel
                      cases gk with
                      | zero => exact absurd HA.out (by simp [spec_Decode.l2])
                      | succ k5 =>
                       have H:=HA.out
                       clear HA
                       simp only [spec_Decode.l2] at H
                       by_cases c113:qs < 16
                       ·rw [if_pos c113] at H
                        have c113b0:decide (qs < 16)=true:=decide_eq_true c113
                        clear c113
                        by_cases c114:(wrap64 (Int.tdiv a0_0 4))=0
                        ·rw [if_pos c114] at H
                         exact absurd H (by simp)
                        ·rw [if_neg c114] at H
                         have c114b0:((wrap64 (Int.tdiv a0_0 4)) == 0)=false:=beq_eq_false_iff_ne.mpr c114
                         have c114b1:((wrap64 (Int.tdiv a0_0 4)) != 0)=true:=bne_iff_ne.mpr c114
                         by_cases c115:0≤qs
                         ·rw [if_pos c115] at H
                          have c115b0:decide (0≤qs)=true:=decide_eq_true c115
                          clear c115
                          by_cases c116:qs < (yu.length:Int)
                          ·rw [if_pos c116] at H
                           have c116b0:decide (qs < (yu.length:Int))=true:=decide_eq_true c116
                           clear c116
                           by_cases c117:qs < (yt.length:Int)
                           ·rw [if_pos c117] at H
                            have c117b0:decide (qs < (yt.length:Int))=true:=decide_eq_true c117
                            clear c117
                            replace H:=Option.bind_eq_some_iff.mp H
                            obtain⟨t183,A1180,H⟩:=H
                            replace H:((spec_l1Min.f 255 t183).bind fun ve=>(if 0≤(wrap64 ((wrap64 ((wrap64 ((wrap64 ((wrap64 ((wrap64 (Int.tdiv qn (wrap64 (Int.tdiv a0_0 4))))*4))+(wrap64 (Int.tdiv qs 4))))*a0_0))+(wrap64 ((Int.tmod qn (wrap64 (Int.tdiv a0_0 4)))*4))))+(Int.tmod qs 4))) then (if (wrap64 ((wrap64 ((wrap64 ((wrap64 ((wrap64 ((wrap64 (Int.tdiv qn (wrap64 (Int.tdiv a0_0 4))))*4))+(wrap64 (Int.tdiv qs 4))))*a0_0))+(wrap64 ((Int.tmod qn (wrap64 (Int.tdiv a0_0 4)))*4))))+(Int.tmod qs 4))) < (qy.length:Int) then (spec_Decode.l2 k5 l1 a2 qu (wrap64 (Int.tdiv a0_0 4)) qn yt yu (wrap64 (qs+1)) a0_0 a0_1 l0_2 a0_0 a0_1 (qy.set ((wrap64 ((wrap64 ((wrap64 ((wrap64 ((wrap64 ((wrap64 (Int.tdiv qn (wrap64 (Int.tdiv a0_0 4))))*4))+(wrap64 (Int.tdiv qs 4))))*a0_0))+(wrap64 ((Int.tmod qn (wrap64 (Int.tdiv a0_0 4)))*4))))+(Int.tmod qs 4))):Int).toNat ve)) else (none)) else (none)))=some (r1,r2,r3,r4):=H
                            have A118:=Ea A1180
                            clear A1180
                            replace H:=Option.bind_eq_some_iff.mp H
                            obtain⟨ve,A1190,H⟩:=H
                            replace H:(if 0≤(wrap64 ((wrap64 ((wrap64 ((wrap64 ((wrap64 ((wrap64 (Int.tdiv qn (wrap64 (Int.tdiv a0_0 4))))*4))+(wrap64 (Int.tdiv qs 4))))*a0_0))+(wrap64 ((Int.tmod qn (wrap64 (Int.tdiv a0_0 4)))*4))))+(Int.tmod qs 4))) then (if (wrap64 ((wrap64 ((wrap64 ((wrap64 ((wrap64 ((wrap64 (Int.tdiv qn (wrap64 (Int.tdiv a0_0 4))))*4))+(wrap64 (Int.tdiv qs 4))))*a0_0))+(wrap64 ((Int.tmod qn (wrap64 (Int.tdiv a0_0 4)))*4))))+(Int.tmod qs 4))) < (qy.length:Int) then (spec_Decode.l2 k5 l1 a2 qu (wrap64 (Int.tdiv a0_0 4)) qn yt yu (wrap64 (qs+1)) a0_0 a0_1 l0_2 a0_0 a0_1 (qy.set ((wrap64 ((wrap64 ((wrap64 ((wrap64 ((wrap64 ((wrap64 (Int.tdiv qn (wrap64 (Int.tdiv a0_0 4))))*4))+(wrap64 (Int.tdiv qs 4))))*a0_0))+(wrap64 ((Int.tmod qn (wrap64 (Int.tdiv a0_0 4)))*4))))+(Int.tmod qs 4))):Int).toNat ve)) else (none)) else (none))=some (r1,r2,r3,r4):=H
                            have A119:=Ea A1190
                            clear A1190
                            obtain⟨yr,vc⟩:∃ j_:Int,(wrap64 ((wrap64 ((wrap64 ((wrap64 ((wrap64 ((wrap64 (Int.tdiv qn (wrap64 (Int.tdiv a0_0 4))))*4))+(wrap64 (Int.tdiv qs 4))))*a0_0))+(wrap64 ((Int.tmod qn (wrap64 (Int.tdiv a0_0 4)))*4))))+(Int.tmod qs 4)))=j_:=⟨_,rfl⟩
                            replace H:(if 0≤(yr) then (if (yr) < (qy.length:Int) then (spec_Decode.l2 k5 l1 a2 qu (wrap64 (Int.tdiv a0_0 4)) qn yt yu (wrap64 (qs+1)) a0_0 a0_1 l0_2 a0_0 a0_1 (qy.set ((yr):Int).toNat ve)) else (none)) else (none))=some (r1,r2,r3,r4):=by first|(rw [vc] at H;exact H)|(simp only [vc] at H ⊢;exact H)
                            (try rw [vc] at A118)
                            (try rw [vc] at A119)
                            have hji120w:(IntKind.i64.wrap ((wrap64 ((wrap64 ((wrap64 ((wrap64 ((wrap64 (Int.tdiv qn (wrap64 (Int.tdiv a0_0 4))))*4))+(wrap64 (Int.tdiv qs 4))))*a0_0))+(wrap64 ((Int.tmod qn (wrap64 (Int.tdiv a0_0 4)))*4))))+(Int.tmod qs 4)))=yr:=(i64_w _).trans vc
                            by_cases c121:0≤(yr)
                            ·rw [if_pos c121] at H
                             have c121b0:decide (0≤(yr))=true:=decide_eq_true c121
                             clear c121
                             by_cases c122:(yr) < (qy.length:Int)
                             ·rw [if_pos c122] at H
                              have c122b0:decide ((yr) < (qy.length:Int))=true:=decide_eq_true c122
                              clear c122
                              obtain⟨y185,hy185⟩:∃ y_:List Int,y_=(qy.set ((yr):Int).toNat ve):=⟨_,rfl⟩
                              replace H:(spec_Decode.l2 k5 l1 a2 qu (wrap64 (Int.tdiv a0_0 4)) qn yt yu (wrap64 (qs+1)) a0_0 a0_1 l0_2 a0_0 a0_1 y185)=some (r1,r2,r3,r4):=by first|(rw [hy185];with_reducible exact H)|(have zi:=(Option.bind_some _ _).symm.trans H;rw [hy185];with_reducible exact zi)|(have zi:=(Option.bind_some _ _).symm.trans H;with_reducible exact zi)|with_reducible exact H|(rw [hy185];exact H)|exact H
                              have Ny185:=Ea hy185
                              clear hy185
                              have H':=Ea H
                              clear H
                              try go_wp2
                              have yh:=Ea (Ef qe.out)
                              have yi:=Ea (Ef zz.out)
                              have yj:=Ea (Ef qb.out)
                              have yl:=Ea (Eb qa.out)
                              have yp:=Ea (Eb qc.out)
                              have ys:=Ea (Eb qd.out)
                              have vj:=Ea (Ei HB.out)
                              clear qe
                              clear zz
                              clear qb
                              clear qa
                              clear qc
                              clear qd
                              clear HB
                              have qe:=yh
                              have zz:=yi
                              have qb:=yj
                              have qa:=yl
                              have qc:=yp
                              have qd:=ys
                              have HB:=vj
                              clear yh yi yj yl yp ys vj
                              obtain⟨Ao125,co125,eo125⟩:=Kd.R_slice zz.out
                              (first|subst eo125|(injection eo125 with f1_ f2_ f3_;have f4_:=f1_.symm;have f5_:=f3_.symm;clear f1_ f2_ f3_;subst f4_;subst f5_))
                              have p181:0≤(qs:Int):=of_decide_eq_true (by first|(with_reducible assumption)|assumption)
                              have q181:qs < (yu.length:Int):=of_decide_eq_true (by first|(with_reducible assumption)|assumption)
                              obtain⟨ad181,e181,hx181_0⟩:=Kd.at_int (Kd.R_reads' zz.out).2.2 qs p181 q181
                              cases e181
                              replace p181:=eq_true p181
                              replace q181:=eq_true q181
                              obtain⟨Ao126,co126,eo126⟩:=Kd.R_slice qe.out
                              (first|subst eo126|(injection eo126 with f1_ f2_ f3_;have f4_:=f1_.symm;have f5_:=f3_.symm;clear f1_ f2_ f3_;subst f4_;subst f5_))
                              have p182:0≤(qs:Int):=of_decide_eq_true (by first|(with_reducible assumption)|assumption)
                              have q182:qs < (yt.length:Int):=of_decide_eq_true (by first|(with_reducible assumption)|assumption)
                              obtain⟨ad182,e182,hx182_0⟩:=Kd.at_int (Kd.R_reads' qe.out).2.2 qs p182 q182
                              cases e182
                              replace p182:=eq_true p182
                              replace q182:=eq_true q182
                              refine start_ (n:=35) (S:=fun w'=>w'.cell? ⟨ql,0,none⟩=some (.int .i64 a0_0)∧w'.cell? ⟨ql,1,none⟩=some (.int .i64 a0_1)∧w'.cell? ⟨ql,2,none⟩=some (qk)∧w'.cell? ⟨qf,0,none⟩=some (.int .i64 a0_0)∧w'.cell? ⟨qf,1,none⟩=some (.int .i64 a0_1)∧w'.cell? ⟨qf,2,none⟩=some (.slice A0_2 l0_2.length c0_2)∧w'.cell? (ad181.add (qs).toNat)=some (.int .i64 (rd yu qs))∧w'.cell? (ad182.add (qs).toNat)=some (.int .i64 (rd yt qs))) (ds:=[34]) #[false,false,false,false,false,false,false,false,false,false,false,false,false,false,false,false,false,false,false,false,false,false,false,false,false,false,false,false,false,false,false,false,false,false,false] (by kernel_rfl) rfl rfl ⟨(Eh qd.out 0).trans rfl,(Eh qd.out 1).trans rfl,(Eh qd.out 2).trans rfl,(Eh qa.out 0).trans rfl,(Eh qa.out 1).trans rfl,(Eh qa.out 2).trans rfl,hx181_0,hx182_0⟩ (fun ya=>?_);refine with_tabW spec_Decode.tab38 spec_Decode.bits38 (fun HT_ HW_=>?_)
                              generalize wr.drew=w124 at qe zz qb qa qc qd HB hx181_0 hx182_0 ya ⊢
                              refine pure_ (i:=0) (N:=some 155) (v:=?_) (a':=?_) #[true,false,false,false,false,false,false,false,false,false,false,false,false,false,false,false,false,false,false,false,false,false,false,false,false,false,false,false,false,false,false,false,false,false,false] rfl rfl (En HT_.out (by kernel_rfl)) (fun _ _ _ h=>h) (Or.inl ⟨by rfl,?_⟩) ?_ ?_
                              rotate_left
                              ·intro w'
                               go_simp
                               with_reducible rfl
                              rotate_left
                              ·simp only [Act.put,List.setIfInBounds_toArray,List.set_cons_zero,List.set_cons_succ,i64_w,i32_w]
                               rfl
                              refine pure_ (i:=2) (N:=some 157) (v:=?_) (a':=?_) #[true,false,true,false,false,false,false,false,false,false,false,false,false,false,false,false,false,false,false,false,false,false,false,false,false,false,false,false,false,false,false,false,false,false,false] rfl rfl (En HT_.out (by kernel_rfl)) (fun _ _ _ h=>h) (Or.inl ⟨by rfl,?_⟩) ?_ ?_
                              rotate_left
                              ·intro w'
                               go_simp
                               with_reducible rfl
                              rotate_left
                              ·simp only [Act.put,List.setIfInBounds_toArray,List.set_cons_zero,List.set_cons_succ,i64_w,i32_w]
                               rfl
                              refine pure_ (i:=3) (N:=some 158) (v:=?_) (a':=?_) #[true,false,true,true,false,false,false,false,false,false,false,false,false,false,false,false,false,false,false,false,false,false,false,false,false,false,false,false,false,false,false,false,false,false,false] rfl rfl (En HT_.out (by kernel_rfl)) (fun _ _ _ h=>h) (Or.inl ⟨by rfl,?_⟩) ?_ ?_
                              rotate_left
                              ·intro w'
                               go_simp
                               with_reducible rfl
                              rotate_left
                              ·simp only [Act.put,List.setIfInBounds_toArray,List.set_cons_zero,List.set_cons_succ,i64_w,i32_w]
                               rfl
                              refine pure_ (i:=4) (N:=some 159) (v:=?_) (a':=?_) #[true,false,true,true,true,false,false,false,false,false,false,false,false,false,false,false,false,false,false,false,false,false,false,false,false,false,false,false,false,false,false,false,false,false,false] rfl rfl (En HT_.out (by kernel_rfl)) (fun _ _ _ h=>h) (Or.inl ⟨by rfl,?_⟩) ?_ ?_
                              rotate_left
                              ·intro w'
                               go_simp
                               with_reducible rfl
                              rotate_left
                              ·simp only [Act.put,List.setIfInBounds_toArray,List.set_cons_zero,List.set_cons_succ,i64_w,i32_w]
                               rfl
                              refine pure_ (i:=5) (N:=some 160) (v:=?_) (a':=?_) #[true,false,true,true,true,true,false,false,false,false,false,false,false,false,false,false,false,false,false,false,false,false,false,false,false,false,false,false,false,false,false,false,false,false,false] rfl rfl (En HT_.out (by kernel_rfl)) (fun _ _ _ h=>h) (Or.inl ⟨by rfl,?_⟩) ?_ ?_
                              rotate_left
                              ·intro w'
                               go_simp
                               with_reducible rfl
                              rotate_left
                              ·simp only [Act.put,List.setIfInBounds_toArray,List.set_cons_zero,List.set_cons_succ,i64_w,i32_w]
                               rfl
                              refine pure_ (i:=6) (N:=some 161) (v:=?_) (a':=?_) #[true,false,true,true,true,true,true,false,false,false,false,false,false,false,false,false,false,false,false,false,false,false,false,false,false,false,false,false,false,false,false,false,false,false,false] rfl rfl (En HT_.out (by kernel_rfl)) (fun _ _ _ h=>h) (Or.inl ⟨by rfl,?_⟩) ?_ ?_
                              rotate_left
                              ·intro w'
                               go_simp
                               with_reducible rfl
                              rotate_left
                              ·simp only [Act.put,List.setIfInBounds_toArray,List.set_cons_zero,List.set_cons_succ,i64_w,i32_w]
                               rfl
                              refine pure_ (i:=7) (N:=some 162) (v:=?_) (a':=?_) #[true,false,true,true,true,true,true,true,false,false,false,false,false,false,false,false,false,false,false,false,false,false,false,false,false,false,false,false,false,false,false,false,false,false,false] rfl rfl (En HT_.out (by kernel_rfl)) (fun _ _ _ h=>h) (Or.inl ⟨by rfl,?_⟩) ?_ ?_
                              rotate_left
                              ·intro w'
                               go_simp
                               with_reducible rfl
                              rotate_left
                              ·simp only [Act.put,List.setIfInBounds_toArray,List.set_cons_zero,List.set_cons_succ,i64_w,i32_w]
                               rfl
                              refine pure_ (i:=8) (N:=some 163) (v:=?_) (a':=?_) #[true,false,true,true,true,true,true,true,true,false,false,false,false,false,false,false,false,false,false,false,false,false,false,false,false,false,false,false,false,false,false,false,false,false,false] rfl rfl (En HT_.out (by kernel_rfl)) (fun _ _ _ h=>h) (Or.inl ⟨by rfl,?_⟩) ?_ ?_
                              rotate_left
                              ·intro w'
                               go_simp
                               with_reducible rfl
                              rotate_left
                              ·simp only [Act.put,List.setIfInBounds_toArray,List.set_cons_zero,List.set_cons_succ,i64_w,i32_w]
                               rfl
                              refine pure_ (i:=9) (N:=some 164) (v:=?_) (a':=?_) #[true,false,true,true,true,true,true,true,true,true,false,false,false,false,false,false,false,false,false,false,false,false,false,false,false,false,false,false,false,false,false,false,false,false,false] rfl rfl (En HT_.out (by kernel_rfl)) (fun _ _ _ h=>h) (Or.inl ⟨by rfl,?_⟩) ?_ ?_
                              rotate_left
                              ·intro w'
                               go_simp
                               with_reducible rfl
                              rotate_left
                              ·simp only [Act.put,List.setIfInBounds_toArray,List.set_cons_zero,List.set_cons_succ,i64_w,i32_w]
                               rfl
                              refine pure_ (i:=12) (N:=some 167) (v:=?_) (a':=?_) #[true,false,true,true,true,true,true,true,true,true,false,false,true,false,false,false,false,false,false,false,false,false,false,false,false,false,false,false,false,false,false,false,false,false,false] rfl rfl (En HT_.out (by kernel_rfl)) (fun _ _ _ h=>h) (Or.inl ⟨by rfl,?_⟩) ?_ ?_
                              rotate_left
                              ·intro w'
                               go_simp
                               with_reducible rfl
                              rotate_left
                              ·simp only [Act.put,List.setIfInBounds_toArray,List.set_cons_zero,List.set_cons_succ,i64_w,i32_w]
                               rfl
                              refine pure_ (i:=13) (N:=some 168) (v:=?_) (a':=?_) #[true,false,true,true,true,true,true,true,true,true,false,false,true,true,false,false,false,false,false,false,false,false,false,false,false,false,false,false,false,false,false,false,false,false,false] rfl rfl (En HT_.out (by kernel_rfl)) (fun _ _ _ h=>h) (Or.inl ⟨by rfl,?_⟩) ?_ ?_
                              rotate_left
                              ·intro w'
                               go_simp
                               with_reducible rfl
                              rotate_left
                              ·simp only [Act.put,List.setIfInBounds_toArray,List.set_cons_zero,List.set_cons_succ,i64_w,i32_w]
                               rfl
                              refine pure_ (i:=14) (N:=some 169) (v:=?_) (a':=?_) #[true,false,true,true,true,true,true,true,true,true,false,false,true,true,true,false,false,false,false,false,false,false,false,false,false,false,false,false,false,false,false,false,false,false,false] rfl rfl (En HT_.out (by kernel_rfl)) (fun _ _ _ h=>h) (Or.inl ⟨by rfl,?_⟩) ?_ ?_
                              rotate_left
                              ·intro w'
                               go_simp
                               with_reducible rfl
                              rotate_left
                              ·simp only [Act.put,List.setIfInBounds_toArray,List.set_cons_zero,List.set_cons_succ,i64_w,i32_w]
                               rfl
                              refine pure_ (i:=15) (N:=some 170) (v:=?_) (a':=?_) #[true,false,true,true,true,true,true,true,true,true,false,false,true,true,true,true,false,false,false,false,false,false,false,false,false,false,false,false,false,false,false,false,false,false,false] rfl rfl (En HT_.out (by kernel_rfl)) (fun _ _ _ h=>h) (Or.inl ⟨by rfl,?_⟩) ?_ ?_
                              rotate_left
                              ·intro w'
                               go_simp
                               with_reducible rfl
                              rotate_left
                              ·simp only [Act.put,List.setIfInBounds_toArray,List.set_cons_zero,List.set_cons_succ,i64_w,i32_w]
                               rfl
                              refine pure_ (i:=17) (N:=some 172) (v:=?_) (a':=?_) #[true,false,true,true,true,true,true,true,true,true,false,false,true,true,true,true,false,true,false,false,false,false,false,false,false,false,false,false,false,false,false,false,false,false,false] rfl rfl (En HT_.out (by kernel_rfl)) (fun _ _ _ h=>h) (Or.inl ⟨by rfl,?_⟩) ?_ ?_
                              rotate_left
                              ·intro w'
                               go_simp
                               with_reducible rfl
                              rotate_left
                              ·simp only [Act.put,List.setIfInBounds_toArray,List.set_cons_zero,List.set_cons_succ,i64_w,i32_w]
                               rfl
                              refine pure_ (i:=18) (N:=some 173) (v:=?_) (a':=?_) #[true,false,true,true,true,true,true,true,true,true,false,false,true,true,true,true,false,true,true,false,false,false,false,false,false,false,false,false,false,false,false,false,false,false,false] rfl rfl (En HT_.out (by kernel_rfl)) (fun _ _ _ h=>h) (Or.inl ⟨by rfl,?_⟩) ?_ ?_
                              rotate_left
                              ·intro w'
                               go_simp
                               with_reducible rfl
                              rotate_left
                              ·simp only [Act.put,List.setIfInBounds_toArray,List.set_cons_zero,List.set_cons_succ,i64_w,i32_w]
                               rfl
                              refine pure_ (i:=20) (N:=some 175) (v:=?_) (a':=?_) #[true,false,true,true,true,true,true,true,true,true,false,false,true,true,true,true,false,true,true,false,true,false,false,false,false,false,false,false,false,false,false,false,false,false,false] rfl rfl (En HT_.out (by kernel_rfl)) (fun _ _ _ h=>h) (Or.inl ⟨by rfl,?_⟩) ?_ ?_
                              rotate_left
                              ·intro w'
                               go_simp
                               with_reducible rfl
                              rotate_left
                              ·simp only [Act.put,List.setIfInBounds_toArray,List.set_cons_zero,List.set_cons_succ,i64_w,i32_w]
                               rfl
                              refine pure_ (i:=21) (N:=some 176) (v:=?_) (a':=?_) #[true,false,true,true,true,true,true,true,true,true,false,false,true,true,true,true,false,true,true,false,true,true,false,false,false,false,false,false,false,false,false,false,false,false,false] rfl rfl (En HT_.out (by kernel_rfl)) (fun _ _ _ h=>h) (Or.inl ⟨by rfl,?_⟩) ?_ ?_
                              rotate_left
                              ·intro w'
                               go_simp
                               with_reducible rfl
                              rotate_left
                              ·simp only [Act.put,List.setIfInBounds_toArray,List.set_cons_zero,List.set_cons_succ,i64_w,i32_w]
                               rfl
                              refine pure_ (i:=22) (N:=some 177) (v:=?_) (a':=?_) #[true,false,true,true,true,true,true,true,true,true,false,false,true,true,true,true,false,true,true,false,true,true,true,false,false,false,false,false,false,false,false,false,false,false,false] rfl rfl (En HT_.out (by kernel_rfl)) (fun _ _ _ h=>h) (Or.inl ⟨by rfl,?_⟩) ?_ ?_
                              rotate_left
                              ·intro w'
                               go_simp
                               with_reducible rfl
                              rotate_left
                              ·simp only [Act.put,List.setIfInBounds_toArray,List.set_cons_zero,List.set_cons_succ,i64_w,i32_w]
                               rfl
                              refine pure_ (i:=24) (N:=some 179) (v:=?_) (a':=?_) #[true,false,true,true,true,true,true,true,true,true,false,false,true,true,true,true,false,true,true,false,true,true,true,false,true,false,false,false,false,false,false,false,false,false,false] rfl rfl (En HT_.out (by kernel_rfl)) (fun _ _ _ h=>h) (Or.inl ⟨by rfl,?_⟩) ?_ ?_
                              rotate_left
                              ·intro w'
                               go_simp
                               with_reducible rfl
                              rotate_left
                              ·simp only [Act.put,List.setIfInBounds_toArray,List.set_cons_zero,List.set_cons_succ,i64_w,i32_w]
                               rfl
                              refine pure_ (i:=25) (N:=some 180) (v:=?_) (a':=?_) #[true,false,true,true,true,true,true,true,true,true,false,false,true,true,true,true,false,true,true,false,true,true,true,false,true,true,false,false,false,false,false,false,false,false,false] rfl rfl (En HT_.out (by kernel_rfl)) (fun _ _ _ h=>h) (Or.inl ⟨by rfl,?_⟩) ?_ ?_
                              rotate_left
                              ·intro w'
                               go_simp
                               with_reducible rfl
                              rotate_left
                              ·simp only [Act.put,List.setIfInBounds_toArray,List.set_cons_zero,List.set_cons_succ,i64_w,i32_w]
                               rfl
                              refine pure_ (i:=26) (N:=some 181) (v:=?_) (a':=?_) #[true,false,true,true,true,true,true,true,true,true,false,false,true,true,true,true,false,true,true,false,true,true,true,false,true,true,true,false,false,false,false,false,false,false,false] rfl rfl (En HT_.out (by kernel_rfl)) (fun _ _ _ h=>h) (Or.inl ⟨by rfl,?_⟩) ?_ ?_
                              rotate_left
                              ·intro w'
                               go_simp
                               with_reducible rfl
                              rotate_left
                              ·simp only [Act.put,List.setIfInBounds_toArray,List.set_cons_zero,List.set_cons_succ,i64_w,i32_w]
                               rfl
                              refine pure_ (i:=27) (N:=some 182) (v:=?_) (a':=?_) #[true,false,true,true,true,true,true,true,true,true,false,false,true,true,true,true,false,true,true,false,true,true,true,false,true,true,true,true,false,false,false,false,false,false,false] rfl rfl (En HT_.out (by kernel_rfl)) (fun _ _ _ h=>h) (Or.inl ⟨by rfl,?_⟩) ?_ ?_
                              rotate_left
                              ·intro w'
                               go_simp
                               with_reducible rfl
                              rotate_left
                              ·simp only [Act.put,List.setIfInBounds_toArray,List.set_cons_zero,List.set_cons_succ,i64_w,i32_w]
                               rfl
                              refine take_ (i:=1) (N:=some 156) (v:=?_) (a':=?_) #[true,true,true,true,true,true,true,true,true,true,false,false,true,true,true,true,false,true,true,false,true,true,true,false,true,true,true,true,false,false,false,false,false,false,false] rfl rfl (take_ofW HT_.out HW_.out (by kernel_rfl)) (fun _ _ _ h=>h) (Or.inl ⟨by rfl,?_⟩) ya ?_ ?_
                              rotate_left
                              ·rintro w' ⟨s0,s1,s2,s3,s4,s5,s6,s7⟩
                               go_simp
                               with_reducible rfl
                              rotate_left
                              ·simp only [Act.put,List.setIfInBounds_toArray,List.set_cons_zero,List.set_cons_succ,i64_w,i32_w]
                               rfl
                              refine take_ (i:=10) (N:=some 165) (v:=?_) (a':=?_) #[true,true,true,true,true,true,true,true,true,true,true,false,true,true,true,true,false,true,true,false,true,true,true,false,true,true,true,true,false,false,false,false,false,false,false] rfl rfl (take_ofW HT_.out HW_.out (by kernel_rfl)) (fun _ _ _ h=>h) (Or.inl ⟨by rfl,?_⟩) ya ?_ ?_
                              rotate_left
                              ·rintro w' ⟨s0,s1,s2,s3,s4,s5,s6,s7⟩
                               go_simp
                               with_reducible rfl
                              rotate_left
                              ·simp only [Act.put,List.setIfInBounds_toArray,List.set_cons_zero,List.set_cons_succ,i64_w,i32_w]
                               rfl
                              refine pure_ (i:=11) (N:=some 166) (v:=?_) (a':=?_) #[true,true,true,true,true,true,true,true,true,true,true,true,true,true,true,true,false,true,true,false,true,true,true,false,true,true,true,true,false,false,false,false,false,false,false] rfl rfl (En HT_.out (by kernel_rfl)) (fun _ _ _ h=>h) (Or.inl ⟨by rfl,?_⟩) ?_ ?_
                              rotate_left
                              ·intro w'
                               go_simp
                               with_reducible rfl
                              rotate_left
                              ·simp only [Act.put,List.setIfInBounds_toArray,List.set_cons_zero,List.set_cons_succ,i64_w,i32_w]
                               rfl
                              refine pure_ (i:=16) (N:=some 171) (v:=?_) (a':=?_) #[true,true,true,true,true,true,true,true,true,true,true,true,true,true,true,true,true,true,true,false,true,true,true,false,true,true,true,true,false,false,false,false,false,false,false] rfl rfl (En HT_.out (by kernel_rfl)) (fun _ _ _ h=>h) (Or.inl ⟨by rfl,?_⟩) ?_ ?_
                              rotate_left
                              ·intro w'
                               go_simp
                               with_reducible rfl
                              rotate_left
                              ·simp only [Act.put,List.setIfInBounds_toArray,List.set_cons_zero,List.set_cons_succ,i64_w,i32_w]
                               rfl
                              refine pure_ (i:=19) (N:=some 174) (v:=?_) (a':=?_) #[true,true,true,true,true,true,true,true,true,true,true,true,true,true,true,true,true,true,true,true,true,true,true,false,true,true,true,true,false,false,false,false,false,false,false] rfl rfl (En HT_.out (by kernel_rfl)) (fun _ _ _ h=>h) (Or.inl ⟨by rfl,?_⟩) ?_ ?_
                              rotate_left
                              ·intro w'
                               go_simp
                               with_reducible rfl
                              rotate_left
                              ·simp only [Act.put,List.setIfInBounds_toArray,List.set_cons_zero,List.set_cons_succ,i64_w,i32_w]
                               rfl
                              refine take_ (i:=23) (N:=some 178) (v:=?_) (a':=?_) #[true,true,true,true,true,true,true,true,true,true,true,true,true,true,true,true,true,true,true,true,true,true,true,true,true,true,true,true,false,false,false,false,false,false,false] rfl rfl (take_ofW HT_.out HW_.out (by kernel_rfl)) (fun _ _ _ h=>h) (Or.inl ⟨by rfl,?_⟩) ya ?_ ?_
                              rotate_left
                              ·rintro w' ⟨s0,s1,s2,s3,s4,s5,s6,s7⟩
                               go_simp
                               with_reducible rfl
                              rotate_left
                              ·simp only [Act.put,List.setIfInBounds_toArray,List.set_cons_zero,List.set_cons_succ,i64_w,i32_w]
                               rfl
                              refine take_ (i:=28) (N:=some 183) (v:=?_) (a':=?_) #[true,true,true,true,true,true,true,true,true,true,true,true,true,true,true,true,true,true,true,true,true,true,true,true,true,true,true,true,true,false,false,false,false,false,false] rfl rfl (take_ofW HT_.out HW_.out (by kernel_rfl)) (fun _ _ _ h=>h) (Or.inl ⟨by rfl,?_⟩) ya ?_ ?_
                              rotate_left
                              ·rintro w' ⟨s0,s1,s2,s3,s4,s5,s6,s7⟩
                               go_simp
                               with_reducible rfl
                              rotate_left
                              ·simp only [Act.put,List.setIfInBounds_toArray,List.set_cons_zero,List.set_cons_succ,i64_w,i32_w]
                               rfl
                              refine pure_ (i:=29) (N:=some 184) (v:=?_) (a':=?_) #[true,true,true,true,true,true,true,true,true,true,true,true,true,true,true,true,true,true,true,true,true,true,true,true,true,true,true,true,true,true,false,false,false,false,false] rfl rfl (En HT_.out (by kernel_rfl)) (fun _ _ _ h=>h) (Or.inl ⟨by rfl,?_⟩) ?_ ?_
                              rotate_left
                              ·intro w'
                               go_simp
                               with_reducible rfl
                              rotate_left
                              ·simp only [Act.put,List.setIfInBounds_toArray,List.set_cons_zero,List.set_cons_succ,i64_w,i32_w]
                               rfl
                              refine pure_ (i:=30) (N:=some 185) (v:=?_) (a':=?_) #[true,true,true,true,true,true,true,true,true,true,true,true,true,true,true,true,true,true,true,true,true,true,true,true,true,true,true,true,true,true,true,false,false,false,false] rfl rfl (En HT_.out (by kernel_rfl)) (fun _ _ _ h=>h) (Or.inl ⟨by rfl,?_⟩) ?_ ?_
                              rotate_left
                              ·intro w'
                               go_simp
                               with_reducible rfl
                              rotate_left
                              ·simp only [Act.put,List.setIfInBounds_toArray,List.set_cons_zero,List.set_cons_succ,i64_w,i32_w]
                               rfl
                              refine one_ (i:=31) (N:=some 186) #[true,true,true,true,true,true,true,true,true,true,true,true,true,true,true,true,true,true,true,true,true,true,true,true,true,true,true,true,true,true,true,true,false,false,false] rfl rfl (one_of HT_.out (by kernel_rfl)) (by decide) (fun K hK=>?_)
                              refine goes_ Try.func74 (by kernel_rfl) rfl #[.int .i64 0,.int .i64 (wrap64 ((rd yu qs)+(wrap64 (a2*(rd yt qs)))))] (by rfl) rfl rfl (by(try simp only [List.map_toArray,List.map_cons,List.map_nil]);first|done|rfl|(simp only [List.length_drop,List.length_take];rfl)) ?_
                              with_reducible refine(spec_l1Max.calls 0 (wrap64 ((rd yu qs)+(wrap64 (a2*(rd yt qs))))) t183 _ A118.out).mono ?_
                              rintro e w' ⟨rfl,⟨nd,rfl⟩⟩
                              refine⟨_,rfl,?_⟩
                              refine hK.out _ _ ⟨(Eh qd.out 0).trans rfl,(Eh qd.out 1).trans rfl,(Eh qd.out 2).trans rfl,(Eh qa.out 0).trans rfl,(Eh qa.out 1).trans rfl,(Eh qa.out 2).trans rfl,ya.2.2.2.2.2.2.1,ya.2.2.2.2.2.2.2⟩ (fun ya=>?_)
                              clear hK K
                              refine norm_ (a':=?_) ?_ ?_
                              rotate_left
                              ·show Act.put _ (some 186) _=_
                               simp only [Act.put,List.setIfInBounds_toArray,List.set_cons_zero,List.set_cons_succ,i64_w,i32_w]
                               rfl
                              refine one_ (i:=32) (N:=some 187) #[true,true,true,true,true,true,true,true,true,true,true,true,true,true,true,true,true,true,true,true,true,true,true,true,true,true,true,true,true,true,true,true,true,false,false] rfl rfl (one_of HT_.out (by kernel_rfl)) (by decide) (fun K hK=>?_)
                              refine goes_ Try.func59 (by kernel_rfl) rfl #[.int .i64 255,.int .i64 t183] (by rfl) rfl rfl (by(try simp only [List.map_toArray,List.map_cons,List.map_nil]);first|done|rfl|(simp only [List.length_drop,List.length_take];rfl)) ?_
                              with_reducible refine(spec_l1Min.calls 255 t183 ve _ A119.out).mono ?_
                              rintro e w' ⟨rfl,⟨nd,rfl⟩⟩
                              refine⟨_,rfl,?_⟩
                              have p123:0≤((yr):Int):=of_decide_eq_true (by first|(with_reducible assumption)|assumption)
                              have q123:((yr):Int) < ((qy.length:Int):Int):=of_decide_eq_true (by first|(with_reducible assumption)|assumption)
                              obtain⟨go123,co123,eo123,gb123,gl123,cl123,HG123⟩:=Kd.R_form qb.out (by omega)
                              (first|cases eo123|(injection eo123 with ea_ en_ ec_;(first|subst ea_|(injection ea_ with ea_;subst ea_));subst ec_;clear en_))
                              have GB123:=Ea gb123
                              have GG123:=Ea HG123
                              clear gb123 gl123 HG123
                              obtain⟨hx123_0,hf123_0⟩:=Kd.R_celln 0 qb.out ((yr):Int) p123 q123
                              replace p123:=eq_true p123
                              replace q123:=eq_true q123
                              have HP127:=Kd.R_putn qb.out ((yr):Int) ve
                              rw [← Ny185.out] at HP127
                              have HQ127:=Ea HP127
                              clear HP127
                              refine hK.out _ _ ⟨(Eh qd.out 0).trans rfl,(Eh qd.out 1).trans rfl,(Eh qd.out 2).trans rfl,(Eh qa.out 0).trans rfl,(Eh qa.out 1).trans rfl,(Eh qa.out 2).trans rfl,ya.2.2.2.2.2.2.1,ya.2.2.2.2.2.2.2⟩ (fun ya=>?_)
                              clear hK K
                              refine norm_ (a':=?_) ?_ ?_
                              rotate_left
                              ·show Act.put _ (some 187) _=_
                               simp only [Act.put,List.setIfInBounds_toArray,List.set_cons_zero,List.set_cons_succ,i64_w,i32_w]
                               rfl
                              refine pure_ (i:=33) (N:=some 188) (v:=?_) (a':=?_) #[true,true,true,true,true,true,true,true,true,true,true,true,true,true,true,true,true,true,true,true,true,true,true,true,true,true,true,true,true,true,true,true,true,true,false] rfl rfl (En HT_.out (by kernel_rfl)) (fun _ _ _ h=>h) (Or.inl ⟨by rfl,?_⟩) ?_ ?_
                              rotate_left
                              ·intro w'
                               go_simp
                               with_reducible rfl
                              rotate_left
                              ·simp only [Act.put,List.setIfInBounds_toArray,List.set_cons_zero,List.set_cons_succ,i64_w,i32_w]
                               rfl
                              refine last_ (i:=34) (N:=none) #[true,true,true,true,true,true,true,true,true,true,true,true,true,true,true,true,true,true,true,true,true,true,true,true,true,true,true,true,true,true,true,true,true,true,true] rfl rfl (one_of HT_.out (by kernel_rfl)) (by decide) (fun K hK=>?_)
                              refine skip_ (w1:=?_) (by rfl) rfl ?_ ?_
                              rotate_left
                              ·go_simp
                               rfl
                              refine hK.out _ _ ?_
                              clear hK K
                              refine done_ (done_of HT_.out (by kernel_rfl)) ?_
                              try go_wp2
                              go_roundg k5
                              case measure=>have:=HJ3.out;have:=HK2.out;have:=zl.out;have:=HK4.out;have:=HK5.out;omega
                              case rel=>exact⟨(yt),(yu),(wrap64 (qs+1)),(y185),(.slice (some ⟨go123,0,none⟩) qy.length co123),(by first|rfl|(simp;done)|(simp [*];done)),H',⟨by have:=HJ3.out;have:=HK2.out;have:=zl.out;have:=HK4.out;have:=HK5.out;omega⟩,⟨by(with_reducible repeat(first|apply El|apply Em|apply Ef));exact Ep (Kd.R_far (p:=⟨go123,((yr):Int).toNat,none⟩) (Ep qe.out (fun k_ hk=>(⟨hk,fun e_=>hk.2 (by rw [e_];rfl)⟩:_∧k_≠go123))) (fun _ hk=>hk.2) (.int .i64 ve)) (fun _ hk=>⟨hk.1.1,hk.1.2⟩)⟩,⟨by(with_reducible repeat(first|apply El|apply Em|apply Ef));exact Ep (Kd.R_far (p:=⟨go123,((yr):Int).toNat,none⟩) (Ep zz.out (fun k_ hk=>(⟨hk,fun e_=>hk.2 (by rw [e_];rfl)⟩:_∧k_≠go123))) (fun _ hk=>hk.2) (.int .i64 ve)) (fun _ hk=>⟨hk.1.1,hk.1.2⟩)⟩,⟨by(with_reducible repeat(first|apply El|apply Em|apply Ef));exact HQ127.out⟩,⟨by(with_reducible repeat(first|refine Ed ?_ _|refine Eb ?_|refine Ec ?_ _));refine blk_far ?_ (by have h_:=Kd.R_ne qb.out qa.out (by decide);intro e_;exact h_ (by rw [e_];rfl)) _;(with_reducible repeat(first|refine Ed ?_ _|refine Eb ?_|refine Ec ?_ _));exact qa.out⟩,⟨by(with_reducible repeat(first|refine Ed ?_ _|refine Eb ?_|refine Ec ?_ _));refine blk_far ?_ (by have h_:=Kd.R_ne qb.out qc.out (by decide);intro e_;exact h_ (by rw [e_];rfl)) _;(with_reducible repeat(first|refine Ed ?_ _|refine Eb ?_|refine Ec ?_ _));exact qc.out⟩,⟨by(with_reducible repeat(first|refine Ed ?_ _|refine Eb ?_|refine Ec ?_ _));refine blk_far ?_ (by have h_:=Kd.R_ne qb.out qd.out (by decide);intro e_;exact h_ (by rw [e_];rfl)) _;(with_reducible repeat(first|refine Ed ?_ _|refine Eb ?_|refine Ec ?_ _));exact qd.out⟩,⟨by repeat(first|(with_reducible first|exact HB.out|apply Ej|apply Eg|apply Ei|refine Ee ?_ GB123.out|refine Ee ?_ qq.out|refine Ee ?_ qt.out|refine Ee ?_ qz.out)|exact HB.out)⟩⟩
                             ·rw [if_neg c122] at H
                              exact absurd H (by simp)
                            ·rw [if_neg c121] at H
                             exact absurd H (by simp)
                           ·rw [if_neg c117] at H
                            exact absurd H (by simp)
                          ·rw [if_neg c116] at H
                           exact absurd H (by simp)
                         ·rw [if_neg c115] at H
                          exact absurd H (by simp)
                       ·rw [if_neg c113] at H
                        have c113b0:decide (qs < 16)=false:=decide_eq_false c113
                        clear c113
                        have H':=Ea H
                        clear H
                        go_wp2
                        go_roundg k5
                        case measure=>have:=HJ3.out;have:=HK2.out;have:=zl.out;have:=HK4.out;have:=HK5.out;omega
                        case rel=>exact⟨(qu),(wrap64 (qn+1)),(qr),(qo),(qy),(qk),(by first|rfl|(simp;done)|(simp [*];done)),(by first|rfl|(simp;done)|(simp [*];done)),H',⟨by have:=HJ3.out;have:=HK2.out;have:=zl.out;have:=HK4.out;have:=HK5.out;omega⟩,⟨by(with_reducible repeat(first|apply El|apply Em|apply Ef));exact Ep qb.out (fun _ hk=>trivial)⟩,⟨by(with_reducible repeat(first|refine Ed ?_ _|refine Eb ?_|refine Ec ?_ _));exact qa.out⟩,⟨by(with_reducible repeat(first|refine Ed ?_ _|refine Eb ?_|refine Ec ?_ _));exact qc.out⟩,⟨by(with_reducible repeat(first|refine Ed ?_ _|refine Eb ?_|refine Ec ?_ _));exact qd.out⟩,⟨by repeat(first|(with_reducible first|exact HB.out|apply Ej|apply Eg|apply Ei|refine Ee ?_ qq.out|refine Ee ?_ qt.out|refine Ee ?_ qz.out)|exact HB.out)⟩⟩
                 ·rw [if_neg c60] at H
                  exact absurd H (by simp)
             ·rw [if_neg c48] at H
              exact absurd H (by simp)
            ·rw [if_neg c47] at H
             exact absurd H (by simp)
           ·rw [if_neg c45] at H
            exact absurd H (by simp)
          ·rw [if_neg c44] at H
           exact absurd H (by simp)
        ·rw [if_neg c36] at H
         have c36b0:decide (qn < vh)=false:=decide_eq_false c36
         clear c36
         by_cases c128:qj=(l1.length:Int)
         ·rw [if_pos c128] at H
          have c128b0:(qj == (l1.length:Int))=true:=beq_iff_eq.mpr c128
          have c128b1:(qj != (l1.length:Int))=false:=bne_eq_false_iff_eq.mpr c128
          clear c128
          simp only [Option.some.injEq,Prod.mk.injEq] at H
          obtain⟨rfl,rfl,rfl,rfl⟩:=H
          have hnb129:=yf.out
          have hnc129:=yg.out
          have hnb130:=qm.out
          have hnc130:=yd.out
          have hcz131_0:wr.cell? ⟨qf,0,none⟩=some (.int .i64 a0_0):=(Eh qa.out 0).trans rfl
          have hcz131_1:wr.cell? ⟨qf,1,none⟩=some (.int .i64 a0_1):=(Eh qa.out 1).trans rfl
          have hcz131_2:wr.cell? ⟨qf,2,none⟩=some (.slice A0_2 l0_2.length c0_2):=(Eh qa.out 2).trans rfl
          have hfz131_0:=Ek qa.out 0
          have hfz131_1:=Ek qa.out 1
          have hfz131_2:=Ek qa.out 2
          go_wp2_with (first|((with_reducible refine gate_callee (f:=67) rfl ?_);refine goesL_ (some 45) rfl rfl Try.func67 (by kernel_rfl) rfl #[.agg #[.int .i64 a0_0,.int .i64 a0_1,.slice A0_2 l0_2.length c0_2]] rfl (by(try simp only [List.map_toArray,List.map_cons,List.map_nil]);first|done|rfl|(simp only [List.length_drop,List.length_take];rfl)) ?_;(with_reducible refine(spec_l14Blocks.calls a0_0 a0_1 _ _ l0_2 vh _ ?side1 ?side2 A35.out).mono ?_);(case side1=>repeat(first|exact(Kd.C_below va.out HB.out)|(with_reducible refine Kd.C_alloc ?_ _)|(with_reducible refine Kd.C_drewN ?_ _)|(with_reducible refine Kd.C_drew ?_)));(case side2=>exact zy.out);rintro e w132 ⟨rfl,hb⟩;refine⟨_,rfl,?_⟩;have yh:=Ea (Kd.R_below (by(with_reducible repeat(first|apply El|apply Em|apply Ef));exact qb.out) hb);have yi:=Ea (Eo (g:=qf) (o:=.cells #[.int .i64 a0_0,.int .i64 a0_1,.slice A0_2 l0_2.length c0_2] 27 (0,0)) (by(with_reducible repeat(first|refine Ed ?_ _|refine Eb ?_|refine Ec ?_ _));exact qa.out) hb);have yj:=Ea (Eo (g:=qi) (o:=.cells #[.int .i64 qv,.int .i64 qp,.slice none 0 0] 27 (0,0)) (by(with_reducible repeat(first|refine Ed ?_ _|refine Eb ?_|refine Ec ?_ _));exact qc.out) hb);have yl:=Ea (Eo (g:=ql) (o:=.cells #[.int .i64 a0_0,.int .i64 a0_1,qk] 27 (0,0)) (by(with_reducible repeat(first|refine Ed ?_ _|refine Eb ?_|refine Ec ?_ _));exact qd.out) hb);have yp:=Ea (below_step (by repeat(first|(with_reducible first|exact HB.out|apply Ej|apply Eg|apply Ei|refine Ee ?_ qq.out|refine Ee ?_ qt.out|refine Ee ?_ qz.out)|exact HB.out)) hb);clear qb;clear qa;clear qc;clear qd;clear HB;have qb:=yh;have qa:=yi;have qc:=yj;have qd:=yl;have HB:=yp;clear yh yi yj yl yp;(try clear hb);(try clear hb2);(try clear hk);(try clear hi);have hnb133:=ye.out;have hnc133:=qx.out;have hcz134_0:w132.cell? ⟨ql,0,none⟩=some (.int .i64 a0_0):=(Eh qd.out 0).trans rfl;have hcz134_1:w132.cell? ⟨ql,1,none⟩=some (.int .i64 a0_1):=(Eh qd.out 1).trans rfl;have hcz134_2:w132.cell? ⟨ql,2,none⟩=some (qk):=(Eh qd.out 2).trans rfl;have hfz134_0:=Ek qd.out 0;have hfz134_1:=Ek qd.out 1;have hfz134_2:=Ek qd.out 2;have hcz135_0:w132.cell? ⟨qi,0,none⟩=some (.int .i64 qv):=(Eh qc.out 0).trans rfl;have hcz135_1:w132.cell? ⟨qi,1,none⟩=some (.int .i64 qp):=(Eh qc.out 1).trans rfl;have hcz135_2:w132.cell? ⟨qi,2,none⟩=some (.slice none 0 0):=(Eh qc.out 2).trans rfl;have hfz135_0:=Ek qc.out 0;have hfz135_1:=Ek qc.out 1;have hfz135_2:=Ek qc.out 2;obtain⟨Ao136,co136,eo136⟩:=Kd.R_slice qb.out;subst eo136))
          refine bodyPost_ret (results_ct rfl _ _ qi 27 #[.int .i64 a0_0,.int .i64 a0_1,.slice Ao136 qh.length co136] (0,0) _ rfl (by(with_reducible repeat(first|refine Ed ?_ _|refine Eb ?_|refine Ec ?_ _));refine blk_put (cs:=#[.int .i64 a0_0,.int .i64 a0_1,.slice none 0 0]) ?_ 2 _ rfl;(with_reducible repeat(first|refine Ed ?_ _|refine Eb ?_|refine Ec ?_ _));refine blk_put (cs:=#[.int .i64 a0_0,.int .i64 qp,.slice none 0 0]) ?_ 1 _ rfl;(with_reducible repeat(first|refine Ed ?_ _|refine Eb ?_|refine Ec ?_ _));refine blk_put (cs:=#[.int .i64 qv,.int .i64 qp,.slice none 0 0]) ?_ 0 _ rfl;(with_reducible repeat(first|refine Ed ?_ _|refine Eb ?_|refine Ec ?_ _));exact qc.out) Try.underlying27 rfl (by kernel_rfl)) rfl ?_
          exact⟨_,by first|rfl|(simp [errW_none,errW_some] <;> rfl)|(simp only [← zc];first|rfl|(simp [errW_none,errW_some] <;> rfl))|(simp [*,errW_none,errW_some] <;> rfl),by(with_reducible repeat(first|apply El|apply Em|apply Ef));exact Ep (Kd.R_far (p:=⟨qi,2,none⟩) (Kd.R_far (p:=⟨qi,1,none⟩) (Kd.R_far (p:=⟨qi,0,none⟩) (Kd.R_types qb.out qc.out (by decide)) (fun _ hk=>hk.2) (.int .i64 a0_0)) (fun _ hk=>hk.2) (.int .i64 a0_1)) (fun _ hk=>hk.2) (.slice Ao136 qh.length co136)) (fun _ hk=>trivial),by repeat(first|(with_reducible first|exact HB.out|apply Ej|apply Eg|apply Ei|refine Ee ?_ qq.out|refine Ee ?_ qt.out|refine Ee ?_ qz.out)|exact HB.out)⟩
         ·rw [if_neg c128] at H
          have c128b0:(qj == (l1.length:Int))=false:=beq_eq_false_iff_ne.mpr c128
          have c128b1:(qj != (l1.length:Int))=true:=bne_iff_ne.mpr c128
          simp only [Option.some.injEq,Prod.mk.injEq] at H
          obtain⟨rfl,rfl,rfl,rfl⟩:=H
          have hnb137:=yf.out
          have hnc137:=yg.out
          have hnb138:=qm.out
          have hnc138:=yd.out
          have hcz139_0:wr.cell? ⟨qf,0,none⟩=some (.int .i64 a0_0):=(Eh qa.out 0).trans rfl
          have hcz139_1:wr.cell? ⟨qf,1,none⟩=some (.int .i64 a0_1):=(Eh qa.out 1).trans rfl
          have hcz139_2:wr.cell? ⟨qf,2,none⟩=some (.slice A0_2 l0_2.length c0_2):=(Eh qa.out 2).trans rfl
          have hfz139_0:=Ek qa.out 0
          have hfz139_1:=Ek qa.out 1
          have hfz139_2:=Ek qa.out 2
          go_wp2_with (first|((with_reducible refine gate_callee (f:=67) rfl ?_);refine goesL_ (some 45) rfl rfl Try.func67 (by kernel_rfl) rfl #[.agg #[.int .i64 a0_0,.int .i64 a0_1,.slice A0_2 l0_2.length c0_2]] rfl (by(try simp only [List.map_toArray,List.map_cons,List.map_nil]);first|done|rfl|(simp only [List.length_drop,List.length_take];rfl)) ?_;(with_reducible refine(spec_l14Blocks.calls a0_0 a0_1 _ _ l0_2 vh _ ?side1 ?side2 A35.out).mono ?_);(case side1=>repeat(first|exact(Kd.C_below va.out HB.out)|(with_reducible refine Kd.C_alloc ?_ _)|(with_reducible refine Kd.C_drewN ?_ _)|(with_reducible refine Kd.C_drew ?_)));(case side2=>exact zy.out);rintro e w140 ⟨rfl,hb⟩;refine⟨_,rfl,?_⟩;have yh:=Ea (Kd.R_below (by(with_reducible repeat(first|apply El|apply Em|apply Ef));exact qb.out) hb);have yi:=Ea (Eo (g:=qf) (o:=.cells #[.int .i64 a0_0,.int .i64 a0_1,.slice A0_2 l0_2.length c0_2] 27 (0,0)) (by(with_reducible repeat(first|refine Ed ?_ _|refine Eb ?_|refine Ec ?_ _));exact qa.out) hb);have yj:=Ea (Eo (g:=qi) (o:=.cells #[.int .i64 qv,.int .i64 qp,.slice none 0 0] 27 (0,0)) (by(with_reducible repeat(first|refine Ed ?_ _|refine Eb ?_|refine Ec ?_ _));exact qc.out) hb);have yl:=Ea (Eo (g:=ql) (o:=.cells #[.int .i64 a0_0,.int .i64 a0_1,qk] 27 (0,0)) (by(with_reducible repeat(first|refine Ed ?_ _|refine Eb ?_|refine Ec ?_ _));exact qd.out) hb);have yp:=Ea (below_step (by repeat(first|(with_reducible first|exact HB.out|apply Ej|apply Eg|apply Ei|refine Ee ?_ qq.out|refine Ee ?_ qt.out|refine Ee ?_ qz.out)|exact HB.out)) hb);clear qb;clear qa;clear qc;clear qd;clear HB;have qb:=yh;have qa:=yi;have qc:=yj;have qd:=yl;have HB:=yp;clear yh yi yj yl yp;(try clear hb);(try clear hb2);(try clear hk);(try clear hi);have hnb141:=qx.out;have hnc141:=ye.out;have hcz142_0:w140.cell? ⟨qi,0,none⟩=some (.int .i64 qv):=(Eh qc.out 0).trans rfl;have hcz142_1:w140.cell? ⟨qi,1,none⟩=some (.int .i64 qp):=(Eh qc.out 1).trans rfl;have hcz142_2:w140.cell? ⟨qi,2,none⟩=some (.slice none 0 0):=(Eh qc.out 2).trans rfl;have hfz142_0:=Ek qc.out 0;have hfz142_1:=Ek qc.out 1;have hfz142_2:=Ek qc.out 2))
          refine bodyPost_ret (results_ct rfl _ _ qi 27 #[.int .i64 0,.int .i64 0,.slice none 0 0] (0,0) _ rfl (by(with_reducible repeat(first|refine Ed ?_ _|refine Eb ?_|refine Ec ?_ _));refine blk_put (cs:=#[.int .i64 0,.int .i64 0,.slice none 0 0]) ?_ 2 _ rfl;(with_reducible repeat(first|refine Ed ?_ _|refine Eb ?_|refine Ec ?_ _));refine blk_put (cs:=#[.int .i64 0,.int .i64 qp,.slice none 0 0]) ?_ 1 _ rfl;(with_reducible repeat(first|refine Ed ?_ _|refine Eb ?_|refine Ec ?_ _));refine blk_put (cs:=#[.int .i64 qv,.int .i64 qp,.slice none 0 0]) ?_ 0 _ rfl;(with_reducible repeat(first|refine Ed ?_ _|refine Eb ?_|refine Ec ?_ _));exact qc.out) Try.underlying27 rfl (by kernel_rfl)) rfl ?_
          exact⟨_,by first|rfl|(simp [errW_none,errW_some] <;> rfl)|(simp only [← zc];first|rfl|(simp [errW_none,errW_some] <;> rfl))|(simp [*,errW_none,errW_some] <;> rfl),by first|exact Kd.R_nil _ _ _ _ _|exact Kd.N_nil _ _ _ _ _|exact Kd.V_nil _ _ _ _ _|exact Kd.Q_nil _ _ _ _ _|exact Kd.S_nil _ _ _ _ _,by repeat(first|(with_reducible first|exact HB.out|apply Ej|apply Eg|apply Ei|refine Ee ?_ qq.out|refine Ee ?_ qt.out|refine Ee ?_ qz.out)|exact HB.out)⟩
     ·rw [if_neg c21] at H
      exact absurd H (by simp)
    ·rw [if_neg c20] at H
     exact absurd H (by simp)

end Go.Proofs.Ytbdnpfjjaokdbaa.HFnDecoded
